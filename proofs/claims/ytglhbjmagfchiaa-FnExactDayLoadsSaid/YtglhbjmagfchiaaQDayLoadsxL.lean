/- The plain laws of the laws' own helpers: sizes, copies, comparisons, marks. Conditions: those that each states. -/
import Derived.Test.YtglhbjmagfchiaaQDayLoadsx1
import Derived.Test.YtglhbjmagfchiaaQDayLoadsx3
import Derived.Test.YtglhbjmagfchiaaQDayLoadsx5
import Derived.Test.YtglhbjmagfchiaaQDayLoadsxO
import Derived.Test.YtglhbjmagfchiaaQEv
namespace Go.Proofs.Ytglhbjmagfchiaa.QDayLoads
open Go.RowKit Go.Proofs.YtglhbjmagfchiaaW.PrintWords Go.Proofs.Ytglhbjmagfchiaa.QOpen Go.Proofs.Ytglhbjmagfchiaa.QEv
set_option linter.unusedVariables false
set_option linter.unusedSimpArgs false
theorem laws_toInt64S_l0 (l : List Int) (hs : (smL smT) l) : ∀ (d i : Nat) (acc : List Int), i + d = l.length → acc.length = l.length → (∀ j, j < i → acc.getD j 0 = (l.getD j 0)) →
    Ev (fun k => laws_toInt64S.l0 k l acc (i : Int)) l := by
  intro d
  induction d with
  | zero =>
    intro i acc hi ha hj
    refine Ev.succ ?_
    simp only [laws_toInt64S.l0]
    refine Ev.neg (by omega) (Ev.eqn (Ev.now _) ?_)
    refine ext_getD 0 (by simp [ha]) (fun j h => ?_)
    rw [hj j (by omega)]
  | succ d ih =>
    intro i acc hi ha hj
    have hl := hs.1
    have hlt : i < l.length := by omega
    refine Ev.succ ?_
    simp only [laws_toInt64S.l0]
    refine Ev.pos (by omega) (Ev.pos (by omega) (Ev.pos (by omega) ?_))
    rw [wnat i (by omega)]
    refine ih (i + 1) _ (by omega) (by simp [ha]) (fun j hj2 => ?_)
    refine (getD_set acc i j _ 0 (by omega)).trans ?_
    by_cases e : j = i
    · subst e; rw [if_pos rfl]; rfl
    · rw [if_neg e]; exact hj j (by omega)
theorem laws_toInt64S_ev (l : List Int) (hs : (smL smT) l) : Ev (fun k => laws_toInt64S.f k l) l := by
  have hl := hs.1
  simp only [laws_toInt64S.f]
  refine Ev.pos (by omega) (Ev.pos (by omega) ?_)
  exact laws_toInt64S_l0 l hs l.length 0 _ (by omega) (by simp) (fun j h => absurd h (by omega))
theorem laws_eqInt64S_l0 (l : List Int) (hl : l.length ≤ 9223372036854775807) : ∀ (d i : Nat), i + d = l.length → Ev (fun k => laws_eqInt64S.l0 k l l (i : Int)) true := by
  intro d
  induction d with
  | zero =>
    intro i hi
    refine Ev.succ ?_
    simp only [laws_eqInt64S.l0]
    exact Ev.neg (by omega) (Ev.now _)
  | succ d ih =>
    intro i hi
    refine Ev.succ ?_
    simp only [laws_eqInt64S.l0]
    refine Ev.pos (by omega) (Ev.pos (by omega) (Ev.pos (by omega) ?_))
    refine Ev.pos (by first | rfl | trivial) ?_
    rw [wnat i (by omega)]
    exact ih (i + 1) (by omega)
theorem laws_eqInt64S_refl (l : List Int) (hl : l.length ≤ 9223372036854775807) : Ev (fun k => laws_eqInt64S.f k l l) true := by
  simp only [laws_eqInt64S.f]
  exact Ev.pos (by first | rfl | trivial) (laws_eqInt64S_l0 l hl l.length 0 (by omega))
noncomputable def mk_i64 (K : Int) : Int := (K)
theorem laws_markInt64S_l0 (K : Int) (h0 : 0 ≤ K) : ∀ (d i : Nat) (acc : List Int), i + d = acc.length → K + 1 * (acc.length : Int) ≤ 4611686018427387904 → (∀ j, j < i → acc.getD j 0 = mk_i64 (K + 1 * (j : Int))) →
    ∃ l', Ev (fun k => laws_markInt64S.l0 k acc (K + 1 * (i : Int)) (i : Int)) (K + 1 * (acc.length : Int), l') ∧ l'.length = acc.length ∧ ∀ j, j < acc.length → l'.getD j 0 = mk_i64 (K + 1 * (j : Int)) := by
  intro d
  induction d with
  | zero =>
    intro i acc hi hb hj
    have hi2 : i = acc.length := by omega
    subst hi2
    refine ⟨acc, Ev.succ ?_, rfl, hj⟩
    simp only [laws_markInt64S.l0]
    exact Ev.neg (by omega) (Ev.now _)
  | succ d ih =>
    intro i acc hi hb hj
    have hlt : i < acc.length := by omega
    obtain ⟨X, hX⟩ : ∃ X : Int, K + 1 * (i : Int) = X := ⟨_, rfl⟩
    have w1 : wrap64 (X + 1) = X + 1 := wid (by omega) (by omega)
    have hacc : ∀ j, j < i + 1 → (acc.set i (mk_i64 X)).getD j 0 = mk_i64 (K + 1 * (j : Int)) := by
      intro j hj2
      rw [getD_set acc i j _ 0 hlt]
      by_cases e : j = i
      · subst e; rw [if_pos rfl, hX]
      · rw [if_neg e]; exact hj j (by omega)
    obtain ⟨l', hl', hln, hlj⟩ := ih (i + 1) (acc.set i (mk_i64 X)) (by simp; omega) (by simpa using hb) hacc
    simp only [List.length_set] at hl' hln hlj
    refine ⟨l', Ev.succ ?_, hln, hlj⟩
    rw [hX]
    have hX2 : K + 1 * ((i + 1 : Nat) : Int) = X + 1 := by omega
    rw [hX2] at hl'
    simp only [laws_markInt64S.l0, w1, wnat i (by omega)]
    repeat first | ((with_reducible refine Ev.pos ?_ ?_); omega) | ((with_reducible refine Ev.bind (mtx_ev _ ?_) ?_); omega) | (with_reducible refine Ev.sb ?_)
    (try simp only [List.set_set])
    exact hl'
theorem laws_markInt64S_ev (l : List Int) (K : Int) (h0 : 0 ≤ K) (hb : K + 1 * (l.length : Int) ≤ 4611686018427387904) : ∃ l', Ev (fun k => laws_markInt64S.f k l K) (K + 1 * (l.length : Int), l') ∧ l'.length = l.length ∧ ∀ j, j < l.length → l'.getD j 0 = mk_i64 (K + 1 * (j : Int)) := by
  have h := laws_markInt64S_l0 K h0 l.length 0 l (by omega) hb (fun j h => absurd h (by omega))
  simpa only [laws_markInt64S.f, Int.natCast_zero, Int.mul_zero, Int.add_zero] using h
theorem laws_heldInt64S_l0 (K : Int) (h0 : 0 ≤ K) (l : List Int) (hb : K + 1 * (l.length : Int) ≤ 4611686018427387904) (hj : ∀ j, j < l.length → l.getD j 0 = mk_i64 (K + 1 * (j : Int))) : ∀ (d i : Nat), i + d = l.length →
    Ev (fun k => laws_heldInt64S.l0 k l (K + 1 * (i : Int)) (i : Int)) (K + 1 * (l.length : Int)) := by
  intro d
  induction d with
  | zero =>
    intro i hi
    have hi2 : i = l.length := by omega
    subst hi2
    refine Ev.succ ?_
    simp only [laws_heldInt64S.l0]
    exact Ev.neg (by omega) (Ev.now _)
  | succ d ih =>
    intro i hi
    have hlt : i < l.length := by omega
    have hg : rd l (i : Int) = mk_i64 (K + 1 * (i : Int)) := hj i hlt
    obtain ⟨X, hX⟩ : ∃ X : Int, K + 1 * (i : Int) = X := ⟨_, rfl⟩
    rw [hX] at hg
    have w1 : wrap64 (X + 1) = X + 1 := wid (by omega) (by omega)
    have hr := ih (i + 1) (by omega)
    have hX2 : K + 1 * ((i + 1 : Nat) : Int) = X + 1 := by omega
    rw [hX2] at hr
    rw [hX]
    refine Ev.succ ?_
    simp only [laws_heldInt64S.l0, w1, wnat i (by omega), hg, mk_i64]
    repeat first | (with_reducible exact hr) | ((with_reducible refine Ev.pos ?_ ?_); first | omega | trivial | with_reducible rfl) | ((with_reducible refine Ev.neg ?_ ?_); focus (simp; done)) | ((with_reducible refine Ev.bind (mtx_ev _ ?_) ?_); omega) | (with_reducible refine Ev.sb ?_)
theorem laws_heldInt64S_ev (K : Int) (h0 : 0 ≤ K) (l : List Int) (hb : K + 1 * (l.length : Int) ≤ 4611686018427387904) (hj : ∀ j, j < l.length → l.getD j 0 = mk_i64 (K + 1 * (j : Int))) : Ev (fun k => laws_heldInt64S.f k l K) (K + 1 * (l.length : Int)) := by
  have h := laws_heldInt64S_l0 K h0 l hb hj l.length 0 (by omega)
  simpa only [laws_heldInt64S.f, Int.natCast_zero, Int.mul_zero, Int.add_zero] using h
theorem laws_szInt64S_ev (l : List Int) (left : Int) (hw : (wfL (wfI .i64)) l) (h0 : 0 ≤ left) (h1 : left ≤ 1048576) : ∃ t, Ev (fun k => laws_szInt64S.f l left) t ∧ -1 ≤ t ∧ t ≤ left ∧ (0 ≤ t → (smL smT) l) := by
  have hl := hw.1
  have w0 : wrap64 (left - (l.length : Int)) = left - (l.length : Int) := wid (by omega) (by omega)
  simp only [laws_szInt64S.f, w0]
  by_cases c : left - (l.length : Int) < 0
  · exact ⟨-1, Ev.pos c (Ev.now _), by omega, by omega, fun h => absurd h (by omega)⟩
  · exact ⟨_, Ev.neg c (Ev.now _), by omega, by omega, fun _ => ⟨by omega, fun _ _ => trivial⟩⟩
def sm73 (x : S73) : Prop := smS x.f0 ∧ smT x.f1 ∧ smT x.f2 ∧ smT x.f3 ∧ smT x.f4 ∧ (smL smT) x.f5
theorem laws_szBuilding_ev (x : S73) (left : Int) (hx : wf73 x) (h0 : 0 ≤ left) (h1 : left ≤ 1048576) : ∃ t, Ev (fun k => laws_szBuilding.f (x.f0) (x.f1) (x.f2) (x.f3) (x.f4) (x.f5) left) t ∧ -1 ≤ t ∧ t ≤ left ∧ (0 ≤ t → sm73 x) := by
  obtain ⟨hx0, hx1, hx2, hx3, hx4, hx5⟩ := hx
  simp only [laws_szBuilding.f]
  have hs0 : x.f0.size ≤ 9223372036854775807 := hx0
  have w0 : wrap64 (left - (x.f0.size : Int)) = left - (x.f0.size : Int) := wid (by omega) (by omega)
  simp only [w0]
  by_cases c0 : left - (x.f0.size : Int) < 0
  · exact ⟨-1, Ev.pos c0 (Ev.now _), by omega, by omega, fun h => absurd h (by omega)⟩
  obtain ⟨t5, e5, a5, b5, s5⟩ := laws_szInt64S_ev x.f5 (left - (x.f0.size : Int)) hx5 (by omega) (by omega)
  by_cases c5 : t5 < 0
  · exact ⟨-1, Ev.neg c0 (Ev.bind e5 (Ev.pos c5 (Ev.now _))), by omega, by omega, fun h => absurd h (by omega)⟩
  exact ⟨t5, Ev.neg c0 (Ev.bind e5 (Ev.neg c5 (Ev.now _))), by omega, by omega, fun h => ⟨(show x.f0.size ≤ 1048576 by omega), trivial, trivial, trivial, trivial, s5 (by omega)⟩⟩
def cv73 (x : S73) : S76 := ⟨x.f0, x.f1, x.f2, x.f3, x.f4, x.f5⟩
def sm76 (x : S76) : Prop := smS x.f0 ∧ smT x.f1 ∧ smT x.f2 ∧ smT x.f3 ∧ smT x.f4 ∧ (smL smT) x.f5
theorem cv73_sm (x : S73) (h : sm73 x) : sm76 (cv73 x) := ⟨h.1, h.2.1, h.2.2.1, h.2.2.2.1, h.2.2.2.2.1, h.2.2.2.2.2⟩
theorem laws_toBuilding_ev (x : S73) (hx : sm73 x) : Ev (fun k => laws_toBuilding.f k (x.f0) (x.f1) (x.f2) (x.f3) (x.f4) (x.f5)) ((cv73 x).f0, (cv73 x).f1, (cv73 x).f2, (cv73 x).f3, (cv73 x).f4, (cv73 x).f5) := by
  simp only [laws_toBuilding.f]
  exact Ev.bind (laws_toInt64S_ev x.f5 (hx.2.2.2.2.2)) (Ev.now _)
theorem laws_eqBuilding_refl (x : S76) (hx : sm76 x) : Ev (fun k => laws_eqBuilding.f k (x.f0) (x.f1) (x.f2) (x.f3) (x.f4) (x.f5) (x.f0) (x.f1) (x.f2) (x.f3) (x.f4) (x.f5)) true := by
  simp only [laws_eqBuilding.f]
  refine Ev.pos (by first | rfl | trivial) ?_
  refine Ev.pos (by first | rfl | trivial) ?_
  refine Ev.pos (by first | rfl | trivial) ?_
  refine Ev.pos (by first | rfl | trivial) ?_
  refine Ev.pos (by first | rfl | trivial) ?_
  refine Ev.bind (laws_eqInt64S_refl x.f5 (Nat.le_trans hx.2.2.2.2.2.1 (by omega))) (Ev.pos (by first | rfl | trivial) ?_)
  exact Ev.now _
end Go.Proofs.Ytglhbjmagfchiaa.QDayLoads
