/- The plain laws of the laws' own helpers: sizes, copies, comparisons, marks. Conditions: those that each states. -/
import Derived.Test.YtjccjmjnlblhaaaQAddReadingx1
import Derived.Test.YtjccjmjnlblhaaaQAddReadingx3
import Derived.Test.YtjccjmjnlblhaaaQAddReadingx6
import Derived.Test.YtjccjmjnlblhaaaQAddReadingx7
import Derived.Test.YtjccjmjnlblhaaaQAddReadingxO
import Derived.Test.YtjccjmjnlblhaaaQEv
namespace Go.Proofs.Ytjccjmjnlblhaaa.QAddReading
open Go.RowKit Go.Proofs.YtjccjmjnlblhaaaW.PrintWords Go.Proofs.Ytjccjmjnlblhaaa.QOpen Go.Proofs.Ytjccjmjnlblhaaa.QEv
set_option linter.unusedVariables false
set_option linter.unusedSimpArgs false
def sm24 (x : S24) : Prop := smT x.f0 ∧ smT x.f1
theorem laws_szReadingS_ev (l : List (S24)) (left : Int) (hw : (wfL wf24) l) (h0 : 0 ≤ left) (h1 : left ≤ 1048576) : ∃ t, Ev (fun k => laws_szReadingS.f l left) t ∧ -1 ≤ t ∧ t ≤ left ∧ (0 ≤ t → (smL sm24) l) := by
  have hl := hw.1
  have w0 : wrap64 (left - (l.length : Int)) = left - (l.length : Int) := wid (by omega) (by omega)
  simp only [laws_szReadingS.f, w0]
  by_cases c : left - (l.length : Int) < 0
  · exact ⟨-1, Ev.pos c (Ev.now _), by omega, by omega, fun h => absurd h (by omega)⟩
  · exact ⟨_, Ev.neg c (Ev.now _), by omega, by omega, fun _ => ⟨by omega, fun _ _ => (by first | trivial | (refine ⟨?_, ?_⟩ <;> trivial) | (repeat' (first | trivial | constructor)))⟩⟩
def cv24 (x : S24) : S30 := ⟨x.f0, x.f1⟩
def sm30 (x : S30) : Prop := smT x.f0 ∧ smT x.f1
theorem cv24_sm (x : S24) (h : sm24 x) : sm30 (cv24 x) := ⟨h.1, h.2⟩
theorem laws_toReading_ev (x : S24) (hx : sm24 x) : Ev (fun k => laws_toReading.f (x.f0) (x.f1)) ((cv24 x).f0, (cv24 x).f1) := by
  simp only [laws_toReading.f]
  exact Ev.now _
theorem laws_toReadingS_l0 (l : List (S24)) (hs : (smL sm24) l) : ∀ (d i : Nat) (acc : List (S30)), i + d = l.length → acc.length = l.length → (∀ j, j < i → acc.getD j z30 = (cv24 (l.getD j z24))) →
    Ev (fun k => laws_toReadingS.l0 k l acc (i : Int)) (l.map cv24) := by
  intro d
  induction d with
  | zero =>
    intro i acc hi ha hj
    refine Ev.succ ?_
    simp only [laws_toReadingS.l0]
    refine Ev.neg (by omega) (Ev.eqn (Ev.now _) ?_)
    refine ext_getD z30 (by simp [ha]) (fun j h => ?_)
    rw [hj j (by omega), getD_map cv24 l j z24 z30 (by omega)]
  | succ d ih =>
    intro i acc hi ha hj
    have hl := hs.1
    have hlt : i < l.length := by omega
    refine Ev.succ ?_
    simp only [laws_toReadingS.l0]
    refine Ev.pos (by omega) (Ev.pos (by omega) (Ev.bind (laws_toReading_ev (rd_T24 l (i : Int)) (smL_get hs _ hlt)) (Ev.pos (by omega) ?_)))
    rw [wnat i (by omega)]
    refine ih (i + 1) _ (by omega) (by simp [ha]) (fun j hj2 => ?_)
    refine (getD_set acc i j _ z30 (by omega)).trans ?_
    by_cases e : j = i
    · subst e; rw [if_pos rfl]; rfl
    · rw [if_neg e]; exact hj j (by omega)
theorem laws_toReadingS_ev (l : List (S24)) (hs : (smL sm24) l) : Ev (fun k => laws_toReadingS.f k l) (l.map cv24) := by
  have hl := hs.1
  simp only [laws_toReadingS.f]
  refine Ev.pos (by omega) (Ev.pos (by omega) ?_)
  exact laws_toReadingS_l0 l hs l.length 0 _ (by omega) (by simp) (fun j h => absurd h (by omega))
theorem laws_eqReading_refl (x : S30) : Ev (fun k => laws_eqReading.f (x.f0) (x.f1) (x.f0) (x.f1)) true := by
  simp only [laws_eqReading.f]
  refine Ev.pos (by first | rfl | trivial) ?_
  refine Ev.pos (by first | rfl | trivial) ?_
  exact Ev.now _
theorem laws_eqReadingS_l0 (l : List (S30)) (hl : l.length ≤ 9223372036854775807) : ∀ (d i : Nat), i + d = l.length → Ev (fun k => laws_eqReadingS.l0 k l l (i : Int)) true := by
  intro d
  induction d with
  | zero =>
    intro i hi
    refine Ev.succ ?_
    simp only [laws_eqReadingS.l0]
    exact Ev.neg (by omega) (Ev.now _)
  | succ d ih =>
    intro i hi
    refine Ev.succ ?_
    simp only [laws_eqReadingS.l0]
    refine Ev.pos (by omega) (Ev.pos (by omega) (Ev.pos (by omega) ?_))
    refine Ev.bind (laws_eqReading_refl (rd_T30 l (i : Int))) (Ev.pos (by first | rfl | trivial) ?_)
    rw [wnat i (by omega)]
    exact ih (i + 1) (by omega)
theorem laws_eqReadingS_refl (l : List (S30)) (hl : l.length ≤ 9223372036854775807) : Ev (fun k => laws_eqReadingS.f k l l) true := by
  simp only [laws_eqReadingS.f]
  exact Ev.pos (by first | rfl | trivial) (laws_eqReadingS_l0 l hl l.length 0 (by omega))
noncomputable def mk_st_30 (K : Int) : S30 := (⟨(K), (K + 1)⟩ : S30)
theorem laws_markReadingS_l0 (K : Int) (h0 : 0 ≤ K) : ∀ (d i : Nat) (acc : List (S30)), i + d = acc.length → K + 2 * (acc.length : Int) ≤ 4611686018427387904 → (∀ j, j < i → acc.getD j z30 = mk_st_30 (K + 2 * (j : Int))) →
    ∃ l', Ev (fun k => laws_markReadingS.l0 k acc (K + 2 * (i : Int)) (i : Int)) (K + 2 * (acc.length : Int), l') ∧ l'.length = acc.length ∧ ∀ j, j < acc.length → l'.getD j z30 = mk_st_30 (K + 2 * (j : Int)) := by
  intro d
  induction d with
  | zero =>
    intro i acc hi hb hj
    have hi2 : i = acc.length := by omega
    subst hi2
    refine ⟨acc, Ev.succ ?_, rfl, hj⟩
    simp only [laws_markReadingS.l0]
    exact Ev.neg (by omega) (Ev.now _)
  | succ d ih =>
    intro i acc hi hb hj
    have hlt : i < acc.length := by omega
    obtain ⟨X, hX⟩ : ∃ X : Int, K + 2 * (i : Int) = X := ⟨_, rfl⟩
    have w1 : wrap64 (X + 1) = X + 1 := wid (by omega) (by omega)
    have w2 : wrap64 (X + 1 + 1) = X + 1 + 1 := wid (by omega) (by omega)
    have hrs : ∀ v, rd_T30 (acc.set (i : Int).toNat v) (i : Int) = v := fun v => (getD_set acc i i v z30 hlt).trans (if_pos rfl)
    have hacc : ∀ j, j < i + 1 → (acc.set i (mk_st_30 X)).getD j z30 = mk_st_30 (K + 2 * (j : Int)) := by
      intro j hj2
      rw [getD_set acc i j _ z30 hlt]
      by_cases e : j = i
      · subst e; rw [if_pos rfl, hX]
      · rw [if_neg e]; exact hj j (by omega)
    obtain ⟨l', hl', hln, hlj⟩ := ih (i + 1) (acc.set i (mk_st_30 X)) (by simp; omega) (by simpa using hb) hacc
    simp only [List.length_set] at hl' hln hlj
    refine ⟨l', Ev.succ ?_, hln, hlj⟩
    rw [hX]
    have hX2 : K + 2 * ((i + 1 : Nat) : Int) = X + 1 + 1 := by omega
    rw [hX2] at hl'
    simp only [laws_markReadingS.l0, w1, w2, wnat i (by omega)]
    repeat first | ((with_reducible refine Ev.pos ?_ ?_); omega) | ((with_reducible refine Ev.bind (mtx_ev _ ?_) ?_); omega) | (with_reducible refine Ev.sb ?_)
    (try simp only [List.set_set, hrs])
    exact hl'
theorem laws_markReadingS_ev (l : List (S30)) (K : Int) (h0 : 0 ≤ K) (hb : K + 2 * (l.length : Int) ≤ 4611686018427387904) : ∃ l', Ev (fun k => laws_markReadingS.f k l K) (K + 2 * (l.length : Int), l') ∧ l'.length = l.length ∧ ∀ j, j < l.length → l'.getD j z30 = mk_st_30 (K + 2 * (j : Int)) := by
  have h := laws_markReadingS_l0 K h0 l.length 0 l (by omega) hb (fun j h => absurd h (by omega))
  simpa only [laws_markReadingS.f, Int.natCast_zero, Int.mul_zero, Int.add_zero] using h
theorem laws_heldReadingS_l0 (K : Int) (h0 : 0 ≤ K) (l : List (S30)) (hb : K + 2 * (l.length : Int) ≤ 4611686018427387904) (hj : ∀ j, j < l.length → l.getD j z30 = mk_st_30 (K + 2 * (j : Int))) : ∀ (d i : Nat), i + d = l.length →
    Ev (fun k => laws_heldReadingS.l0 k l (K + 2 * (i : Int)) (i : Int)) (K + 2 * (l.length : Int)) := by
  intro d
  induction d with
  | zero =>
    intro i hi
    have hi2 : i = l.length := by omega
    subst hi2
    refine Ev.succ ?_
    simp only [laws_heldReadingS.l0]
    exact Ev.neg (by omega) (Ev.now _)
  | succ d ih =>
    intro i hi
    have hlt : i < l.length := by omega
    have hg : rd_T30 l (i : Int) = mk_st_30 (K + 2 * (i : Int)) := hj i hlt
    obtain ⟨X, hX⟩ : ∃ X : Int, K + 2 * (i : Int) = X := ⟨_, rfl⟩
    rw [hX] at hg
    have w1 : wrap64 (X + 1) = X + 1 := wid (by omega) (by omega)
    have w2 : wrap64 (X + 1 + 1) = X + 1 + 1 := wid (by omega) (by omega)
    have hr := ih (i + 1) (by omega)
    have hX2 : K + 2 * ((i + 1 : Nat) : Int) = X + 1 + 1 := by omega
    rw [hX2] at hr
    rw [hX]
    refine Ev.succ ?_
    simp only [laws_heldReadingS.l0, w1, w2, wnat i (by omega), hg, mk_st_30]
    repeat first | (with_reducible exact hr) | ((with_reducible refine Ev.pos ?_ ?_); first | omega | trivial | with_reducible rfl) | ((with_reducible refine Ev.neg ?_ ?_); focus (simp; done)) | ((with_reducible refine Ev.bind (mtx_ev _ ?_) ?_); omega) | (with_reducible refine Ev.sb ?_)
theorem laws_heldReadingS_ev (K : Int) (h0 : 0 ≤ K) (l : List (S30)) (hb : K + 2 * (l.length : Int) ≤ 4611686018427387904) (hj : ∀ j, j < l.length → l.getD j z30 = mk_st_30 (K + 2 * (j : Int))) : Ev (fun k => laws_heldReadingS.f k l K) (K + 2 * (l.length : Int)) := by
  have h := laws_heldReadingS_l0 K h0 l hb hj l.length 0 (by omega)
  simpa only [laws_heldReadingS.f, Int.natCast_zero, Int.mul_zero, Int.add_zero] using h
end Go.Proofs.Ytjccjmjnlblhaaa.QAddReading
