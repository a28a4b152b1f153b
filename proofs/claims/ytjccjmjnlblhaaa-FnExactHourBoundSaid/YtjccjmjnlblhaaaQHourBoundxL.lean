/- The plain laws of the laws' own helpers: sizes, copies, comparisons, marks. Conditions: those that each states. -/
import Derived.Test.YtjccjmjnlblhaaaQHourBoundx1
import Derived.Test.YtjccjmjnlblhaaaQHourBoundxO
import Derived.Test.YtjccjmjnlblhaaaQEv
namespace Go.Proofs.Ytjccjmjnlblhaaa.QHourBound
open Go.RowKit Go.Proofs.YtjccjmjnlblhaaaW.PrintWords Go.Proofs.Ytjccjmjnlblhaaa.QOpen Go.Proofs.Ytjccjmjnlblhaaa.QEv
set_option linter.unusedVariables false
set_option linter.unusedSimpArgs false
def sm140 (x : S140) : Prop := smS x.f0 ∧ smT x.f1 ∧ smT x.f2 ∧ smT x.f3 ∧ smT x.f4 ∧ smT x.f5 ∧ smT x.f6
theorem laws_szUnit_ev (x : S140) (left : Int) (hx : wf140 x) (h0 : 0 ≤ left) (h1 : left ≤ 1048576) : ∃ t, Ev (fun k => laws_szUnit.f (x.f0) (x.f1) (x.f2) (x.f3) (x.f4) (x.f5) (x.f6) left) t ∧ -1 ≤ t ∧ t ≤ left ∧ (0 ≤ t → sm140 x) := by
  obtain ⟨hx0, hx1, hx2, hx3, hx4, hx5, hx6⟩ := hx
  simp only [laws_szUnit.f]
  have hs0 : x.f0.size ≤ 9223372036854775807 := hx0
  have w0 : wrap64 (left - (x.f0.size : Int)) = left - (x.f0.size : Int) := wid (by omega) (by omega)
  simp only [w0]
  by_cases c0 : left - (x.f0.size : Int) < 0
  · exact ⟨-1, Ev.pos c0 (Ev.now _), by omega, by omega, fun h => absurd h (by omega)⟩
  exact ⟨(left - (x.f0.size : Int)), Ev.neg c0 (Ev.now _), by omega, by omega, fun h => ⟨(show x.f0.size ≤ 1048576 by omega), trivial, trivial, trivial, trivial, trivial, trivial⟩⟩
theorem laws_szUnitS_l0 (l : List (S140)) (hw : (wfL wf140) l) : ∀ (d i : Nat) (left : Int), i + d = l.length → 0 ≤ left → left ≤ 1048576 →
    ∃ t, Ev (fun k => laws_szUnitS.l0 k l left (i : Int)) t ∧ -1 ≤ t ∧ t ≤ left ∧ (0 ≤ t → ∀ j, i ≤ j → j < l.length → sm140 (l.getD j z140)) := by
  intro d
  induction d with
  | zero =>
    intro i left hi h0 h1
    refine ⟨left, ?_, by omega, by omega, fun _ j hj hj2 => by omega⟩
    refine Ev.succ ?_
    simp only [laws_szUnitS.l0]
    exact Ev.neg (by omega) (Ev.now _)
  | succ d ih =>
    intro i left hi h0 h1
    have hlt : i < l.length := by omega
    have hl := hw.1
    obtain ⟨t, ht, ht0, ht1, ht2⟩ := laws_szUnit_ev (rd_T140 l (i : Int)) left (wfL_get hw _ hlt) h0 h1
    by_cases hn : t < 0
    · refine ⟨-1, ?_, by omega, by omega, fun h => absurd h (by omega)⟩
      refine Ev.succ ?_
      simp only [laws_szUnitS.l0]
      refine Ev.pos (by omega) (Ev.pos (by omega) (Ev.bind ht ?_))
      exact Ev.pos hn (Ev.now _)
    · obtain ⟨u, hu, hu0, hu1, hu2⟩ := ih (i + 1) t (by omega) (by omega) (by omega)
      refine ⟨u, ?_, hu0, by omega, fun h j hj hj2 => ?_⟩
      · refine Ev.succ ?_
        simp only [laws_szUnitS.l0]
        refine Ev.pos (by omega) (Ev.pos (by omega) (Ev.bind ht ?_))
        refine Ev.neg hn ?_
        rw [wnat i (by omega)]
        exact hu
      · by_cases e : j = i
        · subst e; exact ht2 (by omega)
        · exact hu2 h j (by omega) hj2
theorem laws_szUnitS_ev (l : List (S140)) (left : Int) (hw : (wfL wf140) l) (h0 : 0 ≤ left) (h1 : left ≤ 1048576) : ∃ t, Ev (fun k => laws_szUnitS.f k l left) t ∧ -1 ≤ t ∧ t ≤ left ∧ (0 ≤ t → (smL sm140) l) := by
  have hl := hw.1
  have w0 : wrap64 (left - (l.length : Int)) = left - (l.length : Int) := wid (by omega) (by omega)
  simp only [laws_szUnitS.f, w0]
  by_cases c : left - (l.length : Int) < 0
  · exact ⟨-1, Ev.pos c (Ev.now _), by omega, by omega, fun h => absurd h (by omega)⟩
  · obtain ⟨u, hu, hu0, hu1, hu2⟩ := laws_szUnitS_l0 l hw l.length 0 (left - (l.length : Int)) (by omega) (by omega) (by omega)
    exact ⟨u, Ev.neg c hu, hu0, by omega, fun h => smL_of z140 (by omega) (fun j hj => hu2 h j (by omega) hj)⟩
def cv140 (x : S140) : S143 := ⟨x.f0, x.f1, x.f2, x.f3, x.f4, x.f5, x.f6⟩
def sm143 (x : S143) : Prop := smS x.f0 ∧ smT x.f1 ∧ smT x.f2 ∧ smT x.f3 ∧ smT x.f4 ∧ smT x.f5 ∧ smT x.f6
theorem cv140_sm (x : S140) (h : sm140 x) : sm143 (cv140 x) := ⟨h.1, h.2.1, h.2.2.1, h.2.2.2.1, h.2.2.2.2.1, h.2.2.2.2.2.1, h.2.2.2.2.2.2⟩
theorem laws_toUnit_ev (x : S140) (hx : sm140 x) : Ev (fun k => laws_toUnit.f (x.f0) (x.f1) (x.f2) (x.f3) (x.f4) (x.f5) (x.f6)) ((cv140 x).f0, (cv140 x).f1, (cv140 x).f2, (cv140 x).f3, (cv140 x).f4, (cv140 x).f5, (cv140 x).f6) := by
  simp only [laws_toUnit.f]
  exact Ev.now _
theorem laws_toUnitS_l0 (l : List (S140)) (hs : (smL sm140) l) : ∀ (d i : Nat) (acc : List (S143)), i + d = l.length → acc.length = l.length → (∀ j, j < i → acc.getD j z143 = (cv140 (l.getD j z140))) →
    Ev (fun k => laws_toUnitS.l0 k l acc (i : Int)) (l.map cv140) := by
  intro d
  induction d with
  | zero =>
    intro i acc hi ha hj
    refine Ev.succ ?_
    simp only [laws_toUnitS.l0]
    refine Ev.neg (by omega) (Ev.eqn (Ev.now _) ?_)
    refine ext_getD z143 (by simp [ha]) (fun j h => ?_)
    rw [hj j (by omega), getD_map cv140 l j z140 z143 (by omega)]
  | succ d ih =>
    intro i acc hi ha hj
    have hl := hs.1
    have hlt : i < l.length := by omega
    refine Ev.succ ?_
    simp only [laws_toUnitS.l0]
    refine Ev.pos (by omega) (Ev.pos (by omega) (Ev.bind (laws_toUnit_ev (rd_T140 l (i : Int)) (smL_get hs _ hlt)) (Ev.pos (by omega) ?_)))
    rw [wnat i (by omega)]
    refine ih (i + 1) _ (by omega) (by simp [ha]) (fun j hj2 => ?_)
    refine (getD_set acc i j _ z143 (by omega)).trans ?_
    by_cases e : j = i
    · subst e; rw [if_pos rfl]; rfl
    · rw [if_neg e]; exact hj j (by omega)
theorem laws_toUnitS_ev (l : List (S140)) (hs : (smL sm140) l) : Ev (fun k => laws_toUnitS.f k l) (l.map cv140) := by
  have hl := hs.1
  simp only [laws_toUnitS.f]
  refine Ev.pos (by omega) (Ev.pos (by omega) ?_)
  exact laws_toUnitS_l0 l hs l.length 0 _ (by omega) (by simp) (fun j h => absurd h (by omega))
theorem laws_eqUnit_refl (x : S143) : Ev (fun k => laws_eqUnit.f (x.f0) (x.f1) (x.f2) (x.f3) (x.f4) (x.f5) (x.f6) (x.f0) (x.f1) (x.f2) (x.f3) (x.f4) (x.f5) (x.f6)) true := by
  simp only [laws_eqUnit.f]
  refine Ev.pos (by first | rfl | trivial) ?_
  refine Ev.pos (by first | rfl | trivial) ?_
  refine Ev.pos (by first | rfl | trivial) ?_
  refine Ev.pos (by first | rfl | trivial) ?_
  refine Ev.pos (by first | rfl | trivial) ?_
  refine Ev.pos (by first | rfl | trivial) ?_
  refine Ev.pos (by first | rfl | trivial) ?_
  exact Ev.now _
theorem laws_eqUnitS_l0 (l : List (S143)) (hl : l.length ≤ 9223372036854775807) : ∀ (d i : Nat), i + d = l.length → Ev (fun k => laws_eqUnitS.l0 k l l (i : Int)) true := by
  intro d
  induction d with
  | zero =>
    intro i hi
    refine Ev.succ ?_
    simp only [laws_eqUnitS.l0]
    exact Ev.neg (by omega) (Ev.now _)
  | succ d ih =>
    intro i hi
    refine Ev.succ ?_
    simp only [laws_eqUnitS.l0]
    refine Ev.pos (by omega) (Ev.pos (by omega) (Ev.pos (by omega) ?_))
    refine Ev.bind (laws_eqUnit_refl (rd_T143 l (i : Int))) (Ev.pos (by first | rfl | trivial) ?_)
    rw [wnat i (by omega)]
    exact ih (i + 1) (by omega)
theorem laws_eqUnitS_refl (l : List (S143)) (hl : l.length ≤ 9223372036854775807) : Ev (fun k => laws_eqUnitS.f k l l) true := by
  simp only [laws_eqUnitS.f]
  exact Ev.pos (by first | rfl | trivial) (laws_eqUnitS_l0 l hl l.length 0 (by omega))
end Go.Proofs.Ytjccjmjnlblhaaa.QHourBound
