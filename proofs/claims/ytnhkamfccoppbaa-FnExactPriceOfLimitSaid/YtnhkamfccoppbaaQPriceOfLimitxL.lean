/- The plain laws of the laws' own helpers: sizes, copies, comparisons, marks. Conditions: those that each states. -/
import Derived.Test.YtnhkamfccoppbaaQPriceOfLimitx1
import Derived.Test.YtnhkamfccoppbaaQPriceOfLimitx4
import Derived.Test.YtnhkamfccoppbaaQPriceOfLimitx10
import Derived.Test.YtnhkamfccoppbaaQPriceOfLimitxO
import Derived.Test.YtnhkamfccoppbaaQEv
namespace Go.Proofs.Ytnhkamfccoppbaa.QPriceOfLimit
open Go.RowKit Go.Proofs.YtnhkamfccoppbaaW.PrintWords Go.Proofs.Ytnhkamfccoppbaa.QOpen Go.Proofs.Ytnhkamfccoppbaa.QEv
set_option linter.unusedVariables false
set_option linter.unusedSimpArgs false
def sm40 (x : S40) : Prop := smS x.f0 ∧ smT x.f1 ∧ smT x.f2 ∧ smT x.f3
theorem laws_szFuel_ev (x : S40) (left : Int) (hx : wf40 x) (h0 : 0 ≤ left) (h1 : left ≤ 1048576) : ∃ t, Ev (fun k => laws_szFuel.f (x.f0) (x.f1) (x.f2) (x.f3) left) t ∧ -1 ≤ t ∧ t ≤ left ∧ (0 ≤ t → sm40 x) := by
  obtain ⟨hx0, hx1, hx2, hx3⟩ := hx
  simp only [laws_szFuel.f]
  have hs0 : x.f0.size ≤ 9223372036854775807 := hx0
  have w0 : wrap64 (left - (x.f0.size : Int)) = left - (x.f0.size : Int) := wid (by omega) (by omega)
  simp only [w0]
  by_cases c0 : left - (x.f0.size : Int) < 0
  · exact ⟨-1, Ev.pos c0 (Ev.now _), by omega, by omega, fun h => absurd h (by omega)⟩
  exact ⟨(left - (x.f0.size : Int)), Ev.neg c0 (Ev.now _), by omega, by omega, fun h => ⟨(show x.f0.size ≤ 1048576 by omega), trivial, trivial, trivial⟩⟩
theorem laws_szFuelS_l0 (l : List (S40)) (hw : (wfL wf40) l) : ∀ (d i : Nat) (left : Int), i + d = l.length → 0 ≤ left → left ≤ 1048576 →
    ∃ t, Ev (fun k => laws_szFuelS.l0 k l left (i : Int)) t ∧ -1 ≤ t ∧ t ≤ left ∧ (0 ≤ t → ∀ j, i ≤ j → j < l.length → sm40 (l.getD j z40)) := by
  intro d
  induction d with
  | zero =>
    intro i left hi h0 h1
    refine ⟨left, ?_, by omega, by omega, fun _ j hj hj2 => by omega⟩
    refine Ev.succ ?_
    simp only [laws_szFuelS.l0]
    exact Ev.neg (by omega) (Ev.now _)
  | succ d ih =>
    intro i left hi h0 h1
    have hlt : i < l.length := by omega
    have hl := hw.1
    obtain ⟨t, ht, ht0, ht1, ht2⟩ := laws_szFuel_ev (rd_T40 l (i : Int)) left (wfL_get hw _ hlt) h0 h1
    by_cases hn : t < 0
    · refine ⟨-1, ?_, by omega, by omega, fun h => absurd h (by omega)⟩
      refine Ev.succ ?_
      simp only [laws_szFuelS.l0]
      refine Ev.pos (by omega) (Ev.pos (by omega) (Ev.bind ht ?_))
      exact Ev.pos hn (Ev.now _)
    · obtain ⟨u, hu, hu0, hu1, hu2⟩ := ih (i + 1) t (by omega) (by omega) (by omega)
      refine ⟨u, ?_, hu0, by omega, fun h j hj hj2 => ?_⟩
      · refine Ev.succ ?_
        simp only [laws_szFuelS.l0]
        refine Ev.pos (by omega) (Ev.pos (by omega) (Ev.bind ht ?_))
        refine Ev.neg hn ?_
        rw [wnat i (by omega)]
        exact hu
      · by_cases e : j = i
        · subst e; exact ht2 (by omega)
        · exact hu2 h j (by omega) hj2
theorem laws_szFuelS_ev (l : List (S40)) (left : Int) (hw : (wfL wf40) l) (h0 : 0 ≤ left) (h1 : left ≤ 1048576) : ∃ t, Ev (fun k => laws_szFuelS.f k l left) t ∧ -1 ≤ t ∧ t ≤ left ∧ (0 ≤ t → (smL sm40) l) := by
  have hl := hw.1
  have w0 : wrap64 (left - (l.length : Int)) = left - (l.length : Int) := wid (by omega) (by omega)
  simp only [laws_szFuelS.f, w0]
  by_cases c : left - (l.length : Int) < 0
  · exact ⟨-1, Ev.pos c (Ev.now _), by omega, by omega, fun h => absurd h (by omega)⟩
  · obtain ⟨u, hu, hu0, hu1, hu2⟩ := laws_szFuelS_l0 l hw l.length 0 (left - (l.length : Int)) (by omega) (by omega) (by omega)
    exact ⟨u, Ev.neg c hu, hu0, by omega, fun h => smL_of z40 (by omega) (fun j hj => hu2 h j (by omega) hj)⟩
def cv40 (x : S40) : S46 := ⟨x.f0, x.f1, x.f2, x.f3⟩
def sm46 (x : S46) : Prop := smS x.f0 ∧ smT x.f1 ∧ smT x.f2 ∧ smT x.f3
theorem cv40_sm (x : S40) (h : sm40 x) : sm46 (cv40 x) := ⟨h.1, h.2.1, h.2.2.1, h.2.2.2⟩
theorem laws_toFuel_ev (x : S40) (hx : sm40 x) : Ev (fun k => laws_toFuel.f (x.f0) (x.f1) (x.f2) (x.f3)) ((cv40 x).f0, (cv40 x).f1, (cv40 x).f2, (cv40 x).f3) := by
  simp only [laws_toFuel.f]
  exact Ev.now _
theorem laws_toFuelS_l0 (l : List (S40)) (hs : (smL sm40) l) : ∀ (d i : Nat) (acc : List (S46)), i + d = l.length → acc.length = l.length → (∀ j, j < i → acc.getD j z46 = (cv40 (l.getD j z40))) →
    Ev (fun k => laws_toFuelS.l0 k l acc (i : Int)) (l.map cv40) := by
  intro d
  induction d with
  | zero =>
    intro i acc hi ha hj
    refine Ev.succ ?_
    simp only [laws_toFuelS.l0]
    refine Ev.neg (by omega) (Ev.eqn (Ev.now _) ?_)
    refine ext_getD z46 (by simp [ha]) (fun j h => ?_)
    rw [hj j (by omega), getD_map cv40 l j z40 z46 (by omega)]
  | succ d ih =>
    intro i acc hi ha hj
    have hl := hs.1
    have hlt : i < l.length := by omega
    refine Ev.succ ?_
    simp only [laws_toFuelS.l0]
    refine Ev.pos (by omega) (Ev.pos (by omega) (Ev.bind (laws_toFuel_ev (rd_T40 l (i : Int)) (smL_get hs _ hlt)) (Ev.pos (by omega) ?_)))
    rw [wnat i (by omega)]
    refine ih (i + 1) _ (by omega) (by simp [ha]) (fun j hj2 => ?_)
    refine (getD_set acc i j _ z46 (by omega)).trans ?_
    by_cases e : j = i
    · subst e; rw [if_pos rfl]; rfl
    · rw [if_neg e]; exact hj j (by omega)
theorem laws_toFuelS_ev (l : List (S40)) (hs : (smL sm40) l) : Ev (fun k => laws_toFuelS.f k l) (l.map cv40) := by
  have hl := hs.1
  simp only [laws_toFuelS.f]
  refine Ev.pos (by omega) (Ev.pos (by omega) ?_)
  exact laws_toFuelS_l0 l hs l.length 0 _ (by omega) (by simp) (fun j h => absurd h (by omega))
theorem laws_eqFuel_refl (x : S46) : Ev (fun k => laws_eqFuel.f (x.f0) (x.f1) (x.f2) (x.f3) (x.f0) (x.f1) (x.f2) (x.f3)) true := by
  simp only [laws_eqFuel.f]
  refine Ev.pos (by first | rfl | trivial) ?_
  refine Ev.pos (by first | rfl | trivial) ?_
  refine Ev.pos (by first | rfl | trivial) ?_
  refine Ev.pos (by first | rfl | trivial) ?_
  exact Ev.now _
theorem laws_eqFuelS_l0 (l : List (S46)) (hl : l.length ≤ 9223372036854775807) : ∀ (d i : Nat), i + d = l.length → Ev (fun k => laws_eqFuelS.l0 k l l (i : Int)) true := by
  intro d
  induction d with
  | zero =>
    intro i hi
    refine Ev.succ ?_
    simp only [laws_eqFuelS.l0]
    exact Ev.neg (by omega) (Ev.now _)
  | succ d ih =>
    intro i hi
    refine Ev.succ ?_
    simp only [laws_eqFuelS.l0]
    refine Ev.pos (by omega) (Ev.pos (by omega) (Ev.pos (by omega) ?_))
    refine Ev.bind (laws_eqFuel_refl (rd_T46 l (i : Int))) (Ev.pos (by first | rfl | trivial) ?_)
    rw [wnat i (by omega)]
    exact ih (i + 1) (by omega)
theorem laws_eqFuelS_refl (l : List (S46)) (hl : l.length ≤ 9223372036854775807) : Ev (fun k => laws_eqFuelS.f k l l) true := by
  simp only [laws_eqFuelS.f]
  exact Ev.pos (by first | rfl | trivial) (laws_eqFuelS_l0 l hl l.length 0 (by omega))
end Go.Proofs.Ytnhkamfccoppbaa.QPriceOfLimit
