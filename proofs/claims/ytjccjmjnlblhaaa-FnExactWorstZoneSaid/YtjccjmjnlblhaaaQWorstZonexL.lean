/- The plain laws of the laws' own helpers: sizes, copies, comparisons, marks. Conditions: those that each states. -/
import Derived.Test.YtjccjmjnlblhaaaQWorstZonex1
import Derived.Test.YtjccjmjnlblhaaaQWorstZonex3
import Derived.Test.YtjccjmjnlblhaaaQWorstZonex5
import Derived.Test.YtjccjmjnlblhaaaQWorstZonex6
import Derived.Test.YtjccjmjnlblhaaaQWorstZonexO
import Derived.Test.YtjccjmjnlblhaaaQEv
namespace Go.Proofs.Ytjccjmjnlblhaaa.QWorstZone
open Go.RowKit Go.Proofs.YtjccjmjnlblhaaaW.PrintWords Go.Proofs.Ytjccjmjnlblhaaa.QOpen Go.Proofs.Ytjccjmjnlblhaaa.QEv
set_option linter.unusedVariables false
set_option linter.unusedSimpArgs false
def sm167 (x : S167) : Prop := smS x.f0 ∧ smT x.f1 ∧ smT x.f2
theorem laws_szMeter_ev (x : S167) (left : Int) (hx : wf167 x) (h0 : 0 ≤ left) (h1 : left ≤ 1048576) : ∃ t, Ev (fun k => laws_szMeter.f (x.f0) (x.f1) (x.f2) left) t ∧ -1 ≤ t ∧ t ≤ left ∧ (0 ≤ t → sm167 x) := by
  obtain ⟨hx0, hx1, hx2⟩ := hx
  simp only [laws_szMeter.f]
  have hs0 : x.f0.size ≤ 9223372036854775807 := hx0
  have w0 : wrap64 (left - (x.f0.size : Int)) = left - (x.f0.size : Int) := wid (by omega) (by omega)
  simp only [w0]
  by_cases c0 : left - (x.f0.size : Int) < 0
  · exact ⟨-1, Ev.pos c0 (Ev.now _), by omega, by omega, fun h => absurd h (by omega)⟩
  exact ⟨(left - (x.f0.size : Int)), Ev.neg c0 (Ev.now _), by omega, by omega, fun h => ⟨(show x.f0.size ≤ 1048576 by omega), trivial, trivial⟩⟩
theorem laws_szMeterS_l0 (l : List (S167)) (hw : (wfL wf167) l) : ∀ (d i : Nat) (left : Int), i + d = l.length → 0 ≤ left → left ≤ 1048576 →
    ∃ t, Ev (fun k => laws_szMeterS.l0 k l left (i : Int)) t ∧ -1 ≤ t ∧ t ≤ left ∧ (0 ≤ t → ∀ j, i ≤ j → j < l.length → sm167 (l.getD j z167)) := by
  intro d
  induction d with
  | zero =>
    intro i left hi h0 h1
    refine ⟨left, ?_, by omega, by omega, fun _ j hj hj2 => by omega⟩
    refine Ev.succ ?_
    simp only [laws_szMeterS.l0]
    exact Ev.neg (by omega) (Ev.now _)
  | succ d ih =>
    intro i left hi h0 h1
    have hlt : i < l.length := by omega
    have hl := hw.1
    obtain ⟨t, ht, ht0, ht1, ht2⟩ := laws_szMeter_ev (rd_T167 l (i : Int)) left (wfL_get hw _ hlt) h0 h1
    by_cases hn : t < 0
    · refine ⟨-1, ?_, by omega, by omega, fun h => absurd h (by omega)⟩
      refine Ev.succ ?_
      simp only [laws_szMeterS.l0]
      refine Ev.pos (by omega) (Ev.pos (by omega) (Ev.bind ht ?_))
      exact Ev.pos hn (Ev.now _)
    · obtain ⟨u, hu, hu0, hu1, hu2⟩ := ih (i + 1) t (by omega) (by omega) (by omega)
      refine ⟨u, ?_, hu0, by omega, fun h j hj hj2 => ?_⟩
      · refine Ev.succ ?_
        simp only [laws_szMeterS.l0]
        refine Ev.pos (by omega) (Ev.pos (by omega) (Ev.bind ht ?_))
        refine Ev.neg hn ?_
        rw [wnat i (by omega)]
        exact hu
      · by_cases e : j = i
        · subst e; exact ht2 (by omega)
        · exact hu2 h j (by omega) hj2
theorem laws_szMeterS_ev (l : List (S167)) (left : Int) (hw : (wfL wf167) l) (h0 : 0 ≤ left) (h1 : left ≤ 1048576) : ∃ t, Ev (fun k => laws_szMeterS.f k l left) t ∧ -1 ≤ t ∧ t ≤ left ∧ (0 ≤ t → (smL sm167) l) := by
  have hl := hw.1
  have w0 : wrap64 (left - (l.length : Int)) = left - (l.length : Int) := wid (by omega) (by omega)
  simp only [laws_szMeterS.f, w0]
  by_cases c : left - (l.length : Int) < 0
  · exact ⟨-1, Ev.pos c (Ev.now _), by omega, by omega, fun h => absurd h (by omega)⟩
  · obtain ⟨u, hu, hu0, hu1, hu2⟩ := laws_szMeterS_l0 l hw l.length 0 (left - (l.length : Int)) (by omega) (by omega) (by omega)
    exact ⟨u, Ev.neg c hu, hu0, by omega, fun h => smL_of z167 (by omega) (fun j hj => hu2 h j (by omega) hj)⟩
def cv167 (x : S167) : S170 := ⟨x.f0, x.f1, x.f2⟩
def sm170 (x : S170) : Prop := smS x.f0 ∧ smT x.f1 ∧ smT x.f2
theorem cv167_sm (x : S167) (h : sm167 x) : sm170 (cv167 x) := ⟨h.1, h.2.1, h.2.2⟩
theorem laws_toMeter_ev (x : S167) (hx : sm167 x) : Ev (fun k => laws_toMeter.f (x.f0) (x.f1) (x.f2)) ((cv167 x).f0, (cv167 x).f1, (cv167 x).f2) := by
  simp only [laws_toMeter.f]
  exact Ev.now _
theorem laws_toMeterS_l0 (l : List (S167)) (hs : (smL sm167) l) : ∀ (d i : Nat) (acc : List (S170)), i + d = l.length → acc.length = l.length → (∀ j, j < i → acc.getD j z170 = (cv167 (l.getD j z167))) →
    Ev (fun k => laws_toMeterS.l0 k l acc (i : Int)) (l.map cv167) := by
  intro d
  induction d with
  | zero =>
    intro i acc hi ha hj
    refine Ev.succ ?_
    simp only [laws_toMeterS.l0]
    refine Ev.neg (by omega) (Ev.eqn (Ev.now _) ?_)
    refine ext_getD z170 (by simp [ha]) (fun j h => ?_)
    rw [hj j (by omega), getD_map cv167 l j z167 z170 (by omega)]
  | succ d ih =>
    intro i acc hi ha hj
    have hl := hs.1
    have hlt : i < l.length := by omega
    refine Ev.succ ?_
    simp only [laws_toMeterS.l0]
    refine Ev.pos (by omega) (Ev.pos (by omega) (Ev.bind (laws_toMeter_ev (rd_T167 l (i : Int)) (smL_get hs _ hlt)) (Ev.pos (by omega) ?_)))
    rw [wnat i (by omega)]
    refine ih (i + 1) _ (by omega) (by simp [ha]) (fun j hj2 => ?_)
    refine (getD_set acc i j _ z170 (by omega)).trans ?_
    by_cases e : j = i
    · subst e; rw [if_pos rfl]; rfl
    · rw [if_neg e]; exact hj j (by omega)
theorem laws_toMeterS_ev (l : List (S167)) (hs : (smL sm167) l) : Ev (fun k => laws_toMeterS.f k l) (l.map cv167) := by
  have hl := hs.1
  simp only [laws_toMeterS.f]
  refine Ev.pos (by omega) (Ev.pos (by omega) ?_)
  exact laws_toMeterS_l0 l hs l.length 0 _ (by omega) (by simp) (fun j h => absurd h (by omega))
theorem laws_eqMeter_refl (x : S170) : Ev (fun k => laws_eqMeter.f (x.f0) (x.f1) (x.f2) (x.f0) (x.f1) (x.f2)) true := by
  simp only [laws_eqMeter.f]
  refine Ev.pos (by first | rfl | trivial) ?_
  refine Ev.pos (by first | rfl | trivial) ?_
  refine Ev.pos (by first | rfl | trivial) ?_
  exact Ev.now _
theorem laws_eqMeterS_l0 (l : List (S170)) (hl : l.length ≤ 9223372036854775807) : ∀ (d i : Nat), i + d = l.length → Ev (fun k => laws_eqMeterS.l0 k l l (i : Int)) true := by
  intro d
  induction d with
  | zero =>
    intro i hi
    refine Ev.succ ?_
    simp only [laws_eqMeterS.l0]
    exact Ev.neg (by omega) (Ev.now _)
  | succ d ih =>
    intro i hi
    refine Ev.succ ?_
    simp only [laws_eqMeterS.l0]
    refine Ev.pos (by omega) (Ev.pos (by omega) (Ev.pos (by omega) ?_))
    refine Ev.bind (laws_eqMeter_refl (rd_T170 l (i : Int))) (Ev.pos (by first | rfl | trivial) ?_)
    rw [wnat i (by omega)]
    exact ih (i + 1) (by omega)
theorem laws_eqMeterS_refl (l : List (S170)) (hl : l.length ≤ 9223372036854775807) : Ev (fun k => laws_eqMeterS.f k l l) true := by
  simp only [laws_eqMeterS.f]
  exact Ev.pos (by first | rfl | trivial) (laws_eqMeterS_l0 l hl l.length 0 (by omega))
end Go.Proofs.Ytjccjmjnlblhaaa.QWorstZone
