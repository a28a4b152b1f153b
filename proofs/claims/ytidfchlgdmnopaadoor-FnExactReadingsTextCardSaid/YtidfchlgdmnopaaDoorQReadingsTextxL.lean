/- The plain laws of the laws' own helpers: sizes, copies, comparisons, marks. Conditions: those that each states. -/
import Derived.Test.YtidfchlgdmnopaaDoorQReadingsTextx1
import Derived.Test.YtidfchlgdmnopaaDoorQReadingsTextx4
import Derived.Test.YtidfchlgdmnopaaDoorQReadingsTextx6
import Derived.Test.YtidfchlgdmnopaaDoorQReadingsTextxO
import Derived.Test.YtidfchlgdmnopaaDoorQEv
namespace Go.Proofs.YtidfchlgdmnopaaDoor.QReadingsText
open Go.RowKit Go.Proofs.YtidfchlgdmnopaaDoorW.PrintWords Go.Proofs.YtidfchlgdmnopaaDoor.QOpen Go.Proofs.YtidfchlgdmnopaaDoor.QEv
set_option linter.unusedVariables false
set_option linter.unusedSimpArgs false
def sm110 (x : S110) : Prop := smT x.f0 ∧ smT x.f1
theorem laws_szReadingS_ev (l : List (S110)) (left : Int) (hw : (wfL wf110) l) (h0 : 0 ≤ left) (h1 : left ≤ 1048576) : ∃ t, Ev (fun k => laws_szReadingS.f l left) t ∧ -1 ≤ t ∧ t ≤ left ∧ (0 ≤ t → (smL sm110) l) := by
  have hl := hw.1
  have w0 : wrap64 (left - (l.length : Int)) = left - (l.length : Int) := wid (by omega) (by omega)
  simp only [laws_szReadingS.f, w0]
  by_cases c : left - (l.length : Int) < 0
  · exact ⟨-1, Ev.pos c (Ev.now _), by omega, by omega, fun h => absurd h (by omega)⟩
  · exact ⟨_, Ev.neg c (Ev.now _), by omega, by omega, fun _ => ⟨by omega, fun _ _ => (by first | trivial | (refine ⟨?_, ?_⟩ <;> trivial) | (repeat' (first | trivial | constructor)))⟩⟩
def cv110 (x : S110) : S108 := ⟨x.f0, x.f1⟩
def sm108 (x : S108) : Prop := smT x.f0 ∧ smT x.f1
theorem cv110_sm (x : S110) (h : sm110 x) : sm108 (cv110 x) := ⟨h.1, h.2⟩
theorem laws_toReading_ev (x : S110) (hx : sm110 x) : Ev (fun k => laws_toReading.f (x.f0) (x.f1)) ((cv110 x).f0, (cv110 x).f1) := by
  simp only [laws_toReading.f]
  exact Ev.now _
theorem laws_toReadingS_l0 (l : List (S110)) (hs : (smL sm110) l) : ∀ (d i : Nat) (acc : List (S108)), i + d = l.length → acc.length = l.length → (∀ j, j < i → acc.getD j z108 = (cv110 (l.getD j z110))) →
    Ev (fun k => laws_toReadingS.l0 k l acc (i : Int)) (l.map cv110) := by
  intro d
  induction d with
  | zero =>
    intro i acc hi ha hj
    refine Ev.succ ?_
    simp only [laws_toReadingS.l0]
    refine Ev.neg (by omega) (Ev.eqn (Ev.now _) ?_)
    refine ext_getD z108 (by simp [ha]) (fun j h => ?_)
    rw [hj j (by omega), getD_map cv110 l j z110 z108 (by omega)]
  | succ d ih =>
    intro i acc hi ha hj
    have hl := hs.1
    have hlt : i < l.length := by omega
    refine Ev.succ ?_
    simp only [laws_toReadingS.l0]
    refine Ev.pos (by omega) (Ev.pos (by omega) (Ev.bind (laws_toReading_ev (rd_T110 l (i : Int)) (smL_get hs _ hlt)) (Ev.pos (by omega) ?_)))
    rw [wnat i (by omega)]
    refine ih (i + 1) _ (by omega) (by simp [ha]) (fun j hj2 => ?_)
    refine (getD_set acc i j _ z108 (by omega)).trans ?_
    by_cases e : j = i
    · subst e; rw [if_pos rfl]; rfl
    · rw [if_neg e]; exact hj j (by omega)
theorem laws_toReadingS_ev (l : List (S110)) (hs : (smL sm110) l) : Ev (fun k => laws_toReadingS.f k l) (l.map cv110) := by
  have hl := hs.1
  simp only [laws_toReadingS.f]
  refine Ev.pos (by omega) (Ev.pos (by omega) ?_)
  exact laws_toReadingS_l0 l hs l.length 0 _ (by omega) (by simp) (fun j h => absurd h (by omega))
theorem laws_eqReading_refl (x : S108) : Ev (fun k => laws_eqReading.f (x.f0) (x.f1) (x.f0) (x.f1)) true := by
  simp only [laws_eqReading.f]
  refine Ev.pos (by first | rfl | trivial) ?_
  refine Ev.pos (by first | rfl | trivial) ?_
  exact Ev.now _
theorem laws_eqReadingS_l0 (l : List (S108)) (hl : l.length ≤ 9223372036854775807) : ∀ (d i : Nat), i + d = l.length → Ev (fun k => laws_eqReadingS.l0 k l l (i : Int)) true := by
  intro d
  induction d with
  | zero =>
    intro i hi
    refine Ev.succ ?_
    simp only [laws_eqReadingS.l0]
    exact Ev.neg (by omega) (Ev.now _)
  | succ d ih =>
    intro i hi
    refine Ev.succ ?_
    simp only [laws_eqReadingS.l0]
    refine Ev.pos (by omega) (Ev.pos (by omega) (Ev.pos (by omega) ?_))
    refine Ev.bind (laws_eqReading_refl (rd_T108 l (i : Int))) (Ev.pos (by first | rfl | trivial) ?_)
    rw [wnat i (by omega)]
    exact ih (i + 1) (by omega)
theorem laws_eqReadingS_refl (l : List (S108)) (hl : l.length ≤ 9223372036854775807) : Ev (fun k => laws_eqReadingS.f k l l) true := by
  simp only [laws_eqReadingS.f]
  exact Ev.pos (by first | rfl | trivial) (laws_eqReadingS_l0 l hl l.length 0 (by omega))
end Go.Proofs.YtidfchlgdmnopaaDoor.QReadingsText
