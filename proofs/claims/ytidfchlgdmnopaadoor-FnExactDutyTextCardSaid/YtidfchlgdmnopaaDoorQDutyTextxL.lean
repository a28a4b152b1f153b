/- The plain laws of the laws' own helpers: sizes, copies, comparisons, marks. Conditions: those that each states. -/
import Derived.Test.YtidfchlgdmnopaaDoorQDutyTextx1
import Derived.Test.YtidfchlgdmnopaaDoorQDutyTextx2
import Derived.Test.YtidfchlgdmnopaaDoorQDutyTextxO
import Derived.Test.YtidfchlgdmnopaaDoorQEv
namespace Go.Proofs.YtidfchlgdmnopaaDoor.QDutyText
open Go.RowKit Go.Proofs.YtidfchlgdmnopaaDoorW.PrintWords Go.Proofs.YtidfchlgdmnopaaDoor.QOpen Go.Proofs.YtidfchlgdmnopaaDoor.QEv
set_option linter.unusedVariables false
set_option linter.unusedSimpArgs false
def sm83 (x : S83) : Prop := smS x.f0 ∧ smT x.f1 ∧ smT x.f2 ∧ smT x.f3
theorem laws_szDuty_ev (x : S83) (left : Int) (hx : wf83 x) (h0 : 0 ≤ left) (h1 : left ≤ 1048576) : ∃ t, Ev (fun k => laws_szDuty.f (x.f0) (x.f1) (x.f2) (x.f3) left) t ∧ -1 ≤ t ∧ t ≤ left ∧ (0 ≤ t → sm83 x) := by
  obtain ⟨hx0, hx1, hx2, hx3⟩ := hx
  simp only [laws_szDuty.f]
  have hs0 : x.f0.size ≤ 9223372036854775807 := hx0
  have w0 : wrap64 (left - (x.f0.size : Int)) = left - (x.f0.size : Int) := wid (by omega) (by omega)
  simp only [w0]
  by_cases c0 : left - (x.f0.size : Int) < 0
  · exact ⟨-1, Ev.pos c0 (Ev.now _), by omega, by omega, fun h => absurd h (by omega)⟩
  exact ⟨(left - (x.f0.size : Int)), Ev.neg c0 (Ev.now _), by omega, by omega, fun h => ⟨(show x.f0.size ≤ 1048576 by omega), trivial, trivial, trivial⟩⟩
def cv83 (x : S83) : S86 := ⟨x.f0, x.f1, x.f2, x.f3⟩
def sm86 (x : S86) : Prop := smS x.f0 ∧ smT x.f1 ∧ smT x.f2 ∧ smT x.f3
theorem cv83_sm (x : S83) (h : sm83 x) : sm86 (cv83 x) := ⟨h.1, h.2.1, h.2.2.1, h.2.2.2⟩
theorem laws_toDuty_ev (x : S83) (hx : sm83 x) : Ev (fun k => laws_toDuty.f (x.f0) (x.f1) (x.f2) (x.f3)) ((cv83 x).f0, (cv83 x).f1, (cv83 x).f2, (cv83 x).f3) := by
  simp only [laws_toDuty.f]
  exact Ev.now _
end Go.Proofs.YtidfchlgdmnopaaDoor.QDutyText
