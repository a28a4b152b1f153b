/- The plain laws of the laws' own helpers: sizes, copies, comparisons, marks. Conditions: those that each states. -/
import Derived.Test.YtidfchlgdmnopaaDoorQRepairTextx1
import Derived.Test.YtidfchlgdmnopaaDoorQRepairTextx2
import Derived.Test.YtidfchlgdmnopaaDoorQRepairTextxO
import Derived.Test.YtidfchlgdmnopaaDoorQEv
namespace Go.Proofs.YtidfchlgdmnopaaDoor.QRepairText
open Go.RowKit Go.Proofs.YtidfchlgdmnopaaDoorW.PrintWords Go.Proofs.YtidfchlgdmnopaaDoor.QOpen Go.Proofs.YtidfchlgdmnopaaDoor.QEv
set_option linter.unusedVariables false
set_option linter.unusedSimpArgs false
def sm76 (x : S76) : Prop := smS x.f0 ∧ smT x.f1 ∧ smT x.f2 ∧ smT x.f3
theorem laws_szRepair_ev (x : S76) (left : Int) (hx : wf76 x) (h0 : 0 ≤ left) (h1 : left ≤ 1048576) : ∃ t, Ev (fun k => laws_szRepair.f (x.f0) (x.f1) (x.f2) (x.f3) left) t ∧ -1 ≤ t ∧ t ≤ left ∧ (0 ≤ t → sm76 x) := by
  obtain ⟨hx0, hx1, hx2, hx3⟩ := hx
  simp only [laws_szRepair.f]
  have hs0 : x.f0.size ≤ 9223372036854775807 := hx0
  have w0 : wrap64 (left - (x.f0.size : Int)) = left - (x.f0.size : Int) := wid (by omega) (by omega)
  simp only [w0]
  by_cases c0 : left - (x.f0.size : Int) < 0
  · exact ⟨-1, Ev.pos c0 (Ev.now _), by omega, by omega, fun h => absurd h (by omega)⟩
  exact ⟨(left - (x.f0.size : Int)), Ev.neg c0 (Ev.now _), by omega, by omega, fun h => ⟨(show x.f0.size ≤ 1048576 by omega), trivial, trivial, trivial⟩⟩
def cv76 (x : S76) : S79 := ⟨x.f0, x.f1, x.f2, x.f3⟩
def sm79 (x : S79) : Prop := smS x.f0 ∧ smT x.f1 ∧ smT x.f2 ∧ smT x.f3
theorem cv76_sm (x : S76) (h : sm76 x) : sm79 (cv76 x) := ⟨h.1, h.2.1, h.2.2.1, h.2.2.2⟩
theorem laws_toRepair_ev (x : S76) (hx : sm76 x) : Ev (fun k => laws_toRepair.f (x.f0) (x.f1) (x.f2) (x.f3)) ((cv76 x).f0, (cv76 x).f1, (cv76 x).f2, (cv76 x).f3) := by
  simp only [laws_toRepair.f]
  exact Ev.now _
end Go.Proofs.YtidfchlgdmnopaaDoor.QRepairText
