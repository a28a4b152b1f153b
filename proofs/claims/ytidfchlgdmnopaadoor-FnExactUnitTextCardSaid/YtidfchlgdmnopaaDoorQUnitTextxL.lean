/- The plain laws of the laws' own helpers: sizes, copies, comparisons, marks. Conditions: those that each states. -/
import Derived.Test.YtidfchlgdmnopaaDoorQUnitTextx1
import Derived.Test.YtidfchlgdmnopaaDoorQUnitTextx3
import Derived.Test.YtidfchlgdmnopaaDoorQUnitTextxO
import Derived.Test.YtidfchlgdmnopaaDoorQEv
namespace Go.Proofs.YtidfchlgdmnopaaDoor.QUnitText
open Go.RowKit Go.Proofs.YtidfchlgdmnopaaDoorW.PrintWords Go.Proofs.YtidfchlgdmnopaaDoor.QOpen Go.Proofs.YtidfchlgdmnopaaDoor.QEv
set_option linter.unusedVariables false
set_option linter.unusedSimpArgs false
def sm23 (x : S23) : Prop := smS x.f0 ∧ smT x.f1 ∧ smT x.f2 ∧ smT x.f3 ∧ smT x.f4 ∧ smT x.f5 ∧ smT x.f6
theorem laws_szUnit_ev (x : S23) (left : Int) (hx : wf23 x) (h0 : 0 ≤ left) (h1 : left ≤ 1048576) : ∃ t, Ev (fun k => laws_szUnit.f (x.f0) (x.f1) (x.f2) (x.f3) (x.f4) (x.f5) (x.f6) left) t ∧ -1 ≤ t ∧ t ≤ left ∧ (0 ≤ t → sm23 x) := by
  obtain ⟨hx0, hx1, hx2, hx3, hx4, hx5, hx6⟩ := hx
  simp only [laws_szUnit.f]
  have hs0 : x.f0.size ≤ 9223372036854775807 := hx0
  have w0 : wrap64 (left - (x.f0.size : Int)) = left - (x.f0.size : Int) := wid (by omega) (by omega)
  simp only [w0]
  by_cases c0 : left - (x.f0.size : Int) < 0
  · exact ⟨-1, Ev.pos c0 (Ev.now _), by omega, by omega, fun h => absurd h (by omega)⟩
  exact ⟨(left - (x.f0.size : Int)), Ev.neg c0 (Ev.now _), by omega, by omega, fun h => ⟨(show x.f0.size ≤ 1048576 by omega), trivial, trivial, trivial, trivial, trivial, trivial⟩⟩
def cv23 (x : S23) : S26 := ⟨x.f0, x.f1, x.f2, x.f3, x.f4, x.f5, x.f6⟩
def sm26 (x : S26) : Prop := smS x.f0 ∧ smT x.f1 ∧ smT x.f2 ∧ smT x.f3 ∧ smT x.f4 ∧ smT x.f5 ∧ smT x.f6
theorem cv23_sm (x : S23) (h : sm23 x) : sm26 (cv23 x) := ⟨h.1, h.2.1, h.2.2.1, h.2.2.2.1, h.2.2.2.2.1, h.2.2.2.2.2.1, h.2.2.2.2.2.2⟩
theorem laws_toUnit_ev (x : S23) (hx : sm23 x) : Ev (fun k => laws_toUnit.f (x.f0) (x.f1) (x.f2) (x.f3) (x.f4) (x.f5) (x.f6)) ((cv23 x).f0, (cv23 x).f1, (cv23 x).f2, (cv23 x).f3, (cv23 x).f4, (cv23 x).f5, (cv23 x).f6) := by
  simp only [laws_toUnit.f]
  exact Ev.now _
end Go.Proofs.YtidfchlgdmnopaaDoor.QUnitText
