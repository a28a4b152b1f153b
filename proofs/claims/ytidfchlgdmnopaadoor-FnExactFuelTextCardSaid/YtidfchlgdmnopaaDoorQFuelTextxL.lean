/- The plain laws of the laws' own helpers: sizes, copies, comparisons, marks. Conditions: those that each states. -/
import Derived.Test.YtidfchlgdmnopaaDoorQFuelTextx1
import Derived.Test.YtidfchlgdmnopaaDoorQFuelTextx2
import Derived.Test.YtidfchlgdmnopaaDoorQFuelTextxO
import Derived.Test.YtidfchlgdmnopaaDoorQEv
namespace Go.Proofs.YtidfchlgdmnopaaDoor.QFuelText
open Go.RowKit Go.Proofs.YtidfchlgdmnopaaDoorW.PrintWords Go.Proofs.YtidfchlgdmnopaaDoor.QOpen Go.Proofs.YtidfchlgdmnopaaDoor.QEv
set_option linter.unusedVariables false
set_option linter.unusedSimpArgs false
def sm69 (x : S69) : Prop := smS x.f0 ∧ smT x.f1 ∧ smT x.f2 ∧ smT x.f3
theorem laws_szFuel_ev (x : S69) (left : Int) (hx : wf69 x) (h0 : 0 ≤ left) (h1 : left ≤ 1048576) : ∃ t, Ev (fun k => laws_szFuel.f (x.f0) (x.f1) (x.f2) (x.f3) left) t ∧ -1 ≤ t ∧ t ≤ left ∧ (0 ≤ t → sm69 x) := by
  obtain ⟨hx0, hx1, hx2, hx3⟩ := hx
  simp only [laws_szFuel.f]
  have hs0 : x.f0.size ≤ 9223372036854775807 := hx0
  have w0 : wrap64 (left - (x.f0.size : Int)) = left - (x.f0.size : Int) := wid (by omega) (by omega)
  simp only [w0]
  by_cases c0 : left - (x.f0.size : Int) < 0
  · exact ⟨-1, Ev.pos c0 (Ev.now _), by omega, by omega, fun h => absurd h (by omega)⟩
  exact ⟨(left - (x.f0.size : Int)), Ev.neg c0 (Ev.now _), by omega, by omega, fun h => ⟨(show x.f0.size ≤ 1048576 by omega), trivial, trivial, trivial⟩⟩
def cv69 (x : S69) : S72 := ⟨x.f0, x.f1, x.f2, x.f3⟩
def sm72 (x : S72) : Prop := smS x.f0 ∧ smT x.f1 ∧ smT x.f2 ∧ smT x.f3
theorem cv69_sm (x : S69) (h : sm69 x) : sm72 (cv69 x) := ⟨h.1, h.2.1, h.2.2.1, h.2.2.2⟩
theorem laws_toFuel_ev (x : S69) (hx : sm69 x) : Ev (fun k => laws_toFuel.f (x.f0) (x.f1) (x.f2) (x.f3)) ((cv69 x).f0, (cv69 x).f1, (cv69 x).f2, (cv69 x).f3) := by
  simp only [laws_toFuel.f]
  exact Ev.now _
end Go.Proofs.YtidfchlgdmnopaaDoor.QFuelText
