/- The plain laws of the laws' own helpers: sizes, copies, comparisons, marks. Conditions: those that each states. -/
import Derived.Test.YtidfchlgdmnopaaDoorQMeterTextx1
import Derived.Test.YtidfchlgdmnopaaDoorQMeterTextx2
import Derived.Test.YtidfchlgdmnopaaDoorQMeterTextxO
import Derived.Test.YtidfchlgdmnopaaDoorQEv
namespace Go.Proofs.YtidfchlgdmnopaaDoor.QMeterText
open Go.RowKit Go.Proofs.YtidfchlgdmnopaaDoorW.PrintWords Go.Proofs.YtidfchlgdmnopaaDoor.QOpen Go.Proofs.YtidfchlgdmnopaaDoor.QEv
set_option linter.unusedVariables false
set_option linter.unusedSimpArgs false
def sm55 (x : S55) : Prop := smS x.f0 ∧ smT x.f1 ∧ smT x.f2
theorem laws_szMeter_ev (x : S55) (left : Int) (hx : wf55 x) (h0 : 0 ≤ left) (h1 : left ≤ 1048576) : ∃ t, Ev (fun k => laws_szMeter.f (x.f0) (x.f1) (x.f2) left) t ∧ -1 ≤ t ∧ t ≤ left ∧ (0 ≤ t → sm55 x) := by
  obtain ⟨hx0, hx1, hx2⟩ := hx
  simp only [laws_szMeter.f]
  have hs0 : x.f0.size ≤ 9223372036854775807 := hx0
  have w0 : wrap64 (left - (x.f0.size : Int)) = left - (x.f0.size : Int) := wid (by omega) (by omega)
  simp only [w0]
  by_cases c0 : left - (x.f0.size : Int) < 0
  · exact ⟨-1, Ev.pos c0 (Ev.now _), by omega, by omega, fun h => absurd h (by omega)⟩
  exact ⟨(left - (x.f0.size : Int)), Ev.neg c0 (Ev.now _), by omega, by omega, fun h => ⟨(show x.f0.size ≤ 1048576 by omega), trivial, trivial⟩⟩
def cv55 (x : S55) : S58 := ⟨x.f0, x.f1, x.f2⟩
def sm58 (x : S58) : Prop := smS x.f0 ∧ smT x.f1 ∧ smT x.f2
theorem cv55_sm (x : S55) (h : sm55 x) : sm58 (cv55 x) := ⟨h.1, h.2.1, h.2.2⟩
theorem laws_toMeter_ev (x : S55) (hx : sm55 x) : Ev (fun k => laws_toMeter.f (x.f0) (x.f1) (x.f2)) ((cv55 x).f0, (cv55 x).f1, (cv55 x).f2) := by
  simp only [laws_toMeter.f]
  exact Ev.now _
end Go.Proofs.YtidfchlgdmnopaaDoor.QMeterText
