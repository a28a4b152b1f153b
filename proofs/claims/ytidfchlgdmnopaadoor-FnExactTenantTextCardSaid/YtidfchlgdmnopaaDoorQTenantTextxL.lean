/- The plain laws of the laws' own helpers: sizes, copies, comparisons, marks. Conditions: those that each states. -/
import Derived.Test.YtidfchlgdmnopaaDoorQTenantTextx1
import Derived.Test.YtidfchlgdmnopaaDoorQTenantTextx2
import Derived.Test.YtidfchlgdmnopaaDoorQTenantTextxO
import Derived.Test.YtidfchlgdmnopaaDoorQEv
namespace Go.Proofs.YtidfchlgdmnopaaDoor.QTenantText
open Go.RowKit Go.Proofs.YtidfchlgdmnopaaDoorW.PrintWords Go.Proofs.YtidfchlgdmnopaaDoor.QOpen Go.Proofs.YtidfchlgdmnopaaDoor.QEv
set_option linter.unusedVariables false
set_option linter.unusedSimpArgs false
def sm62 (x : S62) : Prop := smS x.f0 ∧ smT x.f1 ∧ smT x.f2
theorem laws_szTenant_ev (x : S62) (left : Int) (hx : wf62 x) (h0 : 0 ≤ left) (h1 : left ≤ 1048576) : ∃ t, Ev (fun k => laws_szTenant.f (x.f0) (x.f1) (x.f2) left) t ∧ -1 ≤ t ∧ t ≤ left ∧ (0 ≤ t → sm62 x) := by
  obtain ⟨hx0, hx1, hx2⟩ := hx
  simp only [laws_szTenant.f]
  have hs0 : x.f0.size ≤ 9223372036854775807 := hx0
  have w0 : wrap64 (left - (x.f0.size : Int)) = left - (x.f0.size : Int) := wid (by omega) (by omega)
  simp only [w0]
  by_cases c0 : left - (x.f0.size : Int) < 0
  · exact ⟨-1, Ev.pos c0 (Ev.now _), by omega, by omega, fun h => absurd h (by omega)⟩
  exact ⟨(left - (x.f0.size : Int)), Ev.neg c0 (Ev.now _), by omega, by omega, fun h => ⟨(show x.f0.size ≤ 1048576 by omega), trivial, trivial⟩⟩
def cv62 (x : S62) : S65 := ⟨x.f0, x.f1, x.f2⟩
def sm65 (x : S65) : Prop := smS x.f0 ∧ smT x.f1 ∧ smT x.f2
theorem cv62_sm (x : S62) (h : sm62 x) : sm65 (cv62 x) := ⟨h.1, h.2.1, h.2.2⟩
theorem laws_toTenant_ev (x : S62) (hx : sm62 x) : Ev (fun k => laws_toTenant.f (x.f0) (x.f1) (x.f2)) ((cv62 x).f0, (cv62 x).f1, (cv62 x).f2) := by
  simp only [laws_toTenant.f]
  exact Ev.now _
end Go.Proofs.YtidfchlgdmnopaaDoor.QTenantText
