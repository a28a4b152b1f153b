/- The structs of the group's laws: what is well formed, and that what reads as data is. Conditions: none. -/
import Derived.Test.YtidfchlgdmnopaaDoorQReadingsTextx0
import Derived.Test.YtidfchlgdmnopaaDoorQOpen
import Derived.KernelRfl
namespace Go.Proofs.YtidfchlgdmnopaaDoor.QReadingsText
open Go.RowKit Go.ChangeShapes Go.WideShapes Go.Deep Go.Proofs.YtidfchlgdmnopaaDoorW.PrintWords Go.Proofs.YtidfchlgdmnopaaDoor.QOpen
set_option linter.unusedVariables false
def wf110 (x : S110) : Prop := (wfI .i64) x.f0 ∧ (wfI .i64) x.f1
theorem opens110 (w : World) : Opens Tryd.prog w 110 k110 wf110 := by
  intro H enc base spare held fuel cs x h
  obtain ⟨xs, n, _, _, hcl, hlen, hg⟩ := DataW.trod_struct Tryd.underlying110 h
  have hc : cs.length = 2 := hcl.trans (by kernel_rfl)
  have hl : xs.length = 2 := hlen
  clear hcl hlen
  obtain ⟨c0, t0, rfl, g0⟩ := cs_cons hc
  obtain ⟨c1, t1, rfl, g1⟩ := cs_cons g0
  obtain rfl := List.eq_nil_of_length_eq_zero g1
  have h0 := field_seg (hg 0 _ rfl) 2 0 1 [c0] rfl rfl (by kernel_rfl) rfl
  rw [List.getElem?_eq_getElem (by omega)] at h0
  obtain ⟨a0, k0, w0⟩ := (Opens.int Tryd.underlying2) _ _ _ _ _ _ _ _ h0
  have h1 := field_seg (hg 1 _ rfl) 2 1 1 [c1] rfl rfl (by kernel_rfl) rfl
  rw [List.getElem?_eq_getElem (by omega)] at h1
  obtain ⟨a1, k1, w1⟩ := (Opens.int Tryd.underlying2) _ _ _ _ _ _ _ _ h1
  exact ⟨⟨a0, a1⟩, ⟨[c0], [c1], rfl, k0, k1⟩, ⟨w0, w1⟩⟩
end Go.Proofs.YtidfchlgdmnopaaDoor.QReadingsText
