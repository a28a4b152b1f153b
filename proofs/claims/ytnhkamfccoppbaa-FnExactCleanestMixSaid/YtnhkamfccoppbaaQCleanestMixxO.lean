/- The structs of the group's laws: what is well formed, and that what reads as data is. Conditions: none. -/
import Derived.Test.YtnhkamfccoppbaaQCleanestMixx0
import Derived.Test.YtnhkamfccoppbaaQOpen
import Derived.KernelRfl
namespace Go.Proofs.Ytnhkamfccoppbaa.QCleanestMix
open Go.RowKit Go.ChangeShapes Go.WideShapes Go.Deep Go.Proofs.YtnhkamfccoppbaaW.PrintWords Go.Proofs.Ytnhkamfccoppbaa.QOpen
set_option linter.unusedVariables false
def wf40 (x : S40) : Prop := wfS x.f0 ∧ (wfI .i64) x.f1 ∧ (wfI .i64) x.f2 ∧ (wfI .i64) x.f3
theorem opens40 (w : World) : Opens Try.prog w 40 k40 wf40 := by
  intro H enc base spare held fuel cs x h
  obtain ⟨xs, n, _, _, hcl, hlen, hg⟩ := DataW.trod_struct Try.underlying40 h
  have hc : cs.length = 4 := hcl.trans (by kernel_rfl)
  have hl : xs.length = 4 := hlen
  clear hcl hlen
  obtain ⟨c0, t0, rfl, g0⟩ := cs_cons hc
  obtain ⟨c1, t1, rfl, g1⟩ := cs_cons g0
  obtain ⟨c2, t2, rfl, g2⟩ := cs_cons g1
  obtain ⟨c3, t3, rfl, g3⟩ := cs_cons g2
  obtain rfl := List.eq_nil_of_length_eq_zero g3
  have h0 := field_seg (hg 0 _ rfl) 9 0 1 [c0] rfl rfl (by kernel_rfl) rfl
  rw [List.getElem?_eq_getElem (by omega)] at h0
  obtain ⟨a0, k0, w0⟩ := (Opens.string Try.underlying9) _ _ _ _ _ _ _ _ h0
  have h1 := field_seg (hg 1 _ rfl) 2 1 1 [c1] rfl rfl (by kernel_rfl) rfl
  rw [List.getElem?_eq_getElem (by omega)] at h1
  obtain ⟨a1, k1, w1⟩ := (Opens.int Try.underlying2) _ _ _ _ _ _ _ _ h1
  have h2 := field_seg (hg 2 _ rfl) 2 2 1 [c2] rfl rfl (by kernel_rfl) rfl
  rw [List.getElem?_eq_getElem (by omega)] at h2
  obtain ⟨a2, k2, w2⟩ := (Opens.int Try.underlying2) _ _ _ _ _ _ _ _ h2
  have h3 := field_seg (hg 3 _ rfl) 2 3 1 [c3] rfl rfl (by kernel_rfl) rfl
  rw [List.getElem?_eq_getElem (by omega)] at h3
  obtain ⟨a3, k3, w3⟩ := (Opens.int Try.underlying2) _ _ _ _ _ _ _ _ h3
  exact ⟨⟨a0, a1, a2, a3⟩, ⟨[c0], [c1, c2, c3], rfl, k0, ⟨[c1], [c2, c3], rfl, k1, ⟨[c2], [c3], rfl, k2, k3⟩⟩⟩, ⟨w0, w1, w2, w3⟩⟩
end Go.Proofs.Ytnhkamfccoppbaa.QCleanestMix
