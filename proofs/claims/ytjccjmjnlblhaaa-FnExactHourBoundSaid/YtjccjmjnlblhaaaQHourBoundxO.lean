/- The structs of the group's laws: what is well formed, and that what reads as data is. Conditions: none. -/
import Derived.Test.YtjccjmjnlblhaaaQHourBoundx0
import Derived.Test.YtjccjmjnlblhaaaQOpen
import Derived.KernelRfl
namespace Go.Proofs.Ytjccjmjnlblhaaa.QHourBound
open Go.RowKit Go.ChangeShapes Go.WideShapes Go.Deep Go.Proofs.YtjccjmjnlblhaaaW.PrintWords Go.Proofs.Ytjccjmjnlblhaaa.QOpen
set_option linter.unusedVariables false
def wf140 (x : S140) : Prop := wfS x.f0 ∧ (wfI .i64) x.f1 ∧ (wfI .i64) x.f2 ∧ (wfI .i64) x.f3 ∧ (wfI .i64) x.f4 ∧ (wfI .i64) x.f5 ∧ (wfI .i64) x.f6
theorem opens140 (w : World) : Opens Try.prog w 140 k140 wf140 := by
  intro H enc base spare held fuel cs x h
  obtain ⟨xs, n, _, _, hcl, hlen, hg⟩ := DataW.trod_struct Try.underlying140 h
  have hc : cs.length = 7 := hcl.trans (by kernel_rfl)
  have hl : xs.length = 7 := hlen
  clear hcl hlen
  obtain ⟨c0, t0, rfl, g0⟩ := cs_cons hc
  obtain ⟨c1, t1, rfl, g1⟩ := cs_cons g0
  obtain ⟨c2, t2, rfl, g2⟩ := cs_cons g1
  obtain ⟨c3, t3, rfl, g3⟩ := cs_cons g2
  obtain ⟨c4, t4, rfl, g4⟩ := cs_cons g3
  obtain ⟨c5, t5, rfl, g5⟩ := cs_cons g4
  obtain ⟨c6, t6, rfl, g6⟩ := cs_cons g5
  obtain rfl := List.eq_nil_of_length_eq_zero g6
  have h0 := field_seg (hg 0 _ rfl) 9 0 1 [c0] rfl rfl (by kernel_rfl) rfl
  rw [List.getElem?_eq_getElem (by omega)] at h0
  obtain ⟨a0, k0, w0⟩ := (Opens.string Try.underlying9) _ _ _ _ _ _ _ _ h0
  have h1 := field_seg (hg 1 _ rfl) 2 1 1 [c1] rfl rfl (by kernel_rfl) rfl
  rw [List.getElem?_eq_getElem (by omega)] at h1
  obtain ⟨a1, k1, w1⟩ := (Opens.int Try.underlying2) _ _ _ _ _ _ _ _ h1
  have h2 := field_seg (hg 2 _ rfl) 2 2 1 [c2] rfl rfl (by kernel_rfl) rfl
  rw [List.getElem?_eq_getElem (by omega)] at h2
  obtain ⟨a2, k2, w2⟩ := (Opens.int Try.underlying2) _ _ _ _ _ _ _ _ h2
  have h3 := field_seg (hg 3 _ rfl) 2 3 1 [c3] rfl rfl (by kernel_rfl) rfl
  rw [List.getElem?_eq_getElem (by omega)] at h3
  obtain ⟨a3, k3, w3⟩ := (Opens.int Try.underlying2) _ _ _ _ _ _ _ _ h3
  have h4 := field_seg (hg 4 _ rfl) 2 4 1 [c4] rfl rfl (by kernel_rfl) rfl
  rw [List.getElem?_eq_getElem (by omega)] at h4
  obtain ⟨a4, k4, w4⟩ := (Opens.int Try.underlying2) _ _ _ _ _ _ _ _ h4
  have h5 := field_seg (hg 5 _ rfl) 2 5 1 [c5] rfl rfl (by kernel_rfl) rfl
  rw [List.getElem?_eq_getElem (by omega)] at h5
  obtain ⟨a5, k5, w5⟩ := (Opens.int Try.underlying2) _ _ _ _ _ _ _ _ h5
  have h6 := field_seg (hg 6 _ rfl) 2 6 1 [c6] rfl rfl (by kernel_rfl) rfl
  rw [List.getElem?_eq_getElem (by omega)] at h6
  obtain ⟨a6, k6, w6⟩ := (Opens.int Try.underlying2) _ _ _ _ _ _ _ _ h6
  exact ⟨⟨a0, a1, a2, a3, a4, a5, a6⟩, ⟨[c0], [c1, c2, c3, c4, c5, c6], rfl, k0, ⟨[c1], [c2, c3, c4, c5, c6], rfl, k1, ⟨[c2], [c3, c4, c5, c6], rfl, k2, ⟨[c3], [c4, c5, c6], rfl, k3, ⟨[c4], [c5, c6], rfl, k4, ⟨[c5], [c6], rfl, k5, k6⟩⟩⟩⟩⟩⟩, ⟨w0, w1, w2, w3, w4, w5, w6⟩⟩
end Go.Proofs.Ytjccjmjnlblhaaa.QHourBound
