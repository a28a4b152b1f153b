/- The row of the law FnExactPriceOfLimit out of its pure statement and the printed walk: for every input the law returns true and leaves its arguments as they were. Conditions: none. -/
import Derived.Test.YtnhkamfccoppbaaRows
import Derived.Test.YtnhkamfccoppbaaQPriceOfLimitx11
import Derived.Test.YtnhkamfccoppbaaQPriceOfLimitxO
import Derived.Test.YtnhkamfccoppbaaPureFnExactPriceOfLimit
import Derived.WalkKit
import Derived.ProofKit
import Derived.OpenShut
import Derived.ShutString
import Derived.ChangeOld
import Derived.Below
import Derived.SizedLaws
namespace Go.Proofs.Ytnhkamfccoppbaa.fnExactPriceOfLimit
open Go.ChangeShapes Go.WideShapes Go.ChangeAt Go.RowKit
open Go.ChangeMaps (open_string shut_string)
open Go.Proofs.Ytnhkamfccoppbaa.QOpen
set_option linter.unusedVariables false
theorem own : ownKnob Try.prog.godebug = none := by kernel_rfl
theorem laidOut : laidOutB Try.prog = true := by kernel_rfl
set_option maxRecDepth 100000 in
theorem lifted (os : Os) (started : os.Started) (H : Type) (enc : TypeId × Value → H) :
    ReturnsInHanded {} Try.checked os 3 .any (Rows.fnExactPriceOfLimitSpec.pre6 enc Try.prog Try.f3 Rows.fnExactPriceOfLimitRow.domain false) (Rows.fnExactPriceOfLimitSpec.post enc Try.prog Try.f3 false true false false) := by
  refine returnsInHanded_of_change_sized (C := Try.checked) own started (by kernel_rfl) Try.func3
    (ChangeSpec.witness6 (enc := enc) (C := Try.checked) false ⟨#[], #[.slice none 0 0, .int .i64 0, .int .i64 0], []⟩ 8 (by kernel_rfl) (by kernel_rfl) (by kernel_rfl) (by kernel_rfl)) ?_
  intro W base args ds gs before hval0 hW hcnd hsz0 _
  have hval : ∀ (j : Nat) t v, Try.f3.params[j]? = some t → args[j]? = some v → Value.okWide Try.prog W .any base t v := hval0
  have hW' := hW
  obtain ⟨p, q, hA0, hV, rfl, hfz, hnd⟩ := hW
  have hA : DataW.TrodAll enc Try.prog W 0 (fun _ => true) true Try.f3.params.toList args.toList ds p := hA0
  rw [Try.params3] at hA hval
  obtain ⟨v0, vs0, d0, ds0, p0, q0, hargs, rfl, rfl, h0, r0⟩ := trodAll_cons hA
  obtain ⟨v1, vs1, d1, ds1, p1, q1, rfl, rfl, rfl, h1, r1⟩ := trodAll_cons r0
  obtain ⟨v2, vs2, d2, ds2, p2, q2, rfl, rfl, rfl, h2, r2⟩ := trodAll_cons r1
  obtain ⟨rfl, rfl, rfl⟩ := trodAll_nil r2
  obtain rfl : args = #[v0, v1, v2] := by cases args; simp_all
  obtain ⟨rfl, rfl⟩ := trodVars_none hV
  have k0 := h0
  have lt0 : ∀ x ∈ p0, x.block < W.heap.size := by obtain ⟨m, hm⟩ := k0; exact DataW.trod_lt m _ _ _ hm
  obtain ⟨fuel0, hf0⟩ := h0
  obtain ⟨ad0, len0, cap0, rfl⟩ := okWide_slice Try.underlying22 (hval 0 22 v0 rfl rfl)
  obtain ⟨x0, ⟨A0, c0, e0, hl0, hC0⟩, hw0⟩ := (Opens.slice Try.underlying22 (by kernel_rfl) (QPriceOfLimit.opens40 W)) _ _ _ _ _ _ _ _ hf0
  simp only [Value.cells, List.cons.injEq, Value.slice.injEq, and_true] at e0
  obtain ⟨rfl, rfl, rfl⟩ := e0
  obtain ⟨x1, rfl, rfl, rfl, y1⟩ := open_int Try.underlying2 (hval 1 2 v1 rfl rfl) h1
  have hw1 : wfI .i64 x1 := y1
  obtain ⟨x2, rfl, rfl, rfl, y2⟩ := open_int Try.underlying2 (hval 2 2 v2 rfl rfl) h2
  have hw2 : wfI .i64 x2 := y2
  clear hA0 hval0 hsz0
  obtain ⟨k, hk⟩ := Pure.FnExactPriceOfLimit x0 x1 x2 hw0 hw1 hw2
  refine (QPriceOfLimit.laws_FnExactPriceOfLimit.calls k _ _ x0 x1 x2 true W hC0 hl0 hk).mono fun e W' ⟨he, bel0⟩ => ?_
  have bel : Below W.heap.size W W' := bel0
  subst he
  exact ⟨_, rfl, _, _, _, [], _, [], hW', trodAll_mk1 (shut_bool Try.underlying4 _), (trodAll_cons_mk (Below.trod laidOut (by kernel_rfl) (of_decide_eq_true (by kernel_rfl)) k0 bel lt0) (trodAll_cons_mk (shut_int Try.underlying2 y1) (trodAll_cons_mk (shut_int Try.underlying2 y2) trodAll_mk0))), rfl, bel.frame _, fun h => by cases h⟩
theorem over : Rows.fnExactPriceOfLimitRow.holds Try.pinned (OpenSpec.ofChange Rows.fnExactPriceOfLimitSpec) :=
  OpenClaim.holds_of_wide 3 Try.f3 rfl rfl rfl rfl rfl rfl rfl ⟨rfl, rfl, rfl, rfl, rfl⟩ rfl rfl rfl rfl rfl (by kernel_rfl) Try.func3 (by kernel_rfl)
    (of_decide_eq_true (by kernel_rfl)) (by unfold Func.isWrapper; first | (rw [if_pos (by decide +kernel)]; kernel_rfl) | (rw [if_neg (by decide +kernel)]; exact ⟨rfl, rfl⟩))
    (fun os started H enc _ => lifted os started H enc)
theorem proved : Rows.FnExactPriceOfLimitSaid := over
#print axioms proved
end Go.Proofs.Ytnhkamfccoppbaa.fnExactPriceOfLimit
namespace Go.Proofs.Ytnhkamfccoppbaa
/-- The row, under a short name, for the claim. -/
theorem fnExactPriceOfLimit_holds : Rows.FnExactPriceOfLimitSaid := fnExactPriceOfLimit.proved
end Go.Proofs.Ytnhkamfccoppbaa
