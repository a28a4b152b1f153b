/- The row of the law FnExactVersionText out of its pure statement and the printed walk: for every input the law returns true and leaves its arguments as they were. Conditions: none. -/
import Derived.Test.YtidfchlgdmnopaaDoorQTab
import Derived.Test.YtidfchlgdmnopaaDoorTie
import Derived.Test.YtidfchlgdmnopaaDoorCards
import Derived.LaidMore
import Derived.MakeChecks
import Derived.SevenTiedAt
import Derived.Test.YtidfchlgdmnopaaDoorRows
import Derived.Test.YtidfchlgdmnopaaDoorQVersionTextx8
import Derived.Test.YtidfchlgdmnopaaDoorQVersionTextxO
import Derived.Test.YtidfchlgdmnopaaDoorPureFnExactVersionText
import Derived.WalkKit
import Derived.ProofKit
import Derived.OpenShut
import Derived.ShutString
import Derived.ChangeOld
import Derived.Below
import Derived.SizedLaws
namespace Go.Proofs.YtidfchlgdmnopaaDoor.fnExactVersionText
open Go.ChangeShapes Go.WideShapes Go.ChangeAt Go.RowKit
open Go.ChangeMaps (open_string shut_string)
open Go.Proofs.YtidfchlgdmnopaaDoor.QOpen
set_option linter.unusedVariables false
theorem own : ownKnob Tryd.prog.godebug = none := by kernel_rfl
theorem laidOut : laidOutB Tryd.prog = true := by kernel_rfl
set_option maxRecDepth 100000 in
theorem lifted (os : Os) (started : os.Started) (H : Type) (enc : TypeId × Value → H) :
    ReturnsInHanded {} Tryd.checked os 4 .any (fun w args => (Rows.fnExactVersionTextSpec.pre enc Tryd.prog Tryd.f4 Rows.fnExactVersionTextRow.domain false w args ∧ laidMetH Tryd.prog Rows.fnExactVersionTextRow.laid w) ∧ sizedMet enc Tryd.prog Tryd.f4 (OpenSpec.ofChange Rows.fnExactVersionTextSpec) false w args) (Rows.fnExactVersionTextSpec.post enc Tryd.prog Tryd.f4 false true false false) := by
  refine returnsInHanded_of_change_and (C := Tryd.checked) (X := fun w _ => laidMetH Tryd.prog Rows.fnExactVersionTextRow.laid w) (fun _ _ _ hh h => h.of_heap hh) own started (by kernel_rfl) Tryd.func4
    (ChangeSpec.witness_shaped (enc := enc) (C := Tryd.checked) (os := os) (X := fun w _ => laidMetH Tryd.prog Rows.fnExactVersionTextRow.laid w) false (World.doorLaid Tryd.prog 400 os) #[(.agg #[(.int .i64 0), (.int .i64 0), (.string ⟨#[]⟩), (.slice none 0 0)])] 8 rfl (World.shaped_of_RefB (by kernel_rfl) (by kernel_rfl)) (by kernel_rfl) (by kernel_rfl) (by kernel_rfl) (QTab.door_met os _)) ?_
  intro W base args ds gs before hval0 hW hcnd hsz0 hL _
  have hG := QTab.tabOf hL
  have hval : ∀ (j : Nat) t v, Tryd.f4.params[j]? = some t → args[j]? = some v → Value.okWide Tryd.prog W .any base t v := hval0
  have hW' := hW
  obtain ⟨p, q, hA0, hV, rfl, hfz, hnd⟩ := hW
  have hA : DataW.TrodAll enc Tryd.prog W 0 (fun _ => true) true Tryd.f4.params.toList args.toList ds p := hA0
  rw [Tryd.params4] at hA hval
  obtain ⟨v0, vs0, d0, ds0, p0, q0, hargs, rfl, rfl, h0, r0⟩ := trodAll_cons hA
  obtain ⟨rfl, rfl, rfl⟩ := trodAll_nil r0
  obtain rfl : args = #[v0] := by cases args; simp_all
  obtain ⟨rfl, rfl⟩ := trodVars_none hV
  have k0 := h0
  have lt0 : ∀ x ∈ p0, x.block < W.heap.size := by obtain ⟨m, hm⟩ := k0; exact DataW.trod_lt m _ _ _ hm
  obtain ⟨fuel0, hf0⟩ := h0
  obtain ⟨cs0, rfl, _⟩ := okWide_struct Tryd.underlying31 (hval 0 31 v0 rfl rfl)
  obtain ⟨x0, hK0, hw0⟩ := (QVersionText.opens31 W) _ _ _ _ _ _ _ _ hf0
  obtain ⟨A0_3, c0_3, e0, hl0_3, hC0_3⟩ := QVersionText.k31_open hK0
  obtain ⟨cl0⟩ := cs0
  replace e0 : cl0 = _ := e0
  subst e0
  clear hA0 hval0 hsz0
  obtain ⟨k, hk⟩ := Pure.FnExactVersionText x0 hw0
  refine (QVersionText.laws_FnExactVersionText.calls k (x0.f0) (x0.f1) (x0.f2) _ _ (x0.f3) true W hC0_3 hl0_3 hk hG).mono fun e W' ⟨he, bel0⟩ => ?_
  have bel : Below W.heap.size W W' := bel0
  subst he
  exact ⟨_, rfl, _, _, _, [], _, [], hW', trodAll_mk1 (shut_bool Tryd.underlying4 _), (trodAll_cons_mk (Below.trod laidOut (by kernel_rfl) (of_decide_eq_true (by kernel_rfl)) k0 bel lt0) trodAll_mk0), rfl, bel.frame _, fun h => by cases h⟩
theorem over : Rows.fnExactVersionTextRow.holds Tryd.pinned (OpenSpec.ofChange Rows.fnExactVersionTextSpec) :=
  OpenClaim.holds_of_wide 4 Tryd.f4 rfl rfl rfl rfl rfl rfl rfl ⟨rfl, rfl, rfl, rfl, rfl⟩ rfl rfl rfl rfl rfl (by kernel_rfl) Tryd.func4 (by kernel_rfl)
    (of_decide_eq_true (by kernel_rfl)) (by unfold Func.isWrapper; first | (rw [if_pos (by decide +kernel)]; kernel_rfl) | (rw [if_neg (by decide +kernel)]; exact ⟨rfl, rfl⟩))
    (fun os started H enc _ => lifted os started H enc)
theorem proved : Rows.FnExactVersionTextSaid := over
/-- The tied card. -/
theorem card : Rows.FnExactVersionTextCardSaid :=
  Claim7.holds_tied_plain_at .later [] [.data, .data, .data] true (true, "0fd77f12b303df1269c1da32042db3805796cb87686961d9a78c98d3b737c644") false
    proved (fun _ h => by cases h) (by kernel_rfl) (fun _ h => by cases h) fnExactVersionText_row_tie rfl ⟨rfl, rfl⟩ (by kernel_rfl) rfl
    (fun f fn hf hfn => by
      obtain rfl : f = 4 := Option.some.inj ((show Tryd.prog.funcNamed "loop.example/g01011/laws.FnExactVersionText" = some 4 by kernel_rfl).symm.trans hf) |>.symm
      obtain rfl : fn = Tryd.f4 := (Option.some.inj (Tryd.func4.symm.trans hfn)).symm
      exact ⟨by kernel_rfl, fun j t ht => by
        rw [Tryd.params4] at ht
        have hm : t ∈ [31] := by simpa using Array.mem_of_getElem? ht
        have hall : ([31].all fun u => !Tryd.prog.wantsStandIn u) = true := by kernel_rfl
        exact (show Tryd.prog.wantsStandIn t = false by simpa using List.all_eq_true.1 hall t hm)⟩)
    (by kernel_rfl)
#print axioms card
#print axioms proved
end Go.Proofs.YtidfchlgdmnopaaDoor.fnExactVersionText
namespace Go.Proofs.YtidfchlgdmnopaaDoor
/-- The row, under a short name, for the claim. -/
theorem fnExactVersionText_holds : Rows.FnExactVersionTextCardSaid := fnExactVersionText.card
end Go.Proofs.YtidfchlgdmnopaaDoor
