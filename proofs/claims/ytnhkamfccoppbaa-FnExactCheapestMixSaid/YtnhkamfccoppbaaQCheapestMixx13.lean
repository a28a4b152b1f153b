-- Written by press.py, a program of this session, round the kit's print.py (functions and contracts; Lean checks them).
import Derived.Test.YtnhkamfccoppbaaQCheapestMixx0
import Derived.Test.YtnhkamfccoppbaaQCheapestMixx1
import Derived.Test.YtnhkamfccoppbaaQCheapestMixx2
import Derived.Test.YtnhkamfccoppbaaQCheapestMixx5
import Derived.Test.YtnhkamfccoppbaaQCheapestMixx12
namespace Go.Proofs.Ytnhkamfccoppbaa.QCheapestMix
open Go.Proofs.Ytnhkamfccoppbaa.QWords
attribute [local go_sem high] binOp_string_geq_q binOp_string_leq_q binOp_string_gtr_q
open Go.RowKit Go.Proofs.YtnhkamfccoppbaaW.PrintWords Go.Proofs.YtnhkamfccoppbaaW.PrintLast Go.Proofs.YtnhkamfccoppbaaW.PrintMore
attribute [local go_sem] max2_int min2_int max_two min_two max_three min_three max_four min_four   -- for this text's walks alone
set_option linter.unusedVariables false
set_option linter.unusedSimpArgs false

/-! ### laws_FnExactCheapestMix: function 5 -/
mutual
def laws_FnExactCheapestMix.j0 : Nat → List (S40) → Int → Int → List Int → Int → Int → List (S46) → List Int → Int → Int → Bool → Option (Bool)
 | 0, _, _, _, _, _, _, _, _, _, _, _ => none
 | k + 1, x0, x1, x2, x8, x9, x10, x11, x12, x13, x14, x58 => if x58 = true then (some false) else ((laws_toFuelS.f k x0).bind fun t292 => ((laws_eqFuelS.f k x11 t292).bind fun t295 => (if t295 = true then ((laws_markFuelS.f k x11 1).bind fun bt296 => (if bt296.1 < 0 then (laws_FnExactCheapestMix.j1 k x0 x1 x2 x8 x9 x10 x12 true) else ((laws_eqInt64S.f k x12 x8).bind fun t298 => (if t298 = true then (if x13 = x9 then (laws_FnExactCheapestMix.j1 k x0 x1 x2 x8 x9 x10 x12 (x14 != x10)) else (laws_FnExactCheapestMix.j1 k x0 x1 x2 x8 x9 x10 x12 true)) else (laws_FnExactCheapestMix.j1 k x0 x1 x2 x8 x9 x10 x12 true))))) else (some false))))
def laws_FnExactCheapestMix.j1 : Nat → List (S40) → Int → Int → List Int → Int → Int → List Int → Bool → Option (Bool)
 | 0, _, _, _, _, _, _, _, _ => none
 | k + 1, x0, x1, x2, x8, x9, x10, x12, x84 => if x84 = true then (some false) else ((laws_markInt64S.f k x12 1).bind fun bt299 => ((laws_heldInt64S.f k bt299.2 1).bind fun t301 => (if t301 < 0 then (some false) else (if t301 = bt299.1 then ((laws_toFuelS.f k x0).bind fun t302 => ((impl_CheapestMix.f k t302 x1 x2).bind fun bt305 => ((laws_eqInt64S.f k bt305.1 x8).bind fun t310 => (if t310 = true then (if bt305.2.1 = x9 then (laws_FnExactCheapestMix.j2 k bt299.2 bt299.1 (bt305.2.2 != x10)) else (laws_FnExactCheapestMix.j2 k bt299.2 bt299.1 true)) else (laws_FnExactCheapestMix.j2 k bt299.2 bt299.1 true))))) else (some false)))))
def laws_FnExactCheapestMix.j2 : Nat → List Int → Int → Bool → Option (Bool)
 | 0, _, _, _ => none
 | k + 1, x12, x16, x118 => if x118 = true then (some false) else ((laws_heldInt64S.f k x12 1).bind fun t311 => (if t311 < 0 then (some false) else (if t311 = x16 then (some true) else (some false))))
end
def laws_FnExactCheapestMix.f (k : Nat) (l0 : List (S40)) (a1 : Int) (a2 : Int) : Option (Bool) := (laws_szFuelS.f k l0 1048576).bind fun t274 => (if t274 < 0 then (some true) else ((laws_toFuelS.f k l0).bind fun t275 => ((spec_CheapestMix.f k t275 a1 a2).bind fun bt278 => ((laws_toFuelS.f k l0).bind fun t283 => ((impl_CheapestMix.f k t283 a1 a2).bind fun bt286 => ((laws_eqInt64S.f k bt286.1 bt278.1).bind fun t291 => (if t291 = true then (if bt286.2.1 = bt278.2.1 then (laws_FnExactCheapestMix.j0 k l0 a1 a2 bt278.1 bt278.2.1 bt278.2.2 t283 bt286.1 bt286.2.1 bt286.2.2 (bt286.2.2 != bt278.2.2)) else (laws_FnExactCheapestMix.j0 k l0 a1 a2 bt278.1 bt278.2.1 bt278.2.2 t283 bt286.1 bt286.2.1 bt286.2.2 true)) else (laws_FnExactCheapestMix.j0 k l0 a1 a2 bt278.1 bt278.2.1 bt278.2.2 t283 bt286.1 bt286.2.1 bt286.2.2 true))))))))
theorem laws_FnExactCheapestMix.mono_l : ∀ k, (∀ y0 y1 y2 y3 y4 y5 y6 y7 y8 y9 y10, LeO (laws_FnExactCheapestMix.j0 k y0 y1 y2 y3 y4 y5 y6 y7 y8 y9 y10) (laws_FnExactCheapestMix.j0 (k + 1) y0 y1 y2 y3 y4 y5 y6 y7 y8 y9 y10)) ∧ (∀ y0 y1 y2 y3 y4 y5 y6 y7, LeO (laws_FnExactCheapestMix.j1 k y0 y1 y2 y3 y4 y5 y6 y7) (laws_FnExactCheapestMix.j1 (k + 1) y0 y1 y2 y3 y4 y5 y6 y7)) ∧ (∀ y0 y1 y2, LeO (laws_FnExactCheapestMix.j2 k y0 y1 y2) (laws_FnExactCheapestMix.j2 (k + 1) y0 y1 y2))
 | 0 => ⟨fun _ _ _ _ _ _ _ _ _ _ _ r h => by simp [laws_FnExactCheapestMix.j0] at h, fun _ _ _ _ _ _ _ _ r h => by simp [laws_FnExactCheapestMix.j1] at h, fun _ _ _ r h => by simp [laws_FnExactCheapestMix.j2] at h⟩
 | k + 1 => by
  obtain ⟨ih0, ih1, ih2⟩ := laws_FnExactCheapestMix.mono_l k
  refine ⟨?_, ?_, ?_⟩
  ·intro y0 y1 y2 y3 y4 y5 y6 y7 y8 y9 y10
   unfold laws_FnExactCheapestMix.j0
   repeat' first
   | (with_reducible exact ih0 _ _ _ _ _ _ _ _ _ _ _)
   | (with_reducible exact ih1 _ _ _ _ _ _ _ _)
   | (with_reducible exact ih2 _ _ _)
   | (with_reducible exact impl_CheapestMix.mono _ _ _ _)
   | (with_reducible exact laws_eqFuelS.mono _ _ _)
   | (with_reducible exact laws_eqInt64S.mono _ _ _)
   | (with_reducible exact laws_heldInt64S.mono _ _ _)
   | (with_reducible exact laws_markFuelS.mono _ _ _)
   | (with_reducible exact laws_markInt64S.mono _ _ _)
   | (with_reducible exact laws_szFuelS.mono _ _ _)
   | (with_reducible exact laws_toFuelS.mono _ _)
   | (with_reducible exact spec_CheapestMix.mono _ _ _ _)
   | (with_reducible exact LeO.refl _)
   | (with_reducible exact LeO.none _)
   | (with_reducible refine LeO.ite ?_ ?_)
   | (with_reducible refine LeO.bind ?_ (fun _ => ?_))
   | exact ih0 _ _ _ _ _ _ _ _ _ _ _
   | exact ih1 _ _ _ _ _ _ _ _
   | exact ih2 _ _ _
   | exact impl_CheapestMix.mono _ _ _ _
   | exact laws_eqFuelS.mono _ _ _
   | exact laws_eqInt64S.mono _ _ _
   | exact laws_heldInt64S.mono _ _ _
   | exact laws_markFuelS.mono _ _ _
   | exact laws_markInt64S.mono _ _ _
   | exact laws_szFuelS.mono _ _ _
   | exact laws_toFuelS.mono _ _
   | exact spec_CheapestMix.mono _ _ _ _
   | exact LeO.none _
   | refine LeO.ite ?_ ?_
   | refine LeO.bind ?_ (fun _ => ?_)
  ·intro y0 y1 y2 y3 y4 y5 y6 y7
   unfold laws_FnExactCheapestMix.j1
   repeat' first
   | (with_reducible exact ih0 _ _ _ _ _ _ _ _ _ _ _)
   | (with_reducible exact ih1 _ _ _ _ _ _ _ _)
   | (with_reducible exact ih2 _ _ _)
   | (with_reducible exact impl_CheapestMix.mono _ _ _ _)
   | (with_reducible exact laws_eqFuelS.mono _ _ _)
   | (with_reducible exact laws_eqInt64S.mono _ _ _)
   | (with_reducible exact laws_heldInt64S.mono _ _ _)
   | (with_reducible exact laws_markFuelS.mono _ _ _)
   | (with_reducible exact laws_markInt64S.mono _ _ _)
   | (with_reducible exact laws_szFuelS.mono _ _ _)
   | (with_reducible exact laws_toFuelS.mono _ _)
   | (with_reducible exact spec_CheapestMix.mono _ _ _ _)
   | (with_reducible exact LeO.refl _)
   | (with_reducible exact LeO.none _)
   | (with_reducible refine LeO.ite ?_ ?_)
   | (with_reducible refine LeO.bind ?_ (fun _ => ?_))
   | exact ih0 _ _ _ _ _ _ _ _ _ _ _
   | exact ih1 _ _ _ _ _ _ _ _
   | exact ih2 _ _ _
   | exact impl_CheapestMix.mono _ _ _ _
   | exact laws_eqFuelS.mono _ _ _
   | exact laws_eqInt64S.mono _ _ _
   | exact laws_heldInt64S.mono _ _ _
   | exact laws_markFuelS.mono _ _ _
   | exact laws_markInt64S.mono _ _ _
   | exact laws_szFuelS.mono _ _ _
   | exact laws_toFuelS.mono _ _
   | exact spec_CheapestMix.mono _ _ _ _
   | exact LeO.none _
   | refine LeO.ite ?_ ?_
   | refine LeO.bind ?_ (fun _ => ?_)
  ·intro y0 y1 y2
   unfold laws_FnExactCheapestMix.j2
   repeat' first
   | (with_reducible exact ih0 _ _ _ _ _ _ _ _ _ _ _)
   | (with_reducible exact ih1 _ _ _ _ _ _ _ _)
   | (with_reducible exact ih2 _ _ _)
   | (with_reducible exact impl_CheapestMix.mono _ _ _ _)
   | (with_reducible exact laws_eqFuelS.mono _ _ _)
   | (with_reducible exact laws_eqInt64S.mono _ _ _)
   | (with_reducible exact laws_heldInt64S.mono _ _ _)
   | (with_reducible exact laws_markFuelS.mono _ _ _)
   | (with_reducible exact laws_markInt64S.mono _ _ _)
   | (with_reducible exact laws_szFuelS.mono _ _ _)
   | (with_reducible exact laws_toFuelS.mono _ _)
   | (with_reducible exact spec_CheapestMix.mono _ _ _ _)
   | (with_reducible exact LeO.refl _)
   | (with_reducible exact LeO.none _)
   | (with_reducible refine LeO.ite ?_ ?_)
   | (with_reducible refine LeO.bind ?_ (fun _ => ?_))
   | exact ih0 _ _ _ _ _ _ _ _ _ _ _
   | exact ih1 _ _ _ _ _ _ _ _
   | exact ih2 _ _ _
   | exact impl_CheapestMix.mono _ _ _ _
   | exact laws_eqFuelS.mono _ _ _
   | exact laws_eqInt64S.mono _ _ _
   | exact laws_heldInt64S.mono _ _ _
   | exact laws_markFuelS.mono _ _ _
   | exact laws_markInt64S.mono _ _ _
   | exact laws_szFuelS.mono _ _ _
   | exact laws_toFuelS.mono _ _
   | exact spec_CheapestMix.mono _ _ _ _
   | exact LeO.none _
   | refine LeO.ite ?_ ?_
   | refine LeO.bind ?_ (fun _ => ?_)
theorem laws_FnExactCheapestMix.mono : ∀ a0 a1 a2 k, LeO (laws_FnExactCheapestMix.f k a0 a1 a2) (laws_FnExactCheapestMix.f (k + 1) a0 a1 a2) := by
 intro a0 a1 a2 k
 obtain ⟨ih0, ih1, ih2⟩ := laws_FnExactCheapestMix.mono_l k
 unfold laws_FnExactCheapestMix.f
 repeat' first
   | (with_reducible exact ih0 _ _ _ _ _ _ _ _ _ _ _)
   | (with_reducible exact ih1 _ _ _ _ _ _ _ _)
   | (with_reducible exact ih2 _ _ _)
   | (with_reducible exact impl_CheapestMix.mono _ _ _ _)
   | (with_reducible exact laws_eqFuelS.mono _ _ _)
   | (with_reducible exact laws_eqInt64S.mono _ _ _)
   | (with_reducible exact laws_heldInt64S.mono _ _ _)
   | (with_reducible exact laws_markFuelS.mono _ _ _)
   | (with_reducible exact laws_markInt64S.mono _ _ _)
   | (with_reducible exact laws_szFuelS.mono _ _ _)
   | (with_reducible exact laws_toFuelS.mono _ _)
   | (with_reducible exact spec_CheapestMix.mono _ _ _ _)
   | (with_reducible exact LeO.refl _)
   | (with_reducible exact LeO.none _)
   | (with_reducible refine LeO.ite ?_ ?_)
   | (with_reducible refine LeO.bind ?_ (fun _ => ?_))
   | exact ih0 _ _ _ _ _ _ _ _ _ _ _
   | exact ih1 _ _ _ _ _ _ _ _
   | exact ih2 _ _ _
   | exact impl_CheapestMix.mono _ _ _ _
   | exact laws_eqFuelS.mono _ _ _
   | exact laws_eqInt64S.mono _ _ _
   | exact laws_heldInt64S.mono _ _ _
   | exact laws_markFuelS.mono _ _ _
   | exact laws_markInt64S.mono _ _ _
   | exact laws_szFuelS.mono _ _ _
   | exact laws_toFuelS.mono _ _
   | exact spec_CheapestMix.mono _ _ _ _
   | exact LeO.none _
   | refine LeO.ite ?_ ?_
   | refine LeO.bind ?_ (fun _ => ?_)
set_option maxHeartbeats 8000000 in
set_option maxRecDepth 100000 in
theorem laws_FnExactCheapestMix.calls (k : Nat) (A0 : Option Addr) (c0 : Nat) (l0 : List (S40)) (a1 : Int) (a2 : Int) (r : Bool) (w : World) (hr0 : Kd.C k40 w A0 l0.length l0) (hc0 : l0.length ≤ c0) (h : laws_FnExactCheapestMix.f k l0 a1 a2 = some r) :
  Calls Try.prog 5 #[.slice A0 l0.length c0, .int .i64 a1, .int .i64 a2] w fun e w' => e = .returned (.bool r) ∧ Below w.heap.size w w' := by
 have HR0 := As0.mk hr0
 have HC0 := As0.mk hc0
 clear hr0 hc0
 have HB := As0.mk (Below.refl w.heap.size w)
 have H : ((laws_szFuelS.f k l0 1048576).bind fun t274 => (if t274 < 0 then (some true) else ((laws_toFuelS.f k l0).bind fun t275 => ((spec_CheapestMix.f k t275 a1 a2).bind fun bt278 => ((laws_toFuelS.f k l0).bind fun t283 => ((impl_CheapestMix.f k t283 a1 a2).bind fun bt286 => ((laws_eqInt64S.f k bt286.1 bt278.1).bind fun t291 => (if t291 = true then (if bt286.2.1 = bt278.2.1 then (laws_FnExactCheapestMix.j0 k l0 a1 a2 bt278.1 bt278.2.1 bt278.2.2 t283 bt286.1 bt286.2.1 bt286.2.2 (bt286.2.2 != bt278.2.2)) else (laws_FnExactCheapestMix.j0 k l0 a1 a2 bt278.1 bt278.2.1 bt278.2.2 t283 bt286.1 bt286.2.1 bt286.2.2 true)) else (laws_FnExactCheapestMix.j0 k l0 a1 a2 bt278.1 bt278.2.1 bt278.2.2 t283 bt286.1 bt286.2.1 bt286.2.2 true))))))))) = some r := h
 clear h
 replace H := Option.bind_eq_some_iff.mp H
 obtain ⟨t274, A40, H⟩ := H
 replace H : (if t274 < 0 then (some true) else ((laws_toFuelS.f k l0).bind fun t275 => ((spec_CheapestMix.f k t275 a1 a2).bind fun bt278 => ((laws_toFuelS.f k l0).bind fun t283 => ((impl_CheapestMix.f k t283 a1 a2).bind fun bt286 => ((laws_eqInt64S.f k bt286.1 bt278.1).bind fun t291 => (if t291 = true then (if bt286.2.1 = bt278.2.1 then (laws_FnExactCheapestMix.j0 k l0 a1 a2 bt278.1 bt278.2.1 bt278.2.2 t283 bt286.1 bt286.2.1 bt286.2.2 (bt286.2.2 != bt278.2.2)) else (laws_FnExactCheapestMix.j0 k l0 a1 a2 bt278.1 bt278.2.1 bt278.2.2 t283 bt286.1 bt286.2.1 bt286.2.2 true)) else (laws_FnExactCheapestMix.j0 k l0 a1 a2 bt278.1 bt278.2.1 bt278.2.2 t283 bt286.1 bt286.2.1 bt286.2.2 true)))))))) = some r := H
 have A4 := As0.mk A40
 clear A40
 by_cases c5 : t274 < 0
 ·rw [if_pos c5] at H
  have c5b0 : decide (t274 < 0) = true := decide_eq_true c5
  clear c5
  obtain rfl := Option.some.inj H
  go_enter Try.func5, Try.ntmps5
  go_wp2_with (first | ((with_reducible refine gce (f := 6) rfl ?_); refine goesL_ (some 23) rfl rfl Try.func6 (by kernel_rfl) rfl #[.slice A0 l0.length c0, .int .i64 1048576] rfl (by (try simp only [List.map_toArray, List.map_cons, List.map_nil]); first | done | rfl | (simp only [List.length_drop, List.length_take]; rfl)) ?_; (with_reducible refine (laws_szFuelS.calls k _ _ l0 1048576 t274 _ ?side1 ?side2 A4.out).mono ?_); (case side1 => repeat (first | exact HR0.out | (with_reducible refine Kd.C_alloc ?_ _) | (with_reducible refine Kd.C_drewN ?_ _) | (with_reducible refine Kd.C_drew ?_))); (case side2 => exact HC0.out); rintro e w6 ⟨rfl, hb⟩; refine ⟨_, rfl, ?_⟩; have n0_ := As0.mk (bsp (by repeat (with_reducible first | exact HB.out | apply bal | apply pbN | apply bdw)) hb); clear HB; have HB := n0_; clear n0_; (try clear hb); (try clear hb2); (try clear hk); (try clear hi)))
  go_ret
  exact ⟨by first | rfl | (simp [eWn, eWs] <;> rfl) | (simp [*, eWn, eWs] <;> rfl), by repeat (with_reducible first | exact HB.out | apply bal | apply pbN | apply bdw)⟩
 ·rw [if_neg c5] at H
  have c5b0 : decide (t274 < 0) = false := decide_eq_false c5
  clear c5
  replace H := Option.bind_eq_some_iff.mp H
  obtain ⟨t275, A70, H⟩ := H
  replace H : ((spec_CheapestMix.f k t275 a1 a2).bind fun bt278 => ((laws_toFuelS.f k l0).bind fun t283 => ((impl_CheapestMix.f k t283 a1 a2).bind fun bt286 => ((laws_eqInt64S.f k bt286.1 bt278.1).bind fun t291 => (if t291 = true then (if bt286.2.1 = bt278.2.1 then (laws_FnExactCheapestMix.j0 k l0 a1 a2 bt278.1 bt278.2.1 bt278.2.2 t283 bt286.1 bt286.2.1 bt286.2.2 (bt286.2.2 != bt278.2.2)) else (laws_FnExactCheapestMix.j0 k l0 a1 a2 bt278.1 bt278.2.1 bt278.2.2 t283 bt286.1 bt286.2.1 bt286.2.2 true)) else (laws_FnExactCheapestMix.j0 k l0 a1 a2 bt278.1 bt278.2.1 bt278.2.2 t283 bt286.1 bt286.2.1 bt286.2.2 true)))))) = some r := H
  have A7 := As0.mk A70
  clear A70
  replace H := Option.bind_eq_some_iff.mp H
  obtain ⟨⟨t278, t279, t280⟩, A80, H⟩ := H
  replace H : ((laws_toFuelS.f k l0).bind fun t283 => ((impl_CheapestMix.f k t283 a1 a2).bind fun bt286 => ((laws_eqInt64S.f k bt286.1 t278).bind fun t291 => (if t291 = true then (if bt286.2.1 = t279 then (laws_FnExactCheapestMix.j0 k l0 a1 a2 t278 t279 t280 t283 bt286.1 bt286.2.1 bt286.2.2 (bt286.2.2 != t280)) else (laws_FnExactCheapestMix.j0 k l0 a1 a2 t278 t279 t280 t283 bt286.1 bt286.2.1 bt286.2.2 true)) else (laws_FnExactCheapestMix.j0 k l0 a1 a2 t278 t279 t280 t283 bt286.1 bt286.2.1 bt286.2.2 true))))) = some r := H
  have A8 := As0.mk A80
  clear A80
  replace H := Option.bind_eq_some_iff.mp H
  obtain ⟨t283, A90, H⟩ := H
  replace H : ((impl_CheapestMix.f k t283 a1 a2).bind fun bt286 => ((laws_eqInt64S.f k bt286.1 t278).bind fun t291 => (if t291 = true then (if bt286.2.1 = t279 then (laws_FnExactCheapestMix.j0 k l0 a1 a2 t278 t279 t280 t283 bt286.1 bt286.2.1 bt286.2.2 (bt286.2.2 != t280)) else (laws_FnExactCheapestMix.j0 k l0 a1 a2 t278 t279 t280 t283 bt286.1 bt286.2.1 bt286.2.2 true)) else (laws_FnExactCheapestMix.j0 k l0 a1 a2 t278 t279 t280 t283 bt286.1 bt286.2.1 bt286.2.2 true)))) = some r := H
  have A9 := As0.mk A90
  clear A90
  replace H := Option.bind_eq_some_iff.mp H
  obtain ⟨⟨t286, t287, t288⟩, A100, H⟩ := H
  replace H : ((laws_eqInt64S.f k t286 t278).bind fun t291 => (if t291 = true then (if t287 = t279 then (laws_FnExactCheapestMix.j0 k l0 a1 a2 t278 t279 t280 t283 t286 t287 t288 (t288 != t280)) else (laws_FnExactCheapestMix.j0 k l0 a1 a2 t278 t279 t280 t283 t286 t287 t288 true)) else (laws_FnExactCheapestMix.j0 k l0 a1 a2 t278 t279 t280 t283 t286 t287 t288 true))) = some r := H
  have A10 := As0.mk A100
  clear A100
  have HC11 := As0.mk H
  clear H
  go_enter Try.func5, Try.ntmps5
  go_upto_region 8 with (first | ((with_reducible refine gce (f := 6) rfl ?_); refine goesL_ (some 23) rfl rfl Try.func6 (by kernel_rfl) rfl #[.slice A0 l0.length c0, .int .i64 1048576] rfl (by (try simp only [List.map_toArray, List.map_cons, List.map_nil]); first | done | rfl | (simp only [List.length_drop, List.length_take]; rfl)) ?_; (with_reducible refine (laws_szFuelS.calls k _ _ l0 1048576 t274 _ ?side1 ?side2 A4.out).mono ?_); (case side1 => repeat (first | exact HR0.out | (with_reducible refine Kd.C_alloc ?_ _) | (with_reducible refine Kd.C_drewN ?_ _) | (with_reducible refine Kd.C_drew ?_))); (case side2 => exact HC0.out); rintro e w12 ⟨rfl, hb⟩; refine ⟨_, rfl, ?_⟩; have n0_ := As0.mk (bsp (by repeat (with_reducible first | exact HB.out | apply bal | apply pbN | apply bdw)) hb); clear HB; have HB := n0_; clear n0_; (try clear hb); (try clear hb2); (try clear hk); (try clear hi)) | ((with_reducible refine gce (f := 8) rfl ?_); refine goesL_ (some 28) rfl rfl Try.func8 (by kernel_rfl) rfl #[.slice A0 l0.length c0] rfl (by (try simp only [List.map_toArray, List.map_cons, List.map_nil]); first | done | rfl | (simp only [List.length_drop, List.length_take]; rfl)) ?_; (with_reducible refine (laws_toFuelS.calls k _ _ l0 t275 _ ?side1 ?side2 A7.out).mono ?_); (case side1 => repeat (first | exact (Kd.C_below HR0.out HB.out) | (with_reducible refine Kd.C_alloc ?_ _) | (with_reducible refine Kd.C_drewN ?_ _) | (with_reducible refine Kd.C_drew ?_))); (case side2 => exact HC0.out); rintro e w13 ⟨v276, rfl, ho0, hb⟩; refine ⟨_, rfl, ?_⟩; have n0_ := As0.mk (Kd.R_lower ho0 (bsz (by repeat (with_reducible first | exact HB.out | apply bal | apply pbN | apply bdw)))); have n1_ := As0.mk (bsp (by repeat (with_reducible first | exact HB.out | apply bal | apply pbN | apply bdw)) hb); clear HB; have HO277 := n0_; have HB := n1_; clear n0_ n1_; (try clear hb); (try clear hb2); (try clear hk); (try clear hi); (try clear ho0); obtain ⟨Ao14, co14, eo14⟩ := Kd.R_slice HO277.out; subst eo14) | ((with_reducible refine gce (f := 17) rfl ?_); refine goesL_ (some 31) rfl rfl Try.func17 (by kernel_rfl) rfl #[.slice Ao14 t275.length co14, .int .i64 a1, .int .i64 a2] rfl (by (try simp only [List.map_toArray, List.map_cons, List.map_nil]); first | done | rfl | (simp only [List.length_drop, List.length_take]; rfl)) ?_; (with_reducible refine (spec_CheapestMix.calls k _ _ t275 a1 a2 t278 t279 t280 _ ?side1 ?side2 A8.out).mono ?_); (case side1 => repeat (first | exact (Kd.R_reads' HO277.out).2.2 | (with_reducible refine Kd.C_alloc ?_ _) | (with_reducible refine Kd.C_drewN ?_ _) | (with_reducible refine Kd.C_drew ?_))); (case side2 => exact (Kd.R_reads' HO277.out).2.1); rintro e w15 ⟨v281, rfl, ho0, hb⟩; refine ⟨_, rfl, ?_⟩; have n0_ := As0.mk (Kd.R_below (by (with_reducible repeat (first | apply Kd.R_alloc | apply Kd.R_drewN | apply Kd.R_drew)); exact HO277.out) hb); have n1_ := As0.mk (Kd.R_lower ho0 (bsz (by repeat (with_reducible first | exact HB.out | apply bal | apply pbN | apply bdw)))); have n2_ := As0.mk (bsp (by repeat (with_reducible first | exact HB.out | apply bal | apply pbN | apply bdw)) hb); clear HO277; clear HB; have HO277 := n0_; have HO282 := n1_; have HB := n2_; clear n0_ n1_ n2_; (try clear hb); (try clear hb2); (try clear hk); (try clear hi); (try clear ho0)) | ((with_reducible refine gce (f := 8) rfl ?_); refine goesL_ (some 36) rfl rfl Try.func8 (by kernel_rfl) rfl #[.slice A0 l0.length c0] rfl (by (try simp only [List.map_toArray, List.map_cons, List.map_nil]); first | done | rfl | (simp only [List.length_drop, List.length_take]; rfl)) ?_; (with_reducible refine (laws_toFuelS.calls k _ _ l0 t283 _ ?side1 ?side2 A9.out).mono ?_); (case side1 => repeat (first | exact (Kd.C_below HR0.out HB.out) | (with_reducible refine Kd.C_alloc ?_ _) | (with_reducible refine Kd.C_drewN ?_ _) | (with_reducible refine Kd.C_drew ?_))); (case side2 => exact HC0.out); rintro e w16 ⟨v284, rfl, ho0, hb⟩; refine ⟨_, rfl, ?_⟩; have n0_ := As0.mk (Kd.R_elder' (by (with_reducible repeat (first | apply Kd.R_alloc | apply Kd.R_drewN | apply Kd.R_drew)); exact HO277.out) (Kd.R_base ho0) hb); have n1_ := As0.mk (Kd.R_below (by (with_reducible repeat (first | apply Kd.R_alloc | apply Kd.R_drewN | apply Kd.R_drew)); exact HO282.out) hb); have n2_ := As0.mk (Kd.R_lower (Kd.R_new' ho0 (Kd.R_lt (by (with_reducible repeat (first | apply Kd.R_alloc | apply Kd.R_drewN | apply Kd.R_drew)); exact HO277.out))) (bsz (by repeat (with_reducible first | exact HB.out | apply bal | apply pbN | apply bdw)))); have n3_ := As0.mk (bsp (by repeat (with_reducible first | exact HB.out | apply bal | apply pbN | apply bdw)) hb); clear HO277; clear HO282; clear HB; have HO277 := n0_; have HO282 := n1_; have HO285 := n2_; have HB := n3_; clear n0_ n1_ n2_ n3_; (try clear hb); (try clear hb2); (try clear hk); (try clear hi); (try clear ho0); obtain ⟨Ao17, co17, eo17⟩ := Kd.R_slice HO285.out; subst eo17) | ((with_reducible refine gce (f := 18) rfl ?_); refine goesL_ (some 41) rfl rfl Try.func18 (by kernel_rfl) rfl #[.slice Ao17 t283.length co17, .int .i64 a1, .int .i64 a2] rfl (by (try simp only [List.map_toArray, List.map_cons, List.map_nil]); first | done | rfl | (simp only [List.length_drop, List.length_take]; rfl)) ?_; (with_reducible refine (impl_CheapestMix.calls k _ _ t283 a1 a2 t286 t287 t288 _ ?side1 ?side2 A10.out).mono ?_); (case side1 => repeat (first | exact (Kd.R_reads' HO285.out).2.2 | (with_reducible refine Kd.C_alloc ?_ _) | (with_reducible refine Kd.C_drewN ?_ _) | (with_reducible refine Kd.C_drew ?_))); (case side2 => exact (Kd.R_reads' HO285.out).2.1); rintro e w18 ⟨v289, rfl, ho0, hb⟩; refine ⟨_, rfl, ?_⟩; have n0_ := As0.mk (Kd.R_below (by (with_reducible repeat (first | apply Kd.R_alloc | apply Kd.R_drewN | apply Kd.R_drew)); exact HO277.out) hb); have n1_ := As0.mk (Kd.R_elder' (by (with_reducible repeat (first | apply Kd.R_alloc | apply Kd.R_drewN | apply Kd.R_drew)); exact HO282.out) (Kd.R_base ho0) hb); have n2_ := As0.mk (Kd.R_below (by (with_reducible repeat (first | apply Kd.R_alloc | apply Kd.R_drewN | apply Kd.R_drew)); exact HO285.out) hb); have n3_ := As0.mk (Kd.R_lower (Kd.R_new' ho0 (Kd.R_lt (by (with_reducible repeat (first | apply Kd.R_alloc | apply Kd.R_drewN | apply Kd.R_drew)); exact HO282.out))) (bsz (by repeat (with_reducible first | exact HB.out | apply bal | apply pbN | apply bdw)))); have n4_ := As0.mk (bsp (by repeat (with_reducible first | exact HB.out | apply bal | apply pbN | apply bdw)) hb); clear HO277; clear HO282; clear HO285; clear HB; have HO277 := n0_; have HO282 := n1_; have HO285 := n2_; have HO290 := n3_; have HB := n4_; clear n0_ n1_ n2_ n3_ n4_; (try clear hb); (try clear hb2); (try clear hk); (try clear hi); (try clear ho0)))
  (try simp only [Act.put, sla, slz, sls])
  go_cut [58] (fun v58 wc => ∃ (kq : Nat) (x58_10 : Bool), v58 = .bool x58_10 ∧ As0 (laws_FnExactCheapestMix.j0 kq l0 a1 a2 t278 t279 t280 t283 t286 t287 t288 x58_10 = some r) ∧ As0 (kq ≤ k) ∧ As0 (Kd.R (Kd.int .i64) 2 wc w.heap.size (fun k_ => some k_ ≠ (v289 : Value).ownBlock) v281 t278) ∧ As0 (Kd.R k46 46 wc w.heap.size (fun _ => True) (.slice Ao17 t283.length co17) t283) ∧ As0 (Kd.R (Kd.int .i64) 2 wc w.heap.size (fun k_ => some k_ ≠ (v281 : Value).ownBlock) v289 t286) ∧ As0 (Below w.heap.size w wc))
  case first =>
   have H := HC11.out
   clear HC11
   replace H := Option.bind_eq_some_iff.mp H
   obtain ⟨t291, A190, H⟩ := H
   replace H : (if t291 = true then (if t287 = t279 then (laws_FnExactCheapestMix.j0 k l0 a1 a2 t278 t279 t280 t283 t286 t287 t288 (t288 != t280)) else (laws_FnExactCheapestMix.j0 k l0 a1 a2 t278 t279 t280 t283 t286 t287 t288 true)) else (laws_FnExactCheapestMix.j0 k l0 a1 a2 t278 t279 t280 t283 t286 t287 t288 true)) = some r := H
   have A19 := As0.mk A190
   clear A190
   by_cases c20 : t291 = true
   ·subst c20
    have H1 : (if t287 = t279 then (laws_FnExactCheapestMix.j0 k l0 a1 a2 t278 t279 t280 t283 t286 t287 t288 (t288 != t280)) else (laws_FnExactCheapestMix.j0 k l0 a1 a2 t278 t279 t280 t283 t286 t287 t288 true)) = some r := by rw [if_pos rfl] at H; exact H
    clear H
    have H := H1
    clear H1
    by_cases c21 : t287 = t279
    ·rw [if_pos c21] at H
     have c21b0 : (t287 == t279) = true := beq_iff_eq.mpr c21
     have c21b1 : (t287 != t279) = false := bne_eq_false_iff_eq.mpr c21
     clear c21
     (first | rw [c21b0] | (simp only [i64_w, i32_w]; rw [c21b0]) | skip)
     have H' := As0.mk H
     clear H
     obtain ⟨Ao22, co22, eo22⟩ := Kd.R_slice HO290.out
     subst eo22
     obtain ⟨Ao23, co23, eo23⟩ := Kd.R_slice HO282.out
     subst eo23
     go_wp2_with (first | ((with_reducible refine gce (f := 13) rfl ?_); refine goesL_ (some 47) rfl rfl Try.func13 (by kernel_rfl) rfl #[.slice Ao22 t286.length co22, .slice Ao23 t278.length co23] rfl (by (try simp only [List.map_toArray, List.map_cons, List.map_nil]); first | done | rfl | (simp only [List.length_drop, List.length_take]; rfl)) ?_; (with_reducible refine (laws_eqInt64S.calls k _ _ t286 _ _ t278 true _ ?side1 ?side2 ?side3 ?side4 A19.out).mono ?_); (case side1 => repeat (first | exact (Kd.R_reads' HO290.out).2.2 | (with_reducible refine Kd.C_alloc ?_ _) | (with_reducible refine Kd.C_drewN ?_ _) | (with_reducible refine Kd.C_drew ?_))); (case side2 => exact (Kd.R_reads' HO290.out).2.1); (case side3 => repeat (first | exact (Kd.R_reads' HO282.out).2.2 | (with_reducible refine Kd.C_alloc ?_ _) | (with_reducible refine Kd.C_drewN ?_ _) | (with_reducible refine Kd.C_drew ?_))); (case side4 => exact (Kd.R_reads' HO282.out).2.1); rintro e w' ⟨rfl, ⟨nd, rfl⟩⟩; refine ⟨_, rfl, ?_⟩))
     go_meet
     case rel => exact ⟨_, ((t288 != t280)), (by first | rfl | (simp; done) | (simp [*]; done)), H', ⟨by first | omega | exact Nat.le_refl _⟩, ⟨by (with_reducible repeat (first | apply Kd.R_alloc | apply Kd.R_drewN | apply Kd.R_drew)); exact Kd.R_mono HO282.out (fun _ hk => hk.2)⟩, ⟨by (with_reducible repeat (first | apply Kd.R_alloc | apply Kd.R_drewN | apply Kd.R_drew)); exact Kd.R_mono HO285.out (fun _ hk => trivial)⟩, ⟨by (with_reducible repeat (first | apply Kd.R_alloc | apply Kd.R_drewN | apply Kd.R_drew)); exact Kd.R_mono HO290.out (fun _ hk => hk.2)⟩, ⟨by repeat (with_reducible first | exact HB.out | apply bal | apply pbN | apply bdw)⟩⟩
    ·rw [if_neg c21] at H
     have c21b0 : (t287 == t279) = false := beq_eq_false_iff_ne.mpr c21
     have c21b1 : (t287 != t279) = true := bne_iff_ne.mpr c21
     (first | rw [c21b0] | (simp only [i64_w, i32_w]; rw [c21b0]) | skip)
     have H' := As0.mk H
     clear H
     obtain ⟨Ao24, co24, eo24⟩ := Kd.R_slice HO290.out
     subst eo24
     obtain ⟨Ao25, co25, eo25⟩ := Kd.R_slice HO282.out
     subst eo25
     go_wp2_with (first | ((with_reducible refine gce (f := 13) rfl ?_); refine goesL_ (some 47) rfl rfl Try.func13 (by kernel_rfl) rfl #[.slice Ao24 t286.length co24, .slice Ao25 t278.length co25] rfl (by (try simp only [List.map_toArray, List.map_cons, List.map_nil]); first | done | rfl | (simp only [List.length_drop, List.length_take]; rfl)) ?_; (with_reducible refine (laws_eqInt64S.calls k _ _ t286 _ _ t278 true _ ?side1 ?side2 ?side3 ?side4 A19.out).mono ?_); (case side1 => repeat (first | exact (Kd.R_reads' HO290.out).2.2 | (with_reducible refine Kd.C_alloc ?_ _) | (with_reducible refine Kd.C_drewN ?_ _) | (with_reducible refine Kd.C_drew ?_))); (case side2 => exact (Kd.R_reads' HO290.out).2.1); (case side3 => repeat (first | exact (Kd.R_reads' HO282.out).2.2 | (with_reducible refine Kd.C_alloc ?_ _) | (with_reducible refine Kd.C_drewN ?_ _) | (with_reducible refine Kd.C_drew ?_))); (case side4 => exact (Kd.R_reads' HO282.out).2.1); rintro e w' ⟨rfl, ⟨nd, rfl⟩⟩; refine ⟨_, rfl, ?_⟩))
     go_meet
     case rel => exact ⟨_, (true), (by first | rfl | (simp; done) | (simp [*]; done)), H', ⟨by first | omega | exact Nat.le_refl _⟩, ⟨by (with_reducible repeat (first | apply Kd.R_alloc | apply Kd.R_drewN | apply Kd.R_drew)); exact Kd.R_mono HO282.out (fun _ hk => hk.2)⟩, ⟨by (with_reducible repeat (first | apply Kd.R_alloc | apply Kd.R_drewN | apply Kd.R_drew)); exact Kd.R_mono HO285.out (fun _ hk => trivial)⟩, ⟨by (with_reducible repeat (first | apply Kd.R_alloc | apply Kd.R_drewN | apply Kd.R_drew)); exact Kd.R_mono HO290.out (fun _ hk => hk.2)⟩, ⟨by repeat (with_reducible first | exact HB.out | apply bal | apply pbN | apply bdw)⟩⟩
   ·replace c20 := Bool.eq_false_iff.mpr c20
    subst c20
    have H1 : (laws_FnExactCheapestMix.j0 k l0 a1 a2 t278 t279 t280 t283 t286 t287 t288 true) = some r := by rw [if_neg (show ¬ (false = true) by decide)] at H; exact H
    clear H
    have H := H1
    clear H1
    have H' := As0.mk H
    clear H
    obtain ⟨Ao26, co26, eo26⟩ := Kd.R_slice HO290.out
    subst eo26
    obtain ⟨Ao27, co27, eo27⟩ := Kd.R_slice HO282.out
    subst eo27
    go_wp2_with (first | ((with_reducible refine gce (f := 13) rfl ?_); refine goesL_ (some 47) rfl rfl Try.func13 (by kernel_rfl) rfl #[.slice Ao26 t286.length co26, .slice Ao27 t278.length co27] rfl (by (try simp only [List.map_toArray, List.map_cons, List.map_nil]); first | done | rfl | (simp only [List.length_drop, List.length_take]; rfl)) ?_; (with_reducible refine (laws_eqInt64S.calls k _ _ t286 _ _ t278 false _ ?side1 ?side2 ?side3 ?side4 A19.out).mono ?_); (case side1 => repeat (first | exact (Kd.R_reads' HO290.out).2.2 | (with_reducible refine Kd.C_alloc ?_ _) | (with_reducible refine Kd.C_drewN ?_ _) | (with_reducible refine Kd.C_drew ?_))); (case side2 => exact (Kd.R_reads' HO290.out).2.1); (case side3 => repeat (first | exact (Kd.R_reads' HO282.out).2.2 | (with_reducible refine Kd.C_alloc ?_ _) | (with_reducible refine Kd.C_drewN ?_ _) | (with_reducible refine Kd.C_drew ?_))); (case side4 => exact (Kd.R_reads' HO282.out).2.1); rintro e w' ⟨rfl, ⟨nd, rfl⟩⟩; refine ⟨_, rfl, ?_⟩))
    go_meet
    case rel => exact ⟨_, (true), (by first | rfl | (simp; done) | (simp [*]; done)), H', ⟨by first | omega | exact Nat.le_refl _⟩, ⟨by (with_reducible repeat (first | apply Kd.R_alloc | apply Kd.R_drewN | apply Kd.R_drew)); exact Kd.R_mono HO282.out (fun _ hk => hk.2)⟩, ⟨by (with_reducible repeat (first | apply Kd.R_alloc | apply Kd.R_drewN | apply Kd.R_drew)); exact Kd.R_mono HO285.out (fun _ hk => trivial)⟩, ⟨by (with_reducible repeat (first | apply Kd.R_alloc | apply Kd.R_drewN | apply Kd.R_drew)); exact Kd.R_mono HO290.out (fun _ hk => hk.2)⟩, ⟨by repeat (with_reducible first | exact HB.out | apply bal | apply pbN | apply bdw)⟩⟩
  case rest =>
   clear HC11
   try clear c1
   try clear c2
   try clear p2
   try clear c5
   try clear c5b0
   try clear c6
   try clear c8
   try clear c13
   try clear c17
   try clear c18
   try clear c20
   try clear c21
   try clear c21b0
   try clear c21b1
   obtain ⟨kq, x58_10, rfl, HA, HJ10, HO_8, HO_11, HO_12, HB⟩ := hcut
   cases kq with
   | zero => exact absurd HA.out (by simp [laws_FnExactCheapestMix.j0])
   | succ kj10 =>
    have H := HA.out
    clear HA
    simp only [laws_FnExactCheapestMix.j0] at H
    by_cases c28 : x58_10 = true
    ·subst c28
     have H1 : (some false) = some r := by rw [if_pos rfl] at H; exact H
     clear H
     have H := H1
     clear H1
     obtain rfl := Option.some.inj H
     go_wp2
     go_ret
     exact ⟨by first | rfl | (simp [eWn, eWs] <;> rfl) | (simp [*, eWn, eWs] <;> rfl), by repeat (with_reducible first | exact HB.out | apply bal | apply pbN | apply bdw)⟩
    ·replace c28 := Bool.eq_false_iff.mpr c28
     subst c28
     have H1 : ((laws_toFuelS.f kj10 l0).bind fun t292 => ((laws_eqFuelS.f kj10 t283 t292).bind fun t295 => (if t295 = true then ((laws_markFuelS.f kj10 t283 1).bind fun bt296 => (if bt296.1 < 0 then (laws_FnExactCheapestMix.j1 kj10 l0 a1 a2 t278 t279 t280 t286 true) else ((laws_eqInt64S.f kj10 t286 t278).bind fun t298 => (if t298 = true then (if t287 = t279 then (laws_FnExactCheapestMix.j1 kj10 l0 a1 a2 t278 t279 t280 t286 (t288 != t280)) else (laws_FnExactCheapestMix.j1 kj10 l0 a1 a2 t278 t279 t280 t286 true)) else (laws_FnExactCheapestMix.j1 kj10 l0 a1 a2 t278 t279 t280 t286 true))))) else (some false)))) = some r := by rw [if_neg (show ¬ (false = true) by decide)] at H; exact H
     clear H
     have H := H1
     clear H1
     replace H := Option.bind_eq_some_iff.mp H
     obtain ⟨t292, A290, H⟩ := H
     replace H : ((laws_eqFuelS.f kj10 t283 t292).bind fun t295 => (if t295 = true then ((laws_markFuelS.f kj10 t283 1).bind fun bt296 => (if bt296.1 < 0 then (laws_FnExactCheapestMix.j1 kj10 l0 a1 a2 t278 t279 t280 t286 true) else ((laws_eqInt64S.f kj10 t286 t278).bind fun t298 => (if t298 = true then (if t287 = t279 then (laws_FnExactCheapestMix.j1 kj10 l0 a1 a2 t278 t279 t280 t286 (t288 != t280)) else (laws_FnExactCheapestMix.j1 kj10 l0 a1 a2 t278 t279 t280 t286 true)) else (laws_FnExactCheapestMix.j1 kj10 l0 a1 a2 t278 t279 t280 t286 true))))) else (some false))) = some r := H
     have A29 := As0.mk A290
     clear A290
     replace H := Option.bind_eq_some_iff.mp H
     obtain ⟨t295, A300, H⟩ := H
     replace H : (if t295 = true then ((laws_markFuelS.f kj10 t283 1).bind fun bt296 => (if bt296.1 < 0 then (laws_FnExactCheapestMix.j1 kj10 l0 a1 a2 t278 t279 t280 t286 true) else ((laws_eqInt64S.f kj10 t286 t278).bind fun t298 => (if t298 = true then (if t287 = t279 then (laws_FnExactCheapestMix.j1 kj10 l0 a1 a2 t278 t279 t280 t286 (t288 != t280)) else (laws_FnExactCheapestMix.j1 kj10 l0 a1 a2 t278 t279 t280 t286 true)) else (laws_FnExactCheapestMix.j1 kj10 l0 a1 a2 t278 t279 t280 t286 true))))) else (some false)) = some r := H
     have A30 := As0.mk A300
     clear A300
     by_cases c31 : t295 = true
     ·subst c31
      have H1 : ((laws_markFuelS.f kj10 t283 1).bind fun bt296 => (if bt296.1 < 0 then (laws_FnExactCheapestMix.j1 kj10 l0 a1 a2 t278 t279 t280 t286 true) else ((laws_eqInt64S.f kj10 t286 t278).bind fun t298 => (if t298 = true then (if t287 = t279 then (laws_FnExactCheapestMix.j1 kj10 l0 a1 a2 t278 t279 t280 t286 (t288 != t280)) else (laws_FnExactCheapestMix.j1 kj10 l0 a1 a2 t278 t279 t280 t286 true)) else (laws_FnExactCheapestMix.j1 kj10 l0 a1 a2 t278 t279 t280 t286 true))))) = some r := by rw [if_pos rfl] at H; exact H
      clear H
      have H := H1
      clear H1
      replace H := Option.bind_eq_some_iff.mp H
      obtain ⟨⟨t296, t297⟩, A320, H⟩ := H
      replace H : (if t296 < 0 then (laws_FnExactCheapestMix.j1 kj10 l0 a1 a2 t278 t279 t280 t286 true) else ((laws_eqInt64S.f kj10 t286 t278).bind fun t298 => (if t298 = true then (if t287 = t279 then (laws_FnExactCheapestMix.j1 kj10 l0 a1 a2 t278 t279 t280 t286 (t288 != t280)) else (laws_FnExactCheapestMix.j1 kj10 l0 a1 a2 t278 t279 t280 t286 true)) else (laws_FnExactCheapestMix.j1 kj10 l0 a1 a2 t278 t279 t280 t286 true)))) = some r := H
      have A32 := As0.mk A320
      clear A320
      have HC33 := As0.mk H
      clear H
      go_upto_region 14 with (first | ((with_reducible refine gce (f := 8) rfl ?_); refine goesL_ (some 61) rfl rfl Try.func8 (by kernel_rfl) rfl #[.slice A0 l0.length c0] rfl (by (try simp only [List.map_toArray, List.map_cons, List.map_nil]); first | done | rfl | (simp only [List.length_drop, List.length_take]; rfl)) ?_; (with_reducible refine (laws_toFuelS.calls kj10 _ _ l0 t292 _ ?side1 ?side2 A29.out).mono ?_); (case side1 => repeat (first | exact (Kd.C_below HR0.out HB.out) | (with_reducible refine Kd.C_alloc ?_ _) | (with_reducible refine Kd.C_drewN ?_ _) | (with_reducible refine Kd.C_drew ?_))); (case side2 => exact HC0.out); rintro e w34 ⟨v293, rfl, ho0, hb⟩; refine ⟨_, rfl, ?_⟩; have n0_ := As0.mk (Kd.R_below (by (with_reducible repeat (first | apply Kd.R_alloc | apply Kd.R_drewN | apply Kd.R_drew)); exact HO_8.out) hb); have n1_ := As0.mk (Kd.R_elder' (by (with_reducible repeat (first | apply Kd.R_alloc | apply Kd.R_drewN | apply Kd.R_drew)); exact HO_11.out) (Kd.R_base ho0) hb); have n2_ := As0.mk (Kd.R_below (by (with_reducible repeat (first | apply Kd.R_alloc | apply Kd.R_drewN | apply Kd.R_drew)); exact HO_12.out) hb); have n3_ := As0.mk (Kd.R_lower (Kd.R_new' ho0 (Kd.R_lt (by (with_reducible repeat (first | apply Kd.R_alloc | apply Kd.R_drewN | apply Kd.R_drew)); exact HO_11.out))) (bsz (by repeat (with_reducible first | exact HB.out | apply bal | apply pbN | apply bdw)))); have n4_ := As0.mk (bsp (by repeat (with_reducible first | exact HB.out | apply bal | apply pbN | apply bdw)) hb); clear HO_8; clear HO_11; clear HO_12; clear HB; have HO_8 := n0_; have HO_11 := n1_; have HO_12 := n2_; have HO294 := n3_; have HB := n4_; clear n0_ n1_ n2_ n3_ n4_; (try clear hb); (try clear hb2); (try clear hk); (try clear hi); (try clear ho0); obtain ⟨Ao35, co35, eo35⟩ := Kd.R_slice HO294.out; subst eo35) | ((with_reducible refine gce (f := 10) rfl ?_); refine goesL_ (some 62) rfl rfl Try.func10 (by kernel_rfl) rfl #[.slice Ao17 t283.length co17, .slice Ao35 t292.length co35] rfl (by (try simp only [List.map_toArray, List.map_cons, List.map_nil]); first | done | rfl | (simp only [List.length_drop, List.length_take]; rfl)) ?_; (with_reducible refine (laws_eqFuelS.calls kj10 _ _ t283 _ _ t292 true _ ?side1 ?side2 ?side3 ?side4 A30.out).mono ?_); (case side1 => repeat (first | exact (Kd.R_reads' HO_11.out).2.2 | (with_reducible refine Kd.C_alloc ?_ _) | (with_reducible refine Kd.C_drewN ?_ _) | (with_reducible refine Kd.C_drew ?_))); (case side2 => exact (Kd.R_reads' HO_11.out).2.1); (case side3 => repeat (first | exact (Kd.R_reads' HO294.out).2.2 | (with_reducible refine Kd.C_alloc ?_ _) | (with_reducible refine Kd.C_drewN ?_ _) | (with_reducible refine Kd.C_drew ?_))); (case side4 => exact (Kd.R_reads' HO294.out).2.1); rintro e w36 ⟨rfl, hb⟩; refine ⟨_, rfl, ?_⟩; have n0_ := As0.mk (Kd.R_below (by (with_reducible repeat (first | apply Kd.R_alloc | apply Kd.R_drewN | apply Kd.R_drew)); exact HO_8.out) hb); have n1_ := As0.mk (Kd.R_below (by (with_reducible repeat (first | apply Kd.R_alloc | apply Kd.R_drewN | apply Kd.R_drew)); exact HO_11.out) hb); have n2_ := As0.mk (Kd.R_below (by (with_reducible repeat (first | apply Kd.R_alloc | apply Kd.R_drewN | apply Kd.R_drew)); exact HO_12.out) hb); have n3_ := As0.mk (Kd.R_below (by (with_reducible repeat (first | apply Kd.R_alloc | apply Kd.R_drewN | apply Kd.R_drew)); exact HO294.out) hb); have n4_ := As0.mk (bsp (by repeat (with_reducible first | exact HB.out | apply bal | apply pbN | apply bdw)) hb); clear HO_8; clear HO_11; clear HO_12; clear HO294; clear HB; have HO_8 := n0_; have HO_11 := n1_; have HO_12 := n2_; have HO294 := n3_; have HB := n4_; clear n0_ n1_ n2_ n3_ n4_; (try clear hb); (try clear hb2); (try clear hk); (try clear hi)) | ((with_reducible refine gce (f := 14) rfl ?_); refine goesL_ (some 66) rfl rfl Try.func14 (by kernel_rfl) rfl #[.slice Ao17 t283.length co17, .int .i64 1] rfl (by (try simp only [List.map_toArray, List.map_cons, List.map_nil]); first | done | rfl | (simp only [List.length_drop, List.length_take]; rfl)) ?_; (with_reducible refine (laws_markFuelS.calls kj10 (fun k_ => some k_ = (.slice Ao17 t283.length co17 : Value).ownBlock) (.slice Ao17 t283.length co17) t283 1 t296 t297 w _ ?side1 ?side2 A32.out).mono ?_); (case side1 => repeat (with_reducible first | exact HB.out | apply bal | apply pbN | apply bdw)); (case side2 => exact Kd.R_tight rfl HO_11.out); rintro e w37 ⟨rfl, hy0, hb, hkp⟩; refine ⟨_, rfl, ?_⟩; have n0_ := As0.mk (Kd.R_mono (ok' := fun k_ => some k_ ≠ (v289 : Value).ownBlock) (Kd.R_keptB ((Kd.R_apart' HO_8.out (Kd.R_typed HO_11.out) (by decide))) hkp (fun k_ hk_ hs_ => (hk_.2) hs_)) (fun k_ hk_ => hk_.1.1)); have n1_ := As0.mk (Kd.R_reok rfl hy0 (fun k_ e_ => HO_11.out.1 k_ e_)); have n2_ := As0.mk (Kd.R_mono (ok' := fun k_ => some k_ ≠ (v281 : Value).ownBlock) (Kd.R_keptB ((Kd.R_apart' HO_12.out (Kd.R_typed HO_11.out) (by decide))) hkp (fun k_ hk_ hs_ => (hk_.2) hs_)) (fun k_ hk_ => hk_.1.1)); have n3_ := As0.mk (Kd.R_mono (ok' := fun k_ => some k_ ≠ (.slice Ao17 t283.length co17 : Value).ownBlock) (Kd.R_keptB (HO294.out) hkp (fun k_ hk_ hs_ => (hk_.2) hs_)) (fun k_ hk_ => hk_.1.2)); have n4_ := As0.mk (hb); clear HO_8; clear HO_11; clear HO_12; clear HO294; clear HB; have HO_8 := n0_; have HO_11 := n1_; have HO_12 := n2_; have HO294 := n3_; have HB := n4_; clear n0_ n1_ n2_ n3_ n4_; (try clear hb); (try clear hkp); (try clear hy0)))
      (try simp only [Act.put, sla, slz, sls])
      go_cut [84] (fun v84 wc => ∃ (kq : Nat) (x84_32 : Bool), v84 = .bool x84_32 ∧ As0 (laws_FnExactCheapestMix.j1 kq l0 a1 a2 t278 t279 t280 t286 x84_32 = some r) ∧ As0 (kq ≤ kj10) ∧ As0 (Kd.R (Kd.int .i64) 2 wc w.heap.size (fun k_ => some k_ ≠ (v289 : Value).ownBlock) v281 t278) ∧ As0 (Kd.R (Kd.int .i64) 2 wc w.heap.size (fun k_ => some k_ ≠ (v281 : Value).ownBlock) v289 t286) ∧ As0 (Below w.heap.size w wc))
      case first =>
       have H := HC33.out
       clear HC33
       by_cases c38 : t296 < 0
       ·rw [if_pos c38] at H
        have c38b0 : decide (t296 < 0) = true := decide_eq_true c38
        clear c38
        (first | rw [c38b0] | (simp only [i64_w, i32_w]; rw [c38b0]) | skip)
        have H' := As0.mk H
        clear H
        go_wp2
        go_meet
        case rel => exact ⟨_, (true), (by first | rfl | (simp; done) | (simp [*]; done)), H', ⟨by have := HJ10.out; first | omega | exact Nat.le_refl _⟩, ⟨by (with_reducible repeat (first | apply Kd.R_alloc | apply Kd.R_drewN | apply Kd.R_drew)); exact HO_8.out⟩, ⟨by (with_reducible repeat (first | apply Kd.R_alloc | apply Kd.R_drewN | apply Kd.R_drew)); exact HO_12.out⟩, ⟨by repeat (with_reducible first | exact HB.out | apply bal | apply pbN | apply bdw)⟩⟩
       ·rw [if_neg c38] at H
        have c38b0 : decide (t296 < 0) = false := decide_eq_false c38
        clear c38
        (first | rw [c38b0] | (simp only [i64_w, i32_w]; rw [c38b0]) | skip)
        replace H := Option.bind_eq_some_iff.mp H
        obtain ⟨t298, A390, H⟩ := H
        replace H : (if t298 = true then (if t287 = t279 then (laws_FnExactCheapestMix.j1 kj10 l0 a1 a2 t278 t279 t280 t286 (t288 != t280)) else (laws_FnExactCheapestMix.j1 kj10 l0 a1 a2 t278 t279 t280 t286 true)) else (laws_FnExactCheapestMix.j1 kj10 l0 a1 a2 t278 t279 t280 t286 true)) = some r := H
        have A39 := As0.mk A390
        clear A390
        by_cases c40 : t298 = true
        ·subst c40
         have H1 : (if t287 = t279 then (laws_FnExactCheapestMix.j1 kj10 l0 a1 a2 t278 t279 t280 t286 (t288 != t280)) else (laws_FnExactCheapestMix.j1 kj10 l0 a1 a2 t278 t279 t280 t286 true)) = some r := by rw [if_pos rfl] at H; exact H
         clear H
         have H := H1
         clear H1
         by_cases c41 : t287 = t279
         ·rw [if_pos c41] at H
          have c41b0 : (t287 == t279) = true := beq_iff_eq.mpr c41
          have c41b1 : (t287 != t279) = false := bne_eq_false_iff_eq.mpr c41
          clear c41
          have H' := As0.mk H
          clear H
          obtain ⟨Ao42, co42, eo42⟩ := Kd.R_slice HO_12.out
          subst eo42
          obtain ⟨Ao43, co43, eo43⟩ := Kd.R_slice HO_8.out
          subst eo43
          go_wp2_with (first | (go_at_call 13; (first | (with_reducible refine (laws_eqInt64S.calls kj10 _ _ t286 _ _ t278 true _ ?side1 ?side2 ?side3 ?side4 A39.out).mono ?_) | ((try simp only [Go.IntWalk.i64_left]); (with_reducible refine (laws_eqInt64S.calls kj10 _ _ t286 _ _ t278 true _ ?side1 ?side2 ?side3 ?side4 A39.out).mono ?_))); (case side1 => repeat (first | exact (Kd.R_reads' HO_12.out).2.2 | (with_reducible refine Kd.C_alloc ?_ _) | (with_reducible refine Kd.C_drewN ?_ _) | (with_reducible refine Kd.C_drew ?_))); (case side2 => exact (Kd.R_reads' HO_12.out).2.1); (case side3 => repeat (first | exact (Kd.R_reads' HO_8.out).2.2 | (with_reducible refine Kd.C_alloc ?_ _) | (with_reducible refine Kd.C_drewN ?_ _) | (with_reducible refine Kd.C_drew ?_))); (case side4 => exact (Kd.R_reads' HO_8.out).2.1); rintro e w' ⟨rfl, ⟨nd, rfl⟩⟩))
          go_meet
          case rel => exact ⟨_, ((t288 != t280)), (by first | rfl | (simp; done) | (simp [*]; done)), H', ⟨by have := HJ10.out; first | omega | exact Nat.le_refl _⟩, ⟨by (with_reducible repeat (first | apply Kd.R_alloc | apply Kd.R_drewN | apply Kd.R_drew)); exact HO_8.out⟩, ⟨by (with_reducible repeat (first | apply Kd.R_alloc | apply Kd.R_drewN | apply Kd.R_drew)); exact HO_12.out⟩, ⟨by repeat (with_reducible first | exact HB.out | apply bal | apply pbN | apply bdw)⟩⟩
         ·rw [if_neg c41] at H
          have c41b0 : (t287 == t279) = false := beq_eq_false_iff_ne.mpr c41
          have c41b1 : (t287 != t279) = true := bne_iff_ne.mpr c41
          have H' := As0.mk H
          clear H
          obtain ⟨Ao44, co44, eo44⟩ := Kd.R_slice HO_12.out
          subst eo44
          obtain ⟨Ao45, co45, eo45⟩ := Kd.R_slice HO_8.out
          subst eo45
          go_wp2_with (first | (go_at_call 13; (first | (with_reducible refine (laws_eqInt64S.calls kj10 _ _ t286 _ _ t278 true _ ?side1 ?side2 ?side3 ?side4 A39.out).mono ?_) | ((try simp only [Go.IntWalk.i64_left]); (with_reducible refine (laws_eqInt64S.calls kj10 _ _ t286 _ _ t278 true _ ?side1 ?side2 ?side3 ?side4 A39.out).mono ?_))); (case side1 => repeat (first | exact (Kd.R_reads' HO_12.out).2.2 | (with_reducible refine Kd.C_alloc ?_ _) | (with_reducible refine Kd.C_drewN ?_ _) | (with_reducible refine Kd.C_drew ?_))); (case side2 => exact (Kd.R_reads' HO_12.out).2.1); (case side3 => repeat (first | exact (Kd.R_reads' HO_8.out).2.2 | (with_reducible refine Kd.C_alloc ?_ _) | (with_reducible refine Kd.C_drewN ?_ _) | (with_reducible refine Kd.C_drew ?_))); (case side4 => exact (Kd.R_reads' HO_8.out).2.1); rintro e w' ⟨rfl, ⟨nd, rfl⟩⟩))
          go_meet
          case rel => exact ⟨_, (true), (by first | rfl | (simp; done) | (simp [*]; done)), H', ⟨by have := HJ10.out; first | omega | exact Nat.le_refl _⟩, ⟨by (with_reducible repeat (first | apply Kd.R_alloc | apply Kd.R_drewN | apply Kd.R_drew)); exact HO_8.out⟩, ⟨by (with_reducible repeat (first | apply Kd.R_alloc | apply Kd.R_drewN | apply Kd.R_drew)); exact HO_12.out⟩, ⟨by repeat (with_reducible first | exact HB.out | apply bal | apply pbN | apply bdw)⟩⟩
        ·replace c40 := Bool.eq_false_iff.mpr c40
         subst c40
         have H1 : (laws_FnExactCheapestMix.j1 kj10 l0 a1 a2 t278 t279 t280 t286 true) = some r := by rw [if_neg (show ¬ (false = true) by decide)] at H; exact H
         clear H
         have H := H1
         clear H1
         have H' := As0.mk H
         clear H
         obtain ⟨Ao46, co46, eo46⟩ := Kd.R_slice HO_12.out
         subst eo46
         obtain ⟨Ao47, co47, eo47⟩ := Kd.R_slice HO_8.out
         subst eo47
         go_wp2_with (first | (go_at_call 13; (first | (with_reducible refine (laws_eqInt64S.calls kj10 _ _ t286 _ _ t278 false _ ?side1 ?side2 ?side3 ?side4 A39.out).mono ?_) | ((try simp only [Go.IntWalk.i64_left]); (with_reducible refine (laws_eqInt64S.calls kj10 _ _ t286 _ _ t278 false _ ?side1 ?side2 ?side3 ?side4 A39.out).mono ?_))); (case side1 => repeat (first | exact (Kd.R_reads' HO_12.out).2.2 | (with_reducible refine Kd.C_alloc ?_ _) | (with_reducible refine Kd.C_drewN ?_ _) | (with_reducible refine Kd.C_drew ?_))); (case side2 => exact (Kd.R_reads' HO_12.out).2.1); (case side3 => repeat (first | exact (Kd.R_reads' HO_8.out).2.2 | (with_reducible refine Kd.C_alloc ?_ _) | (with_reducible refine Kd.C_drewN ?_ _) | (with_reducible refine Kd.C_drew ?_))); (case side4 => exact (Kd.R_reads' HO_8.out).2.1); rintro e w' ⟨rfl, ⟨nd, rfl⟩⟩))
         go_meet
         case rel => exact ⟨_, (true), (by first | rfl | (simp; done) | (simp [*]; done)), H', ⟨by have := HJ10.out; first | omega | exact Nat.le_refl _⟩, ⟨by (with_reducible repeat (first | apply Kd.R_alloc | apply Kd.R_drewN | apply Kd.R_drew)); exact HO_8.out⟩, ⟨by (with_reducible repeat (first | apply Kd.R_alloc | apply Kd.R_drewN | apply Kd.R_drew)); exact HO_12.out⟩, ⟨by repeat (with_reducible first | exact HB.out | apply bal | apply pbN | apply bdw)⟩⟩
      case rest =>
       clear HC33
       try clear c1
       try clear c2
       try clear p2
       try clear c3
       try clear c4
       try clear c5
       try clear c5b0
       try clear c6
       try clear c8
       try clear c10
       try clear c13
       try clear c14
       try clear c17
       try clear c18
       try clear c20
       try clear c21
       try clear c21b0
       try clear c21b1
       try clear c28
       try clear c31
       try clear c38
       try clear c38b0
       try clear c40
       try clear c41
       try clear c41b0
       try clear c41b1
       try clear p2
       obtain ⟨kq, x84_32, rfl, HA, HJ32, HO_8, HO_12, HB⟩ := hcut
       cases kq with
       | zero => exact absurd HA.out (by simp [laws_FnExactCheapestMix.j1])
       | succ kj32 =>
        have H := HA.out
        clear HA
        simp only [laws_FnExactCheapestMix.j1] at H
        by_cases c48 : x84_32 = true
        ·subst c48
         have H1 : (some false) = some r := by rw [if_pos rfl] at H; exact H
         clear H
         have H := H1
         clear H1
         obtain rfl := Option.some.inj H
         go_wp2
         go_ret
         exact ⟨by first | rfl | (simp [eWn, eWs] <;> rfl) | (simp [*, eWn, eWs] <;> rfl), by repeat (with_reducible first | exact HB.out | apply bal | apply pbN | apply bdw)⟩
        ·replace c48 := Bool.eq_false_iff.mpr c48
         subst c48
         have H1 : ((laws_markInt64S.f kj32 t286 1).bind fun bt299 => ((laws_heldInt64S.f kj32 bt299.2 1).bind fun t301 => (if t301 < 0 then (some false) else (if t301 = bt299.1 then ((laws_toFuelS.f kj32 l0).bind fun t302 => ((impl_CheapestMix.f kj32 t302 a1 a2).bind fun bt305 => ((laws_eqInt64S.f kj32 bt305.1 t278).bind fun t310 => (if t310 = true then (if bt305.2.1 = t279 then (laws_FnExactCheapestMix.j2 kj32 bt299.2 bt299.1 (bt305.2.2 != t280)) else (laws_FnExactCheapestMix.j2 kj32 bt299.2 bt299.1 true)) else (laws_FnExactCheapestMix.j2 kj32 bt299.2 bt299.1 true))))) else (some false))))) = some r := by rw [if_neg (show ¬ (false = true) by decide)] at H; exact H
         clear H
         have H := H1
         clear H1
         replace H := Option.bind_eq_some_iff.mp H
         obtain ⟨⟨t299, t300⟩, A490, H⟩ := H
         replace H : ((laws_heldInt64S.f kj32 t300 1).bind fun t301 => (if t301 < 0 then (some false) else (if t301 = t299 then ((laws_toFuelS.f kj32 l0).bind fun t302 => ((impl_CheapestMix.f kj32 t302 a1 a2).bind fun bt305 => ((laws_eqInt64S.f kj32 bt305.1 t278).bind fun t310 => (if t310 = true then (if bt305.2.1 = t279 then (laws_FnExactCheapestMix.j2 kj32 t300 t299 (bt305.2.2 != t280)) else (laws_FnExactCheapestMix.j2 kj32 t300 t299 true)) else (laws_FnExactCheapestMix.j2 kj32 t300 t299 true))))) else (some false)))) = some r := H
         have A49 := As0.mk A490
         clear A490
         replace H := Option.bind_eq_some_iff.mp H
         obtain ⟨t301, A500, H⟩ := H
         replace H : (if t301 < 0 then (some false) else (if t301 = t299 then ((laws_toFuelS.f kj32 l0).bind fun t302 => ((impl_CheapestMix.f kj32 t302 a1 a2).bind fun bt305 => ((laws_eqInt64S.f kj32 bt305.1 t278).bind fun t310 => (if t310 = true then (if bt305.2.1 = t279 then (laws_FnExactCheapestMix.j2 kj32 t300 t299 (bt305.2.2 != t280)) else (laws_FnExactCheapestMix.j2 kj32 t300 t299 true)) else (laws_FnExactCheapestMix.j2 kj32 t300 t299 true))))) else (some false))) = some r := H
         have A50 := As0.mk A500
         clear A500
         by_cases c51 : t301 < 0
         ·rw [if_pos c51] at H
          have c51b0 : decide (t301 < 0) = true := decide_eq_true c51
          clear c51
          obtain rfl := Option.some.inj H
          obtain ⟨Ao52, co52, eo52⟩ := Kd.R_slice HO_12.out
          subst eo52
          go_wp2_with (first | ((with_reducible refine gce (f := 15) rfl ?_); refine goesL_ (some 87) rfl rfl Try.func15 (by kernel_rfl) rfl #[.slice Ao52 t286.length co52, .int .i64 1] rfl (by (try simp only [List.map_toArray, List.map_cons, List.map_nil]); first | done | rfl | (simp only [List.length_drop, List.length_take]; rfl)) ?_; (with_reducible refine (laws_markInt64S.calls kj32 (fun k_ => some k_ = (.slice Ao52 t286.length co52 : Value).ownBlock) (.slice Ao52 t286.length co52) t286 1 t299 t300 w _ ?side1 ?side2 A49.out).mono ?_); (case side1 => repeat (with_reducible first | exact HB.out | apply bal | apply pbN | apply bdw)); (case side2 => exact Kd.R_tight rfl HO_12.out); rintro e w53 ⟨rfl, hy0, hb, hkp⟩; refine ⟨_, rfl, ?_⟩; have n0_ := As0.mk (Kd.R_mono (ok' := fun k_ => some k_ ≠ (.slice Ao52 t286.length co52 : Value).ownBlock) (Kd.R_keptB (HO_8.out) hkp (fun k_ hk_ hs_ => (hk_) hs_)) (fun k_ hk_ => hk_.1)); have n1_ := As0.mk (Kd.R_reok rfl hy0 (fun k_ e_ => HO_12.out.1 k_ e_)); have n2_ := As0.mk (hb); clear HO_8; clear HO_12; clear HB; have HO_8 := n0_; have HO_12 := n1_; have HB := n2_; clear n0_ n1_ n2_; (try clear hb); (try clear hkp); (try clear hy0)) | ((with_reducible refine gce (f := 16) rfl ?_); refine goesL_ (some 90) rfl rfl Try.func16 (by kernel_rfl) rfl #[.slice Ao52 t300.length co52, .int .i64 1] rfl (by (try simp only [List.map_toArray, List.map_cons, List.map_nil]); first | done | (rw [show t300.length = t286.length from (Kd.R_reads' HO_12.out).1.symm] <;> rfl) | rfl | (simp only [List.length_drop, List.length_take]; rfl)) ?_; (with_reducible refine (laws_heldInt64S.calls kj32 _ _ t300 1 t301 _ ?side1 ?side2 A50.out).mono ?_); (case side1 => repeat (first | exact (Kd.R_reads' HO_12.out).2.2 | (with_reducible refine Kd.C_alloc ?_ _) | (with_reducible refine Kd.C_drewN ?_ _) | (with_reducible refine Kd.C_drew ?_))); (case side2 => rw [show t300.length = t286.length from (Kd.R_reads' HO_12.out).1.symm]; exact (Kd.R_reads' HO_12.out).2.1); rintro e w' ⟨rfl, ⟨nd, rfl⟩⟩; refine ⟨_, rfl, ?_⟩))
          go_ret
          exact ⟨by first | rfl | (simp [eWn, eWs] <;> rfl) | (simp [*, eWn, eWs] <;> rfl), by repeat (with_reducible first | exact HB.out | apply bal | apply pbN | apply bdw)⟩
         ·rw [if_neg c51] at H
          have c51b0 : decide (t301 < 0) = false := decide_eq_false c51
          clear c51
          by_cases c54 : t301 = t299
          ·rw [if_pos c54] at H
           have c54b0 : (t301 == t299) = true := beq_iff_eq.mpr c54
           have c54b1 : (t301 != t299) = false := bne_eq_false_iff_eq.mpr c54
           clear c54
           replace H := Option.bind_eq_some_iff.mp H
           obtain ⟨t302, A550, H⟩ := H
           replace H : ((impl_CheapestMix.f kj32 t302 a1 a2).bind fun bt305 => ((laws_eqInt64S.f kj32 bt305.1 t278).bind fun t310 => (if t310 = true then (if bt305.2.1 = t279 then (laws_FnExactCheapestMix.j2 kj32 t300 t299 (bt305.2.2 != t280)) else (laws_FnExactCheapestMix.j2 kj32 t300 t299 true)) else (laws_FnExactCheapestMix.j2 kj32 t300 t299 true)))) = some r := H
           have A55 := As0.mk A550
           clear A550
           replace H := Option.bind_eq_some_iff.mp H
           obtain ⟨⟨t305, t306, t307⟩, A560, H⟩ := H
           replace H : ((laws_eqInt64S.f kj32 t305 t278).bind fun t310 => (if t310 = true then (if t306 = t279 then (laws_FnExactCheapestMix.j2 kj32 t300 t299 (t307 != t280)) else (laws_FnExactCheapestMix.j2 kj32 t300 t299 true)) else (laws_FnExactCheapestMix.j2 kj32 t300 t299 true))) = some r := H
           have A56 := As0.mk A560
           clear A560
           have HC57 := As0.mk H
           clear H
           obtain ⟨Ao58, co58, eo58⟩ := Kd.R_slice HO_12.out
           subst eo58
           go_upto_region 25 with (first | ((with_reducible refine gce (f := 15) rfl ?_); refine goesL_ (some 87) rfl rfl Try.func15 (by kernel_rfl) rfl #[.slice Ao58 t286.length co58, .int .i64 1] rfl (by (try simp only [List.map_toArray, List.map_cons, List.map_nil]); first | done | rfl | (simp only [List.length_drop, List.length_take]; rfl)) ?_; (with_reducible refine (laws_markInt64S.calls kj32 (fun k_ => some k_ = (.slice Ao58 t286.length co58 : Value).ownBlock) (.slice Ao58 t286.length co58) t286 1 t299 t300 w _ ?side1 ?side2 A49.out).mono ?_); (case side1 => repeat (with_reducible first | exact HB.out | apply bal | apply pbN | apply bdw)); (case side2 => exact Kd.R_tight rfl HO_12.out); rintro e w59 ⟨rfl, hy0, hb, hkp⟩; refine ⟨_, rfl, ?_⟩; have n0_ := As0.mk (Kd.R_mono (ok' := fun k_ => some k_ ≠ (.slice Ao58 t286.length co58 : Value).ownBlock) (Kd.R_keptB (HO_8.out) hkp (fun k_ hk_ hs_ => (hk_) hs_)) (fun k_ hk_ => hk_.1)); have n1_ := As0.mk (Kd.R_reok rfl hy0 (fun k_ e_ => HO_12.out.1 k_ e_)); have n2_ := As0.mk (hb); clear HO_8; clear HO_12; clear HB; have HO_8 := n0_; have HO_12 := n1_; have HB := n2_; clear n0_ n1_ n2_; (try clear hb); (try clear hkp); (try clear hy0)) | ((with_reducible refine gce (f := 16) rfl ?_); refine goesL_ (some 90) rfl rfl Try.func16 (by kernel_rfl) rfl #[.slice Ao58 t300.length co58, .int .i64 1] rfl (by (try simp only [List.map_toArray, List.map_cons, List.map_nil]); first | done | (rw [show t300.length = t286.length from (Kd.R_reads' HO_12.out).1.symm] <;> rfl) | rfl | (simp only [List.length_drop, List.length_take]; rfl)) ?_; (with_reducible refine (laws_heldInt64S.calls kj32 _ _ t300 1 t301 _ ?side1 ?side2 A50.out).mono ?_); (case side1 => repeat (first | exact (Kd.R_reads' HO_12.out).2.2 | (with_reducible refine Kd.C_alloc ?_ _) | (with_reducible refine Kd.C_drewN ?_ _) | (with_reducible refine Kd.C_drew ?_))); (case side2 => rw [show t300.length = t286.length from (Kd.R_reads' HO_12.out).1.symm]; exact (Kd.R_reads' HO_12.out).2.1); rintro e w' ⟨rfl, ⟨nd, rfl⟩⟩; refine ⟨_, rfl, ?_⟩) | ((with_reducible refine gce (f := 8) rfl ?_); refine goesL_ (some 98) rfl rfl Try.func8 (by kernel_rfl) rfl #[.slice A0 l0.length c0] rfl (by (try simp only [List.map_toArray, List.map_cons, List.map_nil]); first | done | rfl | (simp only [List.length_drop, List.length_take]; rfl)) ?_; (with_reducible refine (laws_toFuelS.calls kj32 _ _ l0 t302 _ ?side1 ?side2 A55.out).mono ?_); (case side1 => repeat (first | exact (Kd.C_below HR0.out (by repeat (with_reducible first | exact HB.out | apply bal | apply pbN | apply bdw))) | (with_reducible refine Kd.C_alloc ?_ _) | (with_reducible refine Kd.C_drewN ?_ _) | (with_reducible refine Kd.C_drew ?_))); (case side2 => exact HC0.out); rintro e w60 ⟨v303, rfl, ho0, hb⟩; refine ⟨_, rfl, ?_⟩; have n0_ := As0.mk (Kd.R_below (by (with_reducible repeat (first | apply Kd.R_alloc | apply Kd.R_drewN | apply Kd.R_drew)); exact HO_8.out) hb); have n1_ := As0.mk (Kd.R_below (by (with_reducible repeat (first | apply Kd.R_alloc | apply Kd.R_drewN | apply Kd.R_drew)); exact HO_12.out) hb); have n2_ := As0.mk (Kd.R_lower ho0 (bsz (by repeat (with_reducible first | exact HB.out | apply bal | apply pbN | apply bdw)))); have n3_ := As0.mk (bsp (by repeat (with_reducible first | exact HB.out | apply bal | apply pbN | apply bdw)) hb); clear HO_8; clear HO_12; clear HB; have HO_8 := n0_; have HO_12 := n1_; have HO304 := n2_; have HB := n3_; clear n0_ n1_ n2_ n3_; (try clear hb); (try clear hb2); (try clear hk); (try clear hi); (try clear ho0); obtain ⟨Ao61, co61, eo61⟩ := Kd.R_slice HO304.out; subst eo61) | ((with_reducible refine gce (f := 18) rfl ?_); refine goesL_ (some 101) rfl rfl Try.func18 (by kernel_rfl) rfl #[.slice Ao61 t302.length co61, .int .i64 a1, .int .i64 a2] rfl (by (try simp only [List.map_toArray, List.map_cons, List.map_nil]); first | done | rfl | (simp only [List.length_drop, List.length_take]; rfl)) ?_; (with_reducible refine (impl_CheapestMix.calls kj32 _ _ t302 a1 a2 t305 t306 t307 _ ?side1 ?side2 A56.out).mono ?_); (case side1 => repeat (first | exact (Kd.R_reads' HO304.out).2.2 | (with_reducible refine Kd.C_alloc ?_ _) | (with_reducible refine Kd.C_drewN ?_ _) | (with_reducible refine Kd.C_drew ?_))); (case side2 => exact (Kd.R_reads' HO304.out).2.1); rintro e w62 ⟨v308, rfl, ho0, hb⟩; refine ⟨_, rfl, ?_⟩; have n0_ := As0.mk (Kd.R_elder' (by (with_reducible repeat (first | apply Kd.R_alloc | apply Kd.R_drewN | apply Kd.R_drew)); exact HO_8.out) (Kd.R_base ho0) hb); have n1_ := As0.mk (Kd.R_elder' (by (with_reducible repeat (first | apply Kd.R_alloc | apply Kd.R_drewN | apply Kd.R_drew)); exact HO_12.out) (Kd.R_base ho0) hb); have n2_ := As0.mk (Kd.R_below (by (with_reducible repeat (first | apply Kd.R_alloc | apply Kd.R_drewN | apply Kd.R_drew)); exact HO304.out) hb); have n3_ := As0.mk (Kd.R_lower (Kd.R_new' (Kd.R_new' ho0 (Kd.R_lt (by (with_reducible repeat (first | apply Kd.R_alloc | apply Kd.R_drewN | apply Kd.R_drew)); exact HO_8.out))) (Kd.R_lt (by (with_reducible repeat (first | apply Kd.R_alloc | apply Kd.R_drewN | apply Kd.R_drew)); exact HO_12.out))) (bsz (by repeat (with_reducible first | exact HB.out | apply bal | apply pbN | apply bdw)))); have n4_ := As0.mk (bsp (by repeat (with_reducible first | exact HB.out | apply bal | apply pbN | apply bdw)) hb); clear HO_8; clear HO_12; clear HO304; clear HB; have HO_8 := n0_; have HO_12 := n1_; have HO304 := n2_; have HO309 := n3_; have HB := n4_; clear n0_ n1_ n2_ n3_ n4_; (try clear hb); (try clear hb2); (try clear hk); (try clear hi); (try clear ho0)))
           (try simp only [Act.put, sla, slz, sls])
           go_cut [118] (fun v118 wc => ∃ (kq : Nat) (x118_56 : Bool), v118 = .bool x118_56 ∧ As0 (laws_FnExactCheapestMix.j2 kq t300 t299 x118_56 = some r) ∧ As0 (kq ≤ kj32) ∧ As0 (Kd.R (Kd.int .i64) 2 wc w.heap.size (fun _ => True) (.slice Ao58 t286.length co58) t300) ∧ As0 (Below w.heap.size w wc))
           case first =>
            have H := HC57.out
            clear HC57
            replace H := Option.bind_eq_some_iff.mp H
            obtain ⟨t310, A630, H⟩ := H
            replace H : (if t310 = true then (if t306 = t279 then (laws_FnExactCheapestMix.j2 kj32 t300 t299 (t307 != t280)) else (laws_FnExactCheapestMix.j2 kj32 t300 t299 true)) else (laws_FnExactCheapestMix.j2 kj32 t300 t299 true)) = some r := H
            have A63 := As0.mk A630
            clear A630
            by_cases c64 : t310 = true
            ·subst c64
             have H1 : (if t306 = t279 then (laws_FnExactCheapestMix.j2 kj32 t300 t299 (t307 != t280)) else (laws_FnExactCheapestMix.j2 kj32 t300 t299 true)) = some r := by rw [if_pos rfl] at H; exact H
             clear H
             have H := H1
             clear H1
             by_cases c65 : t306 = t279
             ·rw [if_pos c65] at H
              have c65b0 : (t306 == t279) = true := beq_iff_eq.mpr c65
              have c65b1 : (t306 != t279) = false := bne_eq_false_iff_eq.mpr c65
              clear c65
              (first | rw [c65b0] | (simp only [i64_w, i32_w]; rw [c65b0]) | skip)
              have H' := As0.mk H
              clear H
              obtain ⟨Ao66, co66, eo66⟩ := Kd.R_slice HO309.out
              subst eo66
              obtain ⟨Ao67, co67, eo67⟩ := Kd.R_slice HO_8.out
              subst eo67
              go_wp2_with (first | ((with_reducible refine gce (f := 13) rfl ?_); refine goesL_ (some 107) rfl rfl Try.func13 (by kernel_rfl) rfl #[.slice Ao66 t305.length co66, .slice Ao67 t278.length co67] rfl (by (try simp only [List.map_toArray, List.map_cons, List.map_nil]); first | done | rfl | (simp only [List.length_drop, List.length_take]; rfl)) ?_; (with_reducible refine (laws_eqInt64S.calls kj32 _ _ t305 _ _ t278 true _ ?side1 ?side2 ?side3 ?side4 A63.out).mono ?_); (case side1 => repeat (first | exact (Kd.R_reads' HO309.out).2.2 | (with_reducible refine Kd.C_alloc ?_ _) | (with_reducible refine Kd.C_drewN ?_ _) | (with_reducible refine Kd.C_drew ?_))); (case side2 => exact (Kd.R_reads' HO309.out).2.1); (case side3 => repeat (first | exact (Kd.R_reads' HO_8.out).2.2 | (with_reducible refine Kd.C_alloc ?_ _) | (with_reducible refine Kd.C_drewN ?_ _) | (with_reducible refine Kd.C_drew ?_))); (case side4 => exact (Kd.R_reads' HO_8.out).2.1); rintro e w' ⟨rfl, ⟨nd, rfl⟩⟩; refine ⟨_, rfl, ?_⟩))
              go_meet
              case rel => exact ⟨_, ((t307 != t280)), (by first | rfl | (simp; done) | (simp [*]; done)), H', ⟨by have := HJ10.out; have := HJ32.out; first | omega | exact Nat.le_refl _⟩, ⟨by (with_reducible repeat (first | apply Kd.R_alloc | apply Kd.R_drewN | apply Kd.R_drew)); exact Kd.R_mono HO_12.out (fun _ hk => trivial)⟩, ⟨by repeat (with_reducible first | exact HB.out | apply bal | apply pbN | apply bdw)⟩⟩
             ·rw [if_neg c65] at H
              have c65b0 : (t306 == t279) = false := beq_eq_false_iff_ne.mpr c65
              have c65b1 : (t306 != t279) = true := bne_iff_ne.mpr c65
              (first | rw [c65b0] | (simp only [i64_w, i32_w]; rw [c65b0]) | skip)
              have H' := As0.mk H
              clear H
              obtain ⟨Ao68, co68, eo68⟩ := Kd.R_slice HO309.out
              subst eo68
              obtain ⟨Ao69, co69, eo69⟩ := Kd.R_slice HO_8.out
              subst eo69
              go_wp2_with (first | ((with_reducible refine gce (f := 13) rfl ?_); refine goesL_ (some 107) rfl rfl Try.func13 (by kernel_rfl) rfl #[.slice Ao68 t305.length co68, .slice Ao69 t278.length co69] rfl (by (try simp only [List.map_toArray, List.map_cons, List.map_nil]); first | done | rfl | (simp only [List.length_drop, List.length_take]; rfl)) ?_; (with_reducible refine (laws_eqInt64S.calls kj32 _ _ t305 _ _ t278 true _ ?side1 ?side2 ?side3 ?side4 A63.out).mono ?_); (case side1 => repeat (first | exact (Kd.R_reads' HO309.out).2.2 | (with_reducible refine Kd.C_alloc ?_ _) | (with_reducible refine Kd.C_drewN ?_ _) | (with_reducible refine Kd.C_drew ?_))); (case side2 => exact (Kd.R_reads' HO309.out).2.1); (case side3 => repeat (first | exact (Kd.R_reads' HO_8.out).2.2 | (with_reducible refine Kd.C_alloc ?_ _) | (with_reducible refine Kd.C_drewN ?_ _) | (with_reducible refine Kd.C_drew ?_))); (case side4 => exact (Kd.R_reads' HO_8.out).2.1); rintro e w' ⟨rfl, ⟨nd, rfl⟩⟩; refine ⟨_, rfl, ?_⟩))
              go_meet
              case rel => exact ⟨_, (true), (by first | rfl | (simp; done) | (simp [*]; done)), H', ⟨by have := HJ10.out; have := HJ32.out; first | omega | exact Nat.le_refl _⟩, ⟨by (with_reducible repeat (first | apply Kd.R_alloc | apply Kd.R_drewN | apply Kd.R_drew)); exact Kd.R_mono HO_12.out (fun _ hk => trivial)⟩, ⟨by repeat (with_reducible first | exact HB.out | apply bal | apply pbN | apply bdw)⟩⟩
            ·replace c64 := Bool.eq_false_iff.mpr c64
             subst c64
             have H1 : (laws_FnExactCheapestMix.j2 kj32 t300 t299 true) = some r := by rw [if_neg (show ¬ (false = true) by decide)] at H; exact H
             clear H
             have H := H1
             clear H1
             have H' := As0.mk H
             clear H
             obtain ⟨Ao70, co70, eo70⟩ := Kd.R_slice HO309.out
             subst eo70
             obtain ⟨Ao71, co71, eo71⟩ := Kd.R_slice HO_8.out
             subst eo71
             go_wp2_with (first | ((with_reducible refine gce (f := 13) rfl ?_); refine goesL_ (some 107) rfl rfl Try.func13 (by kernel_rfl) rfl #[.slice Ao70 t305.length co70, .slice Ao71 t278.length co71] rfl (by (try simp only [List.map_toArray, List.map_cons, List.map_nil]); first | done | rfl | (simp only [List.length_drop, List.length_take]; rfl)) ?_; (with_reducible refine (laws_eqInt64S.calls kj32 _ _ t305 _ _ t278 false _ ?side1 ?side2 ?side3 ?side4 A63.out).mono ?_); (case side1 => repeat (first | exact (Kd.R_reads' HO309.out).2.2 | (with_reducible refine Kd.C_alloc ?_ _) | (with_reducible refine Kd.C_drewN ?_ _) | (with_reducible refine Kd.C_drew ?_))); (case side2 => exact (Kd.R_reads' HO309.out).2.1); (case side3 => repeat (first | exact (Kd.R_reads' HO_8.out).2.2 | (with_reducible refine Kd.C_alloc ?_ _) | (with_reducible refine Kd.C_drewN ?_ _) | (with_reducible refine Kd.C_drew ?_))); (case side4 => exact (Kd.R_reads' HO_8.out).2.1); rintro e w' ⟨rfl, ⟨nd, rfl⟩⟩; refine ⟨_, rfl, ?_⟩))
             go_meet
             case rel => exact ⟨_, (true), (by first | rfl | (simp; done) | (simp [*]; done)), H', ⟨by have := HJ10.out; have := HJ32.out; first | omega | exact Nat.le_refl _⟩, ⟨by (with_reducible repeat (first | apply Kd.R_alloc | apply Kd.R_drewN | apply Kd.R_drew)); exact Kd.R_mono HO_12.out (fun _ hk => trivial)⟩, ⟨by repeat (with_reducible first | exact HB.out | apply bal | apply pbN | apply bdw)⟩⟩
           case rest =>
            clear HC57
            try clear c1
            try clear c2
            try clear p2
            try clear c3
            try clear c4
            try clear c5
            try clear c5b0
            try clear c6
            try clear c8
            try clear c10
            try clear c13
            try clear c14
            try clear c15
            try clear c16
            try clear c17
            try clear c18
            try clear c20
            try clear c21
            try clear c21b0
            try clear c21b1
            try clear c28
            try clear c31
            try clear c38
            try clear c38b0
            try clear c40
            try clear c41
            try clear c41b0
            try clear c41b1
            try clear c48
            try clear c51
            try clear c51b0
            try clear c54
            try clear c54b0
            try clear c54b1
            try clear c64
            try clear c65
            try clear c65b0
            try clear c65b1
            try clear p2
            obtain ⟨kq, x118_56, rfl, HA, HJ56, HO_12, HB⟩ := hcut
            have hl12_56 := (Kd.R_reads' HO_12.out).1
            rw [hl12_56] at HO_12
            (try simp only [hl12_56])
            cases kq with
            | zero => exact absurd HA.out (by simp [laws_FnExactCheapestMix.j2])
            | succ kj56 =>
             have H := HA.out
             clear HA
             simp only [laws_FnExactCheapestMix.j2] at H
             by_cases c72 : x118_56 = true
             ·subst c72
              have H1 : (some false) = some r := by rw [if_pos rfl] at H; exact H
              clear H
              have H := H1
              clear H1
              obtain rfl := Option.some.inj H
              go_wp2
              go_ret
              exact ⟨by first | rfl | (simp [eWn, eWs] <;> rfl) | (simp [*, eWn, eWs] <;> rfl), by repeat (with_reducible first | exact HB.out | apply bal | apply pbN | apply bdw)⟩
             ·replace c72 := Bool.eq_false_iff.mpr c72
              subst c72
              have H1 : ((laws_heldInt64S.f kj56 t300 1).bind fun t311 => (if t311 < 0 then (some false) else (if t311 = t299 then (some true) else (some false)))) = some r := by rw [if_neg (show ¬ (false = true) by decide)] at H; exact H
              clear H
              have H := H1
              clear H1
              replace H := Option.bind_eq_some_iff.mp H
              obtain ⟨t311, A730, H⟩ := H
              replace H : (if t311 < 0 then (some false) else (if t311 = t299 then (some true) else (some false))) = some r := H
              have A73 := As0.mk A730
              clear A730
              by_cases c74 : t311 < 0
              ·rw [if_pos c74] at H
               have c74b0 : decide (t311 < 0) = true := decide_eq_true c74
               clear c74
               obtain rfl := Option.some.inj H
               go_wp2_with (first | ((with_reducible refine gce (f := 16) rfl ?_); refine goesL_ (some 121) rfl rfl Try.func16 (by kernel_rfl) rfl #[.slice Ao58 t300.length co58, .int .i64 1] rfl (by (try simp only [List.map_toArray, List.map_cons, List.map_nil]); first | done | rfl | (simp only [List.length_drop, List.length_take]; rfl)) ?_; (with_reducible refine (laws_heldInt64S.calls kj56 _ _ t300 1 t311 _ ?side1 ?side2 A73.out).mono ?_); (case side1 => repeat (first | exact (Kd.R_reads' HO_12.out).2.2 | (with_reducible refine Kd.C_alloc ?_ _) | (with_reducible refine Kd.C_drewN ?_ _) | (with_reducible refine Kd.C_drew ?_))); (case side2 => exact (Kd.R_reads' HO_12.out).2.1); rintro e w' ⟨rfl, ⟨nd, rfl⟩⟩; refine ⟨_, rfl, ?_⟩))
               go_ret
               exact ⟨by first | rfl | (simp [eWn, eWs] <;> rfl) | (simp [*, eWn, eWs] <;> rfl), by repeat (with_reducible first | exact HB.out | apply bal | apply pbN | apply bdw)⟩
              ·rw [if_neg c74] at H
               have c74b0 : decide (t311 < 0) = false := decide_eq_false c74
               clear c74
               by_cases c75 : t311 = t299
               ·rw [if_pos c75] at H
                have c75b0 : (t311 == t299) = true := beq_iff_eq.mpr c75
                have c75b1 : (t311 != t299) = false := bne_eq_false_iff_eq.mpr c75
                clear c75
                obtain rfl := Option.some.inj H
                go_wp2_with (first | ((with_reducible refine gce (f := 16) rfl ?_); refine goesL_ (some 121) rfl rfl Try.func16 (by kernel_rfl) rfl #[.slice Ao58 t300.length co58, .int .i64 1] rfl (by (try simp only [List.map_toArray, List.map_cons, List.map_nil]); first | done | rfl | (simp only [List.length_drop, List.length_take]; rfl)) ?_; (with_reducible refine (laws_heldInt64S.calls kj56 _ _ t300 1 t311 _ ?side1 ?side2 A73.out).mono ?_); (case side1 => repeat (first | exact (Kd.R_reads' HO_12.out).2.2 | (with_reducible refine Kd.C_alloc ?_ _) | (with_reducible refine Kd.C_drewN ?_ _) | (with_reducible refine Kd.C_drew ?_))); (case side2 => exact (Kd.R_reads' HO_12.out).2.1); rintro e w' ⟨rfl, ⟨nd, rfl⟩⟩; refine ⟨_, rfl, ?_⟩))
                go_ret
                exact ⟨by first | rfl | (simp [eWn, eWs] <;> rfl) | (simp [*, eWn, eWs] <;> rfl), by repeat (with_reducible first | exact HB.out | apply bal | apply pbN | apply bdw)⟩
               ·rw [if_neg c75] at H
                have c75b0 : (t311 == t299) = false := beq_eq_false_iff_ne.mpr c75
                have c75b1 : (t311 != t299) = true := bne_iff_ne.mpr c75
                obtain rfl := Option.some.inj H
                go_wp2_with (first | ((with_reducible refine gce (f := 16) rfl ?_); refine goesL_ (some 121) rfl rfl Try.func16 (by kernel_rfl) rfl #[.slice Ao58 t300.length co58, .int .i64 1] rfl (by (try simp only [List.map_toArray, List.map_cons, List.map_nil]); first | done | rfl | (simp only [List.length_drop, List.length_take]; rfl)) ?_; (with_reducible refine (laws_heldInt64S.calls kj56 _ _ t300 1 t311 _ ?side1 ?side2 A73.out).mono ?_); (case side1 => repeat (first | exact (Kd.R_reads' HO_12.out).2.2 | (with_reducible refine Kd.C_alloc ?_ _) | (with_reducible refine Kd.C_drewN ?_ _) | (with_reducible refine Kd.C_drew ?_))); (case side2 => exact (Kd.R_reads' HO_12.out).2.1); rintro e w' ⟨rfl, ⟨nd, rfl⟩⟩; refine ⟨_, rfl, ?_⟩))
                go_ret
                exact ⟨by first | rfl | (simp [eWn, eWs] <;> rfl) | (simp [*, eWn, eWs] <;> rfl), by repeat (with_reducible first | exact HB.out | apply bal | apply pbN | apply bdw)⟩
          ·rw [if_neg c54] at H
           have c54b0 : (t301 == t299) = false := beq_eq_false_iff_ne.mpr c54
           have c54b1 : (t301 != t299) = true := bne_iff_ne.mpr c54
           obtain rfl := Option.some.inj H
           obtain ⟨Ao76, co76, eo76⟩ := Kd.R_slice HO_12.out
           subst eo76
           go_wp2_with (first | ((with_reducible refine gce (f := 15) rfl ?_); refine goesL_ (some 87) rfl rfl Try.func15 (by kernel_rfl) rfl #[.slice Ao76 t286.length co76, .int .i64 1] rfl (by (try simp only [List.map_toArray, List.map_cons, List.map_nil]); first | done | rfl | (simp only [List.length_drop, List.length_take]; rfl)) ?_; (with_reducible refine (laws_markInt64S.calls kj32 (fun k_ => some k_ = (.slice Ao76 t286.length co76 : Value).ownBlock) (.slice Ao76 t286.length co76) t286 1 t299 t300 w _ ?side1 ?side2 A49.out).mono ?_); (case side1 => repeat (with_reducible first | exact HB.out | apply bal | apply pbN | apply bdw)); (case side2 => exact Kd.R_tight rfl HO_12.out); rintro e w77 ⟨rfl, hy0, hb, hkp⟩; refine ⟨_, rfl, ?_⟩; have n0_ := As0.mk (Kd.R_mono (ok' := fun k_ => some k_ ≠ (.slice Ao76 t286.length co76 : Value).ownBlock) (Kd.R_keptB (HO_8.out) hkp (fun k_ hk_ hs_ => (hk_) hs_)) (fun k_ hk_ => hk_.1)); have n1_ := As0.mk (Kd.R_reok rfl hy0 (fun k_ e_ => HO_12.out.1 k_ e_)); have n2_ := As0.mk (hb); clear HO_8; clear HO_12; clear HB; have HO_8 := n0_; have HO_12 := n1_; have HB := n2_; clear n0_ n1_ n2_; (try clear hb); (try clear hkp); (try clear hy0)) | ((with_reducible refine gce (f := 16) rfl ?_); refine goesL_ (some 90) rfl rfl Try.func16 (by kernel_rfl) rfl #[.slice Ao76 t300.length co76, .int .i64 1] rfl (by (try simp only [List.map_toArray, List.map_cons, List.map_nil]); first | done | (rw [show t300.length = t286.length from (Kd.R_reads' HO_12.out).1.symm] <;> rfl) | rfl | (simp only [List.length_drop, List.length_take]; rfl)) ?_; (with_reducible refine (laws_heldInt64S.calls kj32 _ _ t300 1 t301 _ ?side1 ?side2 A50.out).mono ?_); (case side1 => repeat (first | exact (Kd.R_reads' HO_12.out).2.2 | (with_reducible refine Kd.C_alloc ?_ _) | (with_reducible refine Kd.C_drewN ?_ _) | (with_reducible refine Kd.C_drew ?_))); (case side2 => rw [show t300.length = t286.length from (Kd.R_reads' HO_12.out).1.symm]; exact (Kd.R_reads' HO_12.out).2.1); rintro e w' ⟨rfl, ⟨nd, rfl⟩⟩; refine ⟨_, rfl, ?_⟩))
           go_ret
           exact ⟨by first | rfl | (simp [eWn, eWs] <;> rfl) | (simp [*, eWn, eWs] <;> rfl), by repeat (with_reducible first | exact HB.out | apply bal | apply pbN | apply bdw)⟩
     ·replace c31 := Bool.eq_false_iff.mpr c31
      subst c31
      have H1 : (some false) = some r := by rw [if_neg (show ¬ (false = true) by decide)] at H; exact H
      clear H
      have H := H1
      clear H1
      obtain rfl := Option.some.inj H
      go_wp2_with (first | ((with_reducible refine gce (f := 8) rfl ?_); refine goesL_ (some 61) rfl rfl Try.func8 (by kernel_rfl) rfl #[.slice A0 l0.length c0] rfl (by (try simp only [List.map_toArray, List.map_cons, List.map_nil]); first | done | rfl | (simp only [List.length_drop, List.length_take]; rfl)) ?_; (with_reducible refine (laws_toFuelS.calls kj10 _ _ l0 t292 _ ?side1 ?side2 A29.out).mono ?_); (case side1 => repeat (first | exact (Kd.C_below HR0.out HB.out) | (with_reducible refine Kd.C_alloc ?_ _) | (with_reducible refine Kd.C_drewN ?_ _) | (with_reducible refine Kd.C_drew ?_))); (case side2 => exact HC0.out); rintro e w78 ⟨v293, rfl, ho0, hb⟩; refine ⟨_, rfl, ?_⟩; have n0_ := As0.mk (Kd.R_below (by (with_reducible repeat (first | apply Kd.R_alloc | apply Kd.R_drewN | apply Kd.R_drew)); exact HO_8.out) hb); have n1_ := As0.mk (Kd.R_elder' (by (with_reducible repeat (first | apply Kd.R_alloc | apply Kd.R_drewN | apply Kd.R_drew)); exact HO_11.out) (Kd.R_base ho0) hb); have n2_ := As0.mk (Kd.R_below (by (with_reducible repeat (first | apply Kd.R_alloc | apply Kd.R_drewN | apply Kd.R_drew)); exact HO_12.out) hb); have n3_ := As0.mk (Kd.R_lower (Kd.R_new' ho0 (Kd.R_lt (by (with_reducible repeat (first | apply Kd.R_alloc | apply Kd.R_drewN | apply Kd.R_drew)); exact HO_11.out))) (bsz (by repeat (with_reducible first | exact HB.out | apply bal | apply pbN | apply bdw)))); have n4_ := As0.mk (bsp (by repeat (with_reducible first | exact HB.out | apply bal | apply pbN | apply bdw)) hb); clear HO_8; clear HO_11; clear HO_12; clear HB; have HO_8 := n0_; have HO_11 := n1_; have HO_12 := n2_; have HO294 := n3_; have HB := n4_; clear n0_ n1_ n2_ n3_ n4_; (try clear hb); (try clear hb2); (try clear hk); (try clear hi); (try clear ho0); obtain ⟨Ao79, co79, eo79⟩ := Kd.R_slice HO294.out; subst eo79) | ((with_reducible refine gce (f := 10) rfl ?_); refine goesL_ (some 62) rfl rfl Try.func10 (by kernel_rfl) rfl #[.slice Ao17 t283.length co17, .slice Ao79 t292.length co79] rfl (by (try simp only [List.map_toArray, List.map_cons, List.map_nil]); first | done | rfl | (simp only [List.length_drop, List.length_take]; rfl)) ?_; (with_reducible refine (laws_eqFuelS.calls kj10 _ _ t283 _ _ t292 false _ ?side1 ?side2 ?side3 ?side4 A30.out).mono ?_); (case side1 => repeat (first | exact (Kd.R_reads' HO_11.out).2.2 | (with_reducible refine Kd.C_alloc ?_ _) | (with_reducible refine Kd.C_drewN ?_ _) | (with_reducible refine Kd.C_drew ?_))); (case side2 => exact (Kd.R_reads' HO_11.out).2.1); (case side3 => repeat (first | exact (Kd.R_reads' HO294.out).2.2 | (with_reducible refine Kd.C_alloc ?_ _) | (with_reducible refine Kd.C_drewN ?_ _) | (with_reducible refine Kd.C_drew ?_))); (case side4 => exact (Kd.R_reads' HO294.out).2.1); rintro e w80 ⟨rfl, hb⟩; refine ⟨_, rfl, ?_⟩; have n0_ := As0.mk (Kd.R_below (by (with_reducible repeat (first | apply Kd.R_alloc | apply Kd.R_drewN | apply Kd.R_drew)); exact HO_8.out) hb); have n1_ := As0.mk (Kd.R_below (by (with_reducible repeat (first | apply Kd.R_alloc | apply Kd.R_drewN | apply Kd.R_drew)); exact HO_11.out) hb); have n2_ := As0.mk (Kd.R_below (by (with_reducible repeat (first | apply Kd.R_alloc | apply Kd.R_drewN | apply Kd.R_drew)); exact HO_12.out) hb); have n3_ := As0.mk (Kd.R_below (by (with_reducible repeat (first | apply Kd.R_alloc | apply Kd.R_drewN | apply Kd.R_drew)); exact HO294.out) hb); have n4_ := As0.mk (bsp (by repeat (with_reducible first | exact HB.out | apply bal | apply pbN | apply bdw)) hb); clear HO_8; clear HO_11; clear HO_12; clear HO294; clear HB; have HO_8 := n0_; have HO_11 := n1_; have HO_12 := n2_; have HO294 := n3_; have HB := n4_; clear n0_ n1_ n2_ n3_ n4_; (try clear hb); (try clear hb2); (try clear hk); (try clear hi)))
      go_ret
      exact ⟨by first | rfl | (simp [eWn, eWs] <;> rfl) | (simp [*, eWn, eWs] <;> rfl), by repeat (with_reducible first | exact HB.out | apply bal | apply pbN | apply bdw)⟩

end Go.Proofs.Ytnhkamfccoppbaa.QCheapestMix
