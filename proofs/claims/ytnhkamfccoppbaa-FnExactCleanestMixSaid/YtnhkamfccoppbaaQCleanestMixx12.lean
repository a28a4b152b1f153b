-- Written by press.py, a program of this session, round the kit's print.py (functions and contracts; Lean checks them).
import Derived.Test.YtnhkamfccoppbaaQCleanestMixx0
import Derived.Test.YtnhkamfccoppbaaQCleanestMixx1
import Derived.Test.YtnhkamfccoppbaaQCleanestMixx4
import Derived.Test.YtnhkamfccoppbaaQCleanestMixx11
namespace Go.Proofs.Ytnhkamfccoppbaa.QCleanestMix
open Go.Proofs.Ytnhkamfccoppbaa.QWords
attribute [local go_sem high] binOp_string_geq_q binOp_string_leq_q binOp_string_gtr_q
open Go.RowKit Go.Proofs.YtnhkamfccoppbaaW.PrintWords Go.Proofs.YtnhkamfccoppbaaW.PrintLast Go.Proofs.YtnhkamfccoppbaaW.PrintMore
attribute [local go_sem] max2_int min2_int max_two min_two max_three min_three max_four min_four   -- for this text's walks alone
set_option linter.unusedVariables false
set_option linter.unusedSimpArgs false

/-! ### laws_FnExactCleanestMix: function 4 -/
mutual
def laws_FnExactCleanestMix.j0 : Nat → List (S40) → Int → List Int → Int → Int → List (S46) → List Int → Int → Int → Bool → Option (Bool)
 | 0, _, _, _, _, _, _, _, _, _, _ => none
 | k + 1, x0, x1, x6, x7, x8, x9, x10, x11, x12, x54 => if x54 = true then (some false) else ((laws_toFuelS.f k x0).bind fun t263 => ((laws_eqFuelS.f k x9 t263).bind fun t266 => (if t266 = true then ((laws_markFuelS.f k x9 1).bind fun bt267 => (if bt267.1 < 0 then (laws_FnExactCleanestMix.j1 k x0 x1 x6 x7 x8 x10 true) else ((laws_eqInt64S.f k x10 x6).bind fun t269 => (if t269 = true then (if x11 = x7 then (laws_FnExactCleanestMix.j1 k x0 x1 x6 x7 x8 x10 (x12 != x8)) else (laws_FnExactCleanestMix.j1 k x0 x1 x6 x7 x8 x10 true)) else (laws_FnExactCleanestMix.j1 k x0 x1 x6 x7 x8 x10 true))))) else (some false))))
def laws_FnExactCleanestMix.j1 : Nat → List (S40) → Int → List Int → Int → Int → List Int → Bool → Option (Bool)
 | 0, _, _, _, _, _, _, _ => none
 | k + 1, x0, x1, x6, x7, x8, x10, x80 => if x80 = true then (some false) else ((laws_markInt64S.f k x10 1).bind fun bt270 => ((laws_heldInt64S.f k bt270.2 1).bind fun t272 => (if t272 < 0 then (some false) else (if t272 = bt270.1 then ((laws_toFuelS.f k x0).bind fun t273 => ((impl_CleanestMix.f k t273 x1).bind fun bt276 => ((laws_eqInt64S.f k bt276.1 x6).bind fun t281 => (if t281 = true then (if bt276.2.1 = x7 then (laws_FnExactCleanestMix.j2 k bt270.2 bt270.1 (bt276.2.2 != x8)) else (laws_FnExactCleanestMix.j2 k bt270.2 bt270.1 true)) else (laws_FnExactCleanestMix.j2 k bt270.2 bt270.1 true))))) else (some false)))))
def laws_FnExactCleanestMix.j2 : Nat → List Int → Int → Bool → Option (Bool)
 | 0, _, _, _ => none
 | k + 1, x10, x14, x113 => if x113 = true then (some false) else ((laws_heldInt64S.f k x10 1).bind fun t282 => (if t282 < 0 then (some false) else (if t282 = x14 then (some true) else (some false))))
end
def laws_FnExactCleanestMix.f (k : Nat) (l0 : List (S40)) (a1 : Int) : Option (Bool) := (laws_szFuelS.f k l0 1048576).bind fun t245 => (if t245 < 0 then (some true) else ((laws_toFuelS.f k l0).bind fun t246 => ((spec_CleanestMix.f k t246 a1).bind fun bt249 => ((laws_toFuelS.f k l0).bind fun t254 => ((impl_CleanestMix.f k t254 a1).bind fun bt257 => ((laws_eqInt64S.f k bt257.1 bt249.1).bind fun t262 => (if t262 = true then (if bt257.2.1 = bt249.2.1 then (laws_FnExactCleanestMix.j0 k l0 a1 bt249.1 bt249.2.1 bt249.2.2 t254 bt257.1 bt257.2.1 bt257.2.2 (bt257.2.2 != bt249.2.2)) else (laws_FnExactCleanestMix.j0 k l0 a1 bt249.1 bt249.2.1 bt249.2.2 t254 bt257.1 bt257.2.1 bt257.2.2 true)) else (laws_FnExactCleanestMix.j0 k l0 a1 bt249.1 bt249.2.1 bt249.2.2 t254 bt257.1 bt257.2.1 bt257.2.2 true))))))))
theorem laws_FnExactCleanestMix.mono_l : ∀ k, (∀ y0 y1 y2 y3 y4 y5 y6 y7 y8 y9, LeO (laws_FnExactCleanestMix.j0 k y0 y1 y2 y3 y4 y5 y6 y7 y8 y9) (laws_FnExactCleanestMix.j0 (k + 1) y0 y1 y2 y3 y4 y5 y6 y7 y8 y9)) ∧ (∀ y0 y1 y2 y3 y4 y5 y6, LeO (laws_FnExactCleanestMix.j1 k y0 y1 y2 y3 y4 y5 y6) (laws_FnExactCleanestMix.j1 (k + 1) y0 y1 y2 y3 y4 y5 y6)) ∧ (∀ y0 y1 y2, LeO (laws_FnExactCleanestMix.j2 k y0 y1 y2) (laws_FnExactCleanestMix.j2 (k + 1) y0 y1 y2))
 | 0 => ⟨fun _ _ _ _ _ _ _ _ _ _ r h => by simp [laws_FnExactCleanestMix.j0] at h, fun _ _ _ _ _ _ _ r h => by simp [laws_FnExactCleanestMix.j1] at h, fun _ _ _ r h => by simp [laws_FnExactCleanestMix.j2] at h⟩
 | k + 1 => by
  obtain ⟨ih0, ih1, ih2⟩ := laws_FnExactCleanestMix.mono_l k
  refine ⟨?_, ?_, ?_⟩
  ·intro y0 y1 y2 y3 y4 y5 y6 y7 y8 y9
   unfold laws_FnExactCleanestMix.j0
   repeat' first
   | (with_reducible exact ih0 _ _ _ _ _ _ _ _ _ _)
   | (with_reducible exact ih1 _ _ _ _ _ _ _)
   | (with_reducible exact ih2 _ _ _)
   | (with_reducible exact impl_CleanestMix.mono _ _ _)
   | (with_reducible exact laws_eqFuelS.mono _ _ _)
   | (with_reducible exact laws_eqInt64S.mono _ _ _)
   | (with_reducible exact laws_heldInt64S.mono _ _ _)
   | (with_reducible exact laws_markFuelS.mono _ _ _)
   | (with_reducible exact laws_markInt64S.mono _ _ _)
   | (with_reducible exact laws_szFuelS.mono _ _ _)
   | (with_reducible exact laws_toFuelS.mono _ _)
   | (with_reducible exact spec_CleanestMix.mono _ _ _)
   | (with_reducible exact LeO.refl _)
   | (with_reducible exact LeO.none _)
   | (with_reducible refine LeO.ite ?_ ?_)
   | (with_reducible refine LeO.bind ?_ (fun _ => ?_))
   | exact ih0 _ _ _ _ _ _ _ _ _ _
   | exact ih1 _ _ _ _ _ _ _
   | exact ih2 _ _ _
   | exact impl_CleanestMix.mono _ _ _
   | exact laws_eqFuelS.mono _ _ _
   | exact laws_eqInt64S.mono _ _ _
   | exact laws_heldInt64S.mono _ _ _
   | exact laws_markFuelS.mono _ _ _
   | exact laws_markInt64S.mono _ _ _
   | exact laws_szFuelS.mono _ _ _
   | exact laws_toFuelS.mono _ _
   | exact spec_CleanestMix.mono _ _ _
   | exact LeO.none _
   | refine LeO.ite ?_ ?_
   | refine LeO.bind ?_ (fun _ => ?_)
  ·intro y0 y1 y2 y3 y4 y5 y6
   unfold laws_FnExactCleanestMix.j1
   repeat' first
   | (with_reducible exact ih0 _ _ _ _ _ _ _ _ _ _)
   | (with_reducible exact ih1 _ _ _ _ _ _ _)
   | (with_reducible exact ih2 _ _ _)
   | (with_reducible exact impl_CleanestMix.mono _ _ _)
   | (with_reducible exact laws_eqFuelS.mono _ _ _)
   | (with_reducible exact laws_eqInt64S.mono _ _ _)
   | (with_reducible exact laws_heldInt64S.mono _ _ _)
   | (with_reducible exact laws_markFuelS.mono _ _ _)
   | (with_reducible exact laws_markInt64S.mono _ _ _)
   | (with_reducible exact laws_szFuelS.mono _ _ _)
   | (with_reducible exact laws_toFuelS.mono _ _)
   | (with_reducible exact spec_CleanestMix.mono _ _ _)
   | (with_reducible exact LeO.refl _)
   | (with_reducible exact LeO.none _)
   | (with_reducible refine LeO.ite ?_ ?_)
   | (with_reducible refine LeO.bind ?_ (fun _ => ?_))
   | exact ih0 _ _ _ _ _ _ _ _ _ _
   | exact ih1 _ _ _ _ _ _ _
   | exact ih2 _ _ _
   | exact impl_CleanestMix.mono _ _ _
   | exact laws_eqFuelS.mono _ _ _
   | exact laws_eqInt64S.mono _ _ _
   | exact laws_heldInt64S.mono _ _ _
   | exact laws_markFuelS.mono _ _ _
   | exact laws_markInt64S.mono _ _ _
   | exact laws_szFuelS.mono _ _ _
   | exact laws_toFuelS.mono _ _
   | exact spec_CleanestMix.mono _ _ _
   | exact LeO.none _
   | refine LeO.ite ?_ ?_
   | refine LeO.bind ?_ (fun _ => ?_)
  ·intro y0 y1 y2
   unfold laws_FnExactCleanestMix.j2
   repeat' first
   | (with_reducible exact ih0 _ _ _ _ _ _ _ _ _ _)
   | (with_reducible exact ih1 _ _ _ _ _ _ _)
   | (with_reducible exact ih2 _ _ _)
   | (with_reducible exact impl_CleanestMix.mono _ _ _)
   | (with_reducible exact laws_eqFuelS.mono _ _ _)
   | (with_reducible exact laws_eqInt64S.mono _ _ _)
   | (with_reducible exact laws_heldInt64S.mono _ _ _)
   | (with_reducible exact laws_markFuelS.mono _ _ _)
   | (with_reducible exact laws_markInt64S.mono _ _ _)
   | (with_reducible exact laws_szFuelS.mono _ _ _)
   | (with_reducible exact laws_toFuelS.mono _ _)
   | (with_reducible exact spec_CleanestMix.mono _ _ _)
   | (with_reducible exact LeO.refl _)
   | (with_reducible exact LeO.none _)
   | (with_reducible refine LeO.ite ?_ ?_)
   | (with_reducible refine LeO.bind ?_ (fun _ => ?_))
   | exact ih0 _ _ _ _ _ _ _ _ _ _
   | exact ih1 _ _ _ _ _ _ _
   | exact ih2 _ _ _
   | exact impl_CleanestMix.mono _ _ _
   | exact laws_eqFuelS.mono _ _ _
   | exact laws_eqInt64S.mono _ _ _
   | exact laws_heldInt64S.mono _ _ _
   | exact laws_markFuelS.mono _ _ _
   | exact laws_markInt64S.mono _ _ _
   | exact laws_szFuelS.mono _ _ _
   | exact laws_toFuelS.mono _ _
   | exact spec_CleanestMix.mono _ _ _
   | exact LeO.none _
   | refine LeO.ite ?_ ?_
   | refine LeO.bind ?_ (fun _ => ?_)
theorem laws_FnExactCleanestMix.mono : ∀ a0 a1 k, LeO (laws_FnExactCleanestMix.f k a0 a1) (laws_FnExactCleanestMix.f (k + 1) a0 a1) := by
 intro a0 a1 k
 obtain ⟨ih0, ih1, ih2⟩ := laws_FnExactCleanestMix.mono_l k
 unfold laws_FnExactCleanestMix.f
 repeat' first
   | (with_reducible exact ih0 _ _ _ _ _ _ _ _ _ _)
   | (with_reducible exact ih1 _ _ _ _ _ _ _)
   | (with_reducible exact ih2 _ _ _)
   | (with_reducible exact impl_CleanestMix.mono _ _ _)
   | (with_reducible exact laws_eqFuelS.mono _ _ _)
   | (with_reducible exact laws_eqInt64S.mono _ _ _)
   | (with_reducible exact laws_heldInt64S.mono _ _ _)
   | (with_reducible exact laws_markFuelS.mono _ _ _)
   | (with_reducible exact laws_markInt64S.mono _ _ _)
   | (with_reducible exact laws_szFuelS.mono _ _ _)
   | (with_reducible exact laws_toFuelS.mono _ _)
   | (with_reducible exact spec_CleanestMix.mono _ _ _)
   | (with_reducible exact LeO.refl _)
   | (with_reducible exact LeO.none _)
   | (with_reducible refine LeO.ite ?_ ?_)
   | (with_reducible refine LeO.bind ?_ (fun _ => ?_))
   | exact ih0 _ _ _ _ _ _ _ _ _ _
   | exact ih1 _ _ _ _ _ _ _
   | exact ih2 _ _ _
   | exact impl_CleanestMix.mono _ _ _
   | exact laws_eqFuelS.mono _ _ _
   | exact laws_eqInt64S.mono _ _ _
   | exact laws_heldInt64S.mono _ _ _
   | exact laws_markFuelS.mono _ _ _
   | exact laws_markInt64S.mono _ _ _
   | exact laws_szFuelS.mono _ _ _
   | exact laws_toFuelS.mono _ _
   | exact spec_CleanestMix.mono _ _ _
   | exact LeO.none _
   | refine LeO.ite ?_ ?_
   | refine LeO.bind ?_ (fun _ => ?_)
set_option maxHeartbeats 8000000 in
set_option maxRecDepth 100000 in
theorem laws_FnExactCleanestMix.calls (k : Nat) (A0 : Option Addr) (c0 : Nat) (l0 : List (S40)) (a1 : Int) (r : Bool) (w : World) (hr0 : Kd.C k40 w A0 l0.length l0) (hc0 : l0.length ≤ c0) (h : laws_FnExactCleanestMix.f k l0 a1 = some r) :
  Calls Try.prog 4 #[.slice A0 l0.length c0, .int .i64 a1] w fun e w' => e = .returned (.bool r) ∧ Below w.heap.size w w' := by
 have HR0 := As0.mk hr0
 have HC0 := As0.mk hc0
 clear hr0 hc0
 have HB := As0.mk (Below.refl w.heap.size w)
 have H : ((laws_szFuelS.f k l0 1048576).bind fun t245 => (if t245 < 0 then (some true) else ((laws_toFuelS.f k l0).bind fun t246 => ((spec_CleanestMix.f k t246 a1).bind fun bt249 => ((laws_toFuelS.f k l0).bind fun t254 => ((impl_CleanestMix.f k t254 a1).bind fun bt257 => ((laws_eqInt64S.f k bt257.1 bt249.1).bind fun t262 => (if t262 = true then (if bt257.2.1 = bt249.2.1 then (laws_FnExactCleanestMix.j0 k l0 a1 bt249.1 bt249.2.1 bt249.2.2 t254 bt257.1 bt257.2.1 bt257.2.2 (bt257.2.2 != bt249.2.2)) else (laws_FnExactCleanestMix.j0 k l0 a1 bt249.1 bt249.2.1 bt249.2.2 t254 bt257.1 bt257.2.1 bt257.2.2 true)) else (laws_FnExactCleanestMix.j0 k l0 a1 bt249.1 bt249.2.1 bt249.2.2 t254 bt257.1 bt257.2.1 bt257.2.2 true))))))))) = some r := h
 clear h
 replace H := Option.bind_eq_some_iff.mp H
 obtain ⟨t245, A30, H⟩ := H
 replace H : (if t245 < 0 then (some true) else ((laws_toFuelS.f k l0).bind fun t246 => ((spec_CleanestMix.f k t246 a1).bind fun bt249 => ((laws_toFuelS.f k l0).bind fun t254 => ((impl_CleanestMix.f k t254 a1).bind fun bt257 => ((laws_eqInt64S.f k bt257.1 bt249.1).bind fun t262 => (if t262 = true then (if bt257.2.1 = bt249.2.1 then (laws_FnExactCleanestMix.j0 k l0 a1 bt249.1 bt249.2.1 bt249.2.2 t254 bt257.1 bt257.2.1 bt257.2.2 (bt257.2.2 != bt249.2.2)) else (laws_FnExactCleanestMix.j0 k l0 a1 bt249.1 bt249.2.1 bt249.2.2 t254 bt257.1 bt257.2.1 bt257.2.2 true)) else (laws_FnExactCleanestMix.j0 k l0 a1 bt249.1 bt249.2.1 bt249.2.2 t254 bt257.1 bt257.2.1 bt257.2.2 true)))))))) = some r := H
 have A3 := As0.mk A30
 clear A30
 by_cases c4 : t245 < 0
 ·rw [if_pos c4] at H
  have c4b0 : decide (t245 < 0) = true := decide_eq_true c4
  clear c4
  obtain rfl := Option.some.inj H
  go_enter Try.func4, Try.ntmps4
  go_wp2_with (first | ((with_reducible refine gce (f := 6) rfl ?_); refine goesL_ (some 21) rfl rfl Try.func6 (by kernel_rfl) rfl #[.slice A0 l0.length c0, .int .i64 1048576] rfl (by (try simp only [List.map_toArray, List.map_cons, List.map_nil]); first | done | rfl | (simp only [List.length_drop, List.length_take]; rfl)) ?_; (with_reducible refine (laws_szFuelS.calls k _ _ l0 1048576 t245 _ ?side1 ?side2 A3.out).mono ?_); (case side1 => repeat (first | exact HR0.out | (with_reducible refine Kd.C_alloc ?_ _) | (with_reducible refine Kd.C_drewN ?_ _) | (with_reducible refine Kd.C_drew ?_))); (case side2 => exact HC0.out); rintro e w5 ⟨rfl, hb⟩; refine ⟨_, rfl, ?_⟩; have n0_ := As0.mk (bsp (by repeat (with_reducible first | exact HB.out | apply bal | apply pbN | apply bdw)) hb); clear HB; have HB := n0_; clear n0_; (try clear hb); (try clear hb2); (try clear hk); (try clear hi)))
  go_ret
  exact ⟨by first | rfl | (simp [eWn, eWs] <;> rfl) | (simp [*, eWn, eWs] <;> rfl), by repeat (with_reducible first | exact HB.out | apply bal | apply pbN | apply bdw)⟩
 ·rw [if_neg c4] at H
  have c4b0 : decide (t245 < 0) = false := decide_eq_false c4
  clear c4
  replace H := Option.bind_eq_some_iff.mp H
  obtain ⟨t246, A60, H⟩ := H
  replace H : ((spec_CleanestMix.f k t246 a1).bind fun bt249 => ((laws_toFuelS.f k l0).bind fun t254 => ((impl_CleanestMix.f k t254 a1).bind fun bt257 => ((laws_eqInt64S.f k bt257.1 bt249.1).bind fun t262 => (if t262 = true then (if bt257.2.1 = bt249.2.1 then (laws_FnExactCleanestMix.j0 k l0 a1 bt249.1 bt249.2.1 bt249.2.2 t254 bt257.1 bt257.2.1 bt257.2.2 (bt257.2.2 != bt249.2.2)) else (laws_FnExactCleanestMix.j0 k l0 a1 bt249.1 bt249.2.1 bt249.2.2 t254 bt257.1 bt257.2.1 bt257.2.2 true)) else (laws_FnExactCleanestMix.j0 k l0 a1 bt249.1 bt249.2.1 bt249.2.2 t254 bt257.1 bt257.2.1 bt257.2.2 true)))))) = some r := H
  have A6 := As0.mk A60
  clear A60
  replace H := Option.bind_eq_some_iff.mp H
  obtain ⟨⟨t249, t250, t251⟩, A70, H⟩ := H
  replace H : ((laws_toFuelS.f k l0).bind fun t254 => ((impl_CleanestMix.f k t254 a1).bind fun bt257 => ((laws_eqInt64S.f k bt257.1 t249).bind fun t262 => (if t262 = true then (if bt257.2.1 = t250 then (laws_FnExactCleanestMix.j0 k l0 a1 t249 t250 t251 t254 bt257.1 bt257.2.1 bt257.2.2 (bt257.2.2 != t251)) else (laws_FnExactCleanestMix.j0 k l0 a1 t249 t250 t251 t254 bt257.1 bt257.2.1 bt257.2.2 true)) else (laws_FnExactCleanestMix.j0 k l0 a1 t249 t250 t251 t254 bt257.1 bt257.2.1 bt257.2.2 true))))) = some r := H
  have A7 := As0.mk A70
  clear A70
  replace H := Option.bind_eq_some_iff.mp H
  obtain ⟨t254, A80, H⟩ := H
  replace H : ((impl_CleanestMix.f k t254 a1).bind fun bt257 => ((laws_eqInt64S.f k bt257.1 t249).bind fun t262 => (if t262 = true then (if bt257.2.1 = t250 then (laws_FnExactCleanestMix.j0 k l0 a1 t249 t250 t251 t254 bt257.1 bt257.2.1 bt257.2.2 (bt257.2.2 != t251)) else (laws_FnExactCleanestMix.j0 k l0 a1 t249 t250 t251 t254 bt257.1 bt257.2.1 bt257.2.2 true)) else (laws_FnExactCleanestMix.j0 k l0 a1 t249 t250 t251 t254 bt257.1 bt257.2.1 bt257.2.2 true)))) = some r := H
  have A8 := As0.mk A80
  clear A80
  replace H := Option.bind_eq_some_iff.mp H
  obtain ⟨⟨t257, t258, t259⟩, A90, H⟩ := H
  replace H : ((laws_eqInt64S.f k t257 t249).bind fun t262 => (if t262 = true then (if t258 = t250 then (laws_FnExactCleanestMix.j0 k l0 a1 t249 t250 t251 t254 t257 t258 t259 (t259 != t251)) else (laws_FnExactCleanestMix.j0 k l0 a1 t249 t250 t251 t254 t257 t258 t259 true)) else (laws_FnExactCleanestMix.j0 k l0 a1 t249 t250 t251 t254 t257 t258 t259 true))) = some r := H
  have A9 := As0.mk A90
  clear A90
  have HC10 := As0.mk H
  clear H
  go_enter Try.func4, Try.ntmps4
  go_upto_region 8 with (first | ((with_reducible refine gce (f := 6) rfl ?_); refine goesL_ (some 21) rfl rfl Try.func6 (by kernel_rfl) rfl #[.slice A0 l0.length c0, .int .i64 1048576] rfl (by (try simp only [List.map_toArray, List.map_cons, List.map_nil]); first | done | rfl | (simp only [List.length_drop, List.length_take]; rfl)) ?_; (with_reducible refine (laws_szFuelS.calls k _ _ l0 1048576 t245 _ ?side1 ?side2 A3.out).mono ?_); (case side1 => repeat (first | exact HR0.out | (with_reducible refine Kd.C_alloc ?_ _) | (with_reducible refine Kd.C_drewN ?_ _) | (with_reducible refine Kd.C_drew ?_))); (case side2 => exact HC0.out); rintro e w11 ⟨rfl, hb⟩; refine ⟨_, rfl, ?_⟩; have n0_ := As0.mk (bsp (by repeat (with_reducible first | exact HB.out | apply bal | apply pbN | apply bdw)) hb); clear HB; have HB := n0_; clear n0_; (try clear hb); (try clear hb2); (try clear hk); (try clear hi)) | ((with_reducible refine gce (f := 8) rfl ?_); refine goesL_ (some 26) rfl rfl Try.func8 (by kernel_rfl) rfl #[.slice A0 l0.length c0] rfl (by (try simp only [List.map_toArray, List.map_cons, List.map_nil]); first | done | rfl | (simp only [List.length_drop, List.length_take]; rfl)) ?_; (with_reducible refine (laws_toFuelS.calls k _ _ l0 t246 _ ?side1 ?side2 A6.out).mono ?_); (case side1 => repeat (first | exact (Kd.C_below HR0.out HB.out) | (with_reducible refine Kd.C_alloc ?_ _) | (with_reducible refine Kd.C_drewN ?_ _) | (with_reducible refine Kd.C_drew ?_))); (case side2 => exact HC0.out); rintro e w12 ⟨v247, rfl, ho0, hb⟩; refine ⟨_, rfl, ?_⟩; have n0_ := As0.mk (Kd.R_lower ho0 (bsz (by repeat (with_reducible first | exact HB.out | apply bal | apply pbN | apply bdw)))); have n1_ := As0.mk (bsp (by repeat (with_reducible first | exact HB.out | apply bal | apply pbN | apply bdw)) hb); clear HB; have HO248 := n0_; have HB := n1_; clear n0_ n1_; (try clear hb); (try clear hb2); (try clear hk); (try clear hi); (try clear ho0); obtain ⟨Ao13, co13, eo13⟩ := Kd.R_slice HO248.out; subst eo13) | ((with_reducible refine gce (f := 11) rfl ?_); refine goesL_ (some 28) rfl rfl Try.func11 (by kernel_rfl) rfl #[.slice Ao13 t246.length co13, .int .i64 a1] rfl (by (try simp only [List.map_toArray, List.map_cons, List.map_nil]); first | done | rfl | (simp only [List.length_drop, List.length_take]; rfl)) ?_; (with_reducible refine (spec_CleanestMix.calls k _ _ t246 a1 t249 t250 t251 _ ?side1 ?side2 A7.out).mono ?_); (case side1 => repeat (first | exact (Kd.R_reads' HO248.out).2.2 | (with_reducible refine Kd.C_alloc ?_ _) | (with_reducible refine Kd.C_drewN ?_ _) | (with_reducible refine Kd.C_drew ?_))); (case side2 => exact (Kd.R_reads' HO248.out).2.1); rintro e w14 ⟨v252, rfl, ho0, hb⟩; refine ⟨_, rfl, ?_⟩; have n0_ := As0.mk (Kd.R_below (by (with_reducible repeat (first | apply Kd.R_alloc | apply Kd.R_drewN | apply Kd.R_drew)); exact HO248.out) hb); have n1_ := As0.mk (Kd.R_lower ho0 (bsz (by repeat (with_reducible first | exact HB.out | apply bal | apply pbN | apply bdw)))); have n2_ := As0.mk (bsp (by repeat (with_reducible first | exact HB.out | apply bal | apply pbN | apply bdw)) hb); clear HO248; clear HB; have HO248 := n0_; have HO253 := n1_; have HB := n2_; clear n0_ n1_ n2_; (try clear hb); (try clear hb2); (try clear hk); (try clear hi); (try clear ho0)) | ((with_reducible refine gce (f := 8) rfl ?_); refine goesL_ (some 33) rfl rfl Try.func8 (by kernel_rfl) rfl #[.slice A0 l0.length c0] rfl (by (try simp only [List.map_toArray, List.map_cons, List.map_nil]); first | done | rfl | (simp only [List.length_drop, List.length_take]; rfl)) ?_; (with_reducible refine (laws_toFuelS.calls k _ _ l0 t254 _ ?side1 ?side2 A8.out).mono ?_); (case side1 => repeat (first | exact (Kd.C_below HR0.out HB.out) | (with_reducible refine Kd.C_alloc ?_ _) | (with_reducible refine Kd.C_drewN ?_ _) | (with_reducible refine Kd.C_drew ?_))); (case side2 => exact HC0.out); rintro e w15 ⟨v255, rfl, ho0, hb⟩; refine ⟨_, rfl, ?_⟩; have n0_ := As0.mk (Kd.R_elder' (by (with_reducible repeat (first | apply Kd.R_alloc | apply Kd.R_drewN | apply Kd.R_drew)); exact HO248.out) (Kd.R_base ho0) hb); have n1_ := As0.mk (Kd.R_below (by (with_reducible repeat (first | apply Kd.R_alloc | apply Kd.R_drewN | apply Kd.R_drew)); exact HO253.out) hb); have n2_ := As0.mk (Kd.R_lower (Kd.R_new' ho0 (Kd.R_lt (by (with_reducible repeat (first | apply Kd.R_alloc | apply Kd.R_drewN | apply Kd.R_drew)); exact HO248.out))) (bsz (by repeat (with_reducible first | exact HB.out | apply bal | apply pbN | apply bdw)))); have n3_ := As0.mk (bsp (by repeat (with_reducible first | exact HB.out | apply bal | apply pbN | apply bdw)) hb); clear HO248; clear HO253; clear HB; have HO248 := n0_; have HO253 := n1_; have HO256 := n2_; have HB := n3_; clear n0_ n1_ n2_ n3_; (try clear hb); (try clear hb2); (try clear hk); (try clear hi); (try clear ho0); obtain ⟨Ao16, co16, eo16⟩ := Kd.R_slice HO256.out; subst eo16) | ((with_reducible refine gce (f := 12) rfl ?_); refine goesL_ (some 37) rfl rfl Try.func12 (by kernel_rfl) rfl #[.slice Ao16 t254.length co16, .int .i64 a1] rfl (by (try simp only [List.map_toArray, List.map_cons, List.map_nil]); first | done | rfl | (simp only [List.length_drop, List.length_take]; rfl)) ?_; (with_reducible refine (impl_CleanestMix.calls k _ _ t254 a1 t257 t258 t259 _ ?side1 ?side2 A9.out).mono ?_); (case side1 => repeat (first | exact (Kd.R_reads' HO256.out).2.2 | (with_reducible refine Kd.C_alloc ?_ _) | (with_reducible refine Kd.C_drewN ?_ _) | (with_reducible refine Kd.C_drew ?_))); (case side2 => exact (Kd.R_reads' HO256.out).2.1); rintro e w17 ⟨v260, rfl, ho0, hb⟩; refine ⟨_, rfl, ?_⟩; have n0_ := As0.mk (Kd.R_below (by (with_reducible repeat (first | apply Kd.R_alloc | apply Kd.R_drewN | apply Kd.R_drew)); exact HO248.out) hb); have n1_ := As0.mk (Kd.R_elder' (by (with_reducible repeat (first | apply Kd.R_alloc | apply Kd.R_drewN | apply Kd.R_drew)); exact HO253.out) (Kd.R_base ho0) hb); have n2_ := As0.mk (Kd.R_below (by (with_reducible repeat (first | apply Kd.R_alloc | apply Kd.R_drewN | apply Kd.R_drew)); exact HO256.out) hb); have n3_ := As0.mk (Kd.R_lower (Kd.R_new' ho0 (Kd.R_lt (by (with_reducible repeat (first | apply Kd.R_alloc | apply Kd.R_drewN | apply Kd.R_drew)); exact HO253.out))) (bsz (by repeat (with_reducible first | exact HB.out | apply bal | apply pbN | apply bdw)))); have n4_ := As0.mk (bsp (by repeat (with_reducible first | exact HB.out | apply bal | apply pbN | apply bdw)) hb); clear HO248; clear HO253; clear HO256; clear HB; have HO248 := n0_; have HO253 := n1_; have HO256 := n2_; have HO261 := n3_; have HB := n4_; clear n0_ n1_ n2_ n3_ n4_; (try clear hb); (try clear hb2); (try clear hk); (try clear hi); (try clear ho0)))
  (try simp only [Act.put, sla, slz, sls])
  go_cut [54] (fun v54 wc => ∃ (kq : Nat) (x54_9 : Bool), v54 = .bool x54_9 ∧ As0 (laws_FnExactCleanestMix.j0 kq l0 a1 t249 t250 t251 t254 t257 t258 t259 x54_9 = some r) ∧ As0 (kq ≤ k) ∧ As0 (Kd.R (Kd.int .i64) 2 wc w.heap.size (fun k_ => some k_ ≠ (v260 : Value).ownBlock) v252 t249) ∧ As0 (Kd.R k46 46 wc w.heap.size (fun _ => True) (.slice Ao16 t254.length co16) t254) ∧ As0 (Kd.R (Kd.int .i64) 2 wc w.heap.size (fun k_ => some k_ ≠ (v252 : Value).ownBlock) v260 t257) ∧ As0 (Below w.heap.size w wc))
  case first =>
   have H := HC10.out
   clear HC10
   replace H := Option.bind_eq_some_iff.mp H
   obtain ⟨t262, A180, H⟩ := H
   replace H : (if t262 = true then (if t258 = t250 then (laws_FnExactCleanestMix.j0 k l0 a1 t249 t250 t251 t254 t257 t258 t259 (t259 != t251)) else (laws_FnExactCleanestMix.j0 k l0 a1 t249 t250 t251 t254 t257 t258 t259 true)) else (laws_FnExactCleanestMix.j0 k l0 a1 t249 t250 t251 t254 t257 t258 t259 true)) = some r := H
   have A18 := As0.mk A180
   clear A180
   by_cases c19 : t262 = true
   ·subst c19
    have H1 : (if t258 = t250 then (laws_FnExactCleanestMix.j0 k l0 a1 t249 t250 t251 t254 t257 t258 t259 (t259 != t251)) else (laws_FnExactCleanestMix.j0 k l0 a1 t249 t250 t251 t254 t257 t258 t259 true)) = some r := by rw [if_pos rfl] at H; exact H
    clear H
    have H := H1
    clear H1
    by_cases c20 : t258 = t250
    ·rw [if_pos c20] at H
     have c20b0 : (t258 == t250) = true := beq_iff_eq.mpr c20
     have c20b1 : (t258 != t250) = false := bne_eq_false_iff_eq.mpr c20
     clear c20
     (first | rw [c20b0] | (simp only [i64_w, i32_w]; rw [c20b0]) | skip)
     have H' := As0.mk H
     clear H
     obtain ⟨Ao21, co21, eo21⟩ := Kd.R_slice HO261.out
     subst eo21
     obtain ⟨Ao22, co22, eo22⟩ := Kd.R_slice HO253.out
     subst eo22
     go_wp2_with (first | ((with_reducible refine gce (f := 13) rfl ?_); refine goesL_ (some 43) rfl rfl Try.func13 (by kernel_rfl) rfl #[.slice Ao21 t257.length co21, .slice Ao22 t249.length co22] rfl (by (try simp only [List.map_toArray, List.map_cons, List.map_nil]); first | done | rfl | (simp only [List.length_drop, List.length_take]; rfl)) ?_; (with_reducible refine (laws_eqInt64S.calls k _ _ t257 _ _ t249 true _ ?side1 ?side2 ?side3 ?side4 A18.out).mono ?_); (case side1 => repeat (first | exact (Kd.R_reads' HO261.out).2.2 | (with_reducible refine Kd.C_alloc ?_ _) | (with_reducible refine Kd.C_drewN ?_ _) | (with_reducible refine Kd.C_drew ?_))); (case side2 => exact (Kd.R_reads' HO261.out).2.1); (case side3 => repeat (first | exact (Kd.R_reads' HO253.out).2.2 | (with_reducible refine Kd.C_alloc ?_ _) | (with_reducible refine Kd.C_drewN ?_ _) | (with_reducible refine Kd.C_drew ?_))); (case side4 => exact (Kd.R_reads' HO253.out).2.1); rintro e w' ⟨rfl, ⟨nd, rfl⟩⟩; refine ⟨_, rfl, ?_⟩))
     go_meet
     case rel => exact ⟨_, ((t259 != t251)), (by first | rfl | (simp; done) | (simp [*]; done)), H', ⟨by first | omega | exact Nat.le_refl _⟩, ⟨by (with_reducible repeat (first | apply Kd.R_alloc | apply Kd.R_drewN | apply Kd.R_drew)); exact Kd.R_mono HO253.out (fun _ hk => hk.2)⟩, ⟨by (with_reducible repeat (first | apply Kd.R_alloc | apply Kd.R_drewN | apply Kd.R_drew)); exact Kd.R_mono HO256.out (fun _ hk => trivial)⟩, ⟨by (with_reducible repeat (first | apply Kd.R_alloc | apply Kd.R_drewN | apply Kd.R_drew)); exact Kd.R_mono HO261.out (fun _ hk => hk.2)⟩, ⟨by repeat (with_reducible first | exact HB.out | apply bal | apply pbN | apply bdw)⟩⟩
    ·rw [if_neg c20] at H
     have c20b0 : (t258 == t250) = false := beq_eq_false_iff_ne.mpr c20
     have c20b1 : (t258 != t250) = true := bne_iff_ne.mpr c20
     (first | rw [c20b0] | (simp only [i64_w, i32_w]; rw [c20b0]) | skip)
     have H' := As0.mk H
     clear H
     obtain ⟨Ao23, co23, eo23⟩ := Kd.R_slice HO261.out
     subst eo23
     obtain ⟨Ao24, co24, eo24⟩ := Kd.R_slice HO253.out
     subst eo24
     go_wp2_with (first | ((with_reducible refine gce (f := 13) rfl ?_); refine goesL_ (some 43) rfl rfl Try.func13 (by kernel_rfl) rfl #[.slice Ao23 t257.length co23, .slice Ao24 t249.length co24] rfl (by (try simp only [List.map_toArray, List.map_cons, List.map_nil]); first | done | rfl | (simp only [List.length_drop, List.length_take]; rfl)) ?_; (with_reducible refine (laws_eqInt64S.calls k _ _ t257 _ _ t249 true _ ?side1 ?side2 ?side3 ?side4 A18.out).mono ?_); (case side1 => repeat (first | exact (Kd.R_reads' HO261.out).2.2 | (with_reducible refine Kd.C_alloc ?_ _) | (with_reducible refine Kd.C_drewN ?_ _) | (with_reducible refine Kd.C_drew ?_))); (case side2 => exact (Kd.R_reads' HO261.out).2.1); (case side3 => repeat (first | exact (Kd.R_reads' HO253.out).2.2 | (with_reducible refine Kd.C_alloc ?_ _) | (with_reducible refine Kd.C_drewN ?_ _) | (with_reducible refine Kd.C_drew ?_))); (case side4 => exact (Kd.R_reads' HO253.out).2.1); rintro e w' ⟨rfl, ⟨nd, rfl⟩⟩; refine ⟨_, rfl, ?_⟩))
     go_meet
     case rel => exact ⟨_, (true), (by first | rfl | (simp; done) | (simp [*]; done)), H', ⟨by first | omega | exact Nat.le_refl _⟩, ⟨by (with_reducible repeat (first | apply Kd.R_alloc | apply Kd.R_drewN | apply Kd.R_drew)); exact Kd.R_mono HO253.out (fun _ hk => hk.2)⟩, ⟨by (with_reducible repeat (first | apply Kd.R_alloc | apply Kd.R_drewN | apply Kd.R_drew)); exact Kd.R_mono HO256.out (fun _ hk => trivial)⟩, ⟨by (with_reducible repeat (first | apply Kd.R_alloc | apply Kd.R_drewN | apply Kd.R_drew)); exact Kd.R_mono HO261.out (fun _ hk => hk.2)⟩, ⟨by repeat (with_reducible first | exact HB.out | apply bal | apply pbN | apply bdw)⟩⟩
   ·replace c19 := Bool.eq_false_iff.mpr c19
    subst c19
    have H1 : (laws_FnExactCleanestMix.j0 k l0 a1 t249 t250 t251 t254 t257 t258 t259 true) = some r := by rw [if_neg (show ¬ (false = true) by decide)] at H; exact H
    clear H
    have H := H1
    clear H1
    have H' := As0.mk H
    clear H
    obtain ⟨Ao25, co25, eo25⟩ := Kd.R_slice HO261.out
    subst eo25
    obtain ⟨Ao26, co26, eo26⟩ := Kd.R_slice HO253.out
    subst eo26
    go_wp2_with (first | ((with_reducible refine gce (f := 13) rfl ?_); refine goesL_ (some 43) rfl rfl Try.func13 (by kernel_rfl) rfl #[.slice Ao25 t257.length co25, .slice Ao26 t249.length co26] rfl (by (try simp only [List.map_toArray, List.map_cons, List.map_nil]); first | done | rfl | (simp only [List.length_drop, List.length_take]; rfl)) ?_; (with_reducible refine (laws_eqInt64S.calls k _ _ t257 _ _ t249 false _ ?side1 ?side2 ?side3 ?side4 A18.out).mono ?_); (case side1 => repeat (first | exact (Kd.R_reads' HO261.out).2.2 | (with_reducible refine Kd.C_alloc ?_ _) | (with_reducible refine Kd.C_drewN ?_ _) | (with_reducible refine Kd.C_drew ?_))); (case side2 => exact (Kd.R_reads' HO261.out).2.1); (case side3 => repeat (first | exact (Kd.R_reads' HO253.out).2.2 | (with_reducible refine Kd.C_alloc ?_ _) | (with_reducible refine Kd.C_drewN ?_ _) | (with_reducible refine Kd.C_drew ?_))); (case side4 => exact (Kd.R_reads' HO253.out).2.1); rintro e w' ⟨rfl, ⟨nd, rfl⟩⟩; refine ⟨_, rfl, ?_⟩))
    go_meet
    case rel => exact ⟨_, (true), (by first | rfl | (simp; done) | (simp [*]; done)), H', ⟨by first | omega | exact Nat.le_refl _⟩, ⟨by (with_reducible repeat (first | apply Kd.R_alloc | apply Kd.R_drewN | apply Kd.R_drew)); exact Kd.R_mono HO253.out (fun _ hk => hk.2)⟩, ⟨by (with_reducible repeat (first | apply Kd.R_alloc | apply Kd.R_drewN | apply Kd.R_drew)); exact Kd.R_mono HO256.out (fun _ hk => trivial)⟩, ⟨by (with_reducible repeat (first | apply Kd.R_alloc | apply Kd.R_drewN | apply Kd.R_drew)); exact Kd.R_mono HO261.out (fun _ hk => hk.2)⟩, ⟨by repeat (with_reducible first | exact HB.out | apply bal | apply pbN | apply bdw)⟩⟩
  case rest =>
   clear HC10
   try clear c1
   try clear c2
   try clear p2
   try clear c4
   try clear c4b0
   try clear c6
   try clear c8
   try clear c11
   try clear c12
   try clear c13
   try clear c19
   try clear c20
   try clear c20b0
   try clear c20b1
   obtain ⟨kq, x54_9, rfl, HA, HJ9, HO_6, HO_9, HO_10, HB⟩ := hcut
   cases kq with
   | zero => exact absurd HA.out (by simp [laws_FnExactCleanestMix.j0])
   | succ kj9 =>
    have H := HA.out
    clear HA
    simp only [laws_FnExactCleanestMix.j0] at H
    by_cases c27 : x54_9 = true
    ·subst c27
     have H1 : (some false) = some r := by rw [if_pos rfl] at H; exact H
     clear H
     have H := H1
     clear H1
     obtain rfl := Option.some.inj H
     go_wp2
     go_ret
     exact ⟨by first | rfl | (simp [eWn, eWs] <;> rfl) | (simp [*, eWn, eWs] <;> rfl), by repeat (with_reducible first | exact HB.out | apply bal | apply pbN | apply bdw)⟩
    ·replace c27 := Bool.eq_false_iff.mpr c27
     subst c27
     have H1 : ((laws_toFuelS.f kj9 l0).bind fun t263 => ((laws_eqFuelS.f kj9 t254 t263).bind fun t266 => (if t266 = true then ((laws_markFuelS.f kj9 t254 1).bind fun bt267 => (if bt267.1 < 0 then (laws_FnExactCleanestMix.j1 kj9 l0 a1 t249 t250 t251 t257 true) else ((laws_eqInt64S.f kj9 t257 t249).bind fun t269 => (if t269 = true then (if t258 = t250 then (laws_FnExactCleanestMix.j1 kj9 l0 a1 t249 t250 t251 t257 (t259 != t251)) else (laws_FnExactCleanestMix.j1 kj9 l0 a1 t249 t250 t251 t257 true)) else (laws_FnExactCleanestMix.j1 kj9 l0 a1 t249 t250 t251 t257 true))))) else (some false)))) = some r := by rw [if_neg (show ¬ (false = true) by decide)] at H; exact H
     clear H
     have H := H1
     clear H1
     replace H := Option.bind_eq_some_iff.mp H
     obtain ⟨t263, A280, H⟩ := H
     replace H : ((laws_eqFuelS.f kj9 t254 t263).bind fun t266 => (if t266 = true then ((laws_markFuelS.f kj9 t254 1).bind fun bt267 => (if bt267.1 < 0 then (laws_FnExactCleanestMix.j1 kj9 l0 a1 t249 t250 t251 t257 true) else ((laws_eqInt64S.f kj9 t257 t249).bind fun t269 => (if t269 = true then (if t258 = t250 then (laws_FnExactCleanestMix.j1 kj9 l0 a1 t249 t250 t251 t257 (t259 != t251)) else (laws_FnExactCleanestMix.j1 kj9 l0 a1 t249 t250 t251 t257 true)) else (laws_FnExactCleanestMix.j1 kj9 l0 a1 t249 t250 t251 t257 true))))) else (some false))) = some r := H
     have A28 := As0.mk A280
     clear A280
     replace H := Option.bind_eq_some_iff.mp H
     obtain ⟨t266, A290, H⟩ := H
     replace H : (if t266 = true then ((laws_markFuelS.f kj9 t254 1).bind fun bt267 => (if bt267.1 < 0 then (laws_FnExactCleanestMix.j1 kj9 l0 a1 t249 t250 t251 t257 true) else ((laws_eqInt64S.f kj9 t257 t249).bind fun t269 => (if t269 = true then (if t258 = t250 then (laws_FnExactCleanestMix.j1 kj9 l0 a1 t249 t250 t251 t257 (t259 != t251)) else (laws_FnExactCleanestMix.j1 kj9 l0 a1 t249 t250 t251 t257 true)) else (laws_FnExactCleanestMix.j1 kj9 l0 a1 t249 t250 t251 t257 true))))) else (some false)) = some r := H
     have A29 := As0.mk A290
     clear A290
     by_cases c30 : t266 = true
     ·subst c30
      have H1 : ((laws_markFuelS.f kj9 t254 1).bind fun bt267 => (if bt267.1 < 0 then (laws_FnExactCleanestMix.j1 kj9 l0 a1 t249 t250 t251 t257 true) else ((laws_eqInt64S.f kj9 t257 t249).bind fun t269 => (if t269 = true then (if t258 = t250 then (laws_FnExactCleanestMix.j1 kj9 l0 a1 t249 t250 t251 t257 (t259 != t251)) else (laws_FnExactCleanestMix.j1 kj9 l0 a1 t249 t250 t251 t257 true)) else (laws_FnExactCleanestMix.j1 kj9 l0 a1 t249 t250 t251 t257 true))))) = some r := by rw [if_pos rfl] at H; exact H
      clear H
      have H := H1
      clear H1
      replace H := Option.bind_eq_some_iff.mp H
      obtain ⟨⟨t267, t268⟩, A310, H⟩ := H
      replace H : (if t267 < 0 then (laws_FnExactCleanestMix.j1 kj9 l0 a1 t249 t250 t251 t257 true) else ((laws_eqInt64S.f kj9 t257 t249).bind fun t269 => (if t269 = true then (if t258 = t250 then (laws_FnExactCleanestMix.j1 kj9 l0 a1 t249 t250 t251 t257 (t259 != t251)) else (laws_FnExactCleanestMix.j1 kj9 l0 a1 t249 t250 t251 t257 true)) else (laws_FnExactCleanestMix.j1 kj9 l0 a1 t249 t250 t251 t257 true)))) = some r := H
      have A31 := As0.mk A310
      clear A310
      have HC32 := As0.mk H
      clear H
      go_upto_region 14 with (first | ((with_reducible refine gce (f := 8) rfl ?_); refine goesL_ (some 57) rfl rfl Try.func8 (by kernel_rfl) rfl #[.slice A0 l0.length c0] rfl (by (try simp only [List.map_toArray, List.map_cons, List.map_nil]); first | done | rfl | (simp only [List.length_drop, List.length_take]; rfl)) ?_; (with_reducible refine (laws_toFuelS.calls kj9 _ _ l0 t263 _ ?side1 ?side2 A28.out).mono ?_); (case side1 => repeat (first | exact (Kd.C_below HR0.out HB.out) | (with_reducible refine Kd.C_alloc ?_ _) | (with_reducible refine Kd.C_drewN ?_ _) | (with_reducible refine Kd.C_drew ?_))); (case side2 => exact HC0.out); rintro e w33 ⟨v264, rfl, ho0, hb⟩; refine ⟨_, rfl, ?_⟩; have n0_ := As0.mk (Kd.R_below (by (with_reducible repeat (first | apply Kd.R_alloc | apply Kd.R_drewN | apply Kd.R_drew)); exact HO_6.out) hb); have n1_ := As0.mk (Kd.R_elder' (by (with_reducible repeat (first | apply Kd.R_alloc | apply Kd.R_drewN | apply Kd.R_drew)); exact HO_9.out) (Kd.R_base ho0) hb); have n2_ := As0.mk (Kd.R_below (by (with_reducible repeat (first | apply Kd.R_alloc | apply Kd.R_drewN | apply Kd.R_drew)); exact HO_10.out) hb); have n3_ := As0.mk (Kd.R_lower (Kd.R_new' ho0 (Kd.R_lt (by (with_reducible repeat (first | apply Kd.R_alloc | apply Kd.R_drewN | apply Kd.R_drew)); exact HO_9.out))) (bsz (by repeat (with_reducible first | exact HB.out | apply bal | apply pbN | apply bdw)))); have n4_ := As0.mk (bsp (by repeat (with_reducible first | exact HB.out | apply bal | apply pbN | apply bdw)) hb); clear HO_6; clear HO_9; clear HO_10; clear HB; have HO_6 := n0_; have HO_9 := n1_; have HO_10 := n2_; have HO265 := n3_; have HB := n4_; clear n0_ n1_ n2_ n3_ n4_; (try clear hb); (try clear hb2); (try clear hk); (try clear hi); (try clear ho0); obtain ⟨Ao34, co34, eo34⟩ := Kd.R_slice HO265.out; subst eo34) | ((with_reducible refine gce (f := 10) rfl ?_); refine goesL_ (some 58) rfl rfl Try.func10 (by kernel_rfl) rfl #[.slice Ao16 t254.length co16, .slice Ao34 t263.length co34] rfl (by (try simp only [List.map_toArray, List.map_cons, List.map_nil]); first | done | rfl | (simp only [List.length_drop, List.length_take]; rfl)) ?_; (with_reducible refine (laws_eqFuelS.calls kj9 _ _ t254 _ _ t263 true _ ?side1 ?side2 ?side3 ?side4 A29.out).mono ?_); (case side1 => repeat (first | exact (Kd.R_reads' HO_9.out).2.2 | (with_reducible refine Kd.C_alloc ?_ _) | (with_reducible refine Kd.C_drewN ?_ _) | (with_reducible refine Kd.C_drew ?_))); (case side2 => exact (Kd.R_reads' HO_9.out).2.1); (case side3 => repeat (first | exact (Kd.R_reads' HO265.out).2.2 | (with_reducible refine Kd.C_alloc ?_ _) | (with_reducible refine Kd.C_drewN ?_ _) | (with_reducible refine Kd.C_drew ?_))); (case side4 => exact (Kd.R_reads' HO265.out).2.1); rintro e w35 ⟨rfl, hb⟩; refine ⟨_, rfl, ?_⟩; have n0_ := As0.mk (Kd.R_below (by (with_reducible repeat (first | apply Kd.R_alloc | apply Kd.R_drewN | apply Kd.R_drew)); exact HO_6.out) hb); have n1_ := As0.mk (Kd.R_below (by (with_reducible repeat (first | apply Kd.R_alloc | apply Kd.R_drewN | apply Kd.R_drew)); exact HO_9.out) hb); have n2_ := As0.mk (Kd.R_below (by (with_reducible repeat (first | apply Kd.R_alloc | apply Kd.R_drewN | apply Kd.R_drew)); exact HO_10.out) hb); have n3_ := As0.mk (Kd.R_below (by (with_reducible repeat (first | apply Kd.R_alloc | apply Kd.R_drewN | apply Kd.R_drew)); exact HO265.out) hb); have n4_ := As0.mk (bsp (by repeat (with_reducible first | exact HB.out | apply bal | apply pbN | apply bdw)) hb); clear HO_6; clear HO_9; clear HO_10; clear HO265; clear HB; have HO_6 := n0_; have HO_9 := n1_; have HO_10 := n2_; have HO265 := n3_; have HB := n4_; clear n0_ n1_ n2_ n3_ n4_; (try clear hb); (try clear hb2); (try clear hk); (try clear hi)) | ((with_reducible refine gce (f := 14) rfl ?_); refine goesL_ (some 62) rfl rfl Try.func14 (by kernel_rfl) rfl #[.slice Ao16 t254.length co16, .int .i64 1] rfl (by (try simp only [List.map_toArray, List.map_cons, List.map_nil]); first | done | rfl | (simp only [List.length_drop, List.length_take]; rfl)) ?_; (with_reducible refine (laws_markFuelS.calls kj9 (fun k_ => some k_ = (.slice Ao16 t254.length co16 : Value).ownBlock) (.slice Ao16 t254.length co16) t254 1 t267 t268 w _ ?side1 ?side2 A31.out).mono ?_); (case side1 => repeat (with_reducible first | exact HB.out | apply bal | apply pbN | apply bdw)); (case side2 => exact Kd.R_tight rfl HO_9.out); rintro e w36 ⟨rfl, hy0, hb, hkp⟩; refine ⟨_, rfl, ?_⟩; have n0_ := As0.mk (Kd.R_mono (ok' := fun k_ => some k_ ≠ (v260 : Value).ownBlock) (Kd.R_keptB ((Kd.R_apart' HO_6.out (Kd.R_typed HO_9.out) (by decide))) hkp (fun k_ hk_ hs_ => (hk_.2) hs_)) (fun k_ hk_ => hk_.1.1)); have n1_ := As0.mk (Kd.R_reok rfl hy0 (fun k_ e_ => HO_9.out.1 k_ e_)); have n2_ := As0.mk (Kd.R_mono (ok' := fun k_ => some k_ ≠ (v252 : Value).ownBlock) (Kd.R_keptB ((Kd.R_apart' HO_10.out (Kd.R_typed HO_9.out) (by decide))) hkp (fun k_ hk_ hs_ => (hk_.2) hs_)) (fun k_ hk_ => hk_.1.1)); have n3_ := As0.mk (Kd.R_mono (ok' := fun k_ => some k_ ≠ (.slice Ao16 t254.length co16 : Value).ownBlock) (Kd.R_keptB (HO265.out) hkp (fun k_ hk_ hs_ => (hk_.2) hs_)) (fun k_ hk_ => hk_.1.2)); have n4_ := As0.mk (hb); clear HO_6; clear HO_9; clear HO_10; clear HO265; clear HB; have HO_6 := n0_; have HO_9 := n1_; have HO_10 := n2_; have HO265 := n3_; have HB := n4_; clear n0_ n1_ n2_ n3_ n4_; (try clear hb); (try clear hkp); (try clear hy0)))
      (try simp only [Act.put, sla, slz, sls])
      go_cut [80] (fun v80 wc => ∃ (kq : Nat) (x80_31 : Bool), v80 = .bool x80_31 ∧ As0 (laws_FnExactCleanestMix.j1 kq l0 a1 t249 t250 t251 t257 x80_31 = some r) ∧ As0 (kq ≤ kj9) ∧ As0 (Kd.R (Kd.int .i64) 2 wc w.heap.size (fun k_ => some k_ ≠ (v260 : Value).ownBlock) v252 t249) ∧ As0 (Kd.R (Kd.int .i64) 2 wc w.heap.size (fun k_ => some k_ ≠ (v252 : Value).ownBlock) v260 t257) ∧ As0 (Below w.heap.size w wc))
      case first =>
       have H := HC32.out
       clear HC32
       by_cases c37 : t267 < 0
       ·rw [if_pos c37] at H
        have c37b0 : decide (t267 < 0) = true := decide_eq_true c37
        clear c37
        (first | rw [c37b0] | (simp only [i64_w, i32_w]; rw [c37b0]) | skip)
        have H' := As0.mk H
        clear H
        go_wp2
        go_meet
        case rel => exact ⟨_, (true), (by first | rfl | (simp; done) | (simp [*]; done)), H', ⟨by have := HJ9.out; first | omega | exact Nat.le_refl _⟩, ⟨by (with_reducible repeat (first | apply Kd.R_alloc | apply Kd.R_drewN | apply Kd.R_drew)); exact HO_6.out⟩, ⟨by (with_reducible repeat (first | apply Kd.R_alloc | apply Kd.R_drewN | apply Kd.R_drew)); exact HO_10.out⟩, ⟨by repeat (with_reducible first | exact HB.out | apply bal | apply pbN | apply bdw)⟩⟩
       ·rw [if_neg c37] at H
        have c37b0 : decide (t267 < 0) = false := decide_eq_false c37
        clear c37
        (first | rw [c37b0] | (simp only [i64_w, i32_w]; rw [c37b0]) | skip)
        replace H := Option.bind_eq_some_iff.mp H
        obtain ⟨t269, A380, H⟩ := H
        replace H : (if t269 = true then (if t258 = t250 then (laws_FnExactCleanestMix.j1 kj9 l0 a1 t249 t250 t251 t257 (t259 != t251)) else (laws_FnExactCleanestMix.j1 kj9 l0 a1 t249 t250 t251 t257 true)) else (laws_FnExactCleanestMix.j1 kj9 l0 a1 t249 t250 t251 t257 true)) = some r := H
        have A38 := As0.mk A380
        clear A380
        by_cases c39 : t269 = true
        ·subst c39
         have H1 : (if t258 = t250 then (laws_FnExactCleanestMix.j1 kj9 l0 a1 t249 t250 t251 t257 (t259 != t251)) else (laws_FnExactCleanestMix.j1 kj9 l0 a1 t249 t250 t251 t257 true)) = some r := by rw [if_pos rfl] at H; exact H
         clear H
         have H := H1
         clear H1
         by_cases c40 : t258 = t250
         ·rw [if_pos c40] at H
          have c40b0 : (t258 == t250) = true := beq_iff_eq.mpr c40
          have c40b1 : (t258 != t250) = false := bne_eq_false_iff_eq.mpr c40
          clear c40
          have H' := As0.mk H
          clear H
          obtain ⟨Ao41, co41, eo41⟩ := Kd.R_slice HO_10.out
          subst eo41
          obtain ⟨Ao42, co42, eo42⟩ := Kd.R_slice HO_6.out
          subst eo42
          go_wp2_with (first | (go_at_call 13; (first | (with_reducible refine (laws_eqInt64S.calls kj9 _ _ t257 _ _ t249 true _ ?side1 ?side2 ?side3 ?side4 A38.out).mono ?_) | ((try simp only [Go.IntWalk.i64_left]); (with_reducible refine (laws_eqInt64S.calls kj9 _ _ t257 _ _ t249 true _ ?side1 ?side2 ?side3 ?side4 A38.out).mono ?_))); (case side1 => repeat (first | exact (Kd.R_reads' HO_10.out).2.2 | (with_reducible refine Kd.C_alloc ?_ _) | (with_reducible refine Kd.C_drewN ?_ _) | (with_reducible refine Kd.C_drew ?_))); (case side2 => exact (Kd.R_reads' HO_10.out).2.1); (case side3 => repeat (first | exact (Kd.R_reads' HO_6.out).2.2 | (with_reducible refine Kd.C_alloc ?_ _) | (with_reducible refine Kd.C_drewN ?_ _) | (with_reducible refine Kd.C_drew ?_))); (case side4 => exact (Kd.R_reads' HO_6.out).2.1); rintro e w' ⟨rfl, ⟨nd, rfl⟩⟩))
          go_meet
          case rel => exact ⟨_, ((t259 != t251)), (by first | rfl | (simp; done) | (simp [*]; done)), H', ⟨by have := HJ9.out; first | omega | exact Nat.le_refl _⟩, ⟨by (with_reducible repeat (first | apply Kd.R_alloc | apply Kd.R_drewN | apply Kd.R_drew)); exact HO_6.out⟩, ⟨by (with_reducible repeat (first | apply Kd.R_alloc | apply Kd.R_drewN | apply Kd.R_drew)); exact HO_10.out⟩, ⟨by repeat (with_reducible first | exact HB.out | apply bal | apply pbN | apply bdw)⟩⟩
         ·rw [if_neg c40] at H
          have c40b0 : (t258 == t250) = false := beq_eq_false_iff_ne.mpr c40
          have c40b1 : (t258 != t250) = true := bne_iff_ne.mpr c40
          have H' := As0.mk H
          clear H
          obtain ⟨Ao43, co43, eo43⟩ := Kd.R_slice HO_10.out
          subst eo43
          obtain ⟨Ao44, co44, eo44⟩ := Kd.R_slice HO_6.out
          subst eo44
          go_wp2_with (first | (go_at_call 13; (first | (with_reducible refine (laws_eqInt64S.calls kj9 _ _ t257 _ _ t249 true _ ?side1 ?side2 ?side3 ?side4 A38.out).mono ?_) | ((try simp only [Go.IntWalk.i64_left]); (with_reducible refine (laws_eqInt64S.calls kj9 _ _ t257 _ _ t249 true _ ?side1 ?side2 ?side3 ?side4 A38.out).mono ?_))); (case side1 => repeat (first | exact (Kd.R_reads' HO_10.out).2.2 | (with_reducible refine Kd.C_alloc ?_ _) | (with_reducible refine Kd.C_drewN ?_ _) | (with_reducible refine Kd.C_drew ?_))); (case side2 => exact (Kd.R_reads' HO_10.out).2.1); (case side3 => repeat (first | exact (Kd.R_reads' HO_6.out).2.2 | (with_reducible refine Kd.C_alloc ?_ _) | (with_reducible refine Kd.C_drewN ?_ _) | (with_reducible refine Kd.C_drew ?_))); (case side4 => exact (Kd.R_reads' HO_6.out).2.1); rintro e w' ⟨rfl, ⟨nd, rfl⟩⟩))
          go_meet
          case rel => exact ⟨_, (true), (by first | rfl | (simp; done) | (simp [*]; done)), H', ⟨by have := HJ9.out; first | omega | exact Nat.le_refl _⟩, ⟨by (with_reducible repeat (first | apply Kd.R_alloc | apply Kd.R_drewN | apply Kd.R_drew)); exact HO_6.out⟩, ⟨by (with_reducible repeat (first | apply Kd.R_alloc | apply Kd.R_drewN | apply Kd.R_drew)); exact HO_10.out⟩, ⟨by repeat (with_reducible first | exact HB.out | apply bal | apply pbN | apply bdw)⟩⟩
        ·replace c39 := Bool.eq_false_iff.mpr c39
         subst c39
         have H1 : (laws_FnExactCleanestMix.j1 kj9 l0 a1 t249 t250 t251 t257 true) = some r := by rw [if_neg (show ¬ (false = true) by decide)] at H; exact H
         clear H
         have H := H1
         clear H1
         have H' := As0.mk H
         clear H
         obtain ⟨Ao45, co45, eo45⟩ := Kd.R_slice HO_10.out
         subst eo45
         obtain ⟨Ao46, co46, eo46⟩ := Kd.R_slice HO_6.out
         subst eo46
         go_wp2_with (first | (go_at_call 13; (first | (with_reducible refine (laws_eqInt64S.calls kj9 _ _ t257 _ _ t249 false _ ?side1 ?side2 ?side3 ?side4 A38.out).mono ?_) | ((try simp only [Go.IntWalk.i64_left]); (with_reducible refine (laws_eqInt64S.calls kj9 _ _ t257 _ _ t249 false _ ?side1 ?side2 ?side3 ?side4 A38.out).mono ?_))); (case side1 => repeat (first | exact (Kd.R_reads' HO_10.out).2.2 | (with_reducible refine Kd.C_alloc ?_ _) | (with_reducible refine Kd.C_drewN ?_ _) | (with_reducible refine Kd.C_drew ?_))); (case side2 => exact (Kd.R_reads' HO_10.out).2.1); (case side3 => repeat (first | exact (Kd.R_reads' HO_6.out).2.2 | (with_reducible refine Kd.C_alloc ?_ _) | (with_reducible refine Kd.C_drewN ?_ _) | (with_reducible refine Kd.C_drew ?_))); (case side4 => exact (Kd.R_reads' HO_6.out).2.1); rintro e w' ⟨rfl, ⟨nd, rfl⟩⟩))
         go_meet
         case rel => exact ⟨_, (true), (by first | rfl | (simp; done) | (simp [*]; done)), H', ⟨by have := HJ9.out; first | omega | exact Nat.le_refl _⟩, ⟨by (with_reducible repeat (first | apply Kd.R_alloc | apply Kd.R_drewN | apply Kd.R_drew)); exact HO_6.out⟩, ⟨by (with_reducible repeat (first | apply Kd.R_alloc | apply Kd.R_drewN | apply Kd.R_drew)); exact HO_10.out⟩, ⟨by repeat (with_reducible first | exact HB.out | apply bal | apply pbN | apply bdw)⟩⟩
      case rest =>
       clear HC32
       try clear c1
       try clear c2
       try clear p2
       try clear c3
       try clear c4
       try clear c4b0
       try clear c6
       try clear c8
       try clear c10
       try clear c11
       try clear c12
       try clear c13
       try clear c14
       try clear c19
       try clear c20
       try clear c20b0
       try clear c20b1
       try clear c27
       try clear c30
       try clear c37
       try clear c37b0
       try clear c39
       try clear c40
       try clear c40b0
       try clear c40b1
       try clear p2
       obtain ⟨kq, x80_31, rfl, HA, HJ31, HO_6, HO_10, HB⟩ := hcut
       cases kq with
       | zero => exact absurd HA.out (by simp [laws_FnExactCleanestMix.j1])
       | succ kj31 =>
        have H := HA.out
        clear HA
        simp only [laws_FnExactCleanestMix.j1] at H
        by_cases c47 : x80_31 = true
        ·subst c47
         have H1 : (some false) = some r := by rw [if_pos rfl] at H; exact H
         clear H
         have H := H1
         clear H1
         obtain rfl := Option.some.inj H
         go_wp2
         go_ret
         exact ⟨by first | rfl | (simp [eWn, eWs] <;> rfl) | (simp [*, eWn, eWs] <;> rfl), by repeat (with_reducible first | exact HB.out | apply bal | apply pbN | apply bdw)⟩
        ·replace c47 := Bool.eq_false_iff.mpr c47
         subst c47
         have H1 : ((laws_markInt64S.f kj31 t257 1).bind fun bt270 => ((laws_heldInt64S.f kj31 bt270.2 1).bind fun t272 => (if t272 < 0 then (some false) else (if t272 = bt270.1 then ((laws_toFuelS.f kj31 l0).bind fun t273 => ((impl_CleanestMix.f kj31 t273 a1).bind fun bt276 => ((laws_eqInt64S.f kj31 bt276.1 t249).bind fun t281 => (if t281 = true then (if bt276.2.1 = t250 then (laws_FnExactCleanestMix.j2 kj31 bt270.2 bt270.1 (bt276.2.2 != t251)) else (laws_FnExactCleanestMix.j2 kj31 bt270.2 bt270.1 true)) else (laws_FnExactCleanestMix.j2 kj31 bt270.2 bt270.1 true))))) else (some false))))) = some r := by rw [if_neg (show ¬ (false = true) by decide)] at H; exact H
         clear H
         have H := H1
         clear H1
         replace H := Option.bind_eq_some_iff.mp H
         obtain ⟨⟨t270, t271⟩, A480, H⟩ := H
         replace H : ((laws_heldInt64S.f kj31 t271 1).bind fun t272 => (if t272 < 0 then (some false) else (if t272 = t270 then ((laws_toFuelS.f kj31 l0).bind fun t273 => ((impl_CleanestMix.f kj31 t273 a1).bind fun bt276 => ((laws_eqInt64S.f kj31 bt276.1 t249).bind fun t281 => (if t281 = true then (if bt276.2.1 = t250 then (laws_FnExactCleanestMix.j2 kj31 t271 t270 (bt276.2.2 != t251)) else (laws_FnExactCleanestMix.j2 kj31 t271 t270 true)) else (laws_FnExactCleanestMix.j2 kj31 t271 t270 true))))) else (some false)))) = some r := H
         have A48 := As0.mk A480
         clear A480
         replace H := Option.bind_eq_some_iff.mp H
         obtain ⟨t272, A490, H⟩ := H
         replace H : (if t272 < 0 then (some false) else (if t272 = t270 then ((laws_toFuelS.f kj31 l0).bind fun t273 => ((impl_CleanestMix.f kj31 t273 a1).bind fun bt276 => ((laws_eqInt64S.f kj31 bt276.1 t249).bind fun t281 => (if t281 = true then (if bt276.2.1 = t250 then (laws_FnExactCleanestMix.j2 kj31 t271 t270 (bt276.2.2 != t251)) else (laws_FnExactCleanestMix.j2 kj31 t271 t270 true)) else (laws_FnExactCleanestMix.j2 kj31 t271 t270 true))))) else (some false))) = some r := H
         have A49 := As0.mk A490
         clear A490
         by_cases c50 : t272 < 0
         ·rw [if_pos c50] at H
          have c50b0 : decide (t272 < 0) = true := decide_eq_true c50
          clear c50
          obtain rfl := Option.some.inj H
          obtain ⟨Ao51, co51, eo51⟩ := Kd.R_slice HO_10.out
          subst eo51
          go_wp2_with (first | ((with_reducible refine gce (f := 15) rfl ?_); refine goesL_ (some 83) rfl rfl Try.func15 (by kernel_rfl) rfl #[.slice Ao51 t257.length co51, .int .i64 1] rfl (by (try simp only [List.map_toArray, List.map_cons, List.map_nil]); first | done | rfl | (simp only [List.length_drop, List.length_take]; rfl)) ?_; (with_reducible refine (laws_markInt64S.calls kj31 (fun k_ => some k_ = (.slice Ao51 t257.length co51 : Value).ownBlock) (.slice Ao51 t257.length co51) t257 1 t270 t271 w _ ?side1 ?side2 A48.out).mono ?_); (case side1 => repeat (with_reducible first | exact HB.out | apply bal | apply pbN | apply bdw)); (case side2 => exact Kd.R_tight rfl HO_10.out); rintro e w52 ⟨rfl, hy0, hb, hkp⟩; refine ⟨_, rfl, ?_⟩; have n0_ := As0.mk (Kd.R_mono (ok' := fun k_ => some k_ ≠ (.slice Ao51 t257.length co51 : Value).ownBlock) (Kd.R_keptB (HO_6.out) hkp (fun k_ hk_ hs_ => (hk_) hs_)) (fun k_ hk_ => hk_.1)); have n1_ := As0.mk (Kd.R_reok rfl hy0 (fun k_ e_ => HO_10.out.1 k_ e_)); have n2_ := As0.mk (hb); clear HO_6; clear HO_10; clear HB; have HO_6 := n0_; have HO_10 := n1_; have HB := n2_; clear n0_ n1_ n2_; (try clear hb); (try clear hkp); (try clear hy0)) | ((with_reducible refine gce (f := 16) rfl ?_); refine goesL_ (some 86) rfl rfl Try.func16 (by kernel_rfl) rfl #[.slice Ao51 t271.length co51, .int .i64 1] rfl (by (try simp only [List.map_toArray, List.map_cons, List.map_nil]); first | done | (rw [show t271.length = t257.length from (Kd.R_reads' HO_10.out).1.symm] <;> rfl) | rfl | (simp only [List.length_drop, List.length_take]; rfl)) ?_; (with_reducible refine (laws_heldInt64S.calls kj31 _ _ t271 1 t272 _ ?side1 ?side2 A49.out).mono ?_); (case side1 => repeat (first | exact (Kd.R_reads' HO_10.out).2.2 | (with_reducible refine Kd.C_alloc ?_ _) | (with_reducible refine Kd.C_drewN ?_ _) | (with_reducible refine Kd.C_drew ?_))); (case side2 => rw [show t271.length = t257.length from (Kd.R_reads' HO_10.out).1.symm]; exact (Kd.R_reads' HO_10.out).2.1); rintro e w' ⟨rfl, ⟨nd, rfl⟩⟩; refine ⟨_, rfl, ?_⟩))
          go_ret
          exact ⟨by first | rfl | (simp [eWn, eWs] <;> rfl) | (simp [*, eWn, eWs] <;> rfl), by repeat (with_reducible first | exact HB.out | apply bal | apply pbN | apply bdw)⟩
         ·rw [if_neg c50] at H
          have c50b0 : decide (t272 < 0) = false := decide_eq_false c50
          clear c50
          by_cases c53 : t272 = t270
          ·rw [if_pos c53] at H
           have c53b0 : (t272 == t270) = true := beq_iff_eq.mpr c53
           have c53b1 : (t272 != t270) = false := bne_eq_false_iff_eq.mpr c53
           clear c53
           replace H := Option.bind_eq_some_iff.mp H
           obtain ⟨t273, A540, H⟩ := H
           replace H : ((impl_CleanestMix.f kj31 t273 a1).bind fun bt276 => ((laws_eqInt64S.f kj31 bt276.1 t249).bind fun t281 => (if t281 = true then (if bt276.2.1 = t250 then (laws_FnExactCleanestMix.j2 kj31 t271 t270 (bt276.2.2 != t251)) else (laws_FnExactCleanestMix.j2 kj31 t271 t270 true)) else (laws_FnExactCleanestMix.j2 kj31 t271 t270 true)))) = some r := H
           have A54 := As0.mk A540
           clear A540
           replace H := Option.bind_eq_some_iff.mp H
           obtain ⟨⟨t276, t277, t278⟩, A550, H⟩ := H
           replace H : ((laws_eqInt64S.f kj31 t276 t249).bind fun t281 => (if t281 = true then (if t277 = t250 then (laws_FnExactCleanestMix.j2 kj31 t271 t270 (t278 != t251)) else (laws_FnExactCleanestMix.j2 kj31 t271 t270 true)) else (laws_FnExactCleanestMix.j2 kj31 t271 t270 true))) = some r := H
           have A55 := As0.mk A550
           clear A550
           have HC56 := As0.mk H
           clear H
           obtain ⟨Ao57, co57, eo57⟩ := Kd.R_slice HO_10.out
           subst eo57
           go_upto_region 25 with (first | ((with_reducible refine gce (f := 15) rfl ?_); refine goesL_ (some 83) rfl rfl Try.func15 (by kernel_rfl) rfl #[.slice Ao57 t257.length co57, .int .i64 1] rfl (by (try simp only [List.map_toArray, List.map_cons, List.map_nil]); first | done | rfl | (simp only [List.length_drop, List.length_take]; rfl)) ?_; (with_reducible refine (laws_markInt64S.calls kj31 (fun k_ => some k_ = (.slice Ao57 t257.length co57 : Value).ownBlock) (.slice Ao57 t257.length co57) t257 1 t270 t271 w _ ?side1 ?side2 A48.out).mono ?_); (case side1 => repeat (with_reducible first | exact HB.out | apply bal | apply pbN | apply bdw)); (case side2 => exact Kd.R_tight rfl HO_10.out); rintro e w58 ⟨rfl, hy0, hb, hkp⟩; refine ⟨_, rfl, ?_⟩; have n0_ := As0.mk (Kd.R_mono (ok' := fun k_ => some k_ ≠ (.slice Ao57 t257.length co57 : Value).ownBlock) (Kd.R_keptB (HO_6.out) hkp (fun k_ hk_ hs_ => (hk_) hs_)) (fun k_ hk_ => hk_.1)); have n1_ := As0.mk (Kd.R_reok rfl hy0 (fun k_ e_ => HO_10.out.1 k_ e_)); have n2_ := As0.mk (hb); clear HO_6; clear HO_10; clear HB; have HO_6 := n0_; have HO_10 := n1_; have HB := n2_; clear n0_ n1_ n2_; (try clear hb); (try clear hkp); (try clear hy0)) | ((with_reducible refine gce (f := 16) rfl ?_); refine goesL_ (some 86) rfl rfl Try.func16 (by kernel_rfl) rfl #[.slice Ao57 t271.length co57, .int .i64 1] rfl (by (try simp only [List.map_toArray, List.map_cons, List.map_nil]); first | done | (rw [show t271.length = t257.length from (Kd.R_reads' HO_10.out).1.symm] <;> rfl) | rfl | (simp only [List.length_drop, List.length_take]; rfl)) ?_; (with_reducible refine (laws_heldInt64S.calls kj31 _ _ t271 1 t272 _ ?side1 ?side2 A49.out).mono ?_); (case side1 => repeat (first | exact (Kd.R_reads' HO_10.out).2.2 | (with_reducible refine Kd.C_alloc ?_ _) | (with_reducible refine Kd.C_drewN ?_ _) | (with_reducible refine Kd.C_drew ?_))); (case side2 => rw [show t271.length = t257.length from (Kd.R_reads' HO_10.out).1.symm]; exact (Kd.R_reads' HO_10.out).2.1); rintro e w' ⟨rfl, ⟨nd, rfl⟩⟩; refine ⟨_, rfl, ?_⟩) | ((with_reducible refine gce (f := 8) rfl ?_); refine goesL_ (some 94) rfl rfl Try.func8 (by kernel_rfl) rfl #[.slice A0 l0.length c0] rfl (by (try simp only [List.map_toArray, List.map_cons, List.map_nil]); first | done | rfl | (simp only [List.length_drop, List.length_take]; rfl)) ?_; (with_reducible refine (laws_toFuelS.calls kj31 _ _ l0 t273 _ ?side1 ?side2 A54.out).mono ?_); (case side1 => repeat (first | exact (Kd.C_below HR0.out (by repeat (with_reducible first | exact HB.out | apply bal | apply pbN | apply bdw))) | (with_reducible refine Kd.C_alloc ?_ _) | (with_reducible refine Kd.C_drewN ?_ _) | (with_reducible refine Kd.C_drew ?_))); (case side2 => exact HC0.out); rintro e w59 ⟨v274, rfl, ho0, hb⟩; refine ⟨_, rfl, ?_⟩; have n0_ := As0.mk (Kd.R_below (by (with_reducible repeat (first | apply Kd.R_alloc | apply Kd.R_drewN | apply Kd.R_drew)); exact HO_6.out) hb); have n1_ := As0.mk (Kd.R_below (by (with_reducible repeat (first | apply Kd.R_alloc | apply Kd.R_drewN | apply Kd.R_drew)); exact HO_10.out) hb); have n2_ := As0.mk (Kd.R_lower ho0 (bsz (by repeat (with_reducible first | exact HB.out | apply bal | apply pbN | apply bdw)))); have n3_ := As0.mk (bsp (by repeat (with_reducible first | exact HB.out | apply bal | apply pbN | apply bdw)) hb); clear HO_6; clear HO_10; clear HB; have HO_6 := n0_; have HO_10 := n1_; have HO275 := n2_; have HB := n3_; clear n0_ n1_ n2_ n3_; (try clear hb); (try clear hb2); (try clear hk); (try clear hi); (try clear ho0); obtain ⟨Ao60, co60, eo60⟩ := Kd.R_slice HO275.out; subst eo60) | ((with_reducible refine gce (f := 12) rfl ?_); refine goesL_ (some 96) rfl rfl Try.func12 (by kernel_rfl) rfl #[.slice Ao60 t273.length co60, .int .i64 a1] rfl (by (try simp only [List.map_toArray, List.map_cons, List.map_nil]); first | done | rfl | (simp only [List.length_drop, List.length_take]; rfl)) ?_; (with_reducible refine (impl_CleanestMix.calls kj31 _ _ t273 a1 t276 t277 t278 _ ?side1 ?side2 A55.out).mono ?_); (case side1 => repeat (first | exact (Kd.R_reads' HO275.out).2.2 | (with_reducible refine Kd.C_alloc ?_ _) | (with_reducible refine Kd.C_drewN ?_ _) | (with_reducible refine Kd.C_drew ?_))); (case side2 => exact (Kd.R_reads' HO275.out).2.1); rintro e w61 ⟨v279, rfl, ho0, hb⟩; refine ⟨_, rfl, ?_⟩; have n0_ := As0.mk (Kd.R_elder' (by (with_reducible repeat (first | apply Kd.R_alloc | apply Kd.R_drewN | apply Kd.R_drew)); exact HO_6.out) (Kd.R_base ho0) hb); have n1_ := As0.mk (Kd.R_elder' (by (with_reducible repeat (first | apply Kd.R_alloc | apply Kd.R_drewN | apply Kd.R_drew)); exact HO_10.out) (Kd.R_base ho0) hb); have n2_ := As0.mk (Kd.R_below (by (with_reducible repeat (first | apply Kd.R_alloc | apply Kd.R_drewN | apply Kd.R_drew)); exact HO275.out) hb); have n3_ := As0.mk (Kd.R_lower (Kd.R_new' (Kd.R_new' ho0 (Kd.R_lt (by (with_reducible repeat (first | apply Kd.R_alloc | apply Kd.R_drewN | apply Kd.R_drew)); exact HO_6.out))) (Kd.R_lt (by (with_reducible repeat (first | apply Kd.R_alloc | apply Kd.R_drewN | apply Kd.R_drew)); exact HO_10.out))) (bsz (by repeat (with_reducible first | exact HB.out | apply bal | apply pbN | apply bdw)))); have n4_ := As0.mk (bsp (by repeat (with_reducible first | exact HB.out | apply bal | apply pbN | apply bdw)) hb); clear HO_6; clear HO_10; clear HO275; clear HB; have HO_6 := n0_; have HO_10 := n1_; have HO275 := n2_; have HO280 := n3_; have HB := n4_; clear n0_ n1_ n2_ n3_ n4_; (try clear hb); (try clear hb2); (try clear hk); (try clear hi); (try clear ho0)))
           (try simp only [Act.put, sla, slz, sls])
           go_cut [113] (fun v113 wc => ∃ (kq : Nat) (x113_55 : Bool), v113 = .bool x113_55 ∧ As0 (laws_FnExactCleanestMix.j2 kq t271 t270 x113_55 = some r) ∧ As0 (kq ≤ kj31) ∧ As0 (Kd.R (Kd.int .i64) 2 wc w.heap.size (fun _ => True) (.slice Ao57 t257.length co57) t271) ∧ As0 (Below w.heap.size w wc))
           case first =>
            have H := HC56.out
            clear HC56
            replace H := Option.bind_eq_some_iff.mp H
            obtain ⟨t281, A620, H⟩ := H
            replace H : (if t281 = true then (if t277 = t250 then (laws_FnExactCleanestMix.j2 kj31 t271 t270 (t278 != t251)) else (laws_FnExactCleanestMix.j2 kj31 t271 t270 true)) else (laws_FnExactCleanestMix.j2 kj31 t271 t270 true)) = some r := H
            have A62 := As0.mk A620
            clear A620
            by_cases c63 : t281 = true
            ·subst c63
             have H1 : (if t277 = t250 then (laws_FnExactCleanestMix.j2 kj31 t271 t270 (t278 != t251)) else (laws_FnExactCleanestMix.j2 kj31 t271 t270 true)) = some r := by rw [if_pos rfl] at H; exact H
             clear H
             have H := H1
             clear H1
             by_cases c64 : t277 = t250
             ·rw [if_pos c64] at H
              have c64b0 : (t277 == t250) = true := beq_iff_eq.mpr c64
              have c64b1 : (t277 != t250) = false := bne_eq_false_iff_eq.mpr c64
              clear c64
              (first | rw [c64b0] | (simp only [i64_w, i32_w]; rw [c64b0]) | skip)
              have H' := As0.mk H
              clear H
              obtain ⟨Ao65, co65, eo65⟩ := Kd.R_slice HO280.out
              subst eo65
              obtain ⟨Ao66, co66, eo66⟩ := Kd.R_slice HO_6.out
              subst eo66
              go_wp2_with (first | ((with_reducible refine gce (f := 13) rfl ?_); refine goesL_ (some 102) rfl rfl Try.func13 (by kernel_rfl) rfl #[.slice Ao65 t276.length co65, .slice Ao66 t249.length co66] rfl (by (try simp only [List.map_toArray, List.map_cons, List.map_nil]); first | done | rfl | (simp only [List.length_drop, List.length_take]; rfl)) ?_; (with_reducible refine (laws_eqInt64S.calls kj31 _ _ t276 _ _ t249 true _ ?side1 ?side2 ?side3 ?side4 A62.out).mono ?_); (case side1 => repeat (first | exact (Kd.R_reads' HO280.out).2.2 | (with_reducible refine Kd.C_alloc ?_ _) | (with_reducible refine Kd.C_drewN ?_ _) | (with_reducible refine Kd.C_drew ?_))); (case side2 => exact (Kd.R_reads' HO280.out).2.1); (case side3 => repeat (first | exact (Kd.R_reads' HO_6.out).2.2 | (with_reducible refine Kd.C_alloc ?_ _) | (with_reducible refine Kd.C_drewN ?_ _) | (with_reducible refine Kd.C_drew ?_))); (case side4 => exact (Kd.R_reads' HO_6.out).2.1); rintro e w' ⟨rfl, ⟨nd, rfl⟩⟩; refine ⟨_, rfl, ?_⟩))
              go_meet
              case rel => exact ⟨_, ((t278 != t251)), (by first | rfl | (simp; done) | (simp [*]; done)), H', ⟨by have := HJ9.out; have := HJ31.out; first | omega | exact Nat.le_refl _⟩, ⟨by (with_reducible repeat (first | apply Kd.R_alloc | apply Kd.R_drewN | apply Kd.R_drew)); exact Kd.R_mono HO_10.out (fun _ hk => trivial)⟩, ⟨by repeat (with_reducible first | exact HB.out | apply bal | apply pbN | apply bdw)⟩⟩
             ·rw [if_neg c64] at H
              have c64b0 : (t277 == t250) = false := beq_eq_false_iff_ne.mpr c64
              have c64b1 : (t277 != t250) = true := bne_iff_ne.mpr c64
              (first | rw [c64b0] | (simp only [i64_w, i32_w]; rw [c64b0]) | skip)
              have H' := As0.mk H
              clear H
              obtain ⟨Ao67, co67, eo67⟩ := Kd.R_slice HO280.out
              subst eo67
              obtain ⟨Ao68, co68, eo68⟩ := Kd.R_slice HO_6.out
              subst eo68
              go_wp2_with (first | ((with_reducible refine gce (f := 13) rfl ?_); refine goesL_ (some 102) rfl rfl Try.func13 (by kernel_rfl) rfl #[.slice Ao67 t276.length co67, .slice Ao68 t249.length co68] rfl (by (try simp only [List.map_toArray, List.map_cons, List.map_nil]); first | done | rfl | (simp only [List.length_drop, List.length_take]; rfl)) ?_; (with_reducible refine (laws_eqInt64S.calls kj31 _ _ t276 _ _ t249 true _ ?side1 ?side2 ?side3 ?side4 A62.out).mono ?_); (case side1 => repeat (first | exact (Kd.R_reads' HO280.out).2.2 | (with_reducible refine Kd.C_alloc ?_ _) | (with_reducible refine Kd.C_drewN ?_ _) | (with_reducible refine Kd.C_drew ?_))); (case side2 => exact (Kd.R_reads' HO280.out).2.1); (case side3 => repeat (first | exact (Kd.R_reads' HO_6.out).2.2 | (with_reducible refine Kd.C_alloc ?_ _) | (with_reducible refine Kd.C_drewN ?_ _) | (with_reducible refine Kd.C_drew ?_))); (case side4 => exact (Kd.R_reads' HO_6.out).2.1); rintro e w' ⟨rfl, ⟨nd, rfl⟩⟩; refine ⟨_, rfl, ?_⟩))
              go_meet
              case rel => exact ⟨_, (true), (by first | rfl | (simp; done) | (simp [*]; done)), H', ⟨by have := HJ9.out; have := HJ31.out; first | omega | exact Nat.le_refl _⟩, ⟨by (with_reducible repeat (first | apply Kd.R_alloc | apply Kd.R_drewN | apply Kd.R_drew)); exact Kd.R_mono HO_10.out (fun _ hk => trivial)⟩, ⟨by repeat (with_reducible first | exact HB.out | apply bal | apply pbN | apply bdw)⟩⟩
            ·replace c63 := Bool.eq_false_iff.mpr c63
             subst c63
             have H1 : (laws_FnExactCleanestMix.j2 kj31 t271 t270 true) = some r := by rw [if_neg (show ¬ (false = true) by decide)] at H; exact H
             clear H
             have H := H1
             clear H1
             have H' := As0.mk H
             clear H
             obtain ⟨Ao69, co69, eo69⟩ := Kd.R_slice HO280.out
             subst eo69
             obtain ⟨Ao70, co70, eo70⟩ := Kd.R_slice HO_6.out
             subst eo70
             go_wp2_with (first | ((with_reducible refine gce (f := 13) rfl ?_); refine goesL_ (some 102) rfl rfl Try.func13 (by kernel_rfl) rfl #[.slice Ao69 t276.length co69, .slice Ao70 t249.length co70] rfl (by (try simp only [List.map_toArray, List.map_cons, List.map_nil]); first | done | rfl | (simp only [List.length_drop, List.length_take]; rfl)) ?_; (with_reducible refine (laws_eqInt64S.calls kj31 _ _ t276 _ _ t249 false _ ?side1 ?side2 ?side3 ?side4 A62.out).mono ?_); (case side1 => repeat (first | exact (Kd.R_reads' HO280.out).2.2 | (with_reducible refine Kd.C_alloc ?_ _) | (with_reducible refine Kd.C_drewN ?_ _) | (with_reducible refine Kd.C_drew ?_))); (case side2 => exact (Kd.R_reads' HO280.out).2.1); (case side3 => repeat (first | exact (Kd.R_reads' HO_6.out).2.2 | (with_reducible refine Kd.C_alloc ?_ _) | (with_reducible refine Kd.C_drewN ?_ _) | (with_reducible refine Kd.C_drew ?_))); (case side4 => exact (Kd.R_reads' HO_6.out).2.1); rintro e w' ⟨rfl, ⟨nd, rfl⟩⟩; refine ⟨_, rfl, ?_⟩))
             go_meet
             case rel => exact ⟨_, (true), (by first | rfl | (simp; done) | (simp [*]; done)), H', ⟨by have := HJ9.out; have := HJ31.out; first | omega | exact Nat.le_refl _⟩, ⟨by (with_reducible repeat (first | apply Kd.R_alloc | apply Kd.R_drewN | apply Kd.R_drew)); exact Kd.R_mono HO_10.out (fun _ hk => trivial)⟩, ⟨by repeat (with_reducible first | exact HB.out | apply bal | apply pbN | apply bdw)⟩⟩
           case rest =>
            clear HC56
            try clear c1
            try clear c2
            try clear p2
            try clear c3
            try clear c4
            try clear c4b0
            try clear c5
            try clear c6
            try clear c8
            try clear c10
            try clear c11
            try clear c12
            try clear c13
            try clear c14
            try clear c15
            try clear c16
            try clear c19
            try clear c20
            try clear c20b0
            try clear c20b1
            try clear c27
            try clear c30
            try clear c37
            try clear c37b0
            try clear c39
            try clear c40
            try clear c40b0
            try clear c40b1
            try clear c47
            try clear c50
            try clear c50b0
            try clear c53
            try clear c53b0
            try clear c53b1
            try clear c63
            try clear c64
            try clear c64b0
            try clear c64b1
            try clear p2
            obtain ⟨kq, x113_55, rfl, HA, HJ55, HO_10, HB⟩ := hcut
            have hl10_55 := (Kd.R_reads' HO_10.out).1
            rw [hl10_55] at HO_10
            (try simp only [hl10_55])
            cases kq with
            | zero => exact absurd HA.out (by simp [laws_FnExactCleanestMix.j2])
            | succ kj55 =>
             have H := HA.out
             clear HA
             simp only [laws_FnExactCleanestMix.j2] at H
             by_cases c71 : x113_55 = true
             ·subst c71
              have H1 : (some false) = some r := by rw [if_pos rfl] at H; exact H
              clear H
              have H := H1
              clear H1
              obtain rfl := Option.some.inj H
              go_wp2
              go_ret
              exact ⟨by first | rfl | (simp [eWn, eWs] <;> rfl) | (simp [*, eWn, eWs] <;> rfl), by repeat (with_reducible first | exact HB.out | apply bal | apply pbN | apply bdw)⟩
             ·replace c71 := Bool.eq_false_iff.mpr c71
              subst c71
              have H1 : ((laws_heldInt64S.f kj55 t271 1).bind fun t282 => (if t282 < 0 then (some false) else (if t282 = t270 then (some true) else (some false)))) = some r := by rw [if_neg (show ¬ (false = true) by decide)] at H; exact H
              clear H
              have H := H1
              clear H1
              replace H := Option.bind_eq_some_iff.mp H
              obtain ⟨t282, A720, H⟩ := H
              replace H : (if t282 < 0 then (some false) else (if t282 = t270 then (some true) else (some false))) = some r := H
              have A72 := As0.mk A720
              clear A720
              by_cases c73 : t282 < 0
              ·rw [if_pos c73] at H
               have c73b0 : decide (t282 < 0) = true := decide_eq_true c73
               clear c73
               obtain rfl := Option.some.inj H
               go_wp2_with (first | ((with_reducible refine gce (f := 16) rfl ?_); refine goesL_ (some 116) rfl rfl Try.func16 (by kernel_rfl) rfl #[.slice Ao57 t271.length co57, .int .i64 1] rfl (by (try simp only [List.map_toArray, List.map_cons, List.map_nil]); first | done | rfl | (simp only [List.length_drop, List.length_take]; rfl)) ?_; (with_reducible refine (laws_heldInt64S.calls kj55 _ _ t271 1 t282 _ ?side1 ?side2 A72.out).mono ?_); (case side1 => repeat (first | exact (Kd.R_reads' HO_10.out).2.2 | (with_reducible refine Kd.C_alloc ?_ _) | (with_reducible refine Kd.C_drewN ?_ _) | (with_reducible refine Kd.C_drew ?_))); (case side2 => exact (Kd.R_reads' HO_10.out).2.1); rintro e w' ⟨rfl, ⟨nd, rfl⟩⟩; refine ⟨_, rfl, ?_⟩))
               go_ret
               exact ⟨by first | rfl | (simp [eWn, eWs] <;> rfl) | (simp [*, eWn, eWs] <;> rfl), by repeat (with_reducible first | exact HB.out | apply bal | apply pbN | apply bdw)⟩
              ·rw [if_neg c73] at H
               have c73b0 : decide (t282 < 0) = false := decide_eq_false c73
               clear c73
               by_cases c74 : t282 = t270
               ·rw [if_pos c74] at H
                have c74b0 : (t282 == t270) = true := beq_iff_eq.mpr c74
                have c74b1 : (t282 != t270) = false := bne_eq_false_iff_eq.mpr c74
                clear c74
                obtain rfl := Option.some.inj H
                go_wp2_with (first | ((with_reducible refine gce (f := 16) rfl ?_); refine goesL_ (some 116) rfl rfl Try.func16 (by kernel_rfl) rfl #[.slice Ao57 t271.length co57, .int .i64 1] rfl (by (try simp only [List.map_toArray, List.map_cons, List.map_nil]); first | done | rfl | (simp only [List.length_drop, List.length_take]; rfl)) ?_; (with_reducible refine (laws_heldInt64S.calls kj55 _ _ t271 1 t282 _ ?side1 ?side2 A72.out).mono ?_); (case side1 => repeat (first | exact (Kd.R_reads' HO_10.out).2.2 | (with_reducible refine Kd.C_alloc ?_ _) | (with_reducible refine Kd.C_drewN ?_ _) | (with_reducible refine Kd.C_drew ?_))); (case side2 => exact (Kd.R_reads' HO_10.out).2.1); rintro e w' ⟨rfl, ⟨nd, rfl⟩⟩; refine ⟨_, rfl, ?_⟩))
                go_ret
                exact ⟨by first | rfl | (simp [eWn, eWs] <;> rfl) | (simp [*, eWn, eWs] <;> rfl), by repeat (with_reducible first | exact HB.out | apply bal | apply pbN | apply bdw)⟩
               ·rw [if_neg c74] at H
                have c74b0 : (t282 == t270) = false := beq_eq_false_iff_ne.mpr c74
                have c74b1 : (t282 != t270) = true := bne_iff_ne.mpr c74
                obtain rfl := Option.some.inj H
                go_wp2_with (first | ((with_reducible refine gce (f := 16) rfl ?_); refine goesL_ (some 116) rfl rfl Try.func16 (by kernel_rfl) rfl #[.slice Ao57 t271.length co57, .int .i64 1] rfl (by (try simp only [List.map_toArray, List.map_cons, List.map_nil]); first | done | rfl | (simp only [List.length_drop, List.length_take]; rfl)) ?_; (with_reducible refine (laws_heldInt64S.calls kj55 _ _ t271 1 t282 _ ?side1 ?side2 A72.out).mono ?_); (case side1 => repeat (first | exact (Kd.R_reads' HO_10.out).2.2 | (with_reducible refine Kd.C_alloc ?_ _) | (with_reducible refine Kd.C_drewN ?_ _) | (with_reducible refine Kd.C_drew ?_))); (case side2 => exact (Kd.R_reads' HO_10.out).2.1); rintro e w' ⟨rfl, ⟨nd, rfl⟩⟩; refine ⟨_, rfl, ?_⟩))
                go_ret
                exact ⟨by first | rfl | (simp [eWn, eWs] <;> rfl) | (simp [*, eWn, eWs] <;> rfl), by repeat (with_reducible first | exact HB.out | apply bal | apply pbN | apply bdw)⟩
          ·rw [if_neg c53] at H
           have c53b0 : (t272 == t270) = false := beq_eq_false_iff_ne.mpr c53
           have c53b1 : (t272 != t270) = true := bne_iff_ne.mpr c53
           obtain rfl := Option.some.inj H
           obtain ⟨Ao75, co75, eo75⟩ := Kd.R_slice HO_10.out
           subst eo75
           go_wp2_with (first | ((with_reducible refine gce (f := 15) rfl ?_); refine goesL_ (some 83) rfl rfl Try.func15 (by kernel_rfl) rfl #[.slice Ao75 t257.length co75, .int .i64 1] rfl (by (try simp only [List.map_toArray, List.map_cons, List.map_nil]); first | done | rfl | (simp only [List.length_drop, List.length_take]; rfl)) ?_; (with_reducible refine (laws_markInt64S.calls kj31 (fun k_ => some k_ = (.slice Ao75 t257.length co75 : Value).ownBlock) (.slice Ao75 t257.length co75) t257 1 t270 t271 w _ ?side1 ?side2 A48.out).mono ?_); (case side1 => repeat (with_reducible first | exact HB.out | apply bal | apply pbN | apply bdw)); (case side2 => exact Kd.R_tight rfl HO_10.out); rintro e w76 ⟨rfl, hy0, hb, hkp⟩; refine ⟨_, rfl, ?_⟩; have n0_ := As0.mk (Kd.R_mono (ok' := fun k_ => some k_ ≠ (.slice Ao75 t257.length co75 : Value).ownBlock) (Kd.R_keptB (HO_6.out) hkp (fun k_ hk_ hs_ => (hk_) hs_)) (fun k_ hk_ => hk_.1)); have n1_ := As0.mk (Kd.R_reok rfl hy0 (fun k_ e_ => HO_10.out.1 k_ e_)); have n2_ := As0.mk (hb); clear HO_6; clear HO_10; clear HB; have HO_6 := n0_; have HO_10 := n1_; have HB := n2_; clear n0_ n1_ n2_; (try clear hb); (try clear hkp); (try clear hy0)) | ((with_reducible refine gce (f := 16) rfl ?_); refine goesL_ (some 86) rfl rfl Try.func16 (by kernel_rfl) rfl #[.slice Ao75 t271.length co75, .int .i64 1] rfl (by (try simp only [List.map_toArray, List.map_cons, List.map_nil]); first | done | (rw [show t271.length = t257.length from (Kd.R_reads' HO_10.out).1.symm] <;> rfl) | rfl | (simp only [List.length_drop, List.length_take]; rfl)) ?_; (with_reducible refine (laws_heldInt64S.calls kj31 _ _ t271 1 t272 _ ?side1 ?side2 A49.out).mono ?_); (case side1 => repeat (first | exact (Kd.R_reads' HO_10.out).2.2 | (with_reducible refine Kd.C_alloc ?_ _) | (with_reducible refine Kd.C_drewN ?_ _) | (with_reducible refine Kd.C_drew ?_))); (case side2 => rw [show t271.length = t257.length from (Kd.R_reads' HO_10.out).1.symm]; exact (Kd.R_reads' HO_10.out).2.1); rintro e w' ⟨rfl, ⟨nd, rfl⟩⟩; refine ⟨_, rfl, ?_⟩))
           go_ret
           exact ⟨by first | rfl | (simp [eWn, eWs] <;> rfl) | (simp [*, eWn, eWs] <;> rfl), by repeat (with_reducible first | exact HB.out | apply bal | apply pbN | apply bdw)⟩
     ·replace c30 := Bool.eq_false_iff.mpr c30
      subst c30
      have H1 : (some false) = some r := by rw [if_neg (show ¬ (false = true) by decide)] at H; exact H
      clear H
      have H := H1
      clear H1
      obtain rfl := Option.some.inj H
      go_wp2_with (first | ((with_reducible refine gce (f := 8) rfl ?_); refine goesL_ (some 57) rfl rfl Try.func8 (by kernel_rfl) rfl #[.slice A0 l0.length c0] rfl (by (try simp only [List.map_toArray, List.map_cons, List.map_nil]); first | done | rfl | (simp only [List.length_drop, List.length_take]; rfl)) ?_; (with_reducible refine (laws_toFuelS.calls kj9 _ _ l0 t263 _ ?side1 ?side2 A28.out).mono ?_); (case side1 => repeat (first | exact (Kd.C_below HR0.out HB.out) | (with_reducible refine Kd.C_alloc ?_ _) | (with_reducible refine Kd.C_drewN ?_ _) | (with_reducible refine Kd.C_drew ?_))); (case side2 => exact HC0.out); rintro e w77 ⟨v264, rfl, ho0, hb⟩; refine ⟨_, rfl, ?_⟩; have n0_ := As0.mk (Kd.R_below (by (with_reducible repeat (first | apply Kd.R_alloc | apply Kd.R_drewN | apply Kd.R_drew)); exact HO_6.out) hb); have n1_ := As0.mk (Kd.R_elder' (by (with_reducible repeat (first | apply Kd.R_alloc | apply Kd.R_drewN | apply Kd.R_drew)); exact HO_9.out) (Kd.R_base ho0) hb); have n2_ := As0.mk (Kd.R_below (by (with_reducible repeat (first | apply Kd.R_alloc | apply Kd.R_drewN | apply Kd.R_drew)); exact HO_10.out) hb); have n3_ := As0.mk (Kd.R_lower (Kd.R_new' ho0 (Kd.R_lt (by (with_reducible repeat (first | apply Kd.R_alloc | apply Kd.R_drewN | apply Kd.R_drew)); exact HO_9.out))) (bsz (by repeat (with_reducible first | exact HB.out | apply bal | apply pbN | apply bdw)))); have n4_ := As0.mk (bsp (by repeat (with_reducible first | exact HB.out | apply bal | apply pbN | apply bdw)) hb); clear HO_6; clear HO_9; clear HO_10; clear HB; have HO_6 := n0_; have HO_9 := n1_; have HO_10 := n2_; have HO265 := n3_; have HB := n4_; clear n0_ n1_ n2_ n3_ n4_; (try clear hb); (try clear hb2); (try clear hk); (try clear hi); (try clear ho0); obtain ⟨Ao78, co78, eo78⟩ := Kd.R_slice HO265.out; subst eo78) | ((with_reducible refine gce (f := 10) rfl ?_); refine goesL_ (some 58) rfl rfl Try.func10 (by kernel_rfl) rfl #[.slice Ao16 t254.length co16, .slice Ao78 t263.length co78] rfl (by (try simp only [List.map_toArray, List.map_cons, List.map_nil]); first | done | rfl | (simp only [List.length_drop, List.length_take]; rfl)) ?_; (with_reducible refine (laws_eqFuelS.calls kj9 _ _ t254 _ _ t263 false _ ?side1 ?side2 ?side3 ?side4 A29.out).mono ?_); (case side1 => repeat (first | exact (Kd.R_reads' HO_9.out).2.2 | (with_reducible refine Kd.C_alloc ?_ _) | (with_reducible refine Kd.C_drewN ?_ _) | (with_reducible refine Kd.C_drew ?_))); (case side2 => exact (Kd.R_reads' HO_9.out).2.1); (case side3 => repeat (first | exact (Kd.R_reads' HO265.out).2.2 | (with_reducible refine Kd.C_alloc ?_ _) | (with_reducible refine Kd.C_drewN ?_ _) | (with_reducible refine Kd.C_drew ?_))); (case side4 => exact (Kd.R_reads' HO265.out).2.1); rintro e w79 ⟨rfl, hb⟩; refine ⟨_, rfl, ?_⟩; have n0_ := As0.mk (Kd.R_below (by (with_reducible repeat (first | apply Kd.R_alloc | apply Kd.R_drewN | apply Kd.R_drew)); exact HO_6.out) hb); have n1_ := As0.mk (Kd.R_below (by (with_reducible repeat (first | apply Kd.R_alloc | apply Kd.R_drewN | apply Kd.R_drew)); exact HO_9.out) hb); have n2_ := As0.mk (Kd.R_below (by (with_reducible repeat (first | apply Kd.R_alloc | apply Kd.R_drewN | apply Kd.R_drew)); exact HO_10.out) hb); have n3_ := As0.mk (Kd.R_below (by (with_reducible repeat (first | apply Kd.R_alloc | apply Kd.R_drewN | apply Kd.R_drew)); exact HO265.out) hb); have n4_ := As0.mk (bsp (by repeat (with_reducible first | exact HB.out | apply bal | apply pbN | apply bdw)) hb); clear HO_6; clear HO_9; clear HO_10; clear HO265; clear HB; have HO_6 := n0_; have HO_9 := n1_; have HO_10 := n2_; have HO265 := n3_; have HB := n4_; clear n0_ n1_ n2_ n3_ n4_; (try clear hb); (try clear hb2); (try clear hk); (try clear hi)))
      go_ret
      exact ⟨by first | rfl | (simp [eWn, eWs] <;> rfl) | (simp [*, eWn, eWs] <;> rfl), by repeat (with_reducible first | exact HB.out | apply bal | apply pbN | apply bdw)⟩

end Go.Proofs.Ytnhkamfccoppbaa.QCleanestMix
