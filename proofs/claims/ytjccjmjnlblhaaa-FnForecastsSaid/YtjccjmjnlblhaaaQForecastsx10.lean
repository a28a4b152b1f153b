-- Written by press.py, a program of this session, round the kit's print.py (functions and contracts; Lean checks them).
import Derived.Test.YtjccjmjnlblhaaaQForecastsx0
import Derived.Test.YtjccjmjnlblhaaaQForecastsx1
import Derived.Test.YtjccjmjnlblhaaaQForecastsx2
import Derived.Test.YtjccjmjnlblhaaaQForecastsx6
import Derived.Test.YtjccjmjnlblhaaaQForecastsx7
import Derived.Test.YtjccjmjnlblhaaaQForecastsx8
import Derived.Test.YtjccjmjnlblhaaaQForecastsx9
namespace Go.Proofs.Ytjccjmjnlblhaaa.QForecasts
open Go.Proofs.Ytjccjmjnlblhaaa.QWords
attribute [local go_sem high] binOp_string_geq_q binOp_string_leq_q binOp_string_gtr_q
open Go.RowKit Go.Proofs.YtjccjmjnlblhaaaW.PrintWords Go.Proofs.YtjccjmjnlblhaaaW.PrintLast Go.Proofs.YtjccjmjnlblhaaaW.PrintMore
attribute [local go_sem] max2_int min2_int max_two min_two max_three min_three max_four min_four   -- for this text's walks alone
set_option linter.unusedVariables false
set_option linter.unusedSimpArgs false

/-! ### laws_FnForecasts: function 9 -/
mutual
def laws_FnForecasts.j0 : Nat → List Int → List (S94) → List Int → Int → Int → Int → Bool → Option (Bool)
  | 0, _, _, _, _, _, _, _ => none
  | k + 1, x1, x5, x7, x9, x11, x12, x91 => if x91 = true then (some false) else (laws_FnForecasts.l0 k x1 x5 x7 x9 x11 x12 0 0)
def laws_FnForecasts.l0 : Nat → List Int → List (S94) → List Int → Int → Int → Int → Int → Int → Option (Bool)
  | 0, _, _, _, _, _, _, _, _ => none
  | k + 1, x1, x5, x7, x9, x11, x12, x14, x15 => if x15 < (x7.length : Int) then (if 0 ≤ x15 then (if (rd x7 x15) > x12 then (some false) else (if x15 < x11 then (if (rd x7 x15) = x12 then (some false) else (laws_FnForecasts.l0 k x1 x5 x7 x9 x11 x12 (wrap64 (x14 + (rd x7 x15))) (wrap64 (x15 + 1)))) else (laws_FnForecasts.l0 k x1 x5 x7 x9 x11 x12 (wrap64 (x14 + (rd x7 x15))) (wrap64 (x15 + 1))))) else (none)) else ((laws_r8Abs.f (wrap64 ((wrap64 (1000 * x9)) - x14))).bind fun t312 => (if t312 > 500 then (some false) else ((laws_r8Wide.f x1 0 5000).bind fun t313 => ((laws_r8Wide.f x1 2 3000).bind fun t314 => ((impl_WaterFor.f k x12 (wrap64 (5000 + t313)) (wrap64 (1000 + t314))).bind fun bt315 => (if bt315.2 = 0 then ((impl_HeatFlow.f bt315.1 (wrap64 (5000 + t313)) (wrap64 (1000 + t314))).bind fun bt317 => ((impl_HeatFlow.f (wrap64 (bt315.1 - 1)) (wrap64 (5000 + t313)) (wrap64 (1000 + t314))).bind fun bt319 => (if bt317.2 = 0 then (if bt317.1 < x12 then (some false) else (if bt315.1 > 0 then (if bt319.2 = 0 then (if bt319.1 > x12 then (some false) else (laws_FnForecasts.j2 k x1 x5)) else (some false)) else (laws_FnForecasts.j2 k x1 x5))) else (some false)))) else (if bt315.2 = 3 then (laws_FnForecasts.j2 k x1 x5) else (some false))))))))
def laws_FnForecasts.j2 : Nat → List Int → List (S94) → Option (Bool)
  | 0, _, _ => none
  | k + 1, x1, x5 => (laws_r8At.f x1 4 24).bind fun t321 => ((laws_r8Wide.f x1 5 60000).bind fun t322 => ((impl_OutdoorFor.f k x5 t322 t321).bind fun bt323 => (if bt323.2 = 0 then (laws_FnForecasts.l1 k x5 t321 t322 bt323.1 0 0 0) else (some (bt323.2 == 3)))))
def laws_FnForecasts.l1 : Nat → List (S94) → Int → Int → Int → Int → Int → Int → Option (Bool)
  | 0, _, _, _, _, _, _, _ => none
  | k + 1, x5, x24, x25, x26, x28, x29, x30 => if x30 < (x5.length : Int) then (if 0 ≤ x30 then ((spec_LoadOf.f k ((rd_T94 x5 x30).f0) ((rd_T94 x5 x30).f1) ((rd_T94 x5 x30).f2) ((rd_T94 x5 x30).f3) ((rd_T94 x5 x30).f4) ((rd_T94 x5 x30).f5) x26 x24).bind fun bt326 => ((spec_LoadOf.f k ((rd_T94 x5 x30).f0) ((rd_T94 x5 x30).f1) ((rd_T94 x5 x30).f2) ((rd_T94 x5 x30).f3) ((rd_T94 x5 x30).f4) ((rd_T94 x5 x30).f5) (wrap64 (x26 + 1)) x24).bind fun bt329 => (if bt326.2 = 0 then (laws_FnForecasts.l1 k x5 x24 x25 x26 (wrap64 (x28 + bt326.1)) (wrap64 (x29 + bt329.1)) (wrap64 (x30 + 1))) else (some false)))) else (none)) else (if x28 ≥ x25 then (if x26 = 4500 then (some true) else (some (decide (x29 < x25)))) else (some false))
end
def laws_FnForecasts.f (k : Nat) (l0 : List Int) (l1 : List Int) : Option (Bool) := (laws_r8Long.f l0 l1).bind fun t292 => (if t292 = true then (some true) else ((spec_R8Buildings.f k l0).bind fun t293 => ((spec_R8Day.f k l1).bind fun t296 => ((impl_ForecastOf.f k t293 t296).bind fun bt299 => ((impl_HeatOf.f k t293 t296).bind fun bt303 => ((impl_PeakHour.f k t293 t296).bind fun bt305 => (if bt299.2 = 0 then (if (bt299.1.length : Int) = 24 then (if bt303.2 = 0 then (if bt305.2.2 = 0 then (if bt305.1 < 0 then (laws_FnForecasts.j0 k l1 t293 bt299.1 bt303.1 bt305.1 bt305.2.1 true) else (if bt305.1 ≥ 24 then (laws_FnForecasts.j0 k l1 t293 bt299.1 bt303.1 bt305.1 bt305.2.1 true) else (if 0 ≤ bt305.1 then (if bt305.1 < (bt299.1.length : Int) then (laws_FnForecasts.j0 k l1 t293 bt299.1 bt303.1 bt305.1 bt305.2.1 ((rd bt299.1 bt305.1) != bt305.2.1)) else (none)) else (none)))) else (laws_FnForecasts.j0 k l1 t293 bt299.1 bt303.1 bt305.1 bt305.2.1 true)) else (laws_FnForecasts.j0 k l1 t293 bt299.1 bt303.1 bt305.1 bt305.2.1 true)) else (laws_FnForecasts.j0 k l1 t293 bt299.1 bt303.1 bt305.1 bt305.2.1 true)) else (laws_FnForecasts.j0 k l1 t293 bt299.1 bt303.1 bt305.1 bt305.2.1 true))))))))
theorem laws_FnForecasts.mono_l : ∀ k, (∀ y0 y1 y2 y3 y4 y5 y6, LeO (laws_FnForecasts.j0 k y0 y1 y2 y3 y4 y5 y6) (laws_FnForecasts.j0 (k + 1) y0 y1 y2 y3 y4 y5 y6)) ∧ (∀ y0 y1 y2 y3 y4 y5 y6 y7, LeO (laws_FnForecasts.l0 k y0 y1 y2 y3 y4 y5 y6 y7) (laws_FnForecasts.l0 (k + 1) y0 y1 y2 y3 y4 y5 y6 y7)) ∧ (∀ y0 y1, LeO (laws_FnForecasts.j2 k y0 y1) (laws_FnForecasts.j2 (k + 1) y0 y1)) ∧ (∀ y0 y1 y2 y3 y4 y5 y6, LeO (laws_FnForecasts.l1 k y0 y1 y2 y3 y4 y5 y6) (laws_FnForecasts.l1 (k + 1) y0 y1 y2 y3 y4 y5 y6))
  | 0 => ⟨fun _ _ _ _ _ _ _ r h => by simp [laws_FnForecasts.j0] at h, fun _ _ _ _ _ _ _ _ r h => by simp [laws_FnForecasts.l0] at h, fun _ _ r h => by simp [laws_FnForecasts.j2] at h, fun _ _ _ _ _ _ _ r h => by simp [laws_FnForecasts.l1] at h⟩
  | k + 1 => by
    obtain ⟨ih0, ih1, ih2, ih3⟩ := laws_FnForecasts.mono_l k
    refine ⟨?_, ?_, ?_, ?_⟩
    · intro y0 y1 y2 y3 y4 y5 y6
      unfold laws_FnForecasts.j0
      repeat' first
      | (with_reducible exact ih0 _ _ _ _ _ _ _)
      | (with_reducible exact ih1 _ _ _ _ _ _ _ _)
      | (with_reducible exact ih2 _ _)
      | (with_reducible exact ih3 _ _ _ _ _ _ _)
      | (with_reducible exact impl_ForecastOf.mono _ _ _)
      | (with_reducible exact impl_HeatOf.mono _ _ _)
      | (with_reducible exact impl_OutdoorFor.mono _ _ _ _)
      | (with_reducible exact impl_PeakHour.mono _ _ _)
      | (with_reducible exact impl_WaterFor.mono _ _ _ _)
      | (with_reducible exact spec_LoadOf.mono _ _ _ _ _ _ _ _ _)
      | (with_reducible exact spec_R8Buildings.mono _ _)
      | (with_reducible exact spec_R8Day.mono _ _)
      | (with_reducible exact LeO.refl _)
      | (with_reducible exact LeO.none _)
      | (with_reducible refine LeO.ite ?_ ?_)
      | (with_reducible refine LeO.bind ?_ (fun _ => ?_))
      | exact ih0 _ _ _ _ _ _ _
      | exact ih1 _ _ _ _ _ _ _ _
      | exact ih2 _ _
      | exact ih3 _ _ _ _ _ _ _
      | exact impl_ForecastOf.mono _ _ _
      | exact impl_HeatOf.mono _ _ _
      | exact impl_OutdoorFor.mono _ _ _ _
      | exact impl_PeakHour.mono _ _ _
      | exact impl_WaterFor.mono _ _ _ _
      | exact spec_LoadOf.mono _ _ _ _ _ _ _ _ _
      | exact spec_R8Buildings.mono _ _
      | exact spec_R8Day.mono _ _
      | exact LeO.none _
      | refine LeO.ite ?_ ?_
      | refine LeO.bind ?_ (fun _ => ?_)
    · intro y0 y1 y2 y3 y4 y5 y6 y7
      unfold laws_FnForecasts.l0
      repeat' first
      | (with_reducible exact ih0 _ _ _ _ _ _ _)
      | (with_reducible exact ih1 _ _ _ _ _ _ _ _)
      | (with_reducible exact ih2 _ _)
      | (with_reducible exact ih3 _ _ _ _ _ _ _)
      | (with_reducible exact impl_ForecastOf.mono _ _ _)
      | (with_reducible exact impl_HeatOf.mono _ _ _)
      | (with_reducible exact impl_OutdoorFor.mono _ _ _ _)
      | (with_reducible exact impl_PeakHour.mono _ _ _)
      | (with_reducible exact impl_WaterFor.mono _ _ _ _)
      | (with_reducible exact spec_LoadOf.mono _ _ _ _ _ _ _ _ _)
      | (with_reducible exact spec_R8Buildings.mono _ _)
      | (with_reducible exact spec_R8Day.mono _ _)
      | (with_reducible exact LeO.refl _)
      | (with_reducible exact LeO.none _)
      | (with_reducible refine LeO.ite ?_ ?_)
      | (with_reducible refine LeO.bind ?_ (fun _ => ?_))
      | exact ih0 _ _ _ _ _ _ _
      | exact ih1 _ _ _ _ _ _ _ _
      | exact ih2 _ _
      | exact ih3 _ _ _ _ _ _ _
      | exact impl_ForecastOf.mono _ _ _
      | exact impl_HeatOf.mono _ _ _
      | exact impl_OutdoorFor.mono _ _ _ _
      | exact impl_PeakHour.mono _ _ _
      | exact impl_WaterFor.mono _ _ _ _
      | exact spec_LoadOf.mono _ _ _ _ _ _ _ _ _
      | exact spec_R8Buildings.mono _ _
      | exact spec_R8Day.mono _ _
      | exact LeO.none _
      | refine LeO.ite ?_ ?_
      | refine LeO.bind ?_ (fun _ => ?_)
    · intro y0 y1
      unfold laws_FnForecasts.j2
      repeat' first
      | (with_reducible exact ih0 _ _ _ _ _ _ _)
      | (with_reducible exact ih1 _ _ _ _ _ _ _ _)
      | (with_reducible exact ih2 _ _)
      | (with_reducible exact ih3 _ _ _ _ _ _ _)
      | (with_reducible exact impl_ForecastOf.mono _ _ _)
      | (with_reducible exact impl_HeatOf.mono _ _ _)
      | (with_reducible exact impl_OutdoorFor.mono _ _ _ _)
      | (with_reducible exact impl_PeakHour.mono _ _ _)
      | (with_reducible exact impl_WaterFor.mono _ _ _ _)
      | (with_reducible exact spec_LoadOf.mono _ _ _ _ _ _ _ _ _)
      | (with_reducible exact spec_R8Buildings.mono _ _)
      | (with_reducible exact spec_R8Day.mono _ _)
      | (with_reducible exact LeO.refl _)
      | (with_reducible exact LeO.none _)
      | (with_reducible refine LeO.ite ?_ ?_)
      | (with_reducible refine LeO.bind ?_ (fun _ => ?_))
      | exact ih0 _ _ _ _ _ _ _
      | exact ih1 _ _ _ _ _ _ _ _
      | exact ih2 _ _
      | exact ih3 _ _ _ _ _ _ _
      | exact impl_ForecastOf.mono _ _ _
      | exact impl_HeatOf.mono _ _ _
      | exact impl_OutdoorFor.mono _ _ _ _
      | exact impl_PeakHour.mono _ _ _
      | exact impl_WaterFor.mono _ _ _ _
      | exact spec_LoadOf.mono _ _ _ _ _ _ _ _ _
      | exact spec_R8Buildings.mono _ _
      | exact spec_R8Day.mono _ _
      | exact LeO.none _
      | refine LeO.ite ?_ ?_
      | refine LeO.bind ?_ (fun _ => ?_)
    · intro y0 y1 y2 y3 y4 y5 y6
      unfold laws_FnForecasts.l1
      repeat' first
      | (with_reducible exact ih0 _ _ _ _ _ _ _)
      | (with_reducible exact ih1 _ _ _ _ _ _ _ _)
      | (with_reducible exact ih2 _ _)
      | (with_reducible exact ih3 _ _ _ _ _ _ _)
      | (with_reducible exact impl_ForecastOf.mono _ _ _)
      | (with_reducible exact impl_HeatOf.mono _ _ _)
      | (with_reducible exact impl_OutdoorFor.mono _ _ _ _)
      | (with_reducible exact impl_PeakHour.mono _ _ _)
      | (with_reducible exact impl_WaterFor.mono _ _ _ _)
      | (with_reducible exact spec_LoadOf.mono _ _ _ _ _ _ _ _ _)
      | (with_reducible exact spec_R8Buildings.mono _ _)
      | (with_reducible exact spec_R8Day.mono _ _)
      | (with_reducible exact LeO.refl _)
      | (with_reducible exact LeO.none _)
      | (with_reducible refine LeO.ite ?_ ?_)
      | (with_reducible refine LeO.bind ?_ (fun _ => ?_))
      | exact ih0 _ _ _ _ _ _ _
      | exact ih1 _ _ _ _ _ _ _ _
      | exact ih2 _ _
      | exact ih3 _ _ _ _ _ _ _
      | exact impl_ForecastOf.mono _ _ _
      | exact impl_HeatOf.mono _ _ _
      | exact impl_OutdoorFor.mono _ _ _ _
      | exact impl_PeakHour.mono _ _ _
      | exact impl_WaterFor.mono _ _ _ _
      | exact spec_LoadOf.mono _ _ _ _ _ _ _ _ _
      | exact spec_R8Buildings.mono _ _
      | exact spec_R8Day.mono _ _
      | exact LeO.none _
      | refine LeO.ite ?_ ?_
      | refine LeO.bind ?_ (fun _ => ?_)
theorem laws_FnForecasts.mono : ∀ a0 a1 k, LeO (laws_FnForecasts.f k a0 a1) (laws_FnForecasts.f (k + 1) a0 a1) := by
  intro a0 a1 k
  obtain ⟨ih0, ih1, ih2, ih3⟩ := laws_FnForecasts.mono_l k
  unfold laws_FnForecasts.f
  repeat' first
      | (with_reducible exact ih0 _ _ _ _ _ _ _)
      | (with_reducible exact ih1 _ _ _ _ _ _ _ _)
      | (with_reducible exact ih2 _ _)
      | (with_reducible exact ih3 _ _ _ _ _ _ _)
      | (with_reducible exact impl_ForecastOf.mono _ _ _)
      | (with_reducible exact impl_HeatOf.mono _ _ _)
      | (with_reducible exact impl_OutdoorFor.mono _ _ _ _)
      | (with_reducible exact impl_PeakHour.mono _ _ _)
      | (with_reducible exact impl_WaterFor.mono _ _ _ _)
      | (with_reducible exact spec_LoadOf.mono _ _ _ _ _ _ _ _ _)
      | (with_reducible exact spec_R8Buildings.mono _ _)
      | (with_reducible exact spec_R8Day.mono _ _)
      | (with_reducible exact LeO.refl _)
      | (with_reducible exact LeO.none _)
      | (with_reducible refine LeO.ite ?_ ?_)
      | (with_reducible refine LeO.bind ?_ (fun _ => ?_))
      | exact ih0 _ _ _ _ _ _ _
      | exact ih1 _ _ _ _ _ _ _ _
      | exact ih2 _ _
      | exact ih3 _ _ _ _ _ _ _
      | exact impl_ForecastOf.mono _ _ _
      | exact impl_HeatOf.mono _ _ _
      | exact impl_OutdoorFor.mono _ _ _ _
      | exact impl_PeakHour.mono _ _ _
      | exact impl_WaterFor.mono _ _ _ _
      | exact spec_LoadOf.mono _ _ _ _ _ _ _ _ _
      | exact spec_R8Buildings.mono _ _
      | exact spec_R8Day.mono _ _
      | exact LeO.none _
      | refine LeO.ite ?_ ?_
      | refine LeO.bind ?_ (fun _ => ?_)
set_option maxHeartbeats 8000000 in
set_option maxRecDepth 100000 in
theorem laws_FnForecasts.calls (k : Nat) (A0 : Option Addr) (c0 : Nat) (l0 : List Int) (A1 : Option Addr) (c1 : Nat) (l1 : List Int) (r : Bool) (w : World) (hr0 : Kd.C (Kd.int .u8) w A0 l0.length l0) (hc0 : l0.length ≤ c0) (hr1 : Kd.C (Kd.int .u8) w A1 l1.length l1) (hc1 : l1.length ≤ c1) (h : laws_FnForecasts.f k l0 l1 = some r) :
    Calls Try.prog 9 #[.slice A0 l0.length c0, .slice A1 l1.length c1] w fun e w' => e = .returned (.bool r) ∧ Below w.heap.size w w' := by
  have hu94 := Try.underlying94
  have HR0 := Aside0.mk hr0
  have HC0 := Aside0.mk hc0
  clear hr0 hc0
  have HR1 := Aside0.mk hr1
  have HC1 := Aside0.mk hc1
  clear hr1 hc1
  have HB := Aside0.mk (Below.refl w.heap.size w)
  have H : ((laws_r8Long.f l0 l1).bind fun t292 => (if t292 = true then (some true) else ((spec_R8Buildings.f k l0).bind fun t293 => ((spec_R8Day.f k l1).bind fun t296 => ((impl_ForecastOf.f k t293 t296).bind fun bt299 => ((impl_HeatOf.f k t293 t296).bind fun bt303 => ((impl_PeakHour.f k t293 t296).bind fun bt305 => (if bt299.2 = 0 then (if (bt299.1.length : Int) = 24 then (if bt303.2 = 0 then (if bt305.2.2 = 0 then (if bt305.1 < 0 then (laws_FnForecasts.j0 k l1 t293 bt299.1 bt303.1 bt305.1 bt305.2.1 true) else (if bt305.1 ≥ 24 then (laws_FnForecasts.j0 k l1 t293 bt299.1 bt303.1 bt305.1 bt305.2.1 true) else (if 0 ≤ bt305.1 then (if bt305.1 < (bt299.1.length : Int) then (laws_FnForecasts.j0 k l1 t293 bt299.1 bt303.1 bt305.1 bt305.2.1 ((rd bt299.1 bt305.1) != bt305.2.1)) else (none)) else (none)))) else (laws_FnForecasts.j0 k l1 t293 bt299.1 bt303.1 bt305.1 bt305.2.1 true)) else (laws_FnForecasts.j0 k l1 t293 bt299.1 bt303.1 bt305.1 bt305.2.1 true)) else (laws_FnForecasts.j0 k l1 t293 bt299.1 bt303.1 bt305.1 bt305.2.1 true)) else (laws_FnForecasts.j0 k l1 t293 bt299.1 bt303.1 bt305.1 bt305.2.1 true))))))))) = some r := h
  clear h
  replace H := Option.bind_eq_some_iff.mp H
  obtain ⟨t292, A30, H⟩ := H
  replace H : (if t292 = true then (some true) else ((spec_R8Buildings.f k l0).bind fun t293 => ((spec_R8Day.f k l1).bind fun t296 => ((impl_ForecastOf.f k t293 t296).bind fun bt299 => ((impl_HeatOf.f k t293 t296).bind fun bt303 => ((impl_PeakHour.f k t293 t296).bind fun bt305 => (if bt299.2 = 0 then (if (bt299.1.length : Int) = 24 then (if bt303.2 = 0 then (if bt305.2.2 = 0 then (if bt305.1 < 0 then (laws_FnForecasts.j0 k l1 t293 bt299.1 bt303.1 bt305.1 bt305.2.1 true) else (if bt305.1 ≥ 24 then (laws_FnForecasts.j0 k l1 t293 bt299.1 bt303.1 bt305.1 bt305.2.1 true) else (if 0 ≤ bt305.1 then (if bt305.1 < (bt299.1.length : Int) then (laws_FnForecasts.j0 k l1 t293 bt299.1 bt303.1 bt305.1 bt305.2.1 ((rd bt299.1 bt305.1) != bt305.2.1)) else (none)) else (none)))) else (laws_FnForecasts.j0 k l1 t293 bt299.1 bt303.1 bt305.1 bt305.2.1 true)) else (laws_FnForecasts.j0 k l1 t293 bt299.1 bt303.1 bt305.1 bt305.2.1 true)) else (laws_FnForecasts.j0 k l1 t293 bt299.1 bt303.1 bt305.1 bt305.2.1 true)) else (laws_FnForecasts.j0 k l1 t293 bt299.1 bt303.1 bt305.1 bt305.2.1 true)))))))) = some r := H
  have A3 := Aside0.mk A30
  clear A30
  by_cases c4 : t292 = true
  · subst c4
    have H1 : (some true) = some r := by rw [if_pos rfl] at H; exact H
    clear H
    have H := H1
    clear H1
    obtain rfl := Option.some.inj H
    go_enter Try.func9, Try.ntmps9
    go_wp2_with (first | ((with_reducible refine gate_callee (f := 52) rfl ?_); refine goesL_ (some 37) rfl rfl Try.func52 (by kernel_rfl) rfl #[.slice A0 l0.length c0, .slice A1 l1.length c1] rfl (by (try simp only [List.map_toArray, List.map_cons, List.map_nil]); first | done | rfl | (simp only [List.length_drop, List.length_take]; rfl)) ?_; (with_reducible refine (laws_r8Long.calls _ _ l0 _ _ l1 true _ ?side1 ?side2 ?side3 ?side4 A3.out).mono ?_); (case side1 => repeat (first | exact HR0.out | (with_reducible refine Kd.C_alloc ?_ _) | (with_reducible refine Kd.C_drewN ?_ _) | (with_reducible refine Kd.C_drew ?_))); (case side2 => exact HC0.out); (case side3 => repeat (first | exact HR1.out | (with_reducible refine Kd.C_alloc ?_ _) | (with_reducible refine Kd.C_drewN ?_ _) | (with_reducible refine Kd.C_drew ?_))); (case side4 => exact HC1.out); rintro e w' ⟨rfl, ⟨nd, rfl⟩⟩; refine ⟨_, rfl, ?_⟩))
    go_ret
    exact ⟨by first | rfl | (simp [errW_none, errW_some] <;> rfl) | (simp [*, errW_none, errW_some] <;> rfl), by repeat (first | (with_reducible first | exact HB.out | apply below_alloc | apply pw_below_drewN | apply below_drew1) | exact HB.out)⟩
  · as_aux_lemma =>
    replace c4 := Bool.eq_false_iff.mpr c4
    subst c4
    have H1 : ((spec_R8Buildings.f k l0).bind fun t293 => ((spec_R8Day.f k l1).bind fun t296 => ((impl_ForecastOf.f k t293 t296).bind fun bt299 => ((impl_HeatOf.f k t293 t296).bind fun bt303 => ((impl_PeakHour.f k t293 t296).bind fun bt305 => (if bt299.2 = 0 then (if (bt299.1.length : Int) = 24 then (if bt303.2 = 0 then (if bt305.2.2 = 0 then (if bt305.1 < 0 then (laws_FnForecasts.j0 k l1 t293 bt299.1 bt303.1 bt305.1 bt305.2.1 true) else (if bt305.1 ≥ 24 then (laws_FnForecasts.j0 k l1 t293 bt299.1 bt303.1 bt305.1 bt305.2.1 true) else (if 0 ≤ bt305.1 then (if bt305.1 < (bt299.1.length : Int) then (laws_FnForecasts.j0 k l1 t293 bt299.1 bt303.1 bt305.1 bt305.2.1 ((rd bt299.1 bt305.1) != bt305.2.1)) else (none)) else (none)))) else (laws_FnForecasts.j0 k l1 t293 bt299.1 bt303.1 bt305.1 bt305.2.1 true)) else (laws_FnForecasts.j0 k l1 t293 bt299.1 bt303.1 bt305.1 bt305.2.1 true)) else (laws_FnForecasts.j0 k l1 t293 bt299.1 bt303.1 bt305.1 bt305.2.1 true)) else (laws_FnForecasts.j0 k l1 t293 bt299.1 bt303.1 bt305.1 bt305.2.1 true))))))) = some r := by rw [if_neg (show ¬ (false = true) by decide)] at H; exact H
    clear H
    have H := H1
    clear H1
    replace H := Option.bind_eq_some_iff.mp H
    obtain ⟨t293, A50, H⟩ := H
    replace H : ((spec_R8Day.f k l1).bind fun t296 => ((impl_ForecastOf.f k t293 t296).bind fun bt299 => ((impl_HeatOf.f k t293 t296).bind fun bt303 => ((impl_PeakHour.f k t293 t296).bind fun bt305 => (if bt299.2 = 0 then (if (bt299.1.length : Int) = 24 then (if bt303.2 = 0 then (if bt305.2.2 = 0 then (if bt305.1 < 0 then (laws_FnForecasts.j0 k l1 t293 bt299.1 bt303.1 bt305.1 bt305.2.1 true) else (if bt305.1 ≥ 24 then (laws_FnForecasts.j0 k l1 t293 bt299.1 bt303.1 bt305.1 bt305.2.1 true) else (if 0 ≤ bt305.1 then (if bt305.1 < (bt299.1.length : Int) then (laws_FnForecasts.j0 k l1 t293 bt299.1 bt303.1 bt305.1 bt305.2.1 ((rd bt299.1 bt305.1) != bt305.2.1)) else (none)) else (none)))) else (laws_FnForecasts.j0 k l1 t293 bt299.1 bt303.1 bt305.1 bt305.2.1 true)) else (laws_FnForecasts.j0 k l1 t293 bt299.1 bt303.1 bt305.1 bt305.2.1 true)) else (laws_FnForecasts.j0 k l1 t293 bt299.1 bt303.1 bt305.1 bt305.2.1 true)) else (laws_FnForecasts.j0 k l1 t293 bt299.1 bt303.1 bt305.1 bt305.2.1 true)))))) = some r := H
    have A5 := Aside0.mk A50
    clear A50
    replace H := Option.bind_eq_some_iff.mp H
    obtain ⟨t296, A60, H⟩ := H
    replace H : ((impl_ForecastOf.f k t293 t296).bind fun bt299 => ((impl_HeatOf.f k t293 t296).bind fun bt303 => ((impl_PeakHour.f k t293 t296).bind fun bt305 => (if bt299.2 = 0 then (if (bt299.1.length : Int) = 24 then (if bt303.2 = 0 then (if bt305.2.2 = 0 then (if bt305.1 < 0 then (laws_FnForecasts.j0 k l1 t293 bt299.1 bt303.1 bt305.1 bt305.2.1 true) else (if bt305.1 ≥ 24 then (laws_FnForecasts.j0 k l1 t293 bt299.1 bt303.1 bt305.1 bt305.2.1 true) else (if 0 ≤ bt305.1 then (if bt305.1 < (bt299.1.length : Int) then (laws_FnForecasts.j0 k l1 t293 bt299.1 bt303.1 bt305.1 bt305.2.1 ((rd bt299.1 bt305.1) != bt305.2.1)) else (none)) else (none)))) else (laws_FnForecasts.j0 k l1 t293 bt299.1 bt303.1 bt305.1 bt305.2.1 true)) else (laws_FnForecasts.j0 k l1 t293 bt299.1 bt303.1 bt305.1 bt305.2.1 true)) else (laws_FnForecasts.j0 k l1 t293 bt299.1 bt303.1 bt305.1 bt305.2.1 true)) else (laws_FnForecasts.j0 k l1 t293 bt299.1 bt303.1 bt305.1 bt305.2.1 true))))) = some r := H
    have A6 := Aside0.mk A60
    clear A60
    replace H := Option.bind_eq_some_iff.mp H
    obtain ⟨⟨t299, t300⟩, A70, H⟩ := H
    replace H : ((impl_HeatOf.f k t293 t296).bind fun bt303 => ((impl_PeakHour.f k t293 t296).bind fun bt305 => (if t300 = 0 then (if (t299.length : Int) = 24 then (if bt303.2 = 0 then (if bt305.2.2 = 0 then (if bt305.1 < 0 then (laws_FnForecasts.j0 k l1 t293 t299 bt303.1 bt305.1 bt305.2.1 true) else (if bt305.1 ≥ 24 then (laws_FnForecasts.j0 k l1 t293 t299 bt303.1 bt305.1 bt305.2.1 true) else (if 0 ≤ bt305.1 then (if bt305.1 < (t299.length : Int) then (laws_FnForecasts.j0 k l1 t293 t299 bt303.1 bt305.1 bt305.2.1 ((rd t299 bt305.1) != bt305.2.1)) else (none)) else (none)))) else (laws_FnForecasts.j0 k l1 t293 t299 bt303.1 bt305.1 bt305.2.1 true)) else (laws_FnForecasts.j0 k l1 t293 t299 bt303.1 bt305.1 bt305.2.1 true)) else (laws_FnForecasts.j0 k l1 t293 t299 bt303.1 bt305.1 bt305.2.1 true)) else (laws_FnForecasts.j0 k l1 t293 t299 bt303.1 bt305.1 bt305.2.1 true)))) = some r := H
    have A7 := Aside0.mk A70
    clear A70
    replace H := Option.bind_eq_some_iff.mp H
    obtain ⟨⟨t303, t304⟩, A80, H⟩ := H
    replace H : ((impl_PeakHour.f k t293 t296).bind fun bt305 => (if t300 = 0 then (if (t299.length : Int) = 24 then (if t304 = 0 then (if bt305.2.2 = 0 then (if bt305.1 < 0 then (laws_FnForecasts.j0 k l1 t293 t299 t303 bt305.1 bt305.2.1 true) else (if bt305.1 ≥ 24 then (laws_FnForecasts.j0 k l1 t293 t299 t303 bt305.1 bt305.2.1 true) else (if 0 ≤ bt305.1 then (if bt305.1 < (t299.length : Int) then (laws_FnForecasts.j0 k l1 t293 t299 t303 bt305.1 bt305.2.1 ((rd t299 bt305.1) != bt305.2.1)) else (none)) else (none)))) else (laws_FnForecasts.j0 k l1 t293 t299 t303 bt305.1 bt305.2.1 true)) else (laws_FnForecasts.j0 k l1 t293 t299 t303 bt305.1 bt305.2.1 true)) else (laws_FnForecasts.j0 k l1 t293 t299 t303 bt305.1 bt305.2.1 true)) else (laws_FnForecasts.j0 k l1 t293 t299 t303 bt305.1 bt305.2.1 true))) = some r := H
    have A8 := Aside0.mk A80
    clear A80
    replace H := Option.bind_eq_some_iff.mp H
    obtain ⟨⟨t305, t306, t307⟩, A90, H⟩ := H
    replace H : (if t300 = 0 then (if (t299.length : Int) = 24 then (if t304 = 0 then (if t307 = 0 then (if t305 < 0 then (laws_FnForecasts.j0 k l1 t293 t299 t303 t305 t306 true) else (if t305 ≥ 24 then (laws_FnForecasts.j0 k l1 t293 t299 t303 t305 t306 true) else (if 0 ≤ t305 then (if t305 < (t299.length : Int) then (laws_FnForecasts.j0 k l1 t293 t299 t303 t305 t306 ((rd t299 t305) != t306)) else (none)) else (none)))) else (laws_FnForecasts.j0 k l1 t293 t299 t303 t305 t306 true)) else (laws_FnForecasts.j0 k l1 t293 t299 t303 t305 t306 true)) else (laws_FnForecasts.j0 k l1 t293 t299 t303 t305 t306 true)) else (laws_FnForecasts.j0 k l1 t293 t299 t303 t305 t306 true)) = some r := H
    have A9 := Aside0.mk A90
    clear A90
    have HC10 := Aside0.mk H
    clear H
    go_enter Try.func9, Try.ntmps9
    go_upto_region 8 with (first | ((with_reducible refine gate_callee (f := 52) rfl ?_); refine goesL_ (some 37) rfl rfl Try.func52 (by kernel_rfl) rfl #[.slice A0 l0.length c0, .slice A1 l1.length c1] rfl (by (try simp only [List.map_toArray, List.map_cons, List.map_nil]); first | done | rfl | (simp only [List.length_drop, List.length_take]; rfl)) ?_; (with_reducible refine (laws_r8Long.calls _ _ l0 _ _ l1 false _ ?side1 ?side2 ?side3 ?side4 A3.out).mono ?_); (case side1 => repeat (first | exact HR0.out | (with_reducible refine Kd.C_alloc ?_ _) | (with_reducible refine Kd.C_drewN ?_ _) | (with_reducible refine Kd.C_drew ?_))); (case side2 => exact HC0.out); (case side3 => repeat (first | exact HR1.out | (with_reducible refine Kd.C_alloc ?_ _) | (with_reducible refine Kd.C_drewN ?_ _) | (with_reducible refine Kd.C_drew ?_))); (case side4 => exact HC1.out); rintro e w' ⟨rfl, ⟨nd, rfl⟩⟩; refine ⟨_, rfl, ?_⟩) | ((with_reducible refine gate_callee (f := 53) rfl ?_); refine goesL_ (some 39) rfl rfl Try.func53 (by kernel_rfl) rfl #[.slice A0 l0.length c0] rfl (by (try simp only [List.map_toArray, List.map_cons, List.map_nil]); first | done | rfl | (simp only [List.length_drop, List.length_take]; rfl)) ?_; (with_reducible refine (spec_R8Buildings.calls k _ _ l0 t293 _ ?side1 ?side2 A5.out).mono ?_); (case side1 => repeat (first | exact HR0.out | (with_reducible refine Kd.C_alloc ?_ _) | (with_reducible refine Kd.C_drewN ?_ _) | (with_reducible refine Kd.C_drew ?_))); (case side2 => exact HC0.out); rintro e w11 ⟨v294, rfl, ho0, hb⟩; refine ⟨_, rfl, ?_⟩; have n0_ := Aside0.mk (Kd.S_lower ho0 (below_size (by repeat (first | (with_reducible first | exact HB.out | apply below_alloc | apply pw_below_drewN | apply below_drew1) | exact HB.out)))); have n1_ := Aside0.mk (below_step (by repeat (first | (with_reducible first | exact HB.out | apply below_alloc | apply pw_below_drewN | apply below_drew1) | exact HB.out)) hb); clear HB; have HO295 := n0_; have HB := n1_; clear n0_ n1_; (try clear hb); (try clear hb2); (try clear hk); (try clear hi); (try clear ho0)) | ((with_reducible refine gate_callee (f := 54) rfl ?_); refine goesL_ (some 41) rfl rfl Try.func54 (by kernel_rfl) rfl #[.slice A1 l1.length c1] rfl (by (try simp only [List.map_toArray, List.map_cons, List.map_nil]); first | done | rfl | (simp only [List.length_drop, List.length_take]; rfl)) ?_; (with_reducible refine (spec_R8Day.calls k _ _ l1 t296 _ ?side1 ?side2 A6.out).mono ?_); (case side1 => repeat (first | exact (Kd.C_below HR1.out HB.out) | (with_reducible refine Kd.C_alloc ?_ _) | (with_reducible refine Kd.C_drewN ?_ _) | (with_reducible refine Kd.C_drew ?_))); (case side2 => exact HC1.out); rintro e w12 ⟨v297, rfl, ho0, hb⟩; refine ⟨_, rfl, ?_⟩; have n0_ := Aside0.mk (Kd.S_elder' (by (with_reducible repeat (first | apply Kd.S_alloc | apply Kd.S_drewN | apply Kd.S_drew)); exact HO295.out) (Kd.R_base ho0) hb); have n1_ := Aside0.mk (Kd.R_lower ho0 (below_size (by repeat (first | (with_reducible first | exact HB.out | apply below_alloc | apply pw_below_drewN | apply below_drew1) | exact HB.out)))); have n2_ := Aside0.mk (below_step (by repeat (first | (with_reducible first | exact HB.out | apply below_alloc | apply pw_below_drewN | apply below_drew1) | exact HB.out)) hb); clear HO295; clear HB; have HO295 := n0_; have HO298 := n1_; have HB := n2_; clear n0_ n1_ n2_; (try clear hb); (try clear hb2); (try clear hk); (try clear hi); (try clear ho0); obtain ⟨Ao13, co13, eo13⟩ := Kd.S_slice HO295.out; subst eo13; obtain ⟨Ao14, co14, eo14⟩ := Kd.R_slice HO298.out; subst eo14) | ((with_reducible refine gate_callee (f := 55) rfl ?_); refine goesL_ (some 45) rfl rfl Try.func55 (by kernel_rfl) rfl #[.slice Ao13 t293.length co13, .slice Ao14 t296.length co14] rfl (by (try simp only [List.map_toArray, List.map_cons, List.map_nil]); first | done | rfl | (simp only [List.length_drop, List.length_take]; rfl)) ?_; (with_reducible refine (impl_ForecastOf.calls k _ _ t293 _ _ t296 t299 t300 _ ?side1 ?side2 ?side3 ?side4 A7.out).mono ?_); (case side1 => repeat (first | exact (Kd.S_reads' HO295.out).2.2 | (with_reducible refine Kd.C_alloc ?_ _) | (with_reducible refine Kd.C_drewN ?_ _) | (with_reducible refine Kd.C_drew ?_))); (case side2 => exact (Kd.S_reads' HO295.out).2.1); (case side3 => repeat (first | exact (Kd.R_reads' HO298.out).2.2 | (with_reducible refine Kd.C_alloc ?_ _) | (with_reducible refine Kd.C_drewN ?_ _) | (with_reducible refine Kd.C_drew ?_))); (case side4 => exact (Kd.R_reads' HO298.out).2.1); rintro e w15 ⟨v301, rfl, ho0, hb⟩; refine ⟨_, rfl, ?_⟩; have n0_ := Aside0.mk (Kd.S_elder' (by (with_reducible repeat (first | apply Kd.S_alloc | apply Kd.S_drewN | apply Kd.S_drew)); exact HO295.out) (Kd.R_base ho0) hb); have n1_ := Aside0.mk (Kd.R_elder' (by (with_reducible repeat (first | apply Kd.R_alloc | apply Kd.R_drewN | apply Kd.R_drew)); exact HO298.out) (Kd.R_base ho0) hb); have n2_ := Aside0.mk (Kd.R_lower (Kd.R_new' ho0 (Kd.R_lt (by (with_reducible repeat (first | apply Kd.R_alloc | apply Kd.R_drewN | apply Kd.R_drew)); exact HO298.out))) (below_size (by repeat (first | (with_reducible first | exact HB.out | apply below_alloc | apply pw_below_drewN | apply below_drew1) | exact HB.out)))); have n3_ := Aside0.mk (below_step (by repeat (first | (with_reducible first | exact HB.out | apply below_alloc | apply pw_below_drewN | apply below_drew1) | exact HB.out)) hb); clear HO295; clear HO298; clear HB; have HO295 := n0_; have HO298 := n1_; have HO302 := n2_; have HB := n3_; clear n0_ n1_ n2_ n3_; (try clear hb); (try clear hb2); (try clear hk); (try clear hi); (try clear ho0)) | ((with_reducible refine gate_callee (f := 56) rfl ?_); refine goesL_ (some 51) rfl rfl Try.func56 (by kernel_rfl) rfl #[.slice Ao13 t293.length co13, .slice Ao14 t296.length co14] rfl (by (try simp only [List.map_toArray, List.map_cons, List.map_nil]); first | done | rfl | (simp only [List.length_drop, List.length_take]; rfl)) ?_; (with_reducible refine (impl_HeatOf.calls k _ _ t293 _ _ t296 t303 t304 _ ?side1 ?side2 ?side3 ?side4 A8.out).mono ?_); (case side1 => repeat (first | exact (Kd.S_reads' HO295.out).2.2 | (with_reducible refine Kd.C_alloc ?_ _) | (with_reducible refine Kd.C_drewN ?_ _) | (with_reducible refine Kd.C_drew ?_))); (case side2 => exact (Kd.S_reads' HO295.out).2.1); (case side3 => repeat (first | exact (Kd.R_reads' HO298.out).2.2 | (with_reducible refine Kd.C_alloc ?_ _) | (with_reducible refine Kd.C_drewN ?_ _) | (with_reducible refine Kd.C_drew ?_))); (case side4 => exact (Kd.R_reads' HO298.out).2.1); rintro e w16 ⟨rfl, hb⟩; refine ⟨_, rfl, ?_⟩; have n0_ := Aside0.mk (Kd.S_below (by (with_reducible repeat (first | apply Kd.S_alloc | apply Kd.S_drewN | apply Kd.S_drew)); exact HO295.out) hb); have n1_ := Aside0.mk (Kd.R_below (by (with_reducible repeat (first | apply Kd.R_alloc | apply Kd.R_drewN | apply Kd.R_drew)); exact HO298.out) hb); have n2_ := Aside0.mk (Kd.R_below (by (with_reducible repeat (first | apply Kd.R_alloc | apply Kd.R_drewN | apply Kd.R_drew)); exact HO302.out) hb); have n3_ := Aside0.mk (below_step (by repeat (first | (with_reducible first | exact HB.out | apply below_alloc | apply pw_below_drewN | apply below_drew1) | exact HB.out)) hb); clear HO295; clear HO298; clear HO302; clear HB; have HO295 := n0_; have HO298 := n1_; have HO302 := n2_; have HB := n3_; clear n0_ n1_ n2_ n3_; (try clear hb); (try clear hb2); (try clear hk); (try clear hi)) | ((with_reducible refine gate_callee (f := 57) rfl ?_); refine goesL_ (some 57) rfl rfl Try.func57 (by kernel_rfl) rfl #[.slice Ao13 t293.length co13, .slice Ao14 t296.length co14] rfl (by (try simp only [List.map_toArray, List.map_cons, List.map_nil]); first | done | rfl | (simp only [List.length_drop, List.length_take]; rfl)) ?_; (with_reducible refine (impl_PeakHour.calls k _ _ t293 _ _ t296 t305 t306 t307 _ ?side1 ?side2 ?side3 ?side4 A9.out).mono ?_); (case side1 => repeat (first | exact (Kd.S_reads' HO295.out).2.2 | (with_reducible refine Kd.C_alloc ?_ _) | (with_reducible refine Kd.C_drewN ?_ _) | (with_reducible refine Kd.C_drew ?_))); (case side2 => exact (Kd.S_reads' HO295.out).2.1); (case side3 => repeat (first | exact (Kd.R_reads' HO298.out).2.2 | (with_reducible refine Kd.C_alloc ?_ _) | (with_reducible refine Kd.C_drewN ?_ _) | (with_reducible refine Kd.C_drew ?_))); (case side4 => exact (Kd.R_reads' HO298.out).2.1); rintro e w17 ⟨rfl, hb⟩; refine ⟨_, rfl, ?_⟩; have n0_ := Aside0.mk (Kd.S_below (by (with_reducible repeat (first | apply Kd.S_alloc | apply Kd.S_drewN | apply Kd.S_drew)); exact HO295.out) hb); have n1_ := Aside0.mk (Kd.R_below (by (with_reducible repeat (first | apply Kd.R_alloc | apply Kd.R_drewN | apply Kd.R_drew)); exact HO298.out) hb); have n2_ := Aside0.mk (Kd.R_below (by (with_reducible repeat (first | apply Kd.R_alloc | apply Kd.R_drewN | apply Kd.R_drew)); exact HO302.out) hb); have n3_ := Aside0.mk (below_step (by repeat (first | (with_reducible first | exact HB.out | apply below_alloc | apply pw_below_drewN | apply below_drew1) | exact HB.out)) hb); clear HO295; clear HO298; clear HO302; clear HB; have HO295 := n0_; have HO298 := n1_; have HO302 := n2_; have HB := n3_; clear n0_ n1_ n2_ n3_; (try clear hb); (try clear hb2); (try clear hk); (try clear hi)))
    (try simp only [Act.put, List.setIfInBounds_toArray, List.set_cons_zero, List.set_cons_succ])
    go_cut [91] (fun v91 wc => ∃ (kq : Nat) (x91_9 : Bool), v91 = .bool x91_9 ∧ Aside0 (laws_FnForecasts.j0 kq l1 t293 t299 t303 t305 t306 x91_9 = some r) ∧ Aside0 (kq ≤ k) ∧ Aside0 (Kd.S k94 94 wc w.heap.size (fun k_ => some k_ ≠ (v301 : Value).ownBlock) (.slice Ao13 t293.length co13) t293) ∧ Aside0 (Kd.R (Kd.int .i64) 2 wc w.heap.size (fun _ => True) v301 t299) ∧ Aside0 (Below w.heap.size w wc))
    case first =>
      have H := HC10.out
      clear HC10
      by_cases c18 : t300 = 0
      · as_aux_lemma =>
        rw [if_pos c18] at H
        have c18b0 : (t300 == 0) = true := beq_iff_eq.mpr c18
        have c18b1 : (t300 != 0) = false := bne_eq_false_iff_eq.mpr c18
        clear c18
        (first | rw [c18b0] | (simp only [i64_w, i32_w]; rw [c18b0]) | skip)
        by_cases c19 : (t299.length : Int) = 24
        · as_aux_lemma =>
          rw [if_pos c19] at H
          have c19b0 : ((t299.length : Int) == 24) = true := beq_iff_eq.mpr c19
          have c19b1 : ((t299.length : Int) != 24) = false := bne_eq_false_iff_eq.mpr c19
          clear c19
          by_cases c20 : t304 = 0
          · as_aux_lemma =>
            rw [if_pos c20] at H
            have c20b0 : (t304 == 0) = true := beq_iff_eq.mpr c20
            have c20b1 : (t304 != 0) = false := bne_eq_false_iff_eq.mpr c20
            clear c20
            by_cases c21 : t307 = 0
            · rw [if_pos c21] at H
              have c21b0 : (t307 == 0) = true := beq_iff_eq.mpr c21
              have c21b1 : (t307 != 0) = false := bne_eq_false_iff_eq.mpr c21
              clear c21
              by_cases c22 : t305 < 0
              · rw [if_pos c22] at H
                have c22b0 : decide (t305 < 0) = true := decide_eq_true c22
                clear c22
                have H' := Aside0.mk H
                clear H
                obtain ⟨Ao23, co23, eo23⟩ := Kd.R_slice HO302.out
                subst eo23
                go_wp2
                go_meet
                case rel => exact ⟨_, (true), (by first | rfl | (simp; done) | (simp [*]; done)), H', ⟨by first | omega | exact Nat.le_refl _⟩, ⟨by (with_reducible repeat (first | apply Kd.S_alloc | apply Kd.S_drewN | apply Kd.S_drew)); exact Kd.S_mono HO295.out (fun _ hk => hk.2)⟩, ⟨by (with_reducible repeat (first | apply Kd.R_alloc | apply Kd.R_drewN | apply Kd.R_drew)); exact Kd.R_mono HO302.out (fun _ hk => trivial)⟩, ⟨by repeat (first | (with_reducible first | exact HB.out | apply below_alloc | apply pw_below_drewN | apply below_drew1) | exact HB.out)⟩⟩
              · rw [if_neg c22] at H
                have c22b0 : decide (t305 < 0) = false := decide_eq_false c22
                clear c22
                by_cases c24 : t305 ≥ 24
                · rw [if_pos c24] at H
                  have c24b0 : decide (24 ≤ t305) = true := decide_eq_true c24
                  clear c24
                  have H' := Aside0.mk H
                  clear H
                  obtain ⟨Ao25, co25, eo25⟩ := Kd.R_slice HO302.out
                  subst eo25
                  go_wp2
                  go_meet
                  case rel => exact ⟨_, (true), (by first | rfl | (simp; done) | (simp [*]; done)), H', ⟨by first | omega | exact Nat.le_refl _⟩, ⟨by (with_reducible repeat (first | apply Kd.S_alloc | apply Kd.S_drewN | apply Kd.S_drew)); exact Kd.S_mono HO295.out (fun _ hk => hk.2)⟩, ⟨by (with_reducible repeat (first | apply Kd.R_alloc | apply Kd.R_drewN | apply Kd.R_drew)); exact Kd.R_mono HO302.out (fun _ hk => trivial)⟩, ⟨by repeat (first | (with_reducible first | exact HB.out | apply below_alloc | apply pw_below_drewN | apply below_drew1) | exact HB.out)⟩⟩
                · rw [if_neg c24] at H
                  have c24b0 : decide (24 ≤ t305) = false := decide_eq_false c24
                  clear c24
                  by_cases c26 : 0 ≤ t305
                  · rw [if_pos c26] at H
                    have c26b0 : decide (0 ≤ t305) = true := decide_eq_true c26
                    clear c26
                    by_cases c27 : t305 < (t299.length : Int)
                    · rw [if_pos c27] at H
                      have c27b0 : decide (t305 < (t299.length : Int)) = true := decide_eq_true c27
                      clear c27
                      have H' := Aside0.mk H
                      clear H
                      obtain ⟨Ao28, co28, eo28⟩ := Kd.R_slice HO302.out
                      subst eo28
                      have p308 : 0 ≤ (t305 : Int) := of_decide_eq_true (by first | (with_reducible assumption) | assumption)
                      have q308 : t305 < (t299.length : Int) := of_decide_eq_true (by first | (with_reducible assumption) | assumption)
                      obtain ⟨ad308, e308, hx308_0⟩ := Kd.at_int (Kd.R_reads' HO302.out).2.2 t305 p308 q308
                      cases e308
                      replace p308 := eq_true p308
                      replace q308 := eq_true q308
                      go_wp2
                      go_meet
                      case rel => exact ⟨_, (((rd t299 t305) != t306)), (by first | rfl | (simp; done) | (simp [*]; done)), H', ⟨by first | omega | exact Nat.le_refl _⟩, ⟨by (with_reducible repeat (first | apply Kd.S_alloc | apply Kd.S_drewN | apply Kd.S_drew)); exact Kd.S_mono HO295.out (fun _ hk => hk.2)⟩, ⟨by (with_reducible repeat (first | apply Kd.R_alloc | apply Kd.R_drewN | apply Kd.R_drew)); exact Kd.R_mono HO302.out (fun _ hk => trivial)⟩, ⟨by repeat (first | (with_reducible first | exact HB.out | apply below_alloc | apply pw_below_drewN | apply below_drew1) | exact HB.out)⟩⟩
                    · rw [if_neg c27] at H
                      exact absurd H (by simp)
                  · rw [if_neg c26] at H
                    exact absurd H (by simp)
            · rw [if_neg c21] at H
              have c21b0 : (t307 == 0) = false := beq_eq_false_iff_ne.mpr c21
              have c21b1 : (t307 != 0) = true := bne_iff_ne.mpr c21
              have H' := Aside0.mk H
              clear H
              obtain ⟨Ao29, co29, eo29⟩ := Kd.R_slice HO302.out
              subst eo29
              go_wp2
              go_meet
              case rel => exact ⟨_, (true), (by first | rfl | (simp; done) | (simp [*]; done)), H', ⟨by first | omega | exact Nat.le_refl _⟩, ⟨by (with_reducible repeat (first | apply Kd.S_alloc | apply Kd.S_drewN | apply Kd.S_drew)); exact Kd.S_mono HO295.out (fun _ hk => hk.2)⟩, ⟨by (with_reducible repeat (first | apply Kd.R_alloc | apply Kd.R_drewN | apply Kd.R_drew)); exact Kd.R_mono HO302.out (fun _ hk => trivial)⟩, ⟨by repeat (first | (with_reducible first | exact HB.out | apply below_alloc | apply pw_below_drewN | apply below_drew1) | exact HB.out)⟩⟩
          · rw [if_neg c20] at H
            have c20b0 : (t304 == 0) = false := beq_eq_false_iff_ne.mpr c20
            have c20b1 : (t304 != 0) = true := bne_iff_ne.mpr c20
            have H' := Aside0.mk H
            clear H
            obtain ⟨Ao30, co30, eo30⟩ := Kd.R_slice HO302.out
            subst eo30
            go_wp2
            go_meet
            case rel => exact ⟨_, (true), (by first | rfl | (simp; done) | (simp [*]; done)), H', ⟨by first | omega | exact Nat.le_refl _⟩, ⟨by (with_reducible repeat (first | apply Kd.S_alloc | apply Kd.S_drewN | apply Kd.S_drew)); exact Kd.S_mono HO295.out (fun _ hk => hk.2)⟩, ⟨by (with_reducible repeat (first | apply Kd.R_alloc | apply Kd.R_drewN | apply Kd.R_drew)); exact Kd.R_mono HO302.out (fun _ hk => trivial)⟩, ⟨by repeat (first | (with_reducible first | exact HB.out | apply below_alloc | apply pw_below_drewN | apply below_drew1) | exact HB.out)⟩⟩
        · rw [if_neg c19] at H
          have c19b0 : ((t299.length : Int) == 24) = false := beq_eq_false_iff_ne.mpr c19
          have c19b1 : ((t299.length : Int) != 24) = true := bne_iff_ne.mpr c19
          have H' := Aside0.mk H
          clear H
          obtain ⟨Ao31, co31, eo31⟩ := Kd.R_slice HO302.out
          subst eo31
          go_wp2
          go_meet
          case rel => exact ⟨_, (true), (by first | rfl | (simp; done) | (simp [*]; done)), H', ⟨by first | omega | exact Nat.le_refl _⟩, ⟨by (with_reducible repeat (first | apply Kd.S_alloc | apply Kd.S_drewN | apply Kd.S_drew)); exact Kd.S_mono HO295.out (fun _ hk => hk.2)⟩, ⟨by (with_reducible repeat (first | apply Kd.R_alloc | apply Kd.R_drewN | apply Kd.R_drew)); exact Kd.R_mono HO302.out (fun _ hk => trivial)⟩, ⟨by repeat (first | (with_reducible first | exact HB.out | apply below_alloc | apply pw_below_drewN | apply below_drew1) | exact HB.out)⟩⟩
      · rw [if_neg c18] at H
        have c18b0 : (t300 == 0) = false := beq_eq_false_iff_ne.mpr c18
        have c18b1 : (t300 != 0) = true := bne_iff_ne.mpr c18
        (first | rw [c18b0] | (simp only [i64_w, i32_w]; rw [c18b0]) | skip)
        have H' := Aside0.mk H
        clear H
        go_wp2
        go_meet
        case rel => exact ⟨_, (true), (by first | rfl | (simp; done) | (simp [*]; done)), H', ⟨by first | omega | exact Nat.le_refl _⟩, ⟨by (with_reducible repeat (first | apply Kd.S_alloc | apply Kd.S_drewN | apply Kd.S_drew)); exact Kd.S_mono HO295.out (fun _ hk => hk.2)⟩, ⟨by (with_reducible repeat (first | apply Kd.R_alloc | apply Kd.R_drewN | apply Kd.R_drew)); exact Kd.R_mono HO302.out (fun _ hk => trivial)⟩, ⟨by repeat (first | (with_reducible first | exact HB.out | apply below_alloc | apply pw_below_drewN | apply below_drew1) | exact HB.out)⟩⟩
    case rest =>
      clear HC10
      try clear c1
      try clear c2
      try clear p2
      try clear p3
      try clear q3
      try clear hx3
      try clear c4
      try clear c5
      try clear c9
      try clear c18
      try clear c18b0
      try clear c18b1
      try clear c19
      try clear c19b0
      try clear c19b1
      try clear c20
      try clear c20b0
      try clear c20b1
      try clear c21
      try clear c21b0
      try clear c21b1
      try clear c22
      try clear c22b0
      try clear c24
      try clear c24b0
      try clear c26
      try clear c26b0
      try clear c27
      try clear c27b0
      try clear p30
      try clear q30
      try clear hx30
      try clear hx308_0
      try clear p308
      try clear q308
      obtain ⟨kq, x91_9, rfl, HA, HJ9, HO_5, HO_7, HB⟩ := hcut
      cases kq with
      | zero => exact absurd HA.out (by simp [laws_FnForecasts.j0])
      | succ kj9 =>
        have H := HA.out
        clear HA
        simp only [laws_FnForecasts.j0] at H
        by_cases c32 : x91_9 = true
        · subst c32
          have H1 : (some false) = some r := by rw [if_pos rfl] at H; exact H
          clear H
          have H := H1
          clear H1
          obtain rfl := Option.some.inj H
          go_wp2
          go_ret
          exact ⟨by first | rfl | (simp [errW_none, errW_some] <;> rfl) | (simp [*, errW_none, errW_some] <;> rfl), by repeat (first | (with_reducible first | exact HB.out | apply below_alloc | apply pw_below_drewN | apply below_drew1) | exact HB.out)⟩
        · as_aux_lemma =>
          replace c32 := Bool.eq_false_iff.mpr c32
          subst c32
          have H1 : (laws_FnForecasts.l0 kj9 l1 t293 t299 t303 t305 t306 0 0) = some r := by rw [if_neg (show ¬ (false = true) by decide)] at H; exact H
          clear H
          have H := H1
          clear H1
          have H' := Aside0.mk H
          clear H
          go_wp2
          go_loopg [14, 15] kj9 (fun kq v14 v15 w' => ∃ (x14_2 : Int) (x15_2 : Int), v14 = .int .i64 x14_2 ∧ v15 = .int .i64 x15_2 ∧ Aside0 (laws_FnForecasts.l0 kq l1 t293 t299 t303 t305 t306 x14_2 x15_2 = some r) ∧ Aside0 (kq ≤ kj9) ∧ Aside0 (Kd.S k94 94 w' w.heap.size (fun k_ => some k_ ≠ (v301 : Value).ownBlock) (.slice Ao13 t293.length co13) t293) ∧ Aside0 (Kd.R (Kd.int .i64) 2 w' w.heap.size (fun _ => True) v301 t299) ∧ Aside0 (Below w.heap.size w w'))
          case atStart => exact ⟨(0), (0), (by first | rfl | (simp; done) | (simp [*]; done)), (by first | rfl | (simp; done) | (simp [*]; done)), H', ⟨Nat.le_refl _⟩, ⟨by (with_reducible repeat (first | apply Kd.S_alloc | apply Kd.S_drewN | apply Kd.S_drew)); exact HO_5.out⟩, ⟨by (with_reducible repeat (first | apply Kd.R_alloc | apply Kd.R_drewN | apply Kd.R_drew)); exact HO_7.out⟩, ⟨by repeat (first | (with_reducible first | exact HB.out | apply below_alloc | apply pw_below_drewN | apply below_drew1) | exact HB.out)⟩⟩
          case round =>
            clear H'
            try clear c1
            try clear c2
            try clear p2
            try clear c3
            try clear p3
            try clear q3
            try clear hx3
            try clear c4
            try clear c5
            try clear c9
            try clear c18
            try clear c18b0
            try clear c18b1
            try clear c19
            try clear c19b0
            try clear c19b1
            try clear c20
            try clear c20b0
            try clear c20b1
            try clear c21
            try clear c21b0
            try clear c21b1
            try clear c22
            try clear c22b0
            try clear c24
            try clear c24b0
            try clear c26
            try clear c26b0
            try clear c27
            try clear c27b0
            try clear p30
            try clear q30
            try clear hx30
            try clear c32
            try clear hx308_0
            try clear p2
            try clear p3
            try clear p30
            try clear p308
            try clear q3
            try clear q30
            try clear q308
            obtain ⟨x14_2, x15_2, rfl, rfl, HA, HK2, HO_5, HO_7, HB⟩ := hrel
            cases gk with
            | zero => exact absurd HA.out (by simp [laws_FnForecasts.l0])
            | succ k2 =>
              have H := HA.out
              clear HA
              simp only [laws_FnForecasts.l0] at H
              by_cases c33 : x15_2 < (t299.length : Int)
              · as_aux_lemma =>
                rw [if_pos c33] at H
                have c33b0 : decide (x15_2 < (t299.length : Int)) = true := decide_eq_true c33
                clear c33
                by_cases c34 : 0 ≤ x15_2
                · as_aux_lemma =>
                  rw [if_pos c34] at H
                  have c34b0 : decide (0 ≤ x15_2) = true := decide_eq_true c34
                  clear c34
                  by_cases c35 : (rd t299 x15_2) > t306
                  · rw [if_pos c35] at H
                    have c35b0 : decide (t306 < (rd t299 x15_2)) = true := decide_eq_true c35
                    clear c35
                    obtain rfl := Option.some.inj H
                    obtain ⟨Ao36, co36, eo36⟩ := Kd.R_slice HO_7.out
                    subst eo36
                    have p309 : 0 ≤ (x15_2 : Int) := of_decide_eq_true (by first | (with_reducible assumption) | assumption)
                    have q309 : x15_2 < (t299.length : Int) := of_decide_eq_true (by first | (with_reducible assumption) | assumption)
                    obtain ⟨ad309, e309, hx309_0⟩ := Kd.at_int (Kd.R_reads' HO_7.out).2.2 x15_2 p309 q309
                    cases e309
                    replace p309 := eq_true p309
                    replace q309 := eq_true q309
                    have p310 : 0 ≤ (x15_2 : Int) := of_decide_eq_true (by first | (with_reducible assumption) | assumption)
                    have q310 : x15_2 < (t299.length : Int) := of_decide_eq_true (by first | (with_reducible assumption) | assumption)
                    obtain ⟨ad310, e310, hx310_0⟩ := Kd.at_int (Kd.R_reads' HO_7.out).2.2 x15_2 p310 q310
                    obtain rfl : ad309 = ad310 := (by injection e310)
                    replace p310 := eq_true p310
                    replace q310 := eq_true q310
                    go_wp2
                    go_ret
                    exact ⟨by first | rfl | (simp [errW_none, errW_some] <;> rfl) | (simp [*, errW_none, errW_some] <;> rfl), by repeat (first | (with_reducible first | exact HB.out | apply below_alloc | apply pw_below_drewN | apply below_drew1) | exact HB.out)⟩
                  · as_aux_lemma =>
                    rw [if_neg c35] at H
                    have c35b0 : decide (t306 < (rd t299 x15_2)) = false := decide_eq_false c35
                    clear c35
                    by_cases c37 : x15_2 < t305
                    · as_aux_lemma =>
                      rw [if_pos c37] at H
                      have c37b0 : decide (x15_2 < t305) = true := decide_eq_true c37
                      clear c37
                      by_cases c38 : (rd t299 x15_2) = t306
                      · rw [if_pos c38] at H
                        have c38b0 : ((rd t299 x15_2) == t306) = true := beq_iff_eq.mpr c38
                        have c38b1 : ((rd t299 x15_2) != t306) = false := bne_eq_false_iff_eq.mpr c38
                        clear c38
                        obtain rfl := Option.some.inj H
                        obtain ⟨Ao39, co39, eo39⟩ := Kd.R_slice HO_7.out
                        subst eo39
                        have p309 : 0 ≤ (x15_2 : Int) := of_decide_eq_true (by first | (with_reducible assumption) | assumption)
                        have q309 : x15_2 < (t299.length : Int) := of_decide_eq_true (by first | (with_reducible assumption) | assumption)
                        obtain ⟨ad309, e309, hx309_0⟩ := Kd.at_int (Kd.R_reads' HO_7.out).2.2 x15_2 p309 q309
                        cases e309
                        replace p309 := eq_true p309
                        replace q309 := eq_true q309
                        have p310 : 0 ≤ (x15_2 : Int) := of_decide_eq_true (by first | (with_reducible assumption) | assumption)
                        have q310 : x15_2 < (t299.length : Int) := of_decide_eq_true (by first | (with_reducible assumption) | assumption)
                        obtain ⟨ad310, e310, hx310_0⟩ := Kd.at_int (Kd.R_reads' HO_7.out).2.2 x15_2 p310 q310
                        obtain rfl : ad309 = ad310 := (by injection e310)
                        replace p310 := eq_true p310
                        replace q310 := eq_true q310
                        have p311 : 0 ≤ (x15_2 : Int) := of_decide_eq_true (by first | (with_reducible assumption) | assumption)
                        have q311 : x15_2 < (t299.length : Int) := of_decide_eq_true (by first | (with_reducible assumption) | assumption)
                        obtain ⟨ad311, e311, hx311_0⟩ := Kd.at_int (Kd.R_reads' HO_7.out).2.2 x15_2 p311 q311
                        obtain rfl : ad309 = ad311 := (by injection e311)
                        replace p311 := eq_true p311
                        replace q311 := eq_true q311
                        go_wp2
                        go_ret
                        exact ⟨by first | rfl | (simp [errW_none, errW_some] <;> rfl) | (simp [*, errW_none, errW_some] <;> rfl), by repeat (first | (with_reducible first | exact HB.out | apply below_alloc | apply pw_below_drewN | apply below_drew1) | exact HB.out)⟩
                      · rw [if_neg c38] at H
                        have c38b0 : ((rd t299 x15_2) == t306) = false := beq_eq_false_iff_ne.mpr c38
                        have c38b1 : ((rd t299 x15_2) != t306) = true := bne_iff_ne.mpr c38
                        have H' := Aside0.mk H
                        clear H
                        obtain ⟨Ao40, co40, eo40⟩ := Kd.R_slice HO_7.out
                        subst eo40
                        have p309 : 0 ≤ (x15_2 : Int) := of_decide_eq_true (by first | (with_reducible assumption) | assumption)
                        have q309 : x15_2 < (t299.length : Int) := of_decide_eq_true (by first | (with_reducible assumption) | assumption)
                        obtain ⟨ad309, e309, hx309_0⟩ := Kd.at_int (Kd.R_reads' HO_7.out).2.2 x15_2 p309 q309
                        cases e309
                        replace p309 := eq_true p309
                        replace q309 := eq_true q309
                        have p310 : 0 ≤ (x15_2 : Int) := of_decide_eq_true (by first | (with_reducible assumption) | assumption)
                        have q310 : x15_2 < (t299.length : Int) := of_decide_eq_true (by first | (with_reducible assumption) | assumption)
                        obtain ⟨ad310, e310, hx310_0⟩ := Kd.at_int (Kd.R_reads' HO_7.out).2.2 x15_2 p310 q310
                        obtain rfl : ad309 = ad310 := (by injection e310)
                        replace p310 := eq_true p310
                        replace q310 := eq_true q310
                        have p311 : 0 ≤ (x15_2 : Int) := of_decide_eq_true (by first | (with_reducible assumption) | assumption)
                        have q311 : x15_2 < (t299.length : Int) := of_decide_eq_true (by first | (with_reducible assumption) | assumption)
                        obtain ⟨ad311, e311, hx311_0⟩ := Kd.at_int (Kd.R_reads' HO_7.out).2.2 x15_2 p311 q311
                        obtain rfl : ad309 = ad311 := (by injection e311)
                        replace p311 := eq_true p311
                        replace q311 := eq_true q311
                        go_wp2
                        go_roundg k2
                        case measure => have := HJ9.out; have := HK2.out; omega
                        case rel => exact ⟨(wrap64 (x14_2 + (rd t299 x15_2))), (wrap64 (x15_2 + 1)), (by first | rfl | (simp; done) | (simp [*]; done)), (by first | rfl | (simp; done) | (simp [*]; done)), H', ⟨by have := HJ9.out; have := HK2.out; omega⟩, ⟨by (with_reducible repeat (first | apply Kd.S_alloc | apply Kd.S_drewN | apply Kd.S_drew)); exact HO_5.out⟩, ⟨by (with_reducible repeat (first | apply Kd.R_alloc | apply Kd.R_drewN | apply Kd.R_drew)); exact HO_7.out⟩, ⟨by repeat (first | (with_reducible first | exact HB.out | apply below_alloc | apply pw_below_drewN | apply below_drew1) | exact HB.out)⟩⟩
                    · rw [if_neg c37] at H
                      have c37b0 : decide (x15_2 < t305) = false := decide_eq_false c37
                      clear c37
                      have H' := Aside0.mk H
                      clear H
                      obtain ⟨Ao41, co41, eo41⟩ := Kd.R_slice HO_7.out
                      subst eo41
                      have p309 : 0 ≤ (x15_2 : Int) := of_decide_eq_true (by first | (with_reducible assumption) | assumption)
                      have q309 : x15_2 < (t299.length : Int) := of_decide_eq_true (by first | (with_reducible assumption) | assumption)
                      obtain ⟨ad309, e309, hx309_0⟩ := Kd.at_int (Kd.R_reads' HO_7.out).2.2 x15_2 p309 q309
                      cases e309
                      replace p309 := eq_true p309
                      replace q309 := eq_true q309
                      have p310 : 0 ≤ (x15_2 : Int) := of_decide_eq_true (by first | (with_reducible assumption) | assumption)
                      have q310 : x15_2 < (t299.length : Int) := of_decide_eq_true (by first | (with_reducible assumption) | assumption)
                      obtain ⟨ad310, e310, hx310_0⟩ := Kd.at_int (Kd.R_reads' HO_7.out).2.2 x15_2 p310 q310
                      obtain rfl : ad309 = ad310 := (by injection e310)
                      replace p310 := eq_true p310
                      replace q310 := eq_true q310
                      go_wp2
                      go_roundg k2
                      case measure => have := HJ9.out; have := HK2.out; omega
                      case rel => exact ⟨(wrap64 (x14_2 + (rd t299 x15_2))), (wrap64 (x15_2 + 1)), (by first | rfl | (simp; done) | (simp [*]; done)), (by first | rfl | (simp; done) | (simp [*]; done)), H', ⟨by have := HJ9.out; have := HK2.out; omega⟩, ⟨by (with_reducible repeat (first | apply Kd.S_alloc | apply Kd.S_drewN | apply Kd.S_drew)); exact HO_5.out⟩, ⟨by (with_reducible repeat (first | apply Kd.R_alloc | apply Kd.R_drewN | apply Kd.R_drew)); exact HO_7.out⟩, ⟨by repeat (first | (with_reducible first | exact HB.out | apply below_alloc | apply pw_below_drewN | apply below_drew1) | exact HB.out)⟩⟩
                · rw [if_neg c34] at H
                  exact absurd H (by simp)
              · as_aux_lemma =>
                rw [if_neg c33] at H
                have c33b0 : decide (x15_2 < (t299.length : Int)) = false := decide_eq_false c33
                clear c33
                replace H := Option.bind_eq_some_iff.mp H
                obtain ⟨t312, A420, H⟩ := H
                replace H : (if t312 > 500 then (some false) else ((laws_r8Wide.f l1 0 5000).bind fun t313 => ((laws_r8Wide.f l1 2 3000).bind fun t314 => ((impl_WaterFor.f k2 t306 (wrap64 (5000 + t313)) (wrap64 (1000 + t314))).bind fun bt315 => (if bt315.2 = 0 then ((impl_HeatFlow.f bt315.1 (wrap64 (5000 + t313)) (wrap64 (1000 + t314))).bind fun bt317 => ((impl_HeatFlow.f (wrap64 (bt315.1 - 1)) (wrap64 (5000 + t313)) (wrap64 (1000 + t314))).bind fun bt319 => (if bt317.2 = 0 then (if bt317.1 < t306 then (some false) else (if bt315.1 > 0 then (if bt319.2 = 0 then (if bt319.1 > t306 then (some false) else (laws_FnForecasts.j2 k2 l1 t293)) else (some false)) else (laws_FnForecasts.j2 k2 l1 t293))) else (some false)))) else (if bt315.2 = 3 then (laws_FnForecasts.j2 k2 l1 t293) else (some false))))))) = some r := H
                have A42 := Aside0.mk A420
                clear A420
                by_cases c43 : t312 > 500
                · rw [if_pos c43] at H
                  have c43b0 : decide (500 < t312) = true := decide_eq_true c43
                  clear c43
                  obtain rfl := Option.some.inj H
                  obtain ⟨Ao44, co44, eo44⟩ := Kd.R_slice HO_7.out
                  subst eo44
                  go_wp2_with (first | ((with_reducible refine gate_callee (f := 58) rfl ?_); refine goesL_ (some 127) rfl rfl Try.func58 (by kernel_rfl) rfl #[.int .i64 (wrap64 ((wrap64 (1000 * t303)) - x14_2))] rfl (by (try simp only [List.map_toArray, List.map_cons, List.map_nil]); first | done | rfl | (simp only [List.length_drop, List.length_take]; rfl)) ?_; (with_reducible refine (laws_r8Abs.calls (wrap64 ((wrap64 (1000 * t303)) - x14_2)) t312 _ A42.out).mono ?_); rintro e w45 ⟨rfl, hb⟩; refine ⟨_, rfl, ?_⟩; have n0_ := Aside0.mk (Kd.S_below (by (with_reducible repeat (first | apply Kd.S_alloc | apply Kd.S_drewN | apply Kd.S_drew)); exact HO_5.out) hb); have n1_ := Aside0.mk (Kd.R_below (by (with_reducible repeat (first | apply Kd.R_alloc | apply Kd.R_drewN | apply Kd.R_drew)); exact HO_7.out) hb); have n2_ := Aside0.mk (below_step (by repeat (first | (with_reducible first | exact HB.out | apply below_alloc | apply pw_below_drewN | apply below_drew1) | exact HB.out)) hb); clear HO_5; clear HO_7; clear HB; have HO_5 := n0_; have HO_7 := n1_; have HB := n2_; clear n0_ n1_ n2_; (try clear hb); (try clear hb2); (try clear hk); (try clear hi)))
                  go_ret
                  exact ⟨by first | rfl | (simp [errW_none, errW_some] <;> rfl) | (simp [*, errW_none, errW_some] <;> rfl), by repeat (first | (with_reducible first | exact HB.out | apply below_alloc | apply pw_below_drewN | apply below_drew1) | exact HB.out)⟩
                · as_aux_lemma =>
                  rw [if_neg c43] at H
                  have c43b0 : decide (500 < t312) = false := decide_eq_false c43
                  clear c43
                  replace H := Option.bind_eq_some_iff.mp H
                  obtain ⟨t313, A460, H⟩ := H
                  replace H : ((laws_r8Wide.f l1 2 3000).bind fun t314 => ((impl_WaterFor.f k2 t306 (wrap64 (5000 + t313)) (wrap64 (1000 + t314))).bind fun bt315 => (if bt315.2 = 0 then ((impl_HeatFlow.f bt315.1 (wrap64 (5000 + t313)) (wrap64 (1000 + t314))).bind fun bt317 => ((impl_HeatFlow.f (wrap64 (bt315.1 - 1)) (wrap64 (5000 + t313)) (wrap64 (1000 + t314))).bind fun bt319 => (if bt317.2 = 0 then (if bt317.1 < t306 then (some false) else (if bt315.1 > 0 then (if bt319.2 = 0 then (if bt319.1 > t306 then (some false) else (laws_FnForecasts.j2 k2 l1 t293)) else (some false)) else (laws_FnForecasts.j2 k2 l1 t293))) else (some false)))) else (if bt315.2 = 3 then (laws_FnForecasts.j2 k2 l1 t293) else (some false))))) = some r := H
                  have A46 := Aside0.mk A460
                  clear A460
                  replace H := Option.bind_eq_some_iff.mp H
                  obtain ⟨t314, A470, H⟩ := H
                  replace H : ((impl_WaterFor.f k2 t306 (wrap64 (5000 + t313)) (wrap64 (1000 + t314))).bind fun bt315 => (if bt315.2 = 0 then ((impl_HeatFlow.f bt315.1 (wrap64 (5000 + t313)) (wrap64 (1000 + t314))).bind fun bt317 => ((impl_HeatFlow.f (wrap64 (bt315.1 - 1)) (wrap64 (5000 + t313)) (wrap64 (1000 + t314))).bind fun bt319 => (if bt317.2 = 0 then (if bt317.1 < t306 then (some false) else (if bt315.1 > 0 then (if bt319.2 = 0 then (if bt319.1 > t306 then (some false) else (laws_FnForecasts.j2 k2 l1 t293)) else (some false)) else (laws_FnForecasts.j2 k2 l1 t293))) else (some false)))) else (if bt315.2 = 3 then (laws_FnForecasts.j2 k2 l1 t293) else (some false)))) = some r := H
                  have A47 := Aside0.mk A470
                  clear A470
                  replace H := Option.bind_eq_some_iff.mp H
                  obtain ⟨⟨t315, t316⟩, A480, H⟩ := H
                  replace H : (if t316 = 0 then ((impl_HeatFlow.f t315 (wrap64 (5000 + t313)) (wrap64 (1000 + t314))).bind fun bt317 => ((impl_HeatFlow.f (wrap64 (t315 - 1)) (wrap64 (5000 + t313)) (wrap64 (1000 + t314))).bind fun bt319 => (if bt317.2 = 0 then (if bt317.1 < t306 then (some false) else (if t315 > 0 then (if bt319.2 = 0 then (if bt319.1 > t306 then (some false) else (laws_FnForecasts.j2 k2 l1 t293)) else (some false)) else (laws_FnForecasts.j2 k2 l1 t293))) else (some false)))) else (if t316 = 3 then (laws_FnForecasts.j2 k2 l1 t293) else (some false))) = some r := H
                  have A48 := Aside0.mk A480
                  clear A480
                  have HC49 := Aside0.mk H
                  clear H
                  obtain ⟨Ao50, co50, eo50⟩ := Kd.R_slice HO_7.out
                  subst eo50
                  go_upto_if 143 with (first | ((with_reducible refine gate_callee (f := 58) rfl ?_); refine goesL_ (some 127) rfl rfl Try.func58 (by kernel_rfl) rfl #[.int .i64 (wrap64 ((wrap64 (1000 * t303)) - x14_2))] rfl (by (try simp only [List.map_toArray, List.map_cons, List.map_nil]); first | done | rfl | (simp only [List.length_drop, List.length_take]; rfl)) ?_; (with_reducible refine (laws_r8Abs.calls (wrap64 ((wrap64 (1000 * t303)) - x14_2)) t312 _ A42.out).mono ?_); rintro e w51 ⟨rfl, hb⟩; refine ⟨_, rfl, ?_⟩; have n0_ := Aside0.mk (Kd.S_below (by (with_reducible repeat (first | apply Kd.S_alloc | apply Kd.S_drewN | apply Kd.S_drew)); exact HO_5.out) hb); have n1_ := Aside0.mk (Kd.R_below (by (with_reducible repeat (first | apply Kd.R_alloc | apply Kd.R_drewN | apply Kd.R_drew)); exact HO_7.out) hb); have n2_ := Aside0.mk (below_step (by repeat (first | (with_reducible first | exact HB.out | apply below_alloc | apply pw_below_drewN | apply below_drew1) | exact HB.out)) hb); clear HO_5; clear HO_7; clear HB; have HO_5 := n0_; have HO_7 := n1_; have HB := n2_; clear n0_ n1_ n2_; (try clear hb); (try clear hb2); (try clear hk); (try clear hi)) | ((with_reducible refine gate_callee (f := 59) rfl ?_); refine goesL_ (some 130) rfl rfl Try.func59 (by kernel_rfl) rfl #[.slice A1 l1.length c1, .int .i64 0, .int .i64 5000] rfl (by (try simp only [List.map_toArray, List.map_cons, List.map_nil]); first | done | rfl | (simp only [List.length_drop, List.length_take]; rfl)) ?_; (with_reducible refine (laws_r8Wide.calls _ _ l1 0 5000 t313 _ ?side1 ?side2 A46.out).mono ?_); (case side1 => repeat (first | exact (Kd.C_below HR1.out HB.out) | (with_reducible refine Kd.C_alloc ?_ _) | (with_reducible refine Kd.C_drewN ?_ _) | (with_reducible refine Kd.C_drew ?_))); (case side2 => exact HC1.out); rintro e w' ⟨rfl, ⟨nd, rfl⟩⟩; refine ⟨_, rfl, ?_⟩) | ((with_reducible refine gate_callee (f := 59) rfl ?_); refine goesL_ (some 133) rfl rfl Try.func59 (by kernel_rfl) rfl #[.slice A1 l1.length c1, .int .i64 2, .int .i64 3000] rfl (by (try simp only [List.map_toArray, List.map_cons, List.map_nil]); first | done | rfl | (simp only [List.length_drop, List.length_take]; rfl)) ?_; (with_reducible refine (laws_r8Wide.calls _ _ l1 2 3000 t314 _ ?side1 ?side2 A47.out).mono ?_); (case side1 => repeat (first | exact (Kd.C_below HR1.out (by repeat (first | (with_reducible first | exact HB.out | apply below_alloc | apply pw_below_drewN | apply below_drew1) | exact HB.out))) | (with_reducible refine Kd.C_alloc ?_ _) | (with_reducible refine Kd.C_drewN ?_ _) | (with_reducible refine Kd.C_drew ?_))); (case side2 => exact HC1.out); rintro e w' ⟨rfl, ⟨nd, rfl⟩⟩; refine ⟨_, rfl, ?_⟩) | ((with_reducible refine gate_callee (f := 60) rfl ?_); refine goesL_ (some 139) rfl rfl Try.func60 (by kernel_rfl) rfl #[.int .i64 t306, .int .i64 (wrap64 (5000 + t313)), .int .i64 (wrap64 (1000 + t314))] rfl (by (try simp only [List.map_toArray, List.map_cons, List.map_nil]); first | done | rfl | (simp only [List.length_drop, List.length_take]; rfl)) ?_; (with_reducible refine (impl_WaterFor.calls k2 t306 (wrap64 (5000 + t313)) (wrap64 (1000 + t314)) t315 t316 _ A48.out).mono ?_); rintro e w' ⟨rfl, ⟨nd, rfl⟩⟩; refine ⟨_, rfl, ?_⟩))
                  (try simp only [Act.put, List.setIfInBounds_toArray, List.set_cons_zero, List.set_cons_succ])
                  go_cut [] (fun wc => ∃ (kq : Nat), Aside0 (laws_FnForecasts.j2 kq l1 t293 = some r) ∧ Aside0 (kq ≤ k2) ∧ Aside0 (Kd.S k94 94 wc w.heap.size (fun _ => True) (.slice Ao13 t293.length co13) t293) ∧ Aside0 (Below w.heap.size w wc))
                  case first =>
                    have H := HC49.out
                    clear HC49
                    by_cases c52 : t316 = 0
                    · as_aux_lemma =>
                      rw [if_pos c52] at H
                      have c52b0 : (t316 == 0) = true := beq_iff_eq.mpr c52
                      have c52b1 : (t316 != 0) = false := bne_eq_false_iff_eq.mpr c52
                      clear c52
                      (first | rw [c52b0] | (simp only [i64_w, i32_w]; rw [c52b0]) | skip)
                      replace H := Option.bind_eq_some_iff.mp H
                      obtain ⟨⟨t317, t318⟩, A530, H⟩ := H
                      replace H : ((impl_HeatFlow.f (wrap64 (t315 - 1)) (wrap64 (5000 + t313)) (wrap64 (1000 + t314))).bind fun bt319 => (if t318 = 0 then (if t317 < t306 then (some false) else (if t315 > 0 then (if bt319.2 = 0 then (if bt319.1 > t306 then (some false) else (laws_FnForecasts.j2 k2 l1 t293)) else (some false)) else (laws_FnForecasts.j2 k2 l1 t293))) else (some false))) = some r := H
                      have A53 := Aside0.mk A530
                      clear A530
                      replace H := Option.bind_eq_some_iff.mp H
                      obtain ⟨⟨t319, t320⟩, A540, H⟩ := H
                      replace H : (if t318 = 0 then (if t317 < t306 then (some false) else (if t315 > 0 then (if t320 = 0 then (if t319 > t306 then (some false) else (laws_FnForecasts.j2 k2 l1 t293)) else (some false)) else (laws_FnForecasts.j2 k2 l1 t293))) else (some false)) = some r := H
                      have A54 := Aside0.mk A540
                      clear A540
                      by_cases c55 : t318 = 0
                      · rw [if_pos c55] at H
                        have c55b0 : (t318 == 0) = true := beq_iff_eq.mpr c55
                        have c55b1 : (t318 != 0) = false := bne_eq_false_iff_eq.mpr c55
                        clear c55
                        by_cases c56 : t317 < t306
                        · rw [if_pos c56] at H
                          have c56b0 : decide (t317 < t306) = true := decide_eq_true c56
                          clear c56
                          obtain rfl := Option.some.inj H
                          go_wp2_with (first | ((with_reducible refine gate_callee (f := 61) rfl ?_); refine goesL_ (some 148) rfl rfl Try.func61 (by kernel_rfl) rfl #[.int .i64 t315, .int .i64 (wrap64 (5000 + t313)), .int .i64 (wrap64 (1000 + t314))] rfl (by (try simp only [List.map_toArray, List.map_cons, List.map_nil]); first | done | rfl | (simp only [List.length_drop, List.length_take]; rfl)) ?_; (with_reducible refine (impl_HeatFlow.calls t315 (wrap64 (5000 + t313)) (wrap64 (1000 + t314)) t317 t318 _ A53.out).mono ?_); rintro e w57 ⟨rfl, hb⟩; refine ⟨_, rfl, ?_⟩; have n0_ := Aside0.mk (Kd.S_below (by (with_reducible repeat (first | apply Kd.S_alloc | apply Kd.S_drewN | apply Kd.S_drew)); exact HO_5.out) hb); have n1_ := Aside0.mk (Kd.R_below (by (with_reducible repeat (first | apply Kd.R_alloc | apply Kd.R_drewN | apply Kd.R_drew)); exact HO_7.out) hb); have n2_ := Aside0.mk (below_step (by repeat (first | (with_reducible first | exact HB.out | apply below_alloc | apply pw_below_drewN | apply below_drew1) | exact HB.out)) hb); clear HO_5; clear HO_7; clear HB; have HO_5 := n0_; have HO_7 := n1_; have HB := n2_; clear n0_ n1_ n2_; (try clear hb); (try clear hb2); (try clear hk); (try clear hi)) | ((with_reducible refine gate_callee (f := 61) rfl ?_); refine goesL_ (some 156) rfl rfl Try.func61 (by kernel_rfl) rfl #[.int .i64 (wrap64 (t315 - 1)), .int .i64 (wrap64 (5000 + t313)), .int .i64 (wrap64 (1000 + t314))] rfl (by (try simp only [List.map_toArray, List.map_cons, List.map_nil]); first | done | rfl | (simp only [List.length_drop, List.length_take]; rfl)) ?_; (with_reducible refine (impl_HeatFlow.calls (wrap64 (t315 - 1)) (wrap64 (5000 + t313)) (wrap64 (1000 + t314)) t319 t320 _ A54.out).mono ?_); rintro e w58 ⟨rfl, hb⟩; refine ⟨_, rfl, ?_⟩; have n0_ := Aside0.mk (Kd.S_below (by (with_reducible repeat (first | apply Kd.S_alloc | apply Kd.S_drewN | apply Kd.S_drew)); exact HO_5.out) hb); have n1_ := Aside0.mk (Kd.R_below (by (with_reducible repeat (first | apply Kd.R_alloc | apply Kd.R_drewN | apply Kd.R_drew)); exact HO_7.out) hb); have n2_ := Aside0.mk (below_step (by repeat (first | (with_reducible first | exact HB.out | apply below_alloc | apply pw_below_drewN | apply below_drew1) | exact HB.out)) hb); clear HO_5; clear HO_7; clear HB; have HO_5 := n0_; have HO_7 := n1_; have HB := n2_; clear n0_ n1_ n2_; (try clear hb); (try clear hb2); (try clear hk); (try clear hi)))
                          go_ret
                          exact ⟨by first | rfl | (simp [errW_none, errW_some] <;> rfl) | (simp [*, errW_none, errW_some] <;> rfl), by repeat (first | (with_reducible first | exact HB.out | apply below_alloc | apply pw_below_drewN | apply below_drew1) | exact HB.out)⟩
                        · rw [if_neg c56] at H
                          have c56b0 : decide (t317 < t306) = false := decide_eq_false c56
                          clear c56
                          by_cases c59 : t315 > 0
                          · rw [if_pos c59] at H
                            have c59b0 : decide (0 < t315) = true := decide_eq_true c59
                            clear c59
                            by_cases c60 : t320 = 0
                            · rw [if_pos c60] at H
                              have c60b0 : (t320 == 0) = true := beq_iff_eq.mpr c60
                              have c60b1 : (t320 != 0) = false := bne_eq_false_iff_eq.mpr c60
                              clear c60
                              by_cases c61 : t319 > t306
                              · rw [if_pos c61] at H
                                have c61b0 : decide (t306 < t319) = true := decide_eq_true c61
                                clear c61
                                obtain rfl := Option.some.inj H
                                go_wp2_with (first | ((with_reducible refine gate_callee (f := 61) rfl ?_); refine goesL_ (some 148) rfl rfl Try.func61 (by kernel_rfl) rfl #[.int .i64 t315, .int .i64 (wrap64 (5000 + t313)), .int .i64 (wrap64 (1000 + t314))] rfl (by (try simp only [List.map_toArray, List.map_cons, List.map_nil]); first | done | rfl | (simp only [List.length_drop, List.length_take]; rfl)) ?_; (with_reducible refine (impl_HeatFlow.calls t315 (wrap64 (5000 + t313)) (wrap64 (1000 + t314)) t317 t318 _ A53.out).mono ?_); rintro e w62 ⟨rfl, hb⟩; refine ⟨_, rfl, ?_⟩; have n0_ := Aside0.mk (Kd.S_below (by (with_reducible repeat (first | apply Kd.S_alloc | apply Kd.S_drewN | apply Kd.S_drew)); exact HO_5.out) hb); have n1_ := Aside0.mk (Kd.R_below (by (with_reducible repeat (first | apply Kd.R_alloc | apply Kd.R_drewN | apply Kd.R_drew)); exact HO_7.out) hb); have n2_ := Aside0.mk (below_step (by repeat (first | (with_reducible first | exact HB.out | apply below_alloc | apply pw_below_drewN | apply below_drew1) | exact HB.out)) hb); clear HO_5; clear HO_7; clear HB; have HO_5 := n0_; have HO_7 := n1_; have HB := n2_; clear n0_ n1_ n2_; (try clear hb); (try clear hb2); (try clear hk); (try clear hi)) | ((with_reducible refine gate_callee (f := 61) rfl ?_); refine goesL_ (some 156) rfl rfl Try.func61 (by kernel_rfl) rfl #[.int .i64 (wrap64 (t315 - 1)), .int .i64 (wrap64 (5000 + t313)), .int .i64 (wrap64 (1000 + t314))] rfl (by (try simp only [List.map_toArray, List.map_cons, List.map_nil]); first | done | rfl | (simp only [List.length_drop, List.length_take]; rfl)) ?_; (with_reducible refine (impl_HeatFlow.calls (wrap64 (t315 - 1)) (wrap64 (5000 + t313)) (wrap64 (1000 + t314)) t319 t320 _ A54.out).mono ?_); rintro e w63 ⟨rfl, hb⟩; refine ⟨_, rfl, ?_⟩; have n0_ := Aside0.mk (Kd.S_below (by (with_reducible repeat (first | apply Kd.S_alloc | apply Kd.S_drewN | apply Kd.S_drew)); exact HO_5.out) hb); have n1_ := Aside0.mk (Kd.R_below (by (with_reducible repeat (first | apply Kd.R_alloc | apply Kd.R_drewN | apply Kd.R_drew)); exact HO_7.out) hb); have n2_ := Aside0.mk (below_step (by repeat (first | (with_reducible first | exact HB.out | apply below_alloc | apply pw_below_drewN | apply below_drew1) | exact HB.out)) hb); clear HO_5; clear HO_7; clear HB; have HO_5 := n0_; have HO_7 := n1_; have HB := n2_; clear n0_ n1_ n2_; (try clear hb); (try clear hb2); (try clear hk); (try clear hi)))
                                go_ret
                                exact ⟨by first | rfl | (simp [errW_none, errW_some] <;> rfl) | (simp [*, errW_none, errW_some] <;> rfl), by repeat (first | (with_reducible first | exact HB.out | apply below_alloc | apply pw_below_drewN | apply below_drew1) | exact HB.out)⟩
                              · rw [if_neg c61] at H
                                have c61b0 : decide (t306 < t319) = false := decide_eq_false c61
                                clear c61
                                have H' := Aside0.mk H
                                clear H
                                go_wp2_with (first | ((with_reducible refine gate_callee (f := 61) rfl ?_); refine goesL_ (some 148) rfl rfl Try.func61 (by kernel_rfl) rfl #[.int .i64 t315, .int .i64 (wrap64 (5000 + t313)), .int .i64 (wrap64 (1000 + t314))] rfl (by (try simp only [List.map_toArray, List.map_cons, List.map_nil]); first | done | rfl | (simp only [List.length_drop, List.length_take]; rfl)) ?_; (with_reducible refine (impl_HeatFlow.calls t315 (wrap64 (5000 + t313)) (wrap64 (1000 + t314)) t317 t318 _ A53.out).mono ?_); rintro e w64 ⟨rfl, hb⟩; refine ⟨_, rfl, ?_⟩; have n0_ := Aside0.mk (Kd.S_below (by (with_reducible repeat (first | apply Kd.S_alloc | apply Kd.S_drewN | apply Kd.S_drew)); exact HO_5.out) hb); have n1_ := Aside0.mk (Kd.R_below (by (with_reducible repeat (first | apply Kd.R_alloc | apply Kd.R_drewN | apply Kd.R_drew)); exact HO_7.out) hb); have n2_ := Aside0.mk (below_step (by repeat (first | (with_reducible first | exact HB.out | apply below_alloc | apply pw_below_drewN | apply below_drew1) | exact HB.out)) hb); clear HO_5; clear HO_7; clear HB; have HO_5 := n0_; have HO_7 := n1_; have HB := n2_; clear n0_ n1_ n2_; (try clear hb); (try clear hb2); (try clear hk); (try clear hi)) | ((with_reducible refine gate_callee (f := 61) rfl ?_); refine goesL_ (some 156) rfl rfl Try.func61 (by kernel_rfl) rfl #[.int .i64 (wrap64 (t315 - 1)), .int .i64 (wrap64 (5000 + t313)), .int .i64 (wrap64 (1000 + t314))] rfl (by (try simp only [List.map_toArray, List.map_cons, List.map_nil]); first | done | rfl | (simp only [List.length_drop, List.length_take]; rfl)) ?_; (with_reducible refine (impl_HeatFlow.calls (wrap64 (t315 - 1)) (wrap64 (5000 + t313)) (wrap64 (1000 + t314)) t319 t320 _ A54.out).mono ?_); rintro e w65 ⟨rfl, hb⟩; refine ⟨_, rfl, ?_⟩; have n0_ := Aside0.mk (Kd.S_below (by (with_reducible repeat (first | apply Kd.S_alloc | apply Kd.S_drewN | apply Kd.S_drew)); exact HO_5.out) hb); have n1_ := Aside0.mk (Kd.R_below (by (with_reducible repeat (first | apply Kd.R_alloc | apply Kd.R_drewN | apply Kd.R_drew)); exact HO_7.out) hb); have n2_ := Aside0.mk (below_step (by repeat (first | (with_reducible first | exact HB.out | apply below_alloc | apply pw_below_drewN | apply below_drew1) | exact HB.out)) hb); clear HO_5; clear HO_7; clear HB; have HO_5 := n0_; have HO_7 := n1_; have HB := n2_; clear n0_ n1_ n2_; (try clear hb); (try clear hb2); (try clear hk); (try clear hi)))
                                go_meet
                                case rel => exact ⟨_, H', ⟨by have := HJ9.out; have := HK2.out; first | omega | exact Nat.le_refl _⟩, ⟨by (with_reducible repeat (first | apply Kd.S_alloc | apply Kd.S_drewN | apply Kd.S_drew)); exact Kd.S_mono HO_5.out (fun _ hk => trivial)⟩, ⟨by repeat (first | (with_reducible first | exact HB.out | apply below_alloc | apply pw_below_drewN | apply below_drew1) | exact HB.out)⟩⟩
                            · rw [if_neg c60] at H
                              have c60b0 : (t320 == 0) = false := beq_eq_false_iff_ne.mpr c60
                              have c60b1 : (t320 != 0) = true := bne_iff_ne.mpr c60
                              obtain rfl := Option.some.inj H
                              go_wp2_with (first | ((with_reducible refine gate_callee (f := 61) rfl ?_); refine goesL_ (some 148) rfl rfl Try.func61 (by kernel_rfl) rfl #[.int .i64 t315, .int .i64 (wrap64 (5000 + t313)), .int .i64 (wrap64 (1000 + t314))] rfl (by (try simp only [List.map_toArray, List.map_cons, List.map_nil]); first | done | rfl | (simp only [List.length_drop, List.length_take]; rfl)) ?_; (with_reducible refine (impl_HeatFlow.calls t315 (wrap64 (5000 + t313)) (wrap64 (1000 + t314)) t317 t318 _ A53.out).mono ?_); rintro e w66 ⟨rfl, hb⟩; refine ⟨_, rfl, ?_⟩; have n0_ := Aside0.mk (Kd.S_below (by (with_reducible repeat (first | apply Kd.S_alloc | apply Kd.S_drewN | apply Kd.S_drew)); exact HO_5.out) hb); have n1_ := Aside0.mk (Kd.R_below (by (with_reducible repeat (first | apply Kd.R_alloc | apply Kd.R_drewN | apply Kd.R_drew)); exact HO_7.out) hb); have n2_ := Aside0.mk (below_step (by repeat (first | (with_reducible first | exact HB.out | apply below_alloc | apply pw_below_drewN | apply below_drew1) | exact HB.out)) hb); clear HO_5; clear HO_7; clear HB; have HO_5 := n0_; have HO_7 := n1_; have HB := n2_; clear n0_ n1_ n2_; (try clear hb); (try clear hb2); (try clear hk); (try clear hi)) | ((with_reducible refine gate_callee (f := 61) rfl ?_); refine goesL_ (some 156) rfl rfl Try.func61 (by kernel_rfl) rfl #[.int .i64 (wrap64 (t315 - 1)), .int .i64 (wrap64 (5000 + t313)), .int .i64 (wrap64 (1000 + t314))] rfl (by (try simp only [List.map_toArray, List.map_cons, List.map_nil]); first | done | rfl | (simp only [List.length_drop, List.length_take]; rfl)) ?_; (with_reducible refine (impl_HeatFlow.calls (wrap64 (t315 - 1)) (wrap64 (5000 + t313)) (wrap64 (1000 + t314)) t319 t320 _ A54.out).mono ?_); rintro e w67 ⟨rfl, hb⟩; refine ⟨_, rfl, ?_⟩; have n0_ := Aside0.mk (Kd.S_below (by (with_reducible repeat (first | apply Kd.S_alloc | apply Kd.S_drewN | apply Kd.S_drew)); exact HO_5.out) hb); have n1_ := Aside0.mk (Kd.R_below (by (with_reducible repeat (first | apply Kd.R_alloc | apply Kd.R_drewN | apply Kd.R_drew)); exact HO_7.out) hb); have n2_ := Aside0.mk (below_step (by repeat (first | (with_reducible first | exact HB.out | apply below_alloc | apply pw_below_drewN | apply below_drew1) | exact HB.out)) hb); clear HO_5; clear HO_7; clear HB; have HO_5 := n0_; have HO_7 := n1_; have HB := n2_; clear n0_ n1_ n2_; (try clear hb); (try clear hb2); (try clear hk); (try clear hi)))
                              go_ret
                              exact ⟨by first | rfl | (simp [errW_none, errW_some] <;> rfl) | (simp [*, errW_none, errW_some] <;> rfl), by repeat (first | (with_reducible first | exact HB.out | apply below_alloc | apply pw_below_drewN | apply below_drew1) | exact HB.out)⟩
                          · rw [if_neg c59] at H
                            have c59b0 : decide (0 < t315) = false := decide_eq_false c59
                            clear c59
                            have H' := Aside0.mk H
                            clear H
                            go_wp2_with (first | ((with_reducible refine gate_callee (f := 61) rfl ?_); refine goesL_ (some 148) rfl rfl Try.func61 (by kernel_rfl) rfl #[.int .i64 t315, .int .i64 (wrap64 (5000 + t313)), .int .i64 (wrap64 (1000 + t314))] rfl (by (try simp only [List.map_toArray, List.map_cons, List.map_nil]); first | done | rfl | (simp only [List.length_drop, List.length_take]; rfl)) ?_; (with_reducible refine (impl_HeatFlow.calls t315 (wrap64 (5000 + t313)) (wrap64 (1000 + t314)) t317 t318 _ A53.out).mono ?_); rintro e w68 ⟨rfl, hb⟩; refine ⟨_, rfl, ?_⟩; have n0_ := Aside0.mk (Kd.S_below (by (with_reducible repeat (first | apply Kd.S_alloc | apply Kd.S_drewN | apply Kd.S_drew)); exact HO_5.out) hb); have n1_ := Aside0.mk (Kd.R_below (by (with_reducible repeat (first | apply Kd.R_alloc | apply Kd.R_drewN | apply Kd.R_drew)); exact HO_7.out) hb); have n2_ := Aside0.mk (below_step (by repeat (first | (with_reducible first | exact HB.out | apply below_alloc | apply pw_below_drewN | apply below_drew1) | exact HB.out)) hb); clear HO_5; clear HO_7; clear HB; have HO_5 := n0_; have HO_7 := n1_; have HB := n2_; clear n0_ n1_ n2_; (try clear hb); (try clear hb2); (try clear hk); (try clear hi)) | ((with_reducible refine gate_callee (f := 61) rfl ?_); refine goesL_ (some 156) rfl rfl Try.func61 (by kernel_rfl) rfl #[.int .i64 (wrap64 (t315 - 1)), .int .i64 (wrap64 (5000 + t313)), .int .i64 (wrap64 (1000 + t314))] rfl (by (try simp only [List.map_toArray, List.map_cons, List.map_nil]); first | done | rfl | (simp only [List.length_drop, List.length_take]; rfl)) ?_; (with_reducible refine (impl_HeatFlow.calls (wrap64 (t315 - 1)) (wrap64 (5000 + t313)) (wrap64 (1000 + t314)) t319 t320 _ A54.out).mono ?_); rintro e w69 ⟨rfl, hb⟩; refine ⟨_, rfl, ?_⟩; have n0_ := Aside0.mk (Kd.S_below (by (with_reducible repeat (first | apply Kd.S_alloc | apply Kd.S_drewN | apply Kd.S_drew)); exact HO_5.out) hb); have n1_ := Aside0.mk (Kd.R_below (by (with_reducible repeat (first | apply Kd.R_alloc | apply Kd.R_drewN | apply Kd.R_drew)); exact HO_7.out) hb); have n2_ := Aside0.mk (below_step (by repeat (first | (with_reducible first | exact HB.out | apply below_alloc | apply pw_below_drewN | apply below_drew1) | exact HB.out)) hb); clear HO_5; clear HO_7; clear HB; have HO_5 := n0_; have HO_7 := n1_; have HB := n2_; clear n0_ n1_ n2_; (try clear hb); (try clear hb2); (try clear hk); (try clear hi)))
                            go_meet
                            case rel => exact ⟨_, H', ⟨by have := HJ9.out; have := HK2.out; first | omega | exact Nat.le_refl _⟩, ⟨by (with_reducible repeat (first | apply Kd.S_alloc | apply Kd.S_drewN | apply Kd.S_drew)); exact Kd.S_mono HO_5.out (fun _ hk => trivial)⟩, ⟨by repeat (first | (with_reducible first | exact HB.out | apply below_alloc | apply pw_below_drewN | apply below_drew1) | exact HB.out)⟩⟩
                      · rw [if_neg c55] at H
                        have c55b0 : (t318 == 0) = false := beq_eq_false_iff_ne.mpr c55
                        have c55b1 : (t318 != 0) = true := bne_iff_ne.mpr c55
                        obtain rfl := Option.some.inj H
                        go_wp2_with (first | ((with_reducible refine gate_callee (f := 61) rfl ?_); refine goesL_ (some 148) rfl rfl Try.func61 (by kernel_rfl) rfl #[.int .i64 t315, .int .i64 (wrap64 (5000 + t313)), .int .i64 (wrap64 (1000 + t314))] rfl (by (try simp only [List.map_toArray, List.map_cons, List.map_nil]); first | done | rfl | (simp only [List.length_drop, List.length_take]; rfl)) ?_; (with_reducible refine (impl_HeatFlow.calls t315 (wrap64 (5000 + t313)) (wrap64 (1000 + t314)) t317 t318 _ A53.out).mono ?_); rintro e w70 ⟨rfl, hb⟩; refine ⟨_, rfl, ?_⟩; have n0_ := Aside0.mk (Kd.S_below (by (with_reducible repeat (first | apply Kd.S_alloc | apply Kd.S_drewN | apply Kd.S_drew)); exact HO_5.out) hb); have n1_ := Aside0.mk (Kd.R_below (by (with_reducible repeat (first | apply Kd.R_alloc | apply Kd.R_drewN | apply Kd.R_drew)); exact HO_7.out) hb); have n2_ := Aside0.mk (below_step (by repeat (first | (with_reducible first | exact HB.out | apply below_alloc | apply pw_below_drewN | apply below_drew1) | exact HB.out)) hb); clear HO_5; clear HO_7; clear HB; have HO_5 := n0_; have HO_7 := n1_; have HB := n2_; clear n0_ n1_ n2_; (try clear hb); (try clear hb2); (try clear hk); (try clear hi)) | ((with_reducible refine gate_callee (f := 61) rfl ?_); refine goesL_ (some 156) rfl rfl Try.func61 (by kernel_rfl) rfl #[.int .i64 (wrap64 (t315 - 1)), .int .i64 (wrap64 (5000 + t313)), .int .i64 (wrap64 (1000 + t314))] rfl (by (try simp only [List.map_toArray, List.map_cons, List.map_nil]); first | done | rfl | (simp only [List.length_drop, List.length_take]; rfl)) ?_; (with_reducible refine (impl_HeatFlow.calls (wrap64 (t315 - 1)) (wrap64 (5000 + t313)) (wrap64 (1000 + t314)) t319 t320 _ A54.out).mono ?_); rintro e w71 ⟨rfl, hb⟩; refine ⟨_, rfl, ?_⟩; have n0_ := Aside0.mk (Kd.S_below (by (with_reducible repeat (first | apply Kd.S_alloc | apply Kd.S_drewN | apply Kd.S_drew)); exact HO_5.out) hb); have n1_ := Aside0.mk (Kd.R_below (by (with_reducible repeat (first | apply Kd.R_alloc | apply Kd.R_drewN | apply Kd.R_drew)); exact HO_7.out) hb); have n2_ := Aside0.mk (below_step (by repeat (first | (with_reducible first | exact HB.out | apply below_alloc | apply pw_below_drewN | apply below_drew1) | exact HB.out)) hb); clear HO_5; clear HO_7; clear HB; have HO_5 := n0_; have HO_7 := n1_; have HB := n2_; clear n0_ n1_ n2_; (try clear hb); (try clear hb2); (try clear hk); (try clear hi)))
                        go_ret
                        exact ⟨by first | rfl | (simp [errW_none, errW_some] <;> rfl) | (simp [*, errW_none, errW_some] <;> rfl), by repeat (first | (with_reducible first | exact HB.out | apply below_alloc | apply pw_below_drewN | apply below_drew1) | exact HB.out)⟩
                    · rw [if_neg c52] at H
                      have c52b0 : (t316 == 0) = false := beq_eq_false_iff_ne.mpr c52
                      have c52b1 : (t316 != 0) = true := bne_iff_ne.mpr c52
                      (first | rw [c52b0] | (simp only [i64_w, i32_w]; rw [c52b0]) | skip)
                      by_cases c72 : t316 = 3
                      · rw [if_pos c72] at H
                        have c72b0 : (t316 == 3) = true := beq_iff_eq.mpr c72
                        have c72b1 : (t316 != 3) = false := bne_eq_false_iff_eq.mpr c72
                        clear c72
                        have H' := Aside0.mk H
                        clear H
                        go_wp2
                        go_meet
                        case rel => exact ⟨_, H', ⟨by have := HJ9.out; have := HK2.out; first | omega | exact Nat.le_refl _⟩, ⟨by (with_reducible repeat (first | apply Kd.S_alloc | apply Kd.S_drewN | apply Kd.S_drew)); exact Kd.S_mono HO_5.out (fun _ hk => trivial)⟩, ⟨by repeat (first | (with_reducible first | exact HB.out | apply below_alloc | apply pw_below_drewN | apply below_drew1) | exact HB.out)⟩⟩
                      · rw [if_neg c72] at H
                        have c72b0 : (t316 == 3) = false := beq_eq_false_iff_ne.mpr c72
                        have c72b1 : (t316 != 3) = true := bne_iff_ne.mpr c72
                        obtain rfl := Option.some.inj H
                        go_wp2
                        go_ret
                        exact ⟨by first | rfl | (simp [errW_none, errW_some] <;> rfl) | (simp [*, errW_none, errW_some] <;> rfl), by repeat (first | (with_reducible first | exact HB.out | apply below_alloc | apply pw_below_drewN | apply below_drew1) | exact HB.out)⟩
                  case rest =>
                    clear HC49
                    try clear c1
                    try clear c2
                    try clear p2
                    try clear c3
                    try clear p3
                    try clear q3
                    try clear hx3
                    try clear c4
                    try clear c5
                    try clear c6
                    try clear p6
                    try clear c7
                    try clear c9
                    try clear c18
                    try clear c18b0
                    try clear c18b1
                    try clear c19
                    try clear c19b0
                    try clear c19b1
                    try clear c20
                    try clear c20b0
                    try clear c20b1
                    try clear c21
                    try clear c21b0
                    try clear c21b1
                    try clear c22
                    try clear c22b0
                    try clear c24
                    try clear c24b0
                    try clear c26
                    try clear c26b0
                    try clear c27
                    try clear c27b0
                    try clear p30
                    try clear q30
                    try clear hx30
                    try clear p31
                    try clear q31
                    try clear hx31
                    try clear c32
                    try clear c33
                    try clear c33b0
                    try clear c34
                    try clear c34b0
                    try clear c35
                    try clear c35b0
                    try clear c37
                    try clear c37b0
                    try clear c38
                    try clear c38b0
                    try clear c38b1
                    try clear c43
                    try clear c43b0
                    try clear c52
                    try clear c52b0
                    try clear c52b1
                    try clear c53
                    try clear c54
                    try clear c55
                    try clear c55b0
                    try clear c55b1
                    try clear c56
                    try clear c56b0
                    try clear c57
                    try clear c58
                    try clear c59
                    try clear c59b0
                    try clear c60
                    try clear c60b0
                    try clear c60b1
                    try clear c61
                    try clear c61b0
                    try clear p64
                    try clear c72
                    try clear c72b0
                    try clear c72b1
                    try clear hx308_0
                    try clear hx309_0
                    try clear hx310_0
                    try clear hx311_0
                    try clear p2
                    try clear p3
                    try clear p30
                    try clear p308
                    try clear p309
                    try clear p310
                    try clear p311
                    try clear q3
                    try clear q30
                    try clear q308
                    try clear q309
                    try clear q310
                    try clear q311
                    obtain ⟨kq, HA, HJ48, HO_5, HB⟩ := hcut
                    cases kq with
                    | zero => exact absurd HA.out (by simp [laws_FnForecasts.j2])
                    | succ kj48 =>
                      have H := HA.out
                      clear HA
                      simp only [laws_FnForecasts.j2] at H
                      replace H := Option.bind_eq_some_iff.mp H
                      obtain ⟨t321, A730, H⟩ := H
                      replace H : ((laws_r8Wide.f l1 5 60000).bind fun t322 => ((impl_OutdoorFor.f kj48 t293 t322 t321).bind fun bt323 => (if bt323.2 = 0 then (laws_FnForecasts.l1 kj48 t293 t321 t322 bt323.1 0 0 0) else (some (bt323.2 == 3))))) = some r := H
                      have A73 := Aside0.mk A730
                      clear A730
                      replace H := Option.bind_eq_some_iff.mp H
                      obtain ⟨t322, A740, H⟩ := H
                      replace H : ((impl_OutdoorFor.f kj48 t293 t322 t321).bind fun bt323 => (if bt323.2 = 0 then (laws_FnForecasts.l1 kj48 t293 t321 t322 bt323.1 0 0 0) else (some (bt323.2 == 3)))) = some r := H
                      have A74 := Aside0.mk A740
                      clear A740
                      replace H := Option.bind_eq_some_iff.mp H
                      obtain ⟨⟨t323, t324⟩, A750, H⟩ := H
                      replace H : (if t324 = 0 then (laws_FnForecasts.l1 kj48 t293 t321 t322 t323 0 0 0) else (some (t324 == 3))) = some r := H
                      have A75 := Aside0.mk A750
                      clear A750
                      by_cases c76 : t324 = 0
                      · as_aux_lemma =>
                        rw [if_pos c76] at H
                        have c76b0 : (t324 == 0) = true := beq_iff_eq.mpr c76
                        have c76b1 : (t324 != 0) = false := bne_eq_false_iff_eq.mpr c76
                        clear c76
                        have H' := Aside0.mk H
                        clear H
                        go_wp2_with (first | ((with_reducible refine gate_callee (f := 62) rfl ?_); refine goesL_ (some 182) rfl rfl Try.func62 (by kernel_rfl) rfl #[.slice A1 l1.length c1, .int .i64 4, .int .i64 24] rfl (by (try simp only [List.map_toArray, List.map_cons, List.map_nil]); first | done | rfl | (simp only [List.length_drop, List.length_take]; rfl)) ?_; (with_reducible refine (laws_r8At.calls _ _ l1 4 24 t321 _ ?side1 ?side2 A73.out).mono ?_); (case side1 => repeat (first | exact (Kd.C_below HR1.out HB.out) | (with_reducible refine Kd.C_alloc ?_ _) | (with_reducible refine Kd.C_drewN ?_ _) | (with_reducible refine Kd.C_drew ?_))); (case side2 => exact HC1.out); rintro e w' ⟨rfl, ⟨nd, rfl⟩⟩; refine ⟨_, rfl, ?_⟩) | ((with_reducible refine gate_callee (f := 59) rfl ?_); refine goesL_ (some 184) rfl rfl Try.func59 (by kernel_rfl) rfl #[.slice A1 l1.length c1, .int .i64 5, .int .i64 60000] rfl (by (try simp only [List.map_toArray, List.map_cons, List.map_nil]); first | done | rfl | (simp only [List.length_drop, List.length_take]; rfl)) ?_; (with_reducible refine (laws_r8Wide.calls _ _ l1 5 60000 t322 _ ?side1 ?side2 A74.out).mono ?_); (case side1 => repeat (first | exact (Kd.C_below HR1.out (by repeat (first | (with_reducible first | exact HB.out | apply below_alloc | apply pw_below_drewN | apply below_drew1) | exact HB.out))) | (with_reducible refine Kd.C_alloc ?_ _) | (with_reducible refine Kd.C_drewN ?_ _) | (with_reducible refine Kd.C_drew ?_))); (case side2 => exact HC1.out); rintro e w' ⟨rfl, ⟨nd, rfl⟩⟩; refine ⟨_, rfl, ?_⟩) | ((with_reducible refine gate_callee (f := 63) rfl ?_); refine goesL_ (some 189) rfl rfl Try.func63 (by kernel_rfl) rfl #[.slice Ao13 t293.length co13, .int .i64 t322, .int .i64 t321] rfl (by (try simp only [List.map_toArray, List.map_cons, List.map_nil]); first | done | rfl | (simp only [List.length_drop, List.length_take]; rfl)) ?_; (with_reducible refine (impl_OutdoorFor.calls kj48 _ _ t293 t322 t321 t323 t324 _ ?side1 ?side2 A75.out).mono ?_); (case side1 => repeat (first | exact (Kd.S_reads' HO_5.out).2.2 | (with_reducible refine Kd.C_alloc ?_ _) | (with_reducible refine Kd.C_drewN ?_ _) | (with_reducible refine Kd.C_drew ?_))); (case side2 => exact (Kd.S_reads' HO_5.out).2.1); rintro e w77 ⟨rfl, hb⟩; refine ⟨_, rfl, ?_⟩; have n0_ := Aside0.mk (Kd.S_below (by (with_reducible repeat (first | apply Kd.S_alloc | apply Kd.S_drewN | apply Kd.S_drew)); exact HO_5.out) hb); have n1_ := Aside0.mk (below_step (by repeat (first | (with_reducible first | exact HB.out | apply below_alloc | apply pw_below_drewN | apply below_drew1) | exact HB.out)) hb); clear HO_5; clear HB; have HO_5 := n0_; have HB := n1_; clear n0_ n1_; (try clear hb); (try clear hb2); (try clear hk); (try clear hi)))
                        go_loopg [28, 29, 30] kj48 (fun kq v28 v29 v30 w' => ∃ (x28_4 : Int) (x29_4 : Int) (x30_4 : Int), v28 = .int .i64 x28_4 ∧ v29 = .int .i64 x29_4 ∧ v30 = .int .i64 x30_4 ∧ Aside0 (laws_FnForecasts.l1 kq t293 t321 t322 t323 x28_4 x29_4 x30_4 = some r) ∧ Aside0 (kq ≤ kj48) ∧ Aside0 (Kd.S k94 94 w' w.heap.size (fun _ => True) (.slice Ao13 t293.length co13) t293) ∧ Aside0 (Below w.heap.size w w'))
                        case atStart => exact ⟨(0), (0), (0), (by first | rfl | (simp; done) | (simp [*]; done)), (by first | rfl | (simp; done) | (simp [*]; done)), (by first | rfl | (simp; done) | (simp [*]; done)), H', ⟨Nat.le_refl _⟩, ⟨by (with_reducible repeat (first | apply Kd.S_alloc | apply Kd.S_drewN | apply Kd.S_drew)); exact HO_5.out⟩, ⟨by repeat (first | (with_reducible first | exact HB.out | apply below_alloc | apply pw_below_drewN | apply below_drew1) | exact HB.out)⟩⟩
                        case round =>
                          clear H'
                          try clear c1
                          try clear c2
                          try clear p2
                          try clear c3
                          try clear p3
                          try clear q3
                          try clear hx3
                          try clear c4
                          try clear c5
                          try clear c6
                          try clear p6
                          try clear c7
                          try clear c9
                          try clear c18
                          try clear c18b0
                          try clear c18b1
                          try clear c19
                          try clear c19b0
                          try clear c19b1
                          try clear c20
                          try clear c20b0
                          try clear c20b1
                          try clear c21
                          try clear c21b0
                          try clear c21b1
                          try clear c22
                          try clear c22b0
                          try clear c24
                          try clear c24b0
                          try clear c26
                          try clear c26b0
                          try clear c27
                          try clear c27b0
                          try clear p30
                          try clear q30
                          try clear hx30
                          try clear p31
                          try clear q31
                          try clear hx31
                          try clear c32
                          try clear c33
                          try clear c33b0
                          try clear c34
                          try clear c34b0
                          try clear c35
                          try clear c35b0
                          try clear c37
                          try clear c37b0
                          try clear c38
                          try clear c38b0
                          try clear c38b1
                          try clear c43
                          try clear c43b0
                          try clear c52
                          try clear c52b0
                          try clear c52b1
                          try clear c53
                          try clear c54
                          try clear c55
                          try clear c55b0
                          try clear c55b1
                          try clear c56
                          try clear c56b0
                          try clear c57
                          try clear c58
                          try clear c59
                          try clear c59b0
                          try clear c60
                          try clear c60b0
                          try clear c60b1
                          try clear c61
                          try clear c61b0
                          try clear c62
                          try clear c63
                          try clear p64
                          try clear c72
                          try clear c72b0
                          try clear c72b1
                          try clear c76
                          try clear c76b0
                          try clear c76b1
                          try clear hx308_0
                          try clear hx309_0
                          try clear hx310_0
                          try clear hx311_0
                          try clear p2
                          try clear p3
                          try clear p30
                          try clear p308
                          try clear p309
                          try clear p31
                          try clear p310
                          try clear p311
                          try clear p6
                          try clear p64
                          try clear q3
                          try clear q30
                          try clear q308
                          try clear q309
                          try clear q31
                          try clear q310
                          try clear q311
                          obtain ⟨x28_4, x29_4, x30_4, rfl, rfl, rfl, HA, HK4, HO_5, HB⟩ := hrel
                          cases gk with
                          | zero => exact absurd HA.out (by simp [laws_FnForecasts.l1])
                          | succ k4 =>
                            have H := HA.out
                            clear HA
                            simp only [laws_FnForecasts.l1] at H
                            by_cases c78 : x30_4 < (t293.length : Int)
                            · as_aux_lemma =>
                              rw [if_pos c78] at H
                              have c78b0 : decide (x30_4 < (t293.length : Int)) = true := decide_eq_true c78
                              clear c78
                              by_cases c79 : 0 ≤ x30_4
                              · as_aux_lemma =>
                                rw [if_pos c79] at H
                                have c79b0 : decide (0 ≤ x30_4) = true := decide_eq_true c79
                                clear c79
                                replace H := Option.bind_eq_some_iff.mp H
                                obtain ⟨⟨t326, t327⟩, A800, H⟩ := H
                                replace H : ((spec_LoadOf.f k4 ((rd_T94 t293 x30_4).f0) ((rd_T94 t293 x30_4).f1) ((rd_T94 t293 x30_4).f2) ((rd_T94 t293 x30_4).f3) ((rd_T94 t293 x30_4).f4) ((rd_T94 t293 x30_4).f5) (wrap64 (t323 + 1)) t321).bind fun bt329 => (if t327 = 0 then (laws_FnForecasts.l1 k4 t293 t321 t322 t323 (wrap64 (x28_4 + t326)) (wrap64 (x29_4 + bt329.1)) (wrap64 (x30_4 + 1))) else (some false))) = some r := H
                                have A80 := Aside0.mk A800
                                clear A800
                                replace H := Option.bind_eq_some_iff.mp H
                                obtain ⟨⟨t329, t330⟩, A810, H⟩ := H
                                replace H : (if t327 = 0 then (laws_FnForecasts.l1 k4 t293 t321 t322 t323 (wrap64 (x28_4 + t326)) (wrap64 (x29_4 + t329)) (wrap64 (x30_4 + 1))) else (some false)) = some r := H
                                have A81 := Aside0.mk A810
                                clear A810
                                by_cases c82 : t327 = 0
                                · rw [if_pos c82] at H
                                  have c82b0 : (t327 == 0) = true := beq_iff_eq.mpr c82
                                  have c82b1 : (t327 != 0) = false := bne_eq_false_iff_eq.mpr c82
                                  clear c82
                                  have H' := Aside0.mk H
                                  clear H
                                  have p325 : 0 ≤ (x30_4 : Int) := of_decide_eq_true (by first | (with_reducible assumption) | assumption)
                                  have q325 : x30_4 < (t293.length : Int) := of_decide_eq_true (by first | (with_reducible assumption) | assumption)
                                  obtain ⟨ad325, A325_5, c325_5, e325, hx325_0, hx325_1, hx325_2, hx325_3, hx325_4, hx325_5, hl325_5, hi325_5⟩ := at_T94 (Kd.S_reads' HO_5.out).2.2 x30_4 p325 q325
                                  cases e325
                                  obtain ⟨ce325, hce325, hMe325, hcc325⟩ := Kd.S_get HO_5.out z94 x30_4 p325 (by first | exact q325 | exact of_decide_eq_true (by first | (with_reducible assumption) | assumption) | (have e_ := (Kd.S_reads' HO_5.out).1; omega))
                                  obtain ⟨ve325_5, rfl, ge325_5⟩ := k94_openM hMe325
                                  have hv325_5 := hcc325 5 _ rfl
                                  rw [add_field _ _ 5 (by omega)] at hv325_5
                                  replace hv325_5 := Option.some.inj (hv325_5.symm.trans hx325_5)
                                  rw [hv325_5] at ge325_5
                                  have HL325_5 := Aside0.mk (show Kd.R (Kd.int .i64) 2 _ _ _ _ ((rd_T94 t293 x30_4).f5) from ge325_5)
                                  clear hv325_5 ge325_5
                                  clear hcc325 hce325
                                  have HR325_5 := Aside0.mk hi325_5
                                  have HC325_5 := Aside0.mk hl325_5
                                  clear hi325_5 hl325_5
                                  replace p325 := eq_true p325
                                  replace q325 := eq_true q325
                                  go_wp2_with (first | ((with_reducible refine gate_callee (f := 64) rfl ?_); refine goesL_ (some 209) rfl rfl Try.func64 (by kernel_rfl) rfl #[.agg #[.string ((rd_T94 t293 x30_4).f0), .int .i64 ((rd_T94 t293 x30_4).f1), .int .i64 ((rd_T94 t293 x30_4).f2), .int .i64 ((rd_T94 t293 x30_4).f3), .int .i64 ((rd_T94 t293 x30_4).f4), .slice A325_5 ((rd_T94 t293 x30_4).f5).length c325_5], .int .i64 t323, .int .i64 t321] rfl (by (try simp only [List.map_toArray, List.map_cons, List.map_nil]); first | done | rfl | (simp only [List.length_drop, List.length_take]; rfl)) ?_; (with_reducible refine (spec_LoadOf.calls k4 ((rd_T94 t293 x30_4).f0) ((rd_T94 t293 x30_4).f1) ((rd_T94 t293 x30_4).f2) ((rd_T94 t293 x30_4).f3) ((rd_T94 t293 x30_4).f4) _ _ ((rd_T94 t293 x30_4).f5) t323 t321 t326 t327 _ ?side1 ?side2 A80.out).mono ?_); (case side1 => repeat (first | exact (by repeat (first | (with_reducible exact HR325_5.out) | (with_reducible refine Kd.C_alloc ?_ _) | (with_reducible refine Kd.C_drewN ?_ _) | (with_reducible refine Kd.C_drew ?_) | exact HR325_5.out)) | (with_reducible refine Kd.C_alloc ?_ _) | (with_reducible refine Kd.C_drewN ?_ _) | (with_reducible refine Kd.C_drew ?_))); (case side2 => exact HC325_5.out); rintro e w83 ⟨rfl, hb⟩; refine ⟨_, rfl, ?_⟩; have n0_ := Aside0.mk (Kd.S_below (by (with_reducible repeat (first | apply Kd.S_alloc | apply Kd.S_drewN | apply Kd.S_drew)); exact HO_5.out) hb); have n1_ := Aside0.mk (Kd.R_below (by (with_reducible repeat (first | apply Kd.R_alloc | apply Kd.R_drewN | apply Kd.R_drew)); exact HL325_5.out) hb); have n2_ := Aside0.mk (Kd.C_below (by repeat (first | (with_reducible exact HR325_5.out) | (with_reducible refine Kd.C_alloc ?_ _) | (with_reducible refine Kd.C_drewN ?_ _) | (with_reducible refine Kd.C_drew ?_) | exact HR325_5.out)) hb); have n3_ := Aside0.mk (below_step (by repeat (first | (with_reducible first | exact HB.out | apply below_alloc | apply pw_below_drewN | apply below_drew1) | exact HB.out)) hb); clear HO_5; clear HL325_5; clear HR325_5; clear HB; have HO_5 := n0_; have HL325_5 := n1_; have HR325_5 := n2_; have HB := n3_; clear n0_ n1_ n2_ n3_; (try clear hb); (try clear hb2); (try clear hk); (try clear hi); have p328 : 0 ≤ (x30_4 : Int) := of_decide_eq_true (by first | (with_reducible assumption) | assumption); have q328 : x30_4 < (t293.length : Int) := of_decide_eq_true (by first | (with_reducible assumption) | assumption); obtain ⟨ad328, A328_5, c328_5, e328, hx328_0, hx328_1, hx328_2, hx328_3, hx328_4, hx328_5, hl328_5, hi328_5⟩ := at_T94 (Kd.S_reads' HO_5.out).2.2 x30_4 p328 q328; obtain rfl : ad325 = ad328 := (by injection e328); obtain ⟨ce328, hce328, hMe328, hcc328⟩ := Kd.S_get HO_5.out z94 x30_4 p328 (by first | exact q328 | exact of_decide_eq_true (by first | (with_reducible assumption) | assumption) | (have e_ := (Kd.S_reads' HO_5.out).1; omega)); obtain ⟨ve328_5, rfl, ge328_5⟩ := k94_openM hMe328; have hv328_5 := hcc328 5 _ rfl; rw [add_field _ _ 5 (by omega)] at hv328_5; replace hv328_5 := Option.some.inj (hv328_5.symm.trans hx328_5); rw [hv328_5] at ge328_5; have HL328_5 := Aside0.mk (show Kd.R (Kd.int .i64) 2 _ _ _ _ ((rd_T94 t293 x30_4).f5) from ge328_5); clear hv328_5 ge328_5; clear hcc328 hce328; have HR328_5 := Aside0.mk hi328_5; have HC328_5 := Aside0.mk hl328_5; clear hi328_5 hl328_5; replace p328 := eq_true p328; replace q328 := eq_true q328) | ((with_reducible refine gate_callee (f := 64) rfl ?_); refine goesL_ (some 220) rfl rfl Try.func64 (by kernel_rfl) rfl #[.agg #[.string ((rd_T94 t293 x30_4).f0), .int .i64 ((rd_T94 t293 x30_4).f1), .int .i64 ((rd_T94 t293 x30_4).f2), .int .i64 ((rd_T94 t293 x30_4).f3), .int .i64 ((rd_T94 t293 x30_4).f4), .slice A328_5 ((rd_T94 t293 x30_4).f5).length c328_5], .int .i64 (wrap64 (t323 + 1)), .int .i64 t321] rfl (by (try simp only [List.map_toArray, List.map_cons, List.map_nil]); first | done | rfl | (simp only [List.length_drop, List.length_take]; rfl)) ?_; (with_reducible refine (spec_LoadOf.calls k4 ((rd_T94 t293 x30_4).f0) ((rd_T94 t293 x30_4).f1) ((rd_T94 t293 x30_4).f2) ((rd_T94 t293 x30_4).f3) ((rd_T94 t293 x30_4).f4) _ _ ((rd_T94 t293 x30_4).f5) (wrap64 (t323 + 1)) t321 t329 t330 _ ?side1 ?side2 A81.out).mono ?_); (case side1 => repeat (first | exact (by repeat (first | (with_reducible exact HR328_5.out) | (with_reducible refine Kd.C_alloc ?_ _) | (with_reducible refine Kd.C_drewN ?_ _) | (with_reducible refine Kd.C_drew ?_) | exact HR328_5.out)) | (with_reducible refine Kd.C_alloc ?_ _) | (with_reducible refine Kd.C_drewN ?_ _) | (with_reducible refine Kd.C_drew ?_))); (case side2 => exact HC328_5.out); rintro e w84 ⟨rfl, hb⟩; refine ⟨_, rfl, ?_⟩; have n0_ := Aside0.mk (Kd.S_below (by (with_reducible repeat (first | apply Kd.S_alloc | apply Kd.S_drewN | apply Kd.S_drew)); exact HO_5.out) hb); have n1_ := Aside0.mk (Kd.R_below (by (with_reducible repeat (first | apply Kd.R_alloc | apply Kd.R_drewN | apply Kd.R_drew)); exact HL325_5.out) hb); have n2_ := Aside0.mk (Kd.R_below (by (with_reducible repeat (first | apply Kd.R_alloc | apply Kd.R_drewN | apply Kd.R_drew)); exact HL328_5.out) hb); have n3_ := Aside0.mk (Kd.C_below (by repeat (first | (with_reducible exact HR325_5.out) | (with_reducible refine Kd.C_alloc ?_ _) | (with_reducible refine Kd.C_drewN ?_ _) | (with_reducible refine Kd.C_drew ?_) | exact HR325_5.out)) hb); have n4_ := Aside0.mk (Kd.C_below (by repeat (first | (with_reducible exact HR328_5.out) | (with_reducible refine Kd.C_alloc ?_ _) | (with_reducible refine Kd.C_drewN ?_ _) | (with_reducible refine Kd.C_drew ?_) | exact HR328_5.out)) hb); have n5_ := Aside0.mk (below_step (by repeat (first | (with_reducible first | exact HB.out | apply below_alloc | apply pw_below_drewN | apply below_drew1) | exact HB.out)) hb); clear HO_5; clear HL325_5; clear HL328_5; clear HR325_5; clear HR328_5; clear HB; have HO_5 := n0_; have HL325_5 := n1_; have HL328_5 := n2_; have HR325_5 := n3_; have HR328_5 := n4_; have HB := n5_; clear n0_ n1_ n2_ n3_ n4_ n5_; (try clear hb); (try clear hb2); (try clear hk); (try clear hi)))
                                  go_roundg k4
                                  case measure => have := HJ9.out; have := HK2.out; have := HJ48.out; have := HK4.out; omega
                                  case rel => exact ⟨(wrap64 (x28_4 + t326)), (wrap64 (x29_4 + t329)), (wrap64 (x30_4 + 1)), (by first | rfl | (simp; done) | (simp [*]; done)), (by first | rfl | (simp; done) | (simp [*]; done)), (by first | rfl | (simp; done) | (simp [*]; done)), H', ⟨by have := HJ9.out; have := HK2.out; have := HJ48.out; have := HK4.out; omega⟩, ⟨by (with_reducible repeat (first | apply Kd.S_alloc | apply Kd.S_drewN | apply Kd.S_drew)); exact HO_5.out⟩, ⟨by repeat (first | (with_reducible first | exact HB.out | apply below_alloc | apply pw_below_drewN | apply below_drew1) | exact HB.out)⟩⟩
                                · rw [if_neg c82] at H
                                  have c82b0 : (t327 == 0) = false := beq_eq_false_iff_ne.mpr c82
                                  have c82b1 : (t327 != 0) = true := bne_iff_ne.mpr c82
                                  obtain rfl := Option.some.inj H
                                  have p325 : 0 ≤ (x30_4 : Int) := of_decide_eq_true (by first | (with_reducible assumption) | assumption)
                                  have q325 : x30_4 < (t293.length : Int) := of_decide_eq_true (by first | (with_reducible assumption) | assumption)
                                  obtain ⟨ad325, A325_5, c325_5, e325, hx325_0, hx325_1, hx325_2, hx325_3, hx325_4, hx325_5, hl325_5, hi325_5⟩ := at_T94 (Kd.S_reads' HO_5.out).2.2 x30_4 p325 q325
                                  cases e325
                                  obtain ⟨ce325, hce325, hMe325, hcc325⟩ := Kd.S_get HO_5.out z94 x30_4 p325 (by first | exact q325 | exact of_decide_eq_true (by first | (with_reducible assumption) | assumption) | (have e_ := (Kd.S_reads' HO_5.out).1; omega))
                                  obtain ⟨ve325_5, rfl, ge325_5⟩ := k94_openM hMe325
                                  have hv325_5 := hcc325 5 _ rfl
                                  rw [add_field _ _ 5 (by omega)] at hv325_5
                                  replace hv325_5 := Option.some.inj (hv325_5.symm.trans hx325_5)
                                  rw [hv325_5] at ge325_5
                                  have HL325_5 := Aside0.mk (show Kd.R (Kd.int .i64) 2 _ _ _ _ ((rd_T94 t293 x30_4).f5) from ge325_5)
                                  clear hv325_5 ge325_5
                                  clear hcc325 hce325
                                  have HR325_5 := Aside0.mk hi325_5
                                  have HC325_5 := Aside0.mk hl325_5
                                  clear hi325_5 hl325_5
                                  replace p325 := eq_true p325
                                  replace q325 := eq_true q325
                                  go_wp2_with (first | ((with_reducible refine gate_callee (f := 64) rfl ?_); refine goesL_ (some 209) rfl rfl Try.func64 (by kernel_rfl) rfl #[.agg #[.string ((rd_T94 t293 x30_4).f0), .int .i64 ((rd_T94 t293 x30_4).f1), .int .i64 ((rd_T94 t293 x30_4).f2), .int .i64 ((rd_T94 t293 x30_4).f3), .int .i64 ((rd_T94 t293 x30_4).f4), .slice A325_5 ((rd_T94 t293 x30_4).f5).length c325_5], .int .i64 t323, .int .i64 t321] rfl (by (try simp only [List.map_toArray, List.map_cons, List.map_nil]); first | done | rfl | (simp only [List.length_drop, List.length_take]; rfl)) ?_; (with_reducible refine (spec_LoadOf.calls k4 ((rd_T94 t293 x30_4).f0) ((rd_T94 t293 x30_4).f1) ((rd_T94 t293 x30_4).f2) ((rd_T94 t293 x30_4).f3) ((rd_T94 t293 x30_4).f4) _ _ ((rd_T94 t293 x30_4).f5) t323 t321 t326 t327 _ ?side1 ?side2 A80.out).mono ?_); (case side1 => repeat (first | exact (by repeat (first | (with_reducible exact HR325_5.out) | (with_reducible refine Kd.C_alloc ?_ _) | (with_reducible refine Kd.C_drewN ?_ _) | (with_reducible refine Kd.C_drew ?_) | exact HR325_5.out)) | (with_reducible refine Kd.C_alloc ?_ _) | (with_reducible refine Kd.C_drewN ?_ _) | (with_reducible refine Kd.C_drew ?_))); (case side2 => exact HC325_5.out); rintro e w85 ⟨rfl, hb⟩; refine ⟨_, rfl, ?_⟩; have n0_ := Aside0.mk (Kd.S_below (by (with_reducible repeat (first | apply Kd.S_alloc | apply Kd.S_drewN | apply Kd.S_drew)); exact HO_5.out) hb); have n1_ := Aside0.mk (Kd.R_below (by (with_reducible repeat (first | apply Kd.R_alloc | apply Kd.R_drewN | apply Kd.R_drew)); exact HL325_5.out) hb); have n2_ := Aside0.mk (Kd.C_below (by repeat (first | (with_reducible exact HR325_5.out) | (with_reducible refine Kd.C_alloc ?_ _) | (with_reducible refine Kd.C_drewN ?_ _) | (with_reducible refine Kd.C_drew ?_) | exact HR325_5.out)) hb); have n3_ := Aside0.mk (below_step (by repeat (first | (with_reducible first | exact HB.out | apply below_alloc | apply pw_below_drewN | apply below_drew1) | exact HB.out)) hb); clear HO_5; clear HL325_5; clear HR325_5; clear HB; have HO_5 := n0_; have HL325_5 := n1_; have HR325_5 := n2_; have HB := n3_; clear n0_ n1_ n2_ n3_; (try clear hb); (try clear hb2); (try clear hk); (try clear hi); have p328 : 0 ≤ (x30_4 : Int) := of_decide_eq_true (by first | (with_reducible assumption) | assumption); have q328 : x30_4 < (t293.length : Int) := of_decide_eq_true (by first | (with_reducible assumption) | assumption); obtain ⟨ad328, A328_5, c328_5, e328, hx328_0, hx328_1, hx328_2, hx328_3, hx328_4, hx328_5, hl328_5, hi328_5⟩ := at_T94 (Kd.S_reads' HO_5.out).2.2 x30_4 p328 q328; obtain rfl : ad325 = ad328 := (by injection e328); obtain ⟨ce328, hce328, hMe328, hcc328⟩ := Kd.S_get HO_5.out z94 x30_4 p328 (by first | exact q328 | exact of_decide_eq_true (by first | (with_reducible assumption) | assumption) | (have e_ := (Kd.S_reads' HO_5.out).1; omega)); obtain ⟨ve328_5, rfl, ge328_5⟩ := k94_openM hMe328; have hv328_5 := hcc328 5 _ rfl; rw [add_field _ _ 5 (by omega)] at hv328_5; replace hv328_5 := Option.some.inj (hv328_5.symm.trans hx328_5); rw [hv328_5] at ge328_5; have HL328_5 := Aside0.mk (show Kd.R (Kd.int .i64) 2 _ _ _ _ ((rd_T94 t293 x30_4).f5) from ge328_5); clear hv328_5 ge328_5; clear hcc328 hce328; have HR328_5 := Aside0.mk hi328_5; have HC328_5 := Aside0.mk hl328_5; clear hi328_5 hl328_5; replace p328 := eq_true p328; replace q328 := eq_true q328) | ((with_reducible refine gate_callee (f := 64) rfl ?_); refine goesL_ (some 220) rfl rfl Try.func64 (by kernel_rfl) rfl #[.agg #[.string ((rd_T94 t293 x30_4).f0), .int .i64 ((rd_T94 t293 x30_4).f1), .int .i64 ((rd_T94 t293 x30_4).f2), .int .i64 ((rd_T94 t293 x30_4).f3), .int .i64 ((rd_T94 t293 x30_4).f4), .slice A328_5 ((rd_T94 t293 x30_4).f5).length c328_5], .int .i64 (wrap64 (t323 + 1)), .int .i64 t321] rfl (by (try simp only [List.map_toArray, List.map_cons, List.map_nil]); first | done | rfl | (simp only [List.length_drop, List.length_take]; rfl)) ?_; (with_reducible refine (spec_LoadOf.calls k4 ((rd_T94 t293 x30_4).f0) ((rd_T94 t293 x30_4).f1) ((rd_T94 t293 x30_4).f2) ((rd_T94 t293 x30_4).f3) ((rd_T94 t293 x30_4).f4) _ _ ((rd_T94 t293 x30_4).f5) (wrap64 (t323 + 1)) t321 t329 t330 _ ?side1 ?side2 A81.out).mono ?_); (case side1 => repeat (first | exact (by repeat (first | (with_reducible exact HR328_5.out) | (with_reducible refine Kd.C_alloc ?_ _) | (with_reducible refine Kd.C_drewN ?_ _) | (with_reducible refine Kd.C_drew ?_) | exact HR328_5.out)) | (with_reducible refine Kd.C_alloc ?_ _) | (with_reducible refine Kd.C_drewN ?_ _) | (with_reducible refine Kd.C_drew ?_))); (case side2 => exact HC328_5.out); rintro e w86 ⟨rfl, hb⟩; refine ⟨_, rfl, ?_⟩; have n0_ := Aside0.mk (Kd.S_below (by (with_reducible repeat (first | apply Kd.S_alloc | apply Kd.S_drewN | apply Kd.S_drew)); exact HO_5.out) hb); have n1_ := Aside0.mk (Kd.R_below (by (with_reducible repeat (first | apply Kd.R_alloc | apply Kd.R_drewN | apply Kd.R_drew)); exact HL325_5.out) hb); have n2_ := Aside0.mk (Kd.R_below (by (with_reducible repeat (first | apply Kd.R_alloc | apply Kd.R_drewN | apply Kd.R_drew)); exact HL328_5.out) hb); have n3_ := Aside0.mk (Kd.C_below (by repeat (first | (with_reducible exact HR325_5.out) | (with_reducible refine Kd.C_alloc ?_ _) | (with_reducible refine Kd.C_drewN ?_ _) | (with_reducible refine Kd.C_drew ?_) | exact HR325_5.out)) hb); have n4_ := Aside0.mk (Kd.C_below (by repeat (first | (with_reducible exact HR328_5.out) | (with_reducible refine Kd.C_alloc ?_ _) | (with_reducible refine Kd.C_drewN ?_ _) | (with_reducible refine Kd.C_drew ?_) | exact HR328_5.out)) hb); have n5_ := Aside0.mk (below_step (by repeat (first | (with_reducible first | exact HB.out | apply below_alloc | apply pw_below_drewN | apply below_drew1) | exact HB.out)) hb); clear HO_5; clear HL325_5; clear HL328_5; clear HR325_5; clear HR328_5; clear HB; have HO_5 := n0_; have HL325_5 := n1_; have HL328_5 := n2_; have HR325_5 := n3_; have HR328_5 := n4_; have HB := n5_; clear n0_ n1_ n2_ n3_ n4_ n5_; (try clear hb); (try clear hb2); (try clear hk); (try clear hi)))
                                  go_ret
                                  exact ⟨by first | rfl | (simp [errW_none, errW_some] <;> rfl) | (simp [*, errW_none, errW_some] <;> rfl), by repeat (first | (with_reducible first | exact HB.out | apply below_alloc | apply pw_below_drewN | apply below_drew1) | exact HB.out)⟩
                              · rw [if_neg c79] at H
                                exact absurd H (by simp)
                            · rw [if_neg c78] at H
                              have c78b0 : decide (x30_4 < (t293.length : Int)) = false := decide_eq_false c78
                              clear c78
                              by_cases c87 : x28_4 ≥ t322
                              · rw [if_pos c87] at H
                                have c87b0 : decide (t322 ≤ x28_4) = true := decide_eq_true c87
                                clear c87
                                by_cases c88 : t323 = 4500
                                · rw [if_pos c88] at H
                                  have c88b0 : (t323 == 4500) = true := beq_iff_eq.mpr c88
                                  have c88b1 : (t323 != 4500) = false := bne_eq_false_iff_eq.mpr c88
                                  clear c88
                                  obtain rfl := Option.some.inj H
                                  go_wp2
                                  go_ret
                                  exact ⟨by first | rfl | (simp [errW_none, errW_some] <;> rfl) | (simp [*, errW_none, errW_some] <;> rfl), by repeat (first | (with_reducible first | exact HB.out | apply below_alloc | apply pw_below_drewN | apply below_drew1) | exact HB.out)⟩
                                · rw [if_neg c88] at H
                                  have c88b0 : (t323 == 4500) = false := beq_eq_false_iff_ne.mpr c88
                                  have c88b1 : (t323 != 4500) = true := bne_iff_ne.mpr c88
                                  obtain rfl := Option.some.inj H
                                  go_wp2
                                  go_ret
                                  exact ⟨by first | rfl | (simp [errW_none, errW_some] <;> rfl) | (simp [*, errW_none, errW_some] <;> rfl), by repeat (first | (with_reducible first | exact HB.out | apply below_alloc | apply pw_below_drewN | apply below_drew1) | exact HB.out)⟩
                              · rw [if_neg c87] at H
                                have c87b0 : decide (t322 ≤ x28_4) = false := decide_eq_false c87
                                clear c87
                                obtain rfl := Option.some.inj H
                                go_wp2
                                go_ret
                                exact ⟨by first | rfl | (simp [errW_none, errW_some] <;> rfl) | (simp [*, errW_none, errW_some] <;> rfl), by repeat (first | (with_reducible first | exact HB.out | apply below_alloc | apply pw_below_drewN | apply below_drew1) | exact HB.out)⟩
                      · rw [if_neg c76] at H
                        have c76b0 : (t324 == 0) = false := beq_eq_false_iff_ne.mpr c76
                        have c76b1 : (t324 != 0) = true := bne_iff_ne.mpr c76
                        obtain rfl := Option.some.inj H
                        go_wp2_with (first | ((with_reducible refine gate_callee (f := 62) rfl ?_); refine goesL_ (some 182) rfl rfl Try.func62 (by kernel_rfl) rfl #[.slice A1 l1.length c1, .int .i64 4, .int .i64 24] rfl (by (try simp only [List.map_toArray, List.map_cons, List.map_nil]); first | done | rfl | (simp only [List.length_drop, List.length_take]; rfl)) ?_; (with_reducible refine (laws_r8At.calls _ _ l1 4 24 t321 _ ?side1 ?side2 A73.out).mono ?_); (case side1 => repeat (first | exact (Kd.C_below HR1.out HB.out) | (with_reducible refine Kd.C_alloc ?_ _) | (with_reducible refine Kd.C_drewN ?_ _) | (with_reducible refine Kd.C_drew ?_))); (case side2 => exact HC1.out); rintro e w' ⟨rfl, ⟨nd, rfl⟩⟩; refine ⟨_, rfl, ?_⟩) | ((with_reducible refine gate_callee (f := 59) rfl ?_); refine goesL_ (some 184) rfl rfl Try.func59 (by kernel_rfl) rfl #[.slice A1 l1.length c1, .int .i64 5, .int .i64 60000] rfl (by (try simp only [List.map_toArray, List.map_cons, List.map_nil]); first | done | rfl | (simp only [List.length_drop, List.length_take]; rfl)) ?_; (with_reducible refine (laws_r8Wide.calls _ _ l1 5 60000 t322 _ ?side1 ?side2 A74.out).mono ?_); (case side1 => repeat (first | exact (Kd.C_below HR1.out (by repeat (first | (with_reducible first | exact HB.out | apply below_alloc | apply pw_below_drewN | apply below_drew1) | exact HB.out))) | (with_reducible refine Kd.C_alloc ?_ _) | (with_reducible refine Kd.C_drewN ?_ _) | (with_reducible refine Kd.C_drew ?_))); (case side2 => exact HC1.out); rintro e w' ⟨rfl, ⟨nd, rfl⟩⟩; refine ⟨_, rfl, ?_⟩) | ((with_reducible refine gate_callee (f := 63) rfl ?_); refine goesL_ (some 189) rfl rfl Try.func63 (by kernel_rfl) rfl #[.slice Ao13 t293.length co13, .int .i64 t322, .int .i64 t321] rfl (by (try simp only [List.map_toArray, List.map_cons, List.map_nil]); first | done | rfl | (simp only [List.length_drop, List.length_take]; rfl)) ?_; (with_reducible refine (impl_OutdoorFor.calls kj48 _ _ t293 t322 t321 t323 t324 _ ?side1 ?side2 A75.out).mono ?_); (case side1 => repeat (first | exact (Kd.S_reads' HO_5.out).2.2 | (with_reducible refine Kd.C_alloc ?_ _) | (with_reducible refine Kd.C_drewN ?_ _) | (with_reducible refine Kd.C_drew ?_))); (case side2 => exact (Kd.S_reads' HO_5.out).2.1); rintro e w89 ⟨rfl, hb⟩; refine ⟨_, rfl, ?_⟩; have n0_ := Aside0.mk (Kd.S_below (by (with_reducible repeat (first | apply Kd.S_alloc | apply Kd.S_drewN | apply Kd.S_drew)); exact HO_5.out) hb); have n1_ := Aside0.mk (below_step (by repeat (first | (with_reducible first | exact HB.out | apply below_alloc | apply pw_below_drewN | apply below_drew1) | exact HB.out)) hb); clear HO_5; clear HB; have HO_5 := n0_; have HB := n1_; clear n0_ n1_; (try clear hb); (try clear hb2); (try clear hk); (try clear hi)))
                        go_ret
                        exact ⟨by first | rfl | (simp [errW_none, errW_some] <;> rfl) | (simp [*, errW_none, errW_some] <;> rfl), by repeat (first | (with_reducible first | exact HB.out | apply below_alloc | apply pw_below_drewN | apply below_drew1) | exact HB.out)⟩

end Go.Proofs.Ytjccjmjnlblhaaa.QForecasts
