-- Written by press.py, a program of this session, round the kit's print.py (functions and contracts; Lean checks them).
import Derived.Test.YtjccjmjnlblhaaaQForecastsx0
import Derived.Test.YtjccjmjnlblhaaaQForecastsx2
import Derived.Test.YtjccjmjnlblhaaaQForecastsx5
import Derived.Test.YtjccjmjnlblhaaaQForecastsx6
namespace Go.Proofs.Ytjccjmjnlblhaaa.QForecasts
open Go.Proofs.Ytjccjmjnlblhaaa.QWords
attribute [local go_sem high] binOp_string_geq_q binOp_string_leq_q binOp_string_gtr_q
open Go.RowKit Go.Proofs.YtjccjmjnlblhaaaW.PrintWords Go.Proofs.YtjccjmjnlblhaaaW.PrintLast Go.Proofs.YtjccjmjnlblhaaaW.PrintMore
attribute [local go_sem] max2_int min2_int max_two min_two max_three min_three max_four min_four   -- for this text's walks alone
set_option linter.unusedVariables false
set_option linter.unusedSimpArgs false

/-! ### impl_PeakHour: function 57 -/
def impl_PeakHour.f (k : Nat) (l0 : List (S94)) (l1 : List Int) : Option (Int × Int × Int) := (impl_ForecastOf.f k l0 l1).bind fun bt236 => (if bt236.2 = 0 then ((slices_Max_int64_int64.f k bt236.1).bind fun t240 => ((slices_Index_int64_int64.f k bt236.1 t240).bind fun t241 => (some (t241, t240, 0)))) else (some (0, 0, bt236.2)))
theorem impl_PeakHour.mono : ∀ a0 a1 k, LeO (impl_PeakHour.f k a0 a1) (impl_PeakHour.f (k + 1) a0 a1) := by
  intro a0 a1 k
  unfold impl_PeakHour.f
  repeat' first
      | (with_reducible exact impl_ForecastOf.mono _ _ _)
      | (with_reducible exact slices_Index_int64_int64.mono _ _ _)
      | (with_reducible exact slices_Max_int64_int64.mono _ _)
      | (with_reducible exact LeO.refl _)
      | (with_reducible exact LeO.none _)
      | (with_reducible refine LeO.ite ?_ ?_)
      | (with_reducible refine LeO.bind ?_ (fun _ => ?_))
      | exact impl_ForecastOf.mono _ _ _
      | exact slices_Index_int64_int64.mono _ _ _
      | exact slices_Max_int64_int64.mono _ _
      | exact LeO.none _
      | refine LeO.ite ?_ ?_
      | refine LeO.bind ?_ (fun _ => ?_)
set_option maxHeartbeats 8000000 in
set_option maxRecDepth 100000 in
theorem impl_PeakHour.calls (k : Nat) (A0 : Option Addr) (c0 : Nat) (l0 : List (S94)) (A1 : Option Addr) (c1 : Nat) (l1 : List Int) (r1 : Int) (r2 : Int) (r3 : Int) (w : World) (hr0 : Kd.C k94 w A0 l0.length l0) (hc0 : l0.length ≤ c0) (hr1 : Kd.C (Kd.int .i64) w A1 l1.length l1) (hc1 : l1.length ≤ c1) (h : impl_PeakHour.f k l0 l1 = some (r1, r2, r3)) :
    Calls Try.prog 57 #[.slice A0 l0.length c0, .slice A1 l1.length c1] w fun e w' => e = .returned (.tuple #[.int .i64 r1, .int .i64 r2, .int .i64 r3]) ∧ Below w.heap.size w w' := by
  have HR0 := Aside0.mk hr0
  have HC0 := Aside0.mk hc0
  clear hr0 hc0
  have HR1 := Aside0.mk hr1
  have HC1 := Aside0.mk hc1
  clear hr1 hc1
  have HB := Aside0.mk (Below.refl w.heap.size w)
  have H : ((impl_ForecastOf.f k l0 l1).bind fun bt236 => (if bt236.2 = 0 then ((slices_Max_int64_int64.f k bt236.1).bind fun t240 => ((slices_Index_int64_int64.f k bt236.1 t240).bind fun t241 => (some (t241, t240, 0)))) else (some (0, 0, bt236.2)))) = some (r1, r2, r3) := h
  clear h
  replace H := Option.bind_eq_some_iff.mp H
  obtain ⟨⟨t236, t237⟩, A30, H⟩ := H
  replace H : (if t237 = 0 then ((slices_Max_int64_int64.f k t236).bind fun t240 => ((slices_Index_int64_int64.f k t236 t240).bind fun t241 => (some (t241, t240, 0)))) else (some (0, 0, t237))) = some (r1, r2, r3) := H
  have A3 := Aside0.mk A30
  clear A30
  by_cases c4 : t237 = 0
  · rw [if_pos c4] at H
    have c4b0 : (t237 == 0) = true := beq_iff_eq.mpr c4
    have c4b1 : (t237 != 0) = false := bne_eq_false_iff_eq.mpr c4
    clear c4
    replace H := Option.bind_eq_some_iff.mp H
    obtain ⟨t240, A50, H⟩ := H
    replace H : ((slices_Index_int64_int64.f k t236 t240).bind fun t241 => (some (t241, t240, 0))) = some (r1, r2, r3) := H
    have A5 := Aside0.mk A50
    clear A50
    replace H := Option.bind_eq_some_iff.mp H
    obtain ⟨t241, A60, H⟩ := H
    replace H : (some (t241, t240, 0)) = some (r1, r2, r3) := H
    have A6 := Aside0.mk A60
    clear A60
    simp only [Option.some.injEq, Prod.mk.injEq] at H
    obtain ⟨rfl, rfl, rfl⟩ := H
    go_enter Try.func57, Try.ntmps57
    go_wp2_with (first | ((with_reducible refine gate_callee (f := 55) rfl ?_); refine goesL_ (some 13) rfl rfl Try.func55 (by kernel_rfl) rfl #[.slice A0 l0.length c0, .slice A1 l1.length c1] rfl (by (try simp only [List.map_toArray, List.map_cons, List.map_nil]); first | done | rfl | (simp only [List.length_drop, List.length_take]; rfl)) ?_; (with_reducible refine (impl_ForecastOf.calls k _ _ l0 _ _ l1 t236 t237 _ ?side1 ?side2 ?side3 ?side4 A3.out).mono ?_); (case side1 => repeat (first | exact HR0.out | (with_reducible refine Kd.C_alloc ?_ _) | (with_reducible refine Kd.C_drewN ?_ _) | (with_reducible refine Kd.C_drew ?_))); (case side2 => exact HC0.out); (case side3 => repeat (first | exact HR1.out | (with_reducible refine Kd.C_alloc ?_ _) | (with_reducible refine Kd.C_drewN ?_ _) | (with_reducible refine Kd.C_drew ?_))); (case side4 => exact HC1.out); rintro e w7 ⟨v238, rfl, ho0, hb⟩; refine ⟨_, rfl, ?_⟩; have n0_ := Aside0.mk (Kd.R_lower ho0 (below_size (by repeat (first | (with_reducible first | exact HB.out | apply below_alloc | apply pw_below_drewN | apply below_drew1) | exact HB.out)))); have n1_ := Aside0.mk (below_step (by repeat (first | (with_reducible first | exact HB.out | apply below_alloc | apply pw_below_drewN | apply below_drew1) | exact HB.out)) hb); clear HB; have HO239 := n0_; have HB := n1_; clear n0_ n1_; (try clear hb); (try clear hb2); (try clear hk); (try clear hi); (try clear ho0); obtain ⟨Ao8, co8, eo8⟩ := Kd.R_slice HO239.out; subst eo8) | ((with_reducible refine gate_callee (f := 129) rfl ?_); refine goesL_ (some 20) rfl rfl Try.func129 (by kernel_rfl) rfl #[.slice Ao8 t236.length co8] rfl (by (try simp only [List.map_toArray, List.map_cons, List.map_nil]); first | done | rfl | (simp only [List.length_drop, List.length_take]; rfl)) ?_; (with_reducible refine (slices_Max_int64_int64.calls k _ _ t236 t240 _ ?side1 ?side2 A5.out).mono ?_); (case side1 => repeat (first | exact (Kd.R_reads' HO239.out).2.2 | (with_reducible refine Kd.C_alloc ?_ _) | (with_reducible refine Kd.C_drewN ?_ _) | (with_reducible refine Kd.C_drew ?_))); (case side2 => exact (Kd.R_reads' HO239.out).2.1); rintro e w9 ⟨rfl, hb⟩; refine ⟨_, rfl, ?_⟩; have n0_ := Aside0.mk (Kd.R_below (by (with_reducible repeat (first | apply Kd.R_alloc | apply Kd.R_drewN | apply Kd.R_drew)); exact HO239.out) hb); have n1_ := Aside0.mk (below_step (by repeat (first | (with_reducible first | exact HB.out | apply below_alloc | apply pw_below_drewN | apply below_drew1) | exact HB.out)) hb); clear HO239; clear HB; have HO239 := n0_; have HB := n1_; clear n0_ n1_; (try clear hb); (try clear hb2); (try clear hk); (try clear hi)) | ((with_reducible refine gate_callee (f := 130) rfl ?_); refine goesL_ (some 23) rfl rfl Try.func130 (by kernel_rfl) rfl #[.slice Ao8 t236.length co8, .int .i64 t240] rfl (by (try simp only [List.map_toArray, List.map_cons, List.map_nil]); first | done | rfl | (simp only [List.length_drop, List.length_take]; rfl)) ?_; (with_reducible refine (slices_Index_int64_int64.calls k _ _ t236 t240 t241 _ ?side1 ?side2 A6.out).mono ?_); (case side1 => repeat (first | exact (Kd.R_reads' HO239.out).2.2 | (with_reducible refine Kd.C_alloc ?_ _) | (with_reducible refine Kd.C_drewN ?_ _) | (with_reducible refine Kd.C_drew ?_))); (case side2 => exact (Kd.R_reads' HO239.out).2.1); rintro e w' ⟨rfl, ⟨nd, rfl⟩⟩; refine ⟨_, rfl, ?_⟩))
    go_ret3
    exact ⟨by first | rfl | (simp [errW_none, errW_some] <;> rfl) | (simp [*, errW_none, errW_some] <;> rfl), by repeat (first | (with_reducible first | exact HB.out | apply below_alloc | apply pw_below_drewN | apply below_drew1) | exact HB.out)⟩
  · rw [if_neg c4] at H
    have c4b0 : (t237 == 0) = false := beq_eq_false_iff_ne.mpr c4
    have c4b1 : (t237 != 0) = true := bne_iff_ne.mpr c4
    simp only [Option.some.injEq, Prod.mk.injEq] at H
    obtain ⟨rfl, rfl, rfl⟩ := H
    go_enter Try.func57, Try.ntmps57
    go_wp2_with (first | ((with_reducible refine gate_callee (f := 55) rfl ?_); refine goesL_ (some 13) rfl rfl Try.func55 (by kernel_rfl) rfl #[.slice A0 l0.length c0, .slice A1 l1.length c1] rfl (by (try simp only [List.map_toArray, List.map_cons, List.map_nil]); first | done | rfl | (simp only [List.length_drop, List.length_take]; rfl)) ?_; (with_reducible refine (impl_ForecastOf.calls k _ _ l0 _ _ l1 t236 t237 _ ?side1 ?side2 ?side3 ?side4 A3.out).mono ?_); (case side1 => repeat (first | exact HR0.out | (with_reducible refine Kd.C_alloc ?_ _) | (with_reducible refine Kd.C_drewN ?_ _) | (with_reducible refine Kd.C_drew ?_))); (case side2 => exact HC0.out); (case side3 => repeat (first | exact HR1.out | (with_reducible refine Kd.C_alloc ?_ _) | (with_reducible refine Kd.C_drewN ?_ _) | (with_reducible refine Kd.C_drew ?_))); (case side4 => exact HC1.out); rintro e w10 ⟨v238, rfl, ho0, hb⟩; refine ⟨_, rfl, ?_⟩; have n0_ := Aside0.mk (Kd.R_lower ho0 (below_size (by repeat (first | (with_reducible first | exact HB.out | apply below_alloc | apply pw_below_drewN | apply below_drew1) | exact HB.out)))); have n1_ := Aside0.mk (below_step (by repeat (first | (with_reducible first | exact HB.out | apply below_alloc | apply pw_below_drewN | apply below_drew1) | exact HB.out)) hb); clear HB; have HO239 := n0_; have HB := n1_; clear n0_ n1_; (try clear hb); (try clear hb2); (try clear hk); (try clear hi); (try clear ho0)))
    go_ret3
    exact ⟨by first | rfl | (simp [errW_none, errW_some] <;> rfl) | (simp [*, errW_none, errW_some] <;> rfl), by repeat (first | (with_reducible first | exact HB.out | apply below_alloc | apply pw_below_drewN | apply below_drew1) | exact HB.out)⟩

/-! ### laws_r8Abs: function 58 -/
def laws_r8Abs.f (a0 : Int) : Option (Int) := some (mx a0 (wrap64 (-a0)))
set_option maxHeartbeats 8000000 in
set_option maxRecDepth 100000 in
theorem laws_r8Abs.calls (a0 : Int) (r : Int) (w : World) (h : laws_r8Abs.f a0 = some r) :
    Calls Try.prog 58 #[.int .i64 a0] w fun e w' => e = .returned (.int .i64 r) ∧ Below w.heap.size w w' := by
  have HB := Aside0.mk (Below.refl w.heap.size w)
  have H : (some (mx a0 (wrap64 (-a0)))) = some r := h
  clear h
  obtain ⟨ji2, hji2⟩ : ∃ j_ : Int, (mx a0 (wrap64 (-a0))) = j_ := ⟨_, rfl⟩
  replace H : (some ji2) = some r := by first | (rw [hji2] at H; exact H) | (simp only [hji2] at H ⊢; exact H)
  have hji2_ : (if a0 < (wrap64 (-a0)) then (wrap64 (-a0)) else a0) = ji2 := hji2
  obtain rfl := Option.some.inj H
  go_enter Try.func58, Try.ntmps58
  go_wp2
  go_ret
  exact ⟨by first | rfl | (simp [errW_none, errW_some] <;> rfl) | (simp only [← hji2]; first | rfl | (simp [errW_none, errW_some] <;> rfl)) | (simp [*, errW_none, errW_some] <;> rfl), by repeat (first | (with_reducible first | exact HB.out | apply below_alloc | apply pw_below_drewN | apply below_drew1) | exact HB.out)⟩

/-! ### laws_r8At: function 62 -/
def laws_r8At.f (l0 : List Int) (a1 : Int) (a2 : Int) : Option (Int) := if a2 ≤ 1 then (some 0) else (if a1 ≥ (l0.length : Int) then (some 0) else (if 0 ≤ a1 then (if a1 < (l0.length : Int) then (if a2 = 0 then (none) else (some (Int.tmod (wrap64 (rd l0 a1)) a2))) else (none)) else (none)))
set_option maxHeartbeats 8000000 in
set_option maxRecDepth 100000 in
theorem laws_r8At.calls (A0 : Option Addr) (c0 : Nat) (l0 : List Int) (a1 : Int) (a2 : Int) (r : Int) (w : World) (hr0 : Kd.C (Kd.int .u8) w A0 l0.length l0) (hc0 : l0.length ≤ c0) (h : laws_r8At.f l0 a1 a2 = some r) :
    Calls Try.prog 62 #[.slice A0 l0.length c0, .int .i64 a1, .int .i64 a2] w fun e w' => e = .returned (.int .i64 r) ∧ Drawn0 w w' := by
  have HR0 := Aside0.mk hr0
  have HC0 := Aside0.mk hc0
  clear hr0 hc0
  have H : (if a2 ≤ 1 then (some 0) else (if a1 ≥ (l0.length : Int) then (some 0) else (if 0 ≤ a1 then (if a1 < (l0.length : Int) then (if a2 = 0 then (none) else (some (Int.tmod (wrap64 (rd l0 a1)) a2))) else (none)) else (none)))) = some r := h
  clear h
  by_cases c4 : a2 ≤ 1
  · rw [if_pos c4] at H
    have c4b0 : decide (a2 ≤ 1) = true := decide_eq_true c4
    clear c4
    obtain rfl := Option.some.inj H
    go_enter Try.func62, Try.ntmps62
    go_wp2
    go_ret
    exact ⟨by first | rfl | (simp; done) | (simp [*]; done), by repeat (first | exact Drawn0.refl _ | apply Drawn0.step)⟩
  · rw [if_neg c4] at H
    have c4b0 : decide (a2 ≤ 1) = false := decide_eq_false c4
    clear c4
    by_cases c5 : a1 ≥ (l0.length : Int)
    · rw [if_pos c5] at H
      have c5b0 : decide ((l0.length : Int) ≤ a1) = true := decide_eq_true c5
      clear c5
      obtain rfl := Option.some.inj H
      go_enter Try.func62, Try.ntmps62
      go_wp2
      go_ret
      exact ⟨by first | rfl | (simp; done) | (simp [*]; done), by repeat (first | exact Drawn0.refl _ | apply Drawn0.step)⟩
    · rw [if_neg c5] at H
      have c5b0 : decide ((l0.length : Int) ≤ a1) = false := decide_eq_false c5
      clear c5
      by_cases c6 : 0 ≤ a1
      · rw [if_pos c6] at H
        have c6b0 : decide (0 ≤ a1) = true := decide_eq_true c6
        clear c6
        by_cases c7 : a1 < (l0.length : Int)
        · rw [if_pos c7] at H
          have c7b0 : decide (a1 < (l0.length : Int)) = true := decide_eq_true c7
          clear c7
          by_cases c8 : a2 = 0
          · rw [if_pos c8] at H
            exact absurd H (by simp)
          · rw [if_neg c8] at H
            have c8b0 : (a2 == 0) = false := beq_eq_false_iff_ne.mpr c8
            have c8b1 : (a2 != 0) = true := bne_iff_ne.mpr c8
            obtain rfl := Option.some.inj H
            have p242 : 0 ≤ (a1 : Int) := of_decide_eq_true (by first | (with_reducible assumption) | assumption)
            have q242 : a1 < (l0.length : Int) := of_decide_eq_true (by first | (with_reducible assumption) | assumption)
            obtain ⟨ad242, e242, hx242_0⟩ := Kd.at_int HR0.out a1 p242 q242
            cases e242
            replace p242 := eq_true p242
            replace q242 := eq_true q242
            go_enter Try.func62, Try.ntmps62
            go_wp2
            go_ret
            exact ⟨by first | rfl | (simp; done) | (simp [*]; done), by repeat (first | exact Drawn0.refl _ | apply Drawn0.step)⟩
        · rw [if_neg c7] at H
          exact absurd H (by simp)
      · rw [if_neg c6] at H
        exact absurd H (by simp)

/-! ### laws_r8Wide: function 59 -/
def laws_r8Wide.f (l0 : List Int) (a1 : Int) (a2 : Int) : Option (Int) := (laws_r8At.f l0 a1 256).bind fun t243 => ((laws_r8At.f l0 (wrap64 (a1 + 1)) 256).bind fun t244 => (if a2 = 0 then (none) else (some (Int.tmod (wrap64 ((wrap64 (256 * t243)) + t244)) a2))))
set_option maxHeartbeats 8000000 in
set_option maxRecDepth 100000 in
theorem laws_r8Wide.calls (A0 : Option Addr) (c0 : Nat) (l0 : List Int) (a1 : Int) (a2 : Int) (r : Int) (w : World) (hr0 : Kd.C (Kd.int .u8) w A0 l0.length l0) (hc0 : l0.length ≤ c0) (h : laws_r8Wide.f l0 a1 a2 = some r) :
    Calls Try.prog 59 #[.slice A0 l0.length c0, .int .i64 a1, .int .i64 a2] w fun e w' => e = .returned (.int .i64 r) ∧ Drawn0 w w' := by
  have HR0 := Aside0.mk hr0
  have HC0 := Aside0.mk hc0
  clear hr0 hc0
  have H : ((laws_r8At.f l0 a1 256).bind fun t243 => ((laws_r8At.f l0 (wrap64 (a1 + 1)) 256).bind fun t244 => (if a2 = 0 then (none) else (some (Int.tmod (wrap64 ((wrap64 (256 * t243)) + t244)) a2))))) = some r := h
  clear h
  replace H := Option.bind_eq_some_iff.mp H
  obtain ⟨t243, A40, H⟩ := H
  replace H : ((laws_r8At.f l0 (wrap64 (a1 + 1)) 256).bind fun t244 => (if a2 = 0 then (none) else (some (Int.tmod (wrap64 ((wrap64 (256 * t243)) + t244)) a2)))) = some r := H
  have A4 := Aside0.mk A40
  clear A40
  replace H := Option.bind_eq_some_iff.mp H
  obtain ⟨t244, A50, H⟩ := H
  replace H : (if a2 = 0 then (none) else (some (Int.tmod (wrap64 ((wrap64 (256 * t243)) + t244)) a2))) = some r := H
  have A5 := Aside0.mk A50
  clear A50
  by_cases c6 : a2 = 0
  · rw [if_pos c6] at H
    exact absurd H (by simp)
  · rw [if_neg c6] at H
    have c6b0 : (a2 == 0) = false := beq_eq_false_iff_ne.mpr c6
    have c6b1 : (a2 != 0) = true := bne_iff_ne.mpr c6
    obtain rfl := Option.some.inj H
    go_enter Try.func59, Try.ntmps59
    go_wp2_with (first | ((with_reducible refine gate_callee (f := 62) rfl ?_); refine goesL_ (some 9) rfl rfl Try.func62 (by kernel_rfl) rfl #[.slice A0 l0.length c0, .int .i64 a1, .int .i64 256] rfl (by (try simp only [List.map_toArray, List.map_cons, List.map_nil]); first | done | rfl | (simp only [List.length_drop, List.length_take]; rfl)) ?_; (with_reducible refine (laws_r8At.calls _ _ l0 a1 256 t243 _ ?side1 ?side2 A4.out).mono ?_); (case side1 => repeat (first | exact HR0.out | (with_reducible refine Kd.C_alloc ?_ _) | (with_reducible refine Kd.C_drewN ?_ _) | (with_reducible refine Kd.C_drew ?_))); (case side2 => exact HC0.out); rintro e w' ⟨rfl, ⟨nd, rfl⟩⟩; refine ⟨_, rfl, ?_⟩) | ((with_reducible refine gate_callee (f := 62) rfl ?_); refine goesL_ (some 14) rfl rfl Try.func62 (by kernel_rfl) rfl #[.slice A0 l0.length c0, .int .i64 (wrap64 (a1 + 1)), .int .i64 256] rfl (by (try simp only [List.map_toArray, List.map_cons, List.map_nil]); first | done | rfl | (simp only [List.length_drop, List.length_take]; rfl)) ?_; (with_reducible refine (laws_r8At.calls _ _ l0 (wrap64 (a1 + 1)) 256 t244 _ ?side1 ?side2 A5.out).mono ?_); (case side1 => repeat (first | exact HR0.out | (with_reducible refine Kd.C_alloc ?_ _) | (with_reducible refine Kd.C_drewN ?_ _) | (with_reducible refine Kd.C_drew ?_))); (case side2 => exact HC0.out); rintro e w' ⟨rfl, ⟨nd, rfl⟩⟩; refine ⟨_, rfl, ?_⟩))
    go_ret
    exact ⟨by first | rfl | (simp; done) | (simp [*]; done), by repeat (first | exact Drawn0.refl _ | apply Drawn0.step)⟩

/-! ### impl_orNotFound: function 118 -/
def impl_orNotFound.f (a0 : Int) (a1 : Bool) : Option (Int × Int) := if a1 = true then (some (a0, 0)) else (some (0, 3))
set_option maxHeartbeats 8000000 in
set_option maxRecDepth 100000 in
theorem impl_orNotFound.calls (a0 : Int) (a1 : Bool) (r1 : Int) (r2 : Int) (w : World) (h : impl_orNotFound.f a0 a1 = some (r1, r2)) :
    Calls Try.prog 118 #[.int .i64 a0, .bool a1] w fun e w' => e = .returned (.tuple #[.int .i64 r1, .int .i64 r2]) ∧ Drawn0 w w' := by
  have H : (if a1 = true then (some (a0, 0)) else (some (0, 3))) = some (r1, r2) := h
  clear h
  by_cases c3 : a1 = true
  · subst c3
    have H1 : (some (a0, 0)) = some (r1, r2) := by rw [if_pos rfl] at H; exact H
    clear H
    have H := H1
    clear H1
    simp only [Option.some.injEq, Prod.mk.injEq] at H
    obtain ⟨rfl, rfl⟩ := H
    go_enter Try.func118, Try.ntmps118
    go_wp2
    go_ret2
    exact ⟨by first | rfl | (simp; done) | (simp [*]; done), by repeat (first | exact Drawn0.refl _ | apply Drawn0.step)⟩
  · replace c3 := Bool.eq_false_iff.mpr c3
    subst c3
    have H1 : (some (0, 3)) = some (r1, r2) := by rw [if_neg (show ¬ (false = true) by decide)] at H; exact H
    clear H
    have H := H1
    clear H1
    simp only [Option.some.injEq, Prod.mk.injEq] at H
    obtain ⟨rfl, rfl⟩ := H
    go_enter Try.func118, Try.ntmps118
    go_wp2
    go_ret2
    exact ⟨by first | rfl | (simp; done) | (simp [*]; done), by repeat (first | exact Drawn0.refl _ | apply Drawn0.step)⟩

/-! ### impl_degreesOk: function 131 -/
def impl_degreesOk.f (a0 : Int) : Option (Bool) := (impl_within.f a0 (-5000) 20000).bind fun t245 => (some t245)
set_option maxHeartbeats 8000000 in
set_option maxRecDepth 100000 in
theorem impl_degreesOk.calls (a0 : Int) (r : Bool) (w : World) (h : impl_degreesOk.f a0 = some r) :
    Calls Try.prog 131 #[.int .i64 a0] w fun e w' => e = .returned (.bool r) ∧ Drawn0 w w' := by
  have H : ((impl_within.f a0 (-5000) 20000).bind fun t245 => (some t245)) = some r := h
  clear h
  replace H := Option.bind_eq_some_iff.mp H
  obtain ⟨t245, A20, H⟩ := H
  replace H : (some t245) = some r := H
  have A2 := Aside0.mk A20
  clear A20
  obtain rfl := Option.some.inj H
  go_enter Try.func131, Try.ntmps131
  go_wp2_with (first | ((with_reducible refine gate_callee (f := 100) rfl ?_); refine goesL_ (some 4) rfl rfl Try.func100 (by kernel_rfl) rfl #[.int .i64 a0, .int .i64 (-5000), .int .i64 20000] rfl (by (try simp only [List.map_toArray, List.map_cons, List.map_nil]); first | done | rfl | (simp only [List.length_drop, List.length_take]; rfl)) ?_; (with_reducible refine (impl_within.calls a0 (-5000) 20000 t245 _ A2.out).mono ?_); rintro e w' ⟨rfl, ⟨nd, rfl⟩⟩; refine ⟨_, rfl, ?_⟩))
  go_ret
  exact ⟨by first | rfl | (simp; done) | (simp [*]; done), by repeat (first | exact Drawn0.refl _ | apply Drawn0.step)⟩

/-! ### impl_divUp: function 132 -/
def impl_divUp.f (a0 : Int) (a1 : Int) : Option (Int) := if a1 = 0 then (none) else (some (wrap64 (Int.tdiv (wrap64 ((wrap64 (a0 + a1)) - 1)) a1)))
set_option maxHeartbeats 8000000 in
set_option maxRecDepth 100000 in
theorem impl_divUp.calls (a0 : Int) (a1 : Int) (r : Int) (w : World) (h : impl_divUp.f a0 a1 = some r) :
    Calls Try.prog 132 #[.int .i64 a0, .int .i64 a1] w fun e w' => e = .returned (.int .i64 r) ∧ Drawn0 w w' := by
  have H : (if a1 = 0 then (none) else (some (wrap64 (Int.tdiv (wrap64 ((wrap64 (a0 + a1)) - 1)) a1)))) = some r := h
  clear h
  by_cases c3 : a1 = 0
  · rw [if_pos c3] at H
    exact absurd H (by simp)
  · rw [if_neg c3] at H
    have c3b0 : (a1 == 0) = false := beq_eq_false_iff_ne.mpr c3
    have c3b1 : (a1 != 0) = true := bne_iff_ne.mpr c3
    obtain rfl := Option.some.inj H
    go_enter Try.func132, Try.ntmps132
    go_wp2
    go_ret
    exact ⟨by first | rfl | (simp; done) | (simp [*]; done), by repeat (first | exact Drawn0.refl _ | apply Drawn0.step)⟩

/-! ### impl_WaterFor: function 60 -/
def impl_WaterFor.j0 : Nat → Int → Int → Int → Bool → Option (Int × Int)
  | 0, _, _, _, _ => none
  | k + 1, x0, x1, x2, x9 => if x9 = true then (some (0, 2)) else (if x1 ≤ x2 then (some (0, 6)) else ((impl_divUp.f (wrap64 (x0 * 100000)) (wrap64 (4186 * (wrap64 (x1 - x2))))).bind fun t249 => ((impl_orNotFound.f t249 (decide (t249 ≤ 100000))).bind fun bt250 => (some (bt250.1, bt250.2)))))
def impl_WaterFor.f (k : Nat) (a0 : Int) (a1 : Int) (a2 : Int) : Option (Int × Int) := (impl_within.f a0 0 100000000).bind fun t246 => (if t246 = true then ((impl_degreesOk.f a1).bind fun t247 => (if t247 = true then ((impl_degreesOk.f a2).bind fun t248 => (impl_WaterFor.j0 k a0 a1 a2 (!t248))) else (impl_WaterFor.j0 k a0 a1 a2 true))) else (impl_WaterFor.j0 k a0 a1 a2 true))
theorem impl_WaterFor.mono_l : ∀ k, (∀ y0 y1 y2 y3, LeO (impl_WaterFor.j0 k y0 y1 y2 y3) (impl_WaterFor.j0 (k + 1) y0 y1 y2 y3))
  | 0 => fun _ _ _ _ r h => by simp [impl_WaterFor.j0] at h
  | k + 1 => by
    have ih0 := impl_WaterFor.mono_l k
    · intro y0 y1 y2 y3
      unfold impl_WaterFor.j0
      repeat' first
      | (with_reducible exact ih0 _ _ _ _)
      | (with_reducible exact LeO.refl _)
      | (with_reducible exact LeO.none _)
      | (with_reducible refine LeO.ite ?_ ?_)
      | (with_reducible refine LeO.bind ?_ (fun _ => ?_))
      | exact ih0 _ _ _ _
      | exact LeO.none _
      | refine LeO.ite ?_ ?_
      | refine LeO.bind ?_ (fun _ => ?_)
theorem impl_WaterFor.mono : ∀ a0 a1 a2 k, LeO (impl_WaterFor.f k a0 a1 a2) (impl_WaterFor.f (k + 1) a0 a1 a2) := by
  intro a0 a1 a2 k
  have ih0 := impl_WaterFor.mono_l k
  unfold impl_WaterFor.f
  repeat' first
      | (with_reducible exact ih0 _ _ _ _)
      | (with_reducible exact LeO.refl _)
      | (with_reducible exact LeO.none _)
      | (with_reducible refine LeO.ite ?_ ?_)
      | (with_reducible refine LeO.bind ?_ (fun _ => ?_))
      | exact ih0 _ _ _ _
      | exact LeO.none _
      | refine LeO.ite ?_ ?_
      | refine LeO.bind ?_ (fun _ => ?_)
set_option maxHeartbeats 8000000 in
set_option maxRecDepth 100000 in
theorem impl_WaterFor.calls (k : Nat) (a0 : Int) (a1 : Int) (a2 : Int) (r1 : Int) (r2 : Int) (w : World) (h : impl_WaterFor.f k a0 a1 a2 = some (r1, r2)) :
    Calls Try.prog 60 #[.int .i64 a0, .int .i64 a1, .int .i64 a2] w fun e w' => e = .returned (.tuple #[.int .i64 r1, .int .i64 r2]) ∧ Drawn0 w w' := by
  have H : ((impl_within.f a0 0 100000000).bind fun t246 => (if t246 = true then ((impl_degreesOk.f a1).bind fun t247 => (if t247 = true then ((impl_degreesOk.f a2).bind fun t248 => (impl_WaterFor.j0 k a0 a1 a2 (!t248))) else (impl_WaterFor.j0 k a0 a1 a2 true))) else (impl_WaterFor.j0 k a0 a1 a2 true))) = some (r1, r2) := h
  clear h
  have HC4 := Aside0.mk H
  clear H
  go_enter Try.func60, Try.ntmps60
  go_upto_region 1 with (fail)
  go_cut [9] (fun v9 wc => ∃ (kq : Nat) (x9_3 : Bool), v9 = .bool x9_3 ∧ Aside0 (impl_WaterFor.j0 kq a0 a1 a2 x9_3 = some (r1, r2)) ∧ Aside0 (kq ≤ k) ∧ Drawn0 w wc)
  case first =>
    have H := HC4.out
    clear HC4
    replace H := Option.bind_eq_some_iff.mp H
    obtain ⟨t246, A50, H⟩ := H
    replace H : (if t246 = true then ((impl_degreesOk.f a1).bind fun t247 => (if t247 = true then ((impl_degreesOk.f a2).bind fun t248 => (impl_WaterFor.j0 k a0 a1 a2 (!t248))) else (impl_WaterFor.j0 k a0 a1 a2 true))) else (impl_WaterFor.j0 k a0 a1 a2 true)) = some (r1, r2) := H
    have A5 := Aside0.mk A50
    clear A50
    by_cases c6 : t246 = true
    · subst c6
      have H1 : ((impl_degreesOk.f a1).bind fun t247 => (if t247 = true then ((impl_degreesOk.f a2).bind fun t248 => (impl_WaterFor.j0 k a0 a1 a2 (!t248))) else (impl_WaterFor.j0 k a0 a1 a2 true))) = some (r1, r2) := by rw [if_pos rfl] at H; exact H
      clear H
      have H := H1
      clear H1
      replace H := Option.bind_eq_some_iff.mp H
      obtain ⟨t247, A70, H⟩ := H
      replace H : (if t247 = true then ((impl_degreesOk.f a2).bind fun t248 => (impl_WaterFor.j0 k a0 a1 a2 (!t248))) else (impl_WaterFor.j0 k a0 a1 a2 true)) = some (r1, r2) := H
      have A7 := Aside0.mk A70
      clear A70
      by_cases c8 : t247 = true
      · subst c8
        have H1 : ((impl_degreesOk.f a2).bind fun t248 => (impl_WaterFor.j0 k a0 a1 a2 (!t248))) = some (r1, r2) := by rw [if_pos rfl] at H; exact H
        clear H
        have H := H1
        clear H1
        replace H := Option.bind_eq_some_iff.mp H
        obtain ⟨t248, A90, H⟩ := H
        replace H : (impl_WaterFor.j0 k a0 a1 a2 (!t248)) = some (r1, r2) := H
        have A9 := Aside0.mk A90
        clear A90
        have H' := Aside0.mk H
        clear H
        go_wp2_with (first | ((with_reducible refine gate_callee (f := 100) rfl ?_); refine goesL_ (some 11) rfl rfl Try.func100 (by kernel_rfl) rfl #[.int .i64 a0, .int .i64 0, .int .i64 100000000] rfl (by (try simp only [List.map_toArray, List.map_cons, List.map_nil]); first | done | rfl | (simp only [List.length_drop, List.length_take]; rfl)) ?_; (with_reducible refine (impl_within.calls a0 0 100000000 true _ A5.out).mono ?_); rintro e w' ⟨rfl, ⟨nd, rfl⟩⟩; refine ⟨_, rfl, ?_⟩) | (go_at_call 131; (first | (with_reducible refine (impl_degreesOk.calls a1 true _ A7.out).mono ?_) | ((try simp only [Go.IntWalk.i64_left]); (with_reducible refine (impl_degreesOk.calls a1 true _ A7.out).mono ?_))); rintro e w' ⟨rfl, ⟨nd, rfl⟩⟩) | (go_at_call 131; (first | (with_reducible refine (impl_degreesOk.calls a2 t248 _ A9.out).mono ?_) | ((try simp only [Go.IntWalk.i64_left]); (with_reducible refine (impl_degreesOk.calls a2 t248 _ A9.out).mono ?_))); rintro e w' ⟨rfl, ⟨nd, rfl⟩⟩))
        go_meet
        case rel => exact ⟨_, (!t248), (by first | rfl | (simp; done) | (simp [*]; done)), H', ⟨by first | omega | exact Nat.le_refl _⟩, by repeat (first | exact Drawn0.refl _ | apply Drawn0.step)⟩
      · replace c8 := Bool.eq_false_iff.mpr c8
        subst c8
        have H1 : (impl_WaterFor.j0 k a0 a1 a2 true) = some (r1, r2) := by rw [if_neg (show ¬ (false = true) by decide)] at H; exact H
        clear H
        have H := H1
        clear H1
        have H' := Aside0.mk H
        clear H
        go_wp2_with (first | ((with_reducible refine gate_callee (f := 100) rfl ?_); refine goesL_ (some 11) rfl rfl Try.func100 (by kernel_rfl) rfl #[.int .i64 a0, .int .i64 0, .int .i64 100000000] rfl (by (try simp only [List.map_toArray, List.map_cons, List.map_nil]); first | done | rfl | (simp only [List.length_drop, List.length_take]; rfl)) ?_; (with_reducible refine (impl_within.calls a0 0 100000000 true _ A5.out).mono ?_); rintro e w' ⟨rfl, ⟨nd, rfl⟩⟩; refine ⟨_, rfl, ?_⟩) | (go_at_call 131; (first | (with_reducible refine (impl_degreesOk.calls a1 false _ A7.out).mono ?_) | ((try simp only [Go.IntWalk.i64_left]); (with_reducible refine (impl_degreesOk.calls a1 false _ A7.out).mono ?_))); rintro e w' ⟨rfl, ⟨nd, rfl⟩⟩))
        go_meet
        case rel => exact ⟨_, (true), (by first | rfl | (simp; done) | (simp [*]; done)), H', ⟨by first | omega | exact Nat.le_refl _⟩, by repeat (first | exact Drawn0.refl _ | apply Drawn0.step)⟩
    · replace c6 := Bool.eq_false_iff.mpr c6
      subst c6
      have H1 : (impl_WaterFor.j0 k a0 a1 a2 true) = some (r1, r2) := by rw [if_neg (show ¬ (false = true) by decide)] at H; exact H
      clear H
      have H := H1
      clear H1
      have H' := Aside0.mk H
      clear H
      go_wp2_with (first | ((with_reducible refine gate_callee (f := 100) rfl ?_); refine goesL_ (some 11) rfl rfl Try.func100 (by kernel_rfl) rfl #[.int .i64 a0, .int .i64 0, .int .i64 100000000] rfl (by (try simp only [List.map_toArray, List.map_cons, List.map_nil]); first | done | rfl | (simp only [List.length_drop, List.length_take]; rfl)) ?_; (with_reducible refine (impl_within.calls a0 0 100000000 false _ A5.out).mono ?_); rintro e w' ⟨rfl, ⟨nd, rfl⟩⟩; refine ⟨_, rfl, ?_⟩))
      go_meet
      case rel => exact ⟨_, (true), (by first | rfl | (simp; done) | (simp [*]; done)), H', ⟨by first | omega | exact Nat.le_refl _⟩, by repeat (first | exact Drawn0.refl _ | apply Drawn0.step)⟩
  case rest =>
    clear HC4
    try clear c1
    try clear p2
    try clear c6
    try clear c8
    obtain ⟨kq, x9_3, rfl, HA, HJ3, ⟨mc3, rfl⟩⟩ := hcut
    cases kq with
    | zero => exact absurd HA.out (by simp [impl_WaterFor.j0])
    | succ kj3 =>
      have H := HA.out
      clear HA
      simp only [impl_WaterFor.j0] at H
      by_cases c10 : x9_3 = true
      · subst c10
        have H1 : (some (0, 2)) = some (r1, r2) := by rw [if_pos rfl] at H; exact H
        clear H
        have H := H1
        clear H1
        simp only [Option.some.injEq, Prod.mk.injEq] at H
        obtain ⟨rfl, rfl⟩ := H
        go_wp2
        go_ret2
        exact ⟨by first | rfl | (simp; done) | (simp [*]; done), by repeat (first | exact Drawn0.refl _ | apply Drawn0.step)⟩
      · replace c10 := Bool.eq_false_iff.mpr c10
        subst c10
        have H1 : (if a1 ≤ a2 then (some (0, 6)) else ((impl_divUp.f (wrap64 (a0 * 100000)) (wrap64 (4186 * (wrap64 (a1 - a2))))).bind fun t249 => ((impl_orNotFound.f t249 (decide (t249 ≤ 100000))).bind fun bt250 => (some (bt250.1, bt250.2))))) = some (r1, r2) := by rw [if_neg (show ¬ (false = true) by decide)] at H; exact H
        clear H
        have H := H1
        clear H1
        by_cases c11 : a1 ≤ a2
        · rw [if_pos c11] at H
          have c11b0 : decide (a1 ≤ a2) = true := decide_eq_true c11
          clear c11
          simp only [Option.some.injEq, Prod.mk.injEq] at H
          obtain ⟨rfl, rfl⟩ := H
          go_wp2
          go_ret2
          exact ⟨by first | rfl | (simp; done) | (simp [*]; done), by repeat (first | exact Drawn0.refl _ | apply Drawn0.step)⟩
        · rw [if_neg c11] at H
          have c11b0 : decide (a1 ≤ a2) = false := decide_eq_false c11
          clear c11
          replace H := Option.bind_eq_some_iff.mp H
          obtain ⟨t249, A120, H⟩ := H
          replace H : ((impl_orNotFound.f t249 (decide (t249 ≤ 100000))).bind fun bt250 => (some (bt250.1, bt250.2))) = some (r1, r2) := H
          have A12 := Aside0.mk A120
          clear A120
          replace H := Option.bind_eq_some_iff.mp H
          obtain ⟨⟨t250, t251⟩, A130, H⟩ := H
          replace H : (some (t250, t251)) = some (r1, r2) := H
          have A13 := Aside0.mk A130
          clear A130
          simp only [Option.some.injEq, Prod.mk.injEq] at H
          obtain ⟨rfl, rfl⟩ := H
          go_wp2_with (first | ((with_reducible refine gate_callee (f := 132) rfl ?_); refine goesL_ (some 33) rfl rfl Try.func132 (by kernel_rfl) rfl #[.int .i64 (wrap64 (a0 * 100000)), .int .i64 (wrap64 (4186 * (wrap64 (a1 - a2))))] rfl (by (try simp only [List.map_toArray, List.map_cons, List.map_nil]); first | done | rfl | (simp only [List.length_drop, List.length_take]; rfl)) ?_; (with_reducible refine (impl_divUp.calls (wrap64 (a0 * 100000)) (wrap64 (4186 * (wrap64 (a1 - a2)))) t249 _ A12.out).mono ?_); rintro e w' ⟨rfl, ⟨nd, rfl⟩⟩; refine ⟨_, rfl, ?_⟩) | ((with_reducible refine gate_callee (f := 118) rfl ?_); refine goesL_ (some 37) rfl rfl Try.func118 (by kernel_rfl) rfl #[.int .i64 t249, .bool (decide (t249 ≤ 100000))] rfl (by (try simp only [List.map_toArray, List.map_cons, List.map_nil]); first | done | rfl | (simp only [List.length_drop, List.length_take]; rfl)) ?_; (with_reducible refine (impl_orNotFound.calls t249 (decide (t249 ≤ 100000)) t250 t251 _ A13.out).mono ?_); rintro e w' ⟨rfl, ⟨nd, rfl⟩⟩; refine ⟨_, rfl, ?_⟩))
          go_ret2
          exact ⟨by first | rfl | (simp; done) | (simp [*]; done), by repeat (first | exact Drawn0.refl _ | apply Drawn0.step)⟩

/-! ### impl_flowOk: function 133 -/
def impl_flowOk.f (a0 : Int) : Option (Bool) := (impl_within.f a0 (-100000) 100000).bind fun t252 => (some t252)
set_option maxHeartbeats 8000000 in
set_option maxRecDepth 100000 in
theorem impl_flowOk.calls (a0 : Int) (r : Bool) (w : World) (h : impl_flowOk.f a0 = some r) :
    Calls Try.prog 133 #[.int .i64 a0] w fun e w' => e = .returned (.bool r) ∧ Drawn0 w w' := by
  have H : ((impl_within.f a0 (-100000) 100000).bind fun t252 => (some t252)) = some r := h
  clear h
  replace H := Option.bind_eq_some_iff.mp H
  obtain ⟨t252, A20, H⟩ := H
  replace H : (some t252) = some r := H
  have A2 := Aside0.mk A20
  clear A20
  obtain rfl := Option.some.inj H
  go_enter Try.func133, Try.ntmps133
  go_wp2_with (first | ((with_reducible refine gate_callee (f := 100) rfl ?_); refine goesL_ (some 4) rfl rfl Try.func100 (by kernel_rfl) rfl #[.int .i64 a0, .int .i64 (-100000), .int .i64 100000] rfl (by (try simp only [List.map_toArray, List.map_cons, List.map_nil]); first | done | rfl | (simp only [List.length_drop, List.length_take]; rfl)) ?_; (with_reducible refine (impl_within.calls a0 (-100000) 100000 t252 _ A2.out).mono ?_); rintro e w' ⟨rfl, ⟨nd, rfl⟩⟩; refine ⟨_, rfl, ?_⟩))
  go_ret
  exact ⟨by first | rfl | (simp; done) | (simp [*]; done), by repeat (first | exact Drawn0.refl _ | apply Drawn0.step)⟩

/-! ### impl_HeatFlow: function 61 -/
def impl_HeatFlow.f (a0 : Int) (a1 : Int) (a2 : Int) : Option (Int × Int) := (impl_flowOk.f a0).bind fun t253 => (if t253 = true then ((impl_degreesOk.f a1).bind fun t254 => (if t254 = true then ((impl_degreesOk.f a2).bind fun t255 => (if t255 = true then ((impl_divRound.f (wrap64 ((wrap64 (4186 * a0)) * (wrap64 (a1 - a2)))) 100000).bind fun t256 => (some (t256, 0))) else (some (0, 2)))) else (some (0, 2)))) else (some (0, 2)))
set_option maxHeartbeats 8000000 in
set_option maxRecDepth 100000 in
theorem impl_HeatFlow.calls (a0 : Int) (a1 : Int) (a2 : Int) (r1 : Int) (r2 : Int) (w : World) (h : impl_HeatFlow.f a0 a1 a2 = some (r1, r2)) :
    Calls Try.prog 61 #[.int .i64 a0, .int .i64 a1, .int .i64 a2] w fun e w' => e = .returned (.tuple #[.int .i64 r1, .int .i64 r2]) ∧ Below w.heap.size w w' := by
  have HB := Aside0.mk (Below.refl w.heap.size w)
  have H : ((impl_flowOk.f a0).bind fun t253 => (if t253 = true then ((impl_degreesOk.f a1).bind fun t254 => (if t254 = true then ((impl_degreesOk.f a2).bind fun t255 => (if t255 = true then ((impl_divRound.f (wrap64 ((wrap64 (4186 * a0)) * (wrap64 (a1 - a2)))) 100000).bind fun t256 => (some (t256, 0))) else (some (0, 2)))) else (some (0, 2)))) else (some (0, 2)))) = some (r1, r2) := h
  clear h
  replace H := Option.bind_eq_some_iff.mp H
  obtain ⟨t253, A40, H⟩ := H
  replace H : (if t253 = true then ((impl_degreesOk.f a1).bind fun t254 => (if t254 = true then ((impl_degreesOk.f a2).bind fun t255 => (if t255 = true then ((impl_divRound.f (wrap64 ((wrap64 (4186 * a0)) * (wrap64 (a1 - a2)))) 100000).bind fun t256 => (some (t256, 0))) else (some (0, 2)))) else (some (0, 2)))) else (some (0, 2))) = some (r1, r2) := H
  have A4 := Aside0.mk A40
  clear A40
  by_cases c5 : t253 = true
  · subst c5
    have H1 : ((impl_degreesOk.f a1).bind fun t254 => (if t254 = true then ((impl_degreesOk.f a2).bind fun t255 => (if t255 = true then ((impl_divRound.f (wrap64 ((wrap64 (4186 * a0)) * (wrap64 (a1 - a2)))) 100000).bind fun t256 => (some (t256, 0))) else (some (0, 2)))) else (some (0, 2)))) = some (r1, r2) := by rw [if_pos rfl] at H; exact H
    clear H
    have H := H1
    clear H1
    replace H := Option.bind_eq_some_iff.mp H
    obtain ⟨t254, A60, H⟩ := H
    replace H : (if t254 = true then ((impl_degreesOk.f a2).bind fun t255 => (if t255 = true then ((impl_divRound.f (wrap64 ((wrap64 (4186 * a0)) * (wrap64 (a1 - a2)))) 100000).bind fun t256 => (some (t256, 0))) else (some (0, 2)))) else (some (0, 2))) = some (r1, r2) := H
    have A6 := Aside0.mk A60
    clear A60
    by_cases c7 : t254 = true
    · subst c7
      have H1 : ((impl_degreesOk.f a2).bind fun t255 => (if t255 = true then ((impl_divRound.f (wrap64 ((wrap64 (4186 * a0)) * (wrap64 (a1 - a2)))) 100000).bind fun t256 => (some (t256, 0))) else (some (0, 2)))) = some (r1, r2) := by rw [if_pos rfl] at H; exact H
      clear H
      have H := H1
      clear H1
      replace H := Option.bind_eq_some_iff.mp H
      obtain ⟨t255, A80, H⟩ := H
      replace H : (if t255 = true then ((impl_divRound.f (wrap64 ((wrap64 (4186 * a0)) * (wrap64 (a1 - a2)))) 100000).bind fun t256 => (some (t256, 0))) else (some (0, 2))) = some (r1, r2) := H
      have A8 := Aside0.mk A80
      clear A80
      by_cases c9 : t255 = true
      · subst c9
        have H1 : ((impl_divRound.f (wrap64 ((wrap64 (4186 * a0)) * (wrap64 (a1 - a2)))) 100000).bind fun t256 => (some (t256, 0))) = some (r1, r2) := by rw [if_pos rfl] at H; exact H
        clear H
        have H := H1
        clear H1
        replace H := Option.bind_eq_some_iff.mp H
        obtain ⟨t256, A100, H⟩ := H
        replace H : (some (t256, 0)) = some (r1, r2) := H
        have A10 := Aside0.mk A100
        clear A100
        simp only [Option.some.injEq, Prod.mk.injEq] at H
        obtain ⟨rfl, rfl⟩ := H
        go_enter Try.func61, Try.ntmps61
        go_wp2_with (first | ((with_reducible refine gate_callee (f := 133) rfl ?_); refine goesL_ (some 9) rfl rfl Try.func133 (by kernel_rfl) rfl #[.int .i64 a0] rfl (by (try simp only [List.map_toArray, List.map_cons, List.map_nil]); first | done | rfl | (simp only [List.length_drop, List.length_take]; rfl)) ?_; (with_reducible refine (impl_flowOk.calls a0 true _ A4.out).mono ?_); rintro e w' ⟨rfl, ⟨nd, rfl⟩⟩; refine ⟨_, rfl, ?_⟩) | (go_at_call 131; (first | (with_reducible refine (impl_degreesOk.calls a1 true _ A6.out).mono ?_) | ((try simp only [Go.IntWalk.i64_left]); (with_reducible refine (impl_degreesOk.calls a1 true _ A6.out).mono ?_))); rintro e w' ⟨rfl, ⟨nd, rfl⟩⟩) | (go_at_call 131; (first | (with_reducible refine (impl_degreesOk.calls a2 true _ A8.out).mono ?_) | ((try simp only [Go.IntWalk.i64_left]); (with_reducible refine (impl_degreesOk.calls a2 true _ A8.out).mono ?_))); rintro e w' ⟨rfl, ⟨nd, rfl⟩⟩) | ((with_reducible refine gate_callee (f := 102) rfl ?_); refine goesL_ (some 27) rfl rfl Try.func102 (by kernel_rfl) rfl #[.int .i64 (wrap64 ((wrap64 (4186 * a0)) * (wrap64 (a1 - a2)))), .int .i64 100000] rfl (by (try simp only [List.map_toArray, List.map_cons, List.map_nil]); first | done | rfl | (simp only [List.length_drop, List.length_take]; rfl)) ?_; (with_reducible refine (impl_divRound.calls (wrap64 ((wrap64 (4186 * a0)) * (wrap64 (a1 - a2)))) 100000 t256 _ A10.out).mono ?_); rintro e w11 ⟨rfl, hb⟩; refine ⟨_, rfl, ?_⟩; have n0_ := Aside0.mk (below_step (by repeat (first | (with_reducible first | exact HB.out | apply below_alloc | apply pw_below_drewN | apply below_drew1) | exact HB.out)) hb); clear HB; have HB := n0_; clear n0_; (try clear hb); (try clear hb2); (try clear hk); (try clear hi)))
        go_ret2
        exact ⟨by first | rfl | (simp [errW_none, errW_some] <;> rfl) | (simp [*, errW_none, errW_some] <;> rfl), by repeat (first | (with_reducible first | exact HB.out | apply below_alloc | apply pw_below_drewN | apply below_drew1) | exact HB.out)⟩
      · replace c9 := Bool.eq_false_iff.mpr c9
        subst c9
        have H1 : (some (0, 2)) = some (r1, r2) := by rw [if_neg (show ¬ (false = true) by decide)] at H; exact H
        clear H
        have H := H1
        clear H1
        simp only [Option.some.injEq, Prod.mk.injEq] at H
        obtain ⟨rfl, rfl⟩ := H
        go_enter Try.func61, Try.ntmps61
        go_wp2_with (first | ((with_reducible refine gate_callee (f := 133) rfl ?_); refine goesL_ (some 9) rfl rfl Try.func133 (by kernel_rfl) rfl #[.int .i64 a0] rfl (by (try simp only [List.map_toArray, List.map_cons, List.map_nil]); first | done | rfl | (simp only [List.length_drop, List.length_take]; rfl)) ?_; (with_reducible refine (impl_flowOk.calls a0 true _ A4.out).mono ?_); rintro e w' ⟨rfl, ⟨nd, rfl⟩⟩; refine ⟨_, rfl, ?_⟩) | (go_at_call 131; (first | (with_reducible refine (impl_degreesOk.calls a1 true _ A6.out).mono ?_) | ((try simp only [Go.IntWalk.i64_left]); (with_reducible refine (impl_degreesOk.calls a1 true _ A6.out).mono ?_))); rintro e w' ⟨rfl, ⟨nd, rfl⟩⟩) | (go_at_call 131; (first | (with_reducible refine (impl_degreesOk.calls a2 false _ A8.out).mono ?_) | ((try simp only [Go.IntWalk.i64_left]); (with_reducible refine (impl_degreesOk.calls a2 false _ A8.out).mono ?_))); rintro e w' ⟨rfl, ⟨nd, rfl⟩⟩))
        go_ret2
        exact ⟨by first | rfl | (simp [errW_none, errW_some] <;> rfl) | (simp [*, errW_none, errW_some] <;> rfl), by repeat (first | (with_reducible first | exact HB.out | apply below_alloc | apply pw_below_drewN | apply below_drew1) | exact HB.out)⟩
    · replace c7 := Bool.eq_false_iff.mpr c7
      subst c7
      have H1 : (some (0, 2)) = some (r1, r2) := by rw [if_neg (show ¬ (false = true) by decide)] at H; exact H
      clear H
      have H := H1
      clear H1
      simp only [Option.some.injEq, Prod.mk.injEq] at H
      obtain ⟨rfl, rfl⟩ := H
      go_enter Try.func61, Try.ntmps61
      go_wp2_with (first | ((with_reducible refine gate_callee (f := 133) rfl ?_); refine goesL_ (some 9) rfl rfl Try.func133 (by kernel_rfl) rfl #[.int .i64 a0] rfl (by (try simp only [List.map_toArray, List.map_cons, List.map_nil]); first | done | rfl | (simp only [List.length_drop, List.length_take]; rfl)) ?_; (with_reducible refine (impl_flowOk.calls a0 true _ A4.out).mono ?_); rintro e w' ⟨rfl, ⟨nd, rfl⟩⟩; refine ⟨_, rfl, ?_⟩) | (go_at_call 131; (first | (with_reducible refine (impl_degreesOk.calls a1 false _ A6.out).mono ?_) | ((try simp only [Go.IntWalk.i64_left]); (with_reducible refine (impl_degreesOk.calls a1 false _ A6.out).mono ?_))); rintro e w' ⟨rfl, ⟨nd, rfl⟩⟩))
      go_ret2
      exact ⟨by first | rfl | (simp [errW_none, errW_some] <;> rfl) | (simp [*, errW_none, errW_some] <;> rfl), by repeat (first | (with_reducible first | exact HB.out | apply below_alloc | apply pw_below_drewN | apply below_drew1) | exact HB.out)⟩
  · replace c5 := Bool.eq_false_iff.mpr c5
    subst c5
    have H1 : (some (0, 2)) = some (r1, r2) := by rw [if_neg (show ¬ (false = true) by decide)] at H; exact H
    clear H
    have H := H1
    clear H1
    simp only [Option.some.injEq, Prod.mk.injEq] at H
    obtain ⟨rfl, rfl⟩ := H
    go_enter Try.func61, Try.ntmps61
    go_wp2_with (first | ((with_reducible refine gate_callee (f := 133) rfl ?_); refine goesL_ (some 9) rfl rfl Try.func133 (by kernel_rfl) rfl #[.int .i64 a0] rfl (by (try simp only [List.map_toArray, List.map_cons, List.map_nil]); first | done | rfl | (simp only [List.length_drop, List.length_take]; rfl)) ?_; (with_reducible refine (impl_flowOk.calls a0 false _ A4.out).mono ?_); rintro e w' ⟨rfl, ⟨nd, rfl⟩⟩; refine ⟨_, rfl, ?_⟩))
    go_ret2
    exact ⟨by first | rfl | (simp [errW_none, errW_some] <;> rfl) | (simp [*, errW_none, errW_some] <;> rfl), by repeat (first | (with_reducible first | exact HB.out | apply below_alloc | apply pw_below_drewN | apply below_drew1) | exact HB.out)⟩

/-! ### impl_hourOk: function 134 -/
def impl_hourOk.f (a0 : Int) : Option (Bool) := (impl_within.f a0 0 23).bind fun t257 => (some t257)
set_option maxHeartbeats 8000000 in
set_option maxRecDepth 100000 in
theorem impl_hourOk.calls (a0 : Int) (r : Bool) (w : World) (h : impl_hourOk.f a0 = some r) :
    Calls Try.prog 134 #[.int .i64 a0] w fun e w' => e = .returned (.bool r) ∧ Drawn0 w w' := by
  have H : ((impl_within.f a0 0 23).bind fun t257 => (some t257)) = some r := h
  clear h
  replace H := Option.bind_eq_some_iff.mp H
  obtain ⟨t257, A20, H⟩ := H
  replace H : (some t257) = some r := H
  have A2 := Aside0.mk A20
  clear A20
  obtain rfl := Option.some.inj H
  go_enter Try.func134, Try.ntmps134
  go_wp2_with (first | ((with_reducible refine gate_callee (f := 100) rfl ?_); refine goesL_ (some 4) rfl rfl Try.func100 (by kernel_rfl) rfl #[.int .i64 a0, .int .i64 0, .int .i64 23] rfl (by (try simp only [List.map_toArray, List.map_cons, List.map_nil]); first | done | rfl | (simp only [List.length_drop, List.length_take]; rfl)) ?_; (with_reducible refine (impl_within.calls a0 0 23 t257 _ A2.out).mono ?_); rintro e w' ⟨rfl, ⟨nd, rfl⟩⟩; refine ⟨_, rfl, ?_⟩))
  go_ret
  exact ⟨by first | rfl | (simp; done) | (simp [*]; done), by repeat (first | exact Drawn0.refl _ | apply Drawn0.step)⟩

/-! ### impl_OutdoorFor_1: function 136 -/
def impl_OutdoorFor_1.l0 : Nat → Int → Int → List (S94) → Int → Int → Int → Int → Option (Bool)
  | 0, _, _, _, _, _, _, _ => none
  | k + 1, x0, x6, x9, x10, x11, x900003000, x900004000 => if x11 < x10 then (if 0 ≤ x11 then (if x11 < (x9.length : Int) then ((impl_Building_load.f ((rd_T94 x9 x11).f0) ((rd_T94 x9 x11).f1) ((rd_T94 x9 x11).f2) ((rd_T94 x9 x11).f3) ((rd_T94 x9 x11).f4) ((rd_T94 x9 x11).f5) (wrap64 (-x0)) x900003000).bind fun t260 => (impl_OutdoorFor_1.l0 k x0 (wrap64 (x6 + t260)) x9 x10 (wrap64 (x11 + 1)) x900003000 x900004000)) else (none)) else (none)) else (some (decide (x6 ≥ x900004000)))
def impl_OutdoorFor_1.f (k : Nat) (a0 : Int) (l1_0 : List (S94)) (a2_0 : Int) (a3_0 : Int) : Option (Bool) := impl_OutdoorFor_1.l0 k a0 0 l1_0 (l1_0.length : Int) 0 a2_0 a3_0
theorem impl_OutdoorFor_1.mono_l : ∀ k, (∀ y0 y1 y2 y3 y4 y5 y6, LeO (impl_OutdoorFor_1.l0 k y0 y1 y2 y3 y4 y5 y6) (impl_OutdoorFor_1.l0 (k + 1) y0 y1 y2 y3 y4 y5 y6))
  | 0 => fun _ _ _ _ _ _ _ r h => by simp [impl_OutdoorFor_1.l0] at h
  | k + 1 => by
    have ih0 := impl_OutdoorFor_1.mono_l k
    · intro y0 y1 y2 y3 y4 y5 y6
      unfold impl_OutdoorFor_1.l0
      repeat' first
      | (with_reducible exact ih0 _ _ _ _ _ _ _)
      | (with_reducible exact LeO.refl _)
      | (with_reducible exact LeO.none _)
      | (with_reducible refine LeO.ite ?_ ?_)
      | (with_reducible refine LeO.bind ?_ (fun _ => ?_))
      | exact ih0 _ _ _ _ _ _ _
      | exact LeO.none _
      | refine LeO.ite ?_ ?_
      | refine LeO.bind ?_ (fun _ => ?_)
theorem impl_OutdoorFor_1.mono : ∀ a0 a1 a2 a3 k, LeO (impl_OutdoorFor_1.f k a0 a1 a2 a3) (impl_OutdoorFor_1.f (k + 1) a0 a1 a2 a3) := by
  intro a0 a1 a2 a3 k
  have ih0 := impl_OutdoorFor_1.mono_l k
  unfold impl_OutdoorFor_1.f
  repeat' first
      | (with_reducible exact ih0 _ _ _ _ _ _ _)
      | (with_reducible exact LeO.refl _)
      | (with_reducible exact LeO.none _)
      | (with_reducible refine LeO.ite ?_ ?_)
      | (with_reducible refine LeO.bind ?_ (fun _ => ?_))
      | exact ih0 _ _ _ _ _ _ _
      | exact LeO.none _
      | refine LeO.ite ?_ ?_
      | refine LeO.bind ?_ (fun _ => ?_)
set_option maxHeartbeats 8000000 in
set_option maxRecDepth 100000 in
theorem impl_OutdoorFor_1.calls (k : Nat) (a0 : Int) (ad1 : Addr) (A1_0 : Option Addr) (c1_0 : Nat) (l1_0 : List (S94)) (ad2 : Addr) (a2_0 : Int) (ad3 : Addr) (a3_0 : Int) (r : Bool) (w : World) (hx1 : w.cell? ad1 = some (.slice A1_0 l1_0.length c1_0)) (hx2 : w.cell? ad2 = some (.int .i64 a2_0)) (hx3 : w.cell? ad3 = some (.int .i64 a3_0)) (hr1_0 : Kd.C k94 w A1_0 l1_0.length l1_0) (hc1_0 : l1_0.length ≤ c1_0) (h : impl_OutdoorFor_1.f k a0 l1_0 a2_0 a3_0 = some r) :
    Calls Try.prog 136 #[.int .i64 a0, .pointer (some ad1), .pointer (some ad2), .pointer (some ad3)] w fun e w' => e = .returned (.bool r) ∧ Below w.heap.size w w' := by
  have hu94 := Try.underlying94
  have hx1_0 := hx1
  have HX1_0 := Aside0.mk hx1_0
  clear hx1_0 hx1
  have hx2_0 := hx2
  have HX2_0 := Aside0.mk hx2_0
  clear hx2_0 hx2
  have hx3_0 := hx3
  have HX3_0 := Aside0.mk hx3_0
  clear hx3_0 hx3
  have HR1_0 := Aside0.mk hr1_0
  have HC1_0 := Aside0.mk hc1_0
  clear hr1_0 hc1_0
  have HB := Aside0.mk (Below.refl w.heap.size w)
  have H : (impl_OutdoorFor_1.l0 k a0 0 l1_0 (l1_0.length : Int) 0 a2_0 a3_0) = some r := h
  clear h
  have H' := Aside0.mk H
  clear H
  have hz5_0 := HX1_0.out
  go_enter Try.func136, Try.ntmps136
  go_wp2
  go_loopg [6, 11] k (fun kq v6 v11 w' => ∃ (x6_1 : Int) (x11_1 : Int), v6 = .int .i64 x6_1 ∧ v11 = .int .i64 x11_1 ∧ Aside0 (impl_OutdoorFor_1.l0 kq a0 x6_1 l1_0 (l1_0.length : Int) x11_1 a2_0 a3_0 = some r) ∧ Aside0 (kq ≤ k) ∧ Aside0 (Below w.heap.size w w'))
  case atStart => exact ⟨(0), (0), (by first | rfl | (simp; done) | (simp [*]; done)), (by first | rfl | (simp; done) | (simp [*]; done)), H', ⟨Nat.le_refl _⟩, ⟨by repeat (first | (with_reducible first | exact HB.out | apply below_alloc | apply pw_below_drewN | apply below_drew1) | exact HB.out)⟩⟩
  case round =>
    clear H'
    try clear c1
    try clear hx1
    try clear p2
    try clear hx2
    try clear hx3
    try clear hx1_0
    try clear hx2_0
    try clear hx3_0
    obtain ⟨x6_1, x11_1, rfl, rfl, HA, HK1, HB⟩ := hrel
    cases gk with
    | zero => exact absurd HA.out (by simp [impl_OutdoorFor_1.l0])
    | succ k1 =>
      have H := HA.out
      clear HA
      simp only [impl_OutdoorFor_1.l0] at H
      by_cases c6 : x11_1 < (l1_0.length : Int)
      · rw [if_pos c6] at H
        have c6b0 : decide (x11_1 < (l1_0.length : Int)) = true := decide_eq_true c6
        clear c6
        by_cases c7 : 0 ≤ x11_1
        · rw [if_pos c7] at H
          have c7b0 : decide (0 ≤ x11_1) = true := decide_eq_true c7
          clear c7
          by_cases c8 : x11_1 < (l1_0.length : Int)
          · rw [if_pos c8] at H
            have c8b0 : decide (x11_1 < (l1_0.length : Int)) = true := decide_eq_true c8
            clear c8
            replace H := Option.bind_eq_some_iff.mp H
            obtain ⟨t260, A90, H⟩ := H
            replace H : (impl_OutdoorFor_1.l0 k1 a0 (wrap64 (x6_1 + t260)) l1_0 (l1_0.length : Int) (wrap64 (x11_1 + 1)) a2_0 a3_0) = some r := H
            have A9 := Aside0.mk A90
            clear A90
            have H' := Aside0.mk H
            clear H
            have p258 : 0 ≤ (x11_1 : Int) := of_decide_eq_true (by first | (with_reducible assumption) | assumption)
            have q258 : x11_1 < (l1_0.length : Int) := of_decide_eq_true (by first | (with_reducible assumption) | assumption)
            obtain ⟨ad258, A258_5, c258_5, e258, hx258_0, hx258_1, hx258_2, hx258_3, hx258_4, hx258_5, hl258_5, hi258_5⟩ := at_T94 HR1_0.out x11_1 p258 q258
            cases e258
            replace hx258_0 := (HB.out.cell (World.block_lt_of_cell? w _ hx258_0)).trans hx258_0
            replace hx258_1 := (HB.out.cell (World.block_lt_of_cell? w _ hx258_1)).trans hx258_1
            replace hx258_2 := (HB.out.cell (World.block_lt_of_cell? w _ hx258_2)).trans hx258_2
            replace hx258_3 := (HB.out.cell (World.block_lt_of_cell? w _ hx258_3)).trans hx258_3
            replace hx258_4 := (HB.out.cell (World.block_lt_of_cell? w _ hx258_4)).trans hx258_4
            replace hx258_5 := (HB.out.cell (World.block_lt_of_cell? w _ hx258_5)).trans hx258_5
            have HR258_5 := Aside0.mk hi258_5
            have HC258_5 := Aside0.mk hl258_5
            clear hi258_5 hl258_5
            replace p258 := eq_true p258
            replace q258 := eq_true q258
            go_wp2_with (first | ((with_reducible refine gate_dst (N := 8) rfl ?_); refine box_event ?hg (N := 8) ?hd (cs := #[.string (⟨#[]⟩ : ByteArray), .int .i64 0, .int .i64 0, .int .i64 0, .int .i64 0, .slice none 0 0]) (t := 94) ?hr ?_; (case hd => rfl); (case hg => rfl); (case hr => first | (go_simp; done) | (go_simp; rfl)); intro gb259 hg w10 hbox hb; have n0_ := Aside0.mk (below_step (by repeat (first | (with_reducible first | exact HB.out | apply below_alloc | apply pw_below_drewN | apply below_drew1) | exact HB.out)) hb); have n1_ := Aside0.mk (hbox); have n2_ := Aside0.mk ((by rw [hg]; exact (below_size (by repeat (first | (with_reducible first | exact HB.out | apply below_alloc | apply pw_below_drewN | apply below_drew1) | exact HB.out))) : w.heap.size ≤ gb259)); have n3_ := Aside0.mk ((by rw [hg]; exact (below_size (by repeat (first | (with_reducible first | exact HB.out | apply below_alloc | apply pw_below_drewN | apply below_drew1) | exact HB.out))) : w.heap.size ≤ gb259)); clear HB; have HB := n0_; have BK259 := n1_; have GW259 := n2_; have GE259 := n3_; clear n0_ n1_ n2_ n3_; clear hb hbox hg; have hcz11_0 : w10.cell? ⟨gb259, 0, none⟩ = some (.string (⟨#[]⟩ : ByteArray)) := (blk_cell BK259.out 0).trans rfl; have hcz11_1 : w10.cell? ⟨gb259, 1, none⟩ = some (.int .i64 0) := (blk_cell BK259.out 1).trans rfl; have hcz11_2 : w10.cell? ⟨gb259, 2, none⟩ = some (.int .i64 0) := (blk_cell BK259.out 2).trans rfl; have hcz11_3 : w10.cell? ⟨gb259, 3, none⟩ = some (.int .i64 0) := (blk_cell BK259.out 3).trans rfl; have hcz11_4 : w10.cell? ⟨gb259, 4, none⟩ = some (.int .i64 0) := (blk_cell BK259.out 4).trans rfl; have hcz11_5 : w10.cell? ⟨gb259, 5, none⟩ = some (.slice none 0 0) := (blk_cell BK259.out 5).trans rfl; have hfz11_0 := blk_frozen BK259.out 0; have hfz11_1 := blk_frozen BK259.out 1; have hfz11_2 := blk_frozen BK259.out 2; have hfz11_3 := blk_frozen BK259.out 3; have hfz11_4 := blk_frozen BK259.out 4; have hfz11_5 := blk_frozen BK259.out 5) | ((with_reducible refine gate_store (t := 94) (p := 8) rfl ?_); refine store_event (t := 94) (p := 8) (v := ?vo_w12) (w1 := ((((((w10.setCell ⟨gb259, 0, none⟩ (.string ((rd_T94 l1_0 x11_1).f0))).setCell ⟨gb259, 1, none⟩ (.int .i64 ((rd_T94 l1_0 x11_1).f1))).setCell ⟨gb259, 2, none⟩ (.int .i64 ((rd_T94 l1_0 x11_1).f2))).setCell ⟨gb259, 3, none⟩ (.int .i64 ((rd_T94 l1_0 x11_1).f3))).setCell ⟨gb259, 4, none⟩ (.int .i64 ((rd_T94 l1_0 x11_1).f4))).setCell ⟨gb259, 5, none⟩ (.slice A258_5 ((rd_T94 l1_0 x11_1).f5).length c258_5))) ?hg ?ho ?hn ?hr ?_; (case ho => rfl); (case hg => rfl); (case hn => rfl); (case hr => first | (go_simp; done) | (go_simp; rfl)); intro w12 hw; have n0_ : Aside0 (w12.heap[gb259]? = some (.cells #[.string ((rd_T94 l1_0 x11_1).f0), .int .i64 ((rd_T94 l1_0 x11_1).f1), .int .i64 ((rd_T94 l1_0 x11_1).f2), .int .i64 ((rd_T94 l1_0 x11_1).f3), .int .i64 ((rd_T94 l1_0 x11_1).f4), .slice A258_5 ((rd_T94 l1_0 x11_1).f5).length c258_5] 94 (0, 0))) := ⟨(by rw [hw]; exact (by (with_reducible repeat (first | refine blk_drewN ?_ _ | refine blk_drew ?_ | refine blk_alloc ?_ _)); refine blk_put (cs := #[.string ((rd_T94 l1_0 x11_1).f0), .int .i64 ((rd_T94 l1_0 x11_1).f1), .int .i64 ((rd_T94 l1_0 x11_1).f2), .int .i64 ((rd_T94 l1_0 x11_1).f3), .int .i64 ((rd_T94 l1_0 x11_1).f4), .slice none 0 0]) ?_ 5 _ rfl; (with_reducible repeat (first | refine blk_drewN ?_ _ | refine blk_drew ?_ | refine blk_alloc ?_ _)); refine blk_put (cs := #[.string ((rd_T94 l1_0 x11_1).f0), .int .i64 ((rd_T94 l1_0 x11_1).f1), .int .i64 ((rd_T94 l1_0 x11_1).f2), .int .i64 ((rd_T94 l1_0 x11_1).f3), .int .i64 0, .slice none 0 0]) ?_ 4 _ rfl; (with_reducible repeat (first | refine blk_drewN ?_ _ | refine blk_drew ?_ | refine blk_alloc ?_ _)); refine blk_put (cs := #[.string ((rd_T94 l1_0 x11_1).f0), .int .i64 ((rd_T94 l1_0 x11_1).f1), .int .i64 ((rd_T94 l1_0 x11_1).f2), .int .i64 0, .int .i64 0, .slice none 0 0]) ?_ 3 _ rfl; (with_reducible repeat (first | refine blk_drewN ?_ _ | refine blk_drew ?_ | refine blk_alloc ?_ _)); refine blk_put (cs := #[.string ((rd_T94 l1_0 x11_1).f0), .int .i64 ((rd_T94 l1_0 x11_1).f1), .int .i64 0, .int .i64 0, .int .i64 0, .slice none 0 0]) ?_ 2 _ rfl; (with_reducible repeat (first | refine blk_drewN ?_ _ | refine blk_drew ?_ | refine blk_alloc ?_ _)); refine blk_put (cs := #[.string ((rd_T94 l1_0 x11_1).f0), .int .i64 0, .int .i64 0, .int .i64 0, .int .i64 0, .slice none 0 0]) ?_ 1 _ rfl; (with_reducible repeat (first | refine blk_drewN ?_ _ | refine blk_drew ?_ | refine blk_alloc ?_ _)); refine blk_put (cs := #[.string (⟨#[]⟩ : ByteArray), .int .i64 0, .int .i64 0, .int .i64 0, .int .i64 0, .slice none 0 0]) ?_ 0 _ rfl; (with_reducible repeat (first | refine blk_drewN ?_ _ | refine blk_drew ?_ | refine blk_alloc ?_ _)); exact BK259.out))⟩; have n1_ : Aside0 (Below w.heap.size w w12) := ⟨(by rw [hw]; exact (by repeat (first | (with_reducible first | exact HB.out | apply below_alloc | apply pw_below_drewN | apply below_drew1 | refine below_set ?_ GE259.out) | exact HB.out)))⟩; clear hw; clear BK259; clear HB; have BK259 := n0_; have HB := n1_; clear n0_ n1_; have hcz13_0 : w12.cell? ⟨gb259, 0, none⟩ = some (.string ((rd_T94 l1_0 x11_1).f0)) := (blk_cell BK259.out 0).trans rfl; have hcz13_1 : w12.cell? ⟨gb259, 1, none⟩ = some (.int .i64 ((rd_T94 l1_0 x11_1).f1)) := (blk_cell BK259.out 1).trans rfl; have hcz13_2 : w12.cell? ⟨gb259, 2, none⟩ = some (.int .i64 ((rd_T94 l1_0 x11_1).f2)) := (blk_cell BK259.out 2).trans rfl; have hcz13_3 : w12.cell? ⟨gb259, 3, none⟩ = some (.int .i64 ((rd_T94 l1_0 x11_1).f3)) := (blk_cell BK259.out 3).trans rfl; have hcz13_4 : w12.cell? ⟨gb259, 4, none⟩ = some (.int .i64 ((rd_T94 l1_0 x11_1).f4)) := (blk_cell BK259.out 4).trans rfl; have hcz13_5 : w12.cell? ⟨gb259, 5, none⟩ = some (.slice A258_5 ((rd_T94 l1_0 x11_1).f5).length c258_5) := (blk_cell BK259.out 5).trans rfl; have hfz13_0 := blk_frozen BK259.out 0; have hfz13_1 := blk_frozen BK259.out 1; have hfz13_2 := blk_frozen BK259.out 2; have hfz13_3 := blk_frozen BK259.out 3; have hfz13_4 := blk_frozen BK259.out 4; have hfz13_5 := blk_frozen BK259.out 5; have hz14_0 := HX2_0.out; replace hz14_0 := (HB.out.cell (World.block_lt_of_cell? w _ hz14_0)).trans hz14_0) | ((with_reducible refine gate_callee (f := 137) rfl ?_); refine goesL_ (some 20) rfl rfl Try.func137 (by kernel_rfl) rfl #[.agg #[.string ((rd_T94 l1_0 x11_1).f0), .int .i64 ((rd_T94 l1_0 x11_1).f1), .int .i64 ((rd_T94 l1_0 x11_1).f2), .int .i64 ((rd_T94 l1_0 x11_1).f3), .int .i64 ((rd_T94 l1_0 x11_1).f4), .slice A258_5 ((rd_T94 l1_0 x11_1).f5).length c258_5], .int .i64 (wrap64 (-a0)), .int .i64 a2_0] rfl (by (try simp only [List.map_toArray, List.map_cons, List.map_nil]); first | done | rfl | (simp only [List.length_drop, List.length_take]; rfl)) ?_; (with_reducible refine (impl_Building_load.calls ((rd_T94 l1_0 x11_1).f0) ((rd_T94 l1_0 x11_1).f1) ((rd_T94 l1_0 x11_1).f2) ((rd_T94 l1_0 x11_1).f3) ((rd_T94 l1_0 x11_1).f4) _ _ ((rd_T94 l1_0 x11_1).f5) (wrap64 (-a0)) a2_0 t260 _ ?side1 ?side2 A9.out).mono ?_); (case side1 => repeat (first | exact (Kd.C_below HR258_5.out HB.out) | (with_reducible refine Kd.C_alloc ?_ _) | (with_reducible refine Kd.C_drewN ?_ _) | (with_reducible refine Kd.C_drew ?_))); (case side2 => exact HC258_5.out); rintro e w15 ⟨rfl, hb⟩; refine ⟨_, rfl, ?_⟩; have n0_ := Aside0.mk (blk_below (g := gb259) (o := .cells #[.string ((rd_T94 l1_0 x11_1).f0), .int .i64 ((rd_T94 l1_0 x11_1).f1), .int .i64 ((rd_T94 l1_0 x11_1).f2), .int .i64 ((rd_T94 l1_0 x11_1).f3), .int .i64 ((rd_T94 l1_0 x11_1).f4), .slice A258_5 ((rd_T94 l1_0 x11_1).f5).length c258_5] 94 (0, 0)) (by (with_reducible repeat (first | refine blk_drewN ?_ _ | refine blk_drew ?_ | refine blk_alloc ?_ _)); exact BK259.out) hb); have n1_ := Aside0.mk (below_step (by repeat (first | (with_reducible first | exact HB.out | apply below_alloc | apply pw_below_drewN | apply below_drew1 | refine below_set ?_ GE259.out) | exact HB.out)) hb); clear BK259; clear HB; have BK259 := n0_; have HB := n1_; clear n0_ n1_; (try clear hb); (try clear hb2); (try clear hk); (try clear hi)))
            go_roundg k1
            case measure => have := HK1.out; omega
            case rel => exact ⟨(wrap64 (x6_1 + t260)), (wrap64 (x11_1 + 1)), (by first | rfl | (simp; done) | (simp [*]; done)), (by first | rfl | (simp; done) | (simp [*]; done)), H', ⟨by have := HK1.out; omega⟩, ⟨by repeat (first | (with_reducible first | exact HB.out | apply below_alloc | apply pw_below_drewN | apply below_drew1 | refine below_set ?_ GE259.out) | exact HB.out)⟩⟩
          · rw [if_neg c8] at H
            exact absurd H (by simp)
        · rw [if_neg c7] at H
          exact absurd H (by simp)
      · rw [if_neg c6] at H
        have c6b0 : decide (x11_1 < (l1_0.length : Int)) = false := decide_eq_false c6
        clear c6
        obtain rfl := Option.some.inj H
        have hz16_0 := HX3_0.out
        replace hz16_0 := (HB.out.cell (World.block_lt_of_cell? w _ hz16_0)).trans hz16_0
        go_wp2
        go_ret
        exact ⟨by first | rfl | (simp [errW_none, errW_some] <;> rfl) | (simp [*, errW_none, errW_some] <;> rfl), by repeat (first | (with_reducible first | exact HB.out | apply below_alloc | apply pw_below_drewN | apply below_drew1) | exact HB.out)⟩

/- impl_firstIn_1: told with what calls it -/
/- sort_Search: told with what calls it -/
/-! ### impl_firstIn: function 135, with sort.Search (178) and its own literal (179), at the literal 136 -/
def impl_firstIn.l0 : Nat → Int → List S94 → Int → Int → Int → Int → Option Int
  | 0, _, _, _, _, _, _ => none
  | k + 1, lo, l, a, b, i, j => if i < j then ((impl_OutdoorFor_1.f k (lo + (i + j) / 2) l a b).bind fun t => (if t = true then (impl_firstIn.l0 k lo l a b i ((i + j) / 2)) else (impl_firstIn.l0 k lo l a b ((i + j) / 2 + 1) j))) else (some i)
def impl_firstIn.f (k : Nat) (a0 : Int) (a1 : Int) (l3_0 : List (S94)) (a4_0 : Int) (a5_0 : Int) : Option (Int × Bool) := if (-1000000 ≤ a0 ∧ a0 ≤ a1 ∧ a1 ≤ 1000000) then ((impl_firstIn.l0 k a0 l3_0 a4_0 a5_0 0 (a1 - a0 + 1)).bind fun t => (some (a0 + t, decide (t < a1 - a0 + 1)))) else (none)
theorem impl_firstIn.mono_l : ∀ k, (∀ y0 y1 y2 y3 y4 y5, LeO (impl_firstIn.l0 k y0 y1 y2 y3 y4 y5) (impl_firstIn.l0 (k + 1) y0 y1 y2 y3 y4 y5))
  | 0 => fun _ _ _ _ _ _ r h => by simp [impl_firstIn.l0] at h
  | k + 1 => by
    have ih0 := impl_firstIn.mono_l k
    intro y0 y1 y2 y3 y4 y5
    unfold impl_firstIn.l0
    repeat' first
      | (with_reducible exact ih0 _ _ _ _ _ _)
      | (with_reducible exact impl_OutdoorFor_1.mono _ _ _ _ _)
      | (with_reducible exact LeO.refl _)
      | (with_reducible exact LeO.none _)
      | (with_reducible refine LeO.ite ?_ ?_)
      | (with_reducible refine LeO.bind ?_ (fun _ => ?_))
theorem impl_firstIn.mono : ∀ a0 a1 a2 a3 a4 k, LeO (impl_firstIn.f k a0 a1 a2 a3 a4) (impl_firstIn.f (k + 1) a0 a1 a2 a3 a4) := by
  intro a0 a1 a2 a3 a4 k
  have ih0 := impl_firstIn.mono_l k
  unfold impl_firstIn.f
  repeat' first
      | (with_reducible exact ih0 _ _ _ _ _ _)
      | (with_reducible exact LeO.refl _)
      | (with_reducible exact LeO.none _)
      | (with_reducible refine LeO.ite ?_ ?_)
      | (with_reducible refine LeO.bind ?_ (fun _ => ?_))
set_option maxHeartbeats 8000000 in
set_option maxRecDepth 100000 in
theorem firstIn_clo (k : Nat) (lo i : Int) (b1 b2 ad3 : Addr) (A3_0 : Option Addr) (c3_0 : Nat) (l : List (S94)) (ad4 : Addr) (a : Int) (ad5 : Addr) (b : Int) (t : Bool) (w : World) (hs : -9223372036854775808 ≤ lo + i ∧ lo + i ≤ 9223372036854775807)
    (h1 : w.cell? b1 = some (.func (.func 136) #[] #[.pointer (some ad3), .pointer (some ad4), .pointer (some ad5)])) (h2 : w.cell? b2 = some (.int .i64 lo)) (hx3 : w.cell? ad3 = some (.slice A3_0 l.length c3_0)) (hx4 : w.cell? ad4 = some (.int .i64 a)) (hx5 : w.cell? ad5 = some (.int .i64 b)) (hr : Kd.C k94 w A3_0 l.length l) (hc : l.length ≤ c3_0) (h : impl_OutdoorFor_1.f k (lo + i) l a b = some t) :
    Calls Try.prog 179 #[.int .i64 i, .pointer (some b1), .pointer (some b2)] w fun e w' => e = .returned (.bool t) ∧ Below w.heap.size w w' := by
  have eg := enters_of Try.func136 (by kernel_rfl) rfl
  have HC := Aside0.mk (fun q : Nat => impl_OutdoorFor_1.calls k (lo + i) ad3 A3_0 c3_0 l ad4 a ad5 b t (w.drewN q) hx3 hx4 hx5 (Kd.C_drewN hr q) hc h)
  have HC0 := Aside0.mk (impl_OutdoorFor_1.calls k (lo + i) ad3 A3_0 c3_0 l ad4 a ad5 b t w hx3 hx4 hx5 hr hc h)
  have ew := Aside0.mk (show wrap64 (lo + i) = lo + i from by unfold wrap64; omega)
  clear h hr hc hx3 hx4 hx5
  go_enter Try.func179, Try.ntmps179
  go_wp2_with (first | (refine HC0.out.mono ?_; rintro e w' ⟨rfl, hb⟩) | (refine (HC.out _).mono ?_; rintro e w' ⟨rfl, hb⟩))
  go_ret
  exact ⟨rfl, hb⟩
set_option maxHeartbeats 8000000 in
set_option maxRecDepth 100000 in
theorem firstIn_search (k : Nat) (lo : Int) (hlo : -1000000 ≤ lo ∧ lo ≤ 1000000) (b1 b2 ad3 : Addr) (A3_0 : Option Addr) (c3_0 : Nat) (l : List (S94)) (ad4 : Addr) (a : Int) (ad5 : Addr) (b : Int) (nn : Int) (hn : 0 ≤ nn ∧ nn ≤ 2000001) (r : Int) (w : World)
    (h1 : w.cell? b1 = some (.func (.func 136) #[] #[.pointer (some ad3), .pointer (some ad4), .pointer (some ad5)])) (h2 : w.cell? b2 = some (.int .i64 lo)) (hx3 : w.cell? ad3 = some (.slice A3_0 l.length c3_0)) (hx4 : w.cell? ad4 = some (.int .i64 a)) (hx5 : w.cell? ad5 = some (.int .i64 b)) (hr : Kd.C k94 w A3_0 l.length l) (hc : l.length ≤ c3_0) (h : impl_firstIn.l0 k lo l a b 0 nn = some r) :
    Calls Try.prog 178 #[.int .i64 nn, .func (.func 179) #[] #[.pointer (some b1), .pointer (some b2)]] w fun e w' => e = .returned (.int .i64 r) ∧ (0 ≤ r ∧ r ≤ nn) ∧ Below w.heap.size w w' := by
  have eg := enters_of Try.func179 (by kernel_rfl) rfl
  have HB := Aside0.mk (Below.refl w.heap.size w)
  have HCL := Aside0.mk (fun (k : Nat) (i : Int) (t : Bool) (w1 : World) (hb : Below w.heap.size w w1) (hi : 0 ≤ i ∧ i ≤ 2000001) (h : impl_OutdoorFor_1.f k (lo + i) l a b = some t) => firstIn_clo k lo i b1 b2 ad3 A3_0 c3_0 l ad4 a ad5 b t w1 (by omega) ((hb.cell (World.block_lt_of_cell? w _ h1)).trans h1) ((hb.cell (World.block_lt_of_cell? w _ h2)).trans h2) ((hb.cell (World.block_lt_of_cell? w _ hx3)).trans hx3) ((hb.cell (World.block_lt_of_cell? w _ hx4)).trans hx4) ((hb.cell (World.block_lt_of_cell? w _ hx5)).trans hx5) (Kd.C_below hr hb) hc h)
  have HN := Aside0.mk hn
  have H' := Aside0.mk h
  clear h h1 h2 hx3 hx4 hx5 hr hc hn
  go_enter Try.func178, Try.ntmps178
  go_wp2
  go_loopg [5, 6] k (fun kq v5 v6 w' => ∃ (i j : Int), v5 = .int .i64 i ∧ v6 = .int .i64 j ∧ Aside0 (impl_firstIn.l0 kq lo l a b i j = some r) ∧ Aside0 (kq ≤ k) ∧ Aside0 (0 ≤ i ∧ i ≤ j ∧ j ≤ nn) ∧ Aside0 (Below w.heap.size w w'))
  case atStart => exact ⟨0, nn, rfl, rfl, H', ⟨Nat.le_refl _⟩, ⟨by have := HN.out; omega⟩, ⟨by repeat (first | (with_reducible first | exact HB.out | apply below_alloc | apply pw_below_drewN | apply below_drew1) | exact HB.out)⟩⟩
  case round =>
    clear H' HB
    obtain ⟨i, j, rfl, rfl, HA, HK1, HI, HB⟩ := hrel
    cases gk with
    | zero => exact absurd HA.out (by simp [impl_firstIn.l0])
    | succ k1 =>
      have H := HA.out
      clear HA
      simp only [impl_firstIn.l0] at H
      by_cases c : i < j
      · rw [if_pos c] at H
        obtain ⟨t, A0, H⟩ := Option.bind_eq_some_iff.mp H
        have HT0 := Aside0.mk (HCL.out k1 ((i + j) / 2) t wr HB.out (by have := HN.out; have := HI.out; omega) A0)
        have HT := Aside0.mk (fun q : Nat => HCL.out k1 ((i + j) / 2) t (wr.drewN q) (pw_below_drewN HB.out q) (by have := HN.out; have := HI.out; omega) A0)
        have cb : decide (i < j) = true := decide_eq_true c
        clear c A0
        have EH := Aside0.mk (show wrap64 (IntKind.u64.wrap (wrap64 (i + j)) / 2) = (i + j) / 2 from by
          have := HN.out
          have := HI.out
          have e1 : wrap64 (i + j) = i + j := by unfold wrap64; omega
          have e2 : IntKind.u64.wrap (i + j) = i + j := by
            first
              | (show (i + j) % 18446744073709551616 = i + j; omega)
              | (simp only [IntKind.wrap]; omega)
              | (unfold IntKind.wrap; simp; omega)
          have e3 : wrap64 ((i + j) / 2) = (i + j) / 2 := by unfold wrap64; omega
          rw [e1, e2, e3])
        have EN := Aside0.mk (show wrap64 ((i + j) / 2 + 1) = (i + j) / 2 + 1 from by
          have := HN.out
          have := HI.out
          unfold wrap64
          omega)
        have cb0 := of_decide_eq_true cb
        cases t with
        | true =>
          rw [if_pos rfl] at H
          have H' := Aside0.mk H
          clear H
          go_wp2_with ((try rw [EH.out]); (first | (refine HT0.out.mono ?_; rintro e w' ⟨rfl, hb⟩) | (refine (HT.out _).mono ?_; rintro e w' ⟨rfl, hb⟩)); have n0_ := Aside0.mk (below_step HB.out hb); clear HB hb; have HB := n0_; clear n0_)
          go_roundg k1
          case measure => have := HK1.out; omega
          case rel => exact ⟨i, (i + j) / 2, rfl, rfl, H', ⟨by have := HK1.out; omega⟩, ⟨by have := HI.out; omega⟩, ⟨by repeat (first | (with_reducible first | exact HB.out | apply below_alloc | apply pw_below_drewN | apply below_drew1) | exact HB.out)⟩⟩
        | false =>
          rw [if_neg (show ¬ (false = true) by decide)] at H
          have H' := Aside0.mk H
          clear H
          go_wp2_with ((try rw [EH.out]); (first | (refine HT0.out.mono ?_; rintro e w' ⟨rfl, hb⟩) | (refine (HT.out _).mono ?_; rintro e w' ⟨rfl, hb⟩)); have n0_ := Aside0.mk (below_step HB.out hb); clear HB hb; have HB := n0_; clear n0_)
          go_roundg k1
          case measure => have := HK1.out; omega
          case rel => exact ⟨(i + j) / 2 + 1, j, by first | rfl | rw [EN.out], rfl, H', ⟨by have := HK1.out; omega⟩, ⟨by have := HI.out; omega⟩, ⟨by repeat (first | (with_reducible first | exact HB.out | apply below_alloc | apply pw_below_drewN | apply below_drew1) | exact HB.out)⟩⟩
      · rw [if_neg c] at H
        have cb : decide (i < j) = false := decide_eq_false c
        obtain rfl := Option.some.inj H
        have hij := HI.out
        clear c
        go_wp2
        go_ret
        exact ⟨rfl, by omega, by repeat (first | (with_reducible first | exact HB.out | apply below_alloc | apply pw_below_drewN | apply below_drew1) | exact HB.out)⟩
set_option maxHeartbeats 8000000 in
set_option maxRecDepth 100000 in
theorem impl_firstIn.calls (k : Nat) (a0 : Int) (a1 : Int)  (ad3 : Addr) (A3_0 : Option Addr) (c3_0 : Nat) (l3_0 : List (S94)) (ad4 : Addr) (a4_0 : Int) (ad5 : Addr) (a5_0 : Int) (r1 : Int) (r2 : Bool) (w : World) (hx3 : w.cell? ad3 = some (.slice A3_0 l3_0.length c3_0)) (hx4 : w.cell? ad4 = some (.int .i64 a4_0)) (hx5 : w.cell? ad5 = some (.int .i64 a5_0)) (hr3_0 : Kd.C k94 w A3_0 l3_0.length l3_0) (hc3_0 : l3_0.length ≤ c3_0) (h : impl_firstIn.f k a0 a1 l3_0 a4_0 a5_0 = some (r1, r2)) :
    Calls Try.prog 135 #[.int .i64 a0, .int .i64 a1, .func (.func 136) #[] #[.pointer (some ad3), .pointer (some ad4), .pointer (some ad5)]] w fun e w' => e = .returned (.tuple #[.int .i64 r1, .bool r2]) ∧ Below w.heap.size w w' := by
  have HB := Aside0.mk (Below.refl w.heap.size w)
  have hb0 : -1000000 ≤ a0 ∧ a0 ≤ a1 ∧ a1 ≤ 1000000 := by
    by_cases c : -1000000 ≤ a0 ∧ a0 ≤ a1 ∧ a1 ≤ 1000000
    · exact c
    · rw [impl_firstIn.f, if_neg c] at h
      cases h
  rw [impl_firstIn.f, if_pos hb0] at h
  obtain ⟨t, ht, h⟩ := Option.bind_eq_some_iff.mp h
  simp only [Option.some.injEq, Prod.mk.injEq] at h
  obtain ⟨rfl, rfl⟩ := h
  have HS := Aside0.mk (fun (b1 b2 : Addr) (w1 : World) (hb : Below w.heap.size w w1) (h1 : w1.cell? b1 = some (.func (.func 136) #[] #[.pointer (some ad3), .pointer (some ad4), .pointer (some ad5)])) (h2 : w1.cell? b2 = some (.int .i64 a0)) => firstIn_search k a0 (by omega) b1 b2 ad3 A3_0 c3_0 l3_0 ad4 a4_0 ad5 a5_0 (a1 - a0 + 1) (by omega) t w1 h1 h2 ((hb.cell (World.block_lt_of_cell? w _ hx3)).trans hx3) ((hb.cell (World.block_lt_of_cell? w _ hx4)).trans hx4) ((hb.cell (World.block_lt_of_cell? w _ hx5)).trans hx5) (Kd.C_below hr3_0 hb) hc3_0 ht)
  clear ht hx3 hx4 hx5 hr3_0 hc3_0
  have HA := Aside0.mk hb0
  have E1 := Aside0.mk (show wrap64 (wrap64 (a1 - a0) + 1) = a1 - a0 + 1 from by unfold wrap64; omega)
  have E2 := Aside0.mk (show wrap64 (a1 - a0 + 1) = a1 - a0 + 1 from by unfold wrap64; omega)
  go_enter Try.func135, Try.ntmps135
  go_wp2_with (first
    | ((with_reducible refine gate_dst (N := 3) rfl ?_); refine box_event ?hg (N := 3) ?hd (cs := #[.int .i64 a0]) (t := 2) ?hr ?_; (case hd => rfl); (case hg => rfl); (case hr => first | (go_simp; done) | (go_simp; rfl)); intro b2 hg w1 hbox hb; have B2 := Aside0.mk hbox; have n0_ := Aside0.mk (below_step HB.out hb); clear HB hg hbox hb; have HB := n0_; clear n0_)
    | ((with_reducible refine gate_dst (N := 5) rfl ?_); refine box_event ?hg (N := 5) ?hd (cs := #[.func (.func 136) #[] #[.pointer (some ad3), .pointer (some ad4), .pointer (some ad5)]]) (t := 149) ?hr ?_; (case hd => rfl); (case hg => rfl); (case hr => first | (go_simp; done) | (go_simp; rfl)); intro b1 hg w2 hbox hb; have B1 := Aside0.mk hbox; have n0_ := Aside0.mk (below_step HB.out hb); have n1_ := Aside0.mk (blk_below B2.out hb); clear HB B2 hg hbox hb; have HB := n0_; have B2 := n1_; clear n0_ n1_; have hx_b2 : w2.cell? ⟨b2, 0, none⟩ = some (.int .i64 a0) := (blk_cell B2.out 0).trans rfl)
    | ((try rw [E1.out]); (try rw [E2.out]); refine (HS.out _ _ _ HB.out ((blk_cell B1.out 0).trans rfl) ((blk_cell B2.out 0).trans rfl)).mono ?_; rintro e w' ⟨rfl, hrb, hb⟩; have HR := Aside0.mk hrb; have n0_ := Aside0.mk (below_step HB.out hb); have n1_ := Aside0.mk (blk_below B2.out hb); clear HB B2 hrb hb hx_b2; have HB := n0_; have B2 := n1_; clear n0_ n1_; have hx_b3 : w'.cell? ⟨b2, 0, none⟩ = some (.int .i64 a0) := (blk_cell B2.out 0).trans rfl))
  have hr_ := HR.out
  have ha_ := HA.out
  have E3 : wrap64 (a0 + t) = a0 + t := by unfold wrap64; omega
  go_ret2
  exact ⟨by first | rfl | (rw [E3]; done) | (simp only [E3]; done) | simp [E3], HB.out⟩

end Go.Proofs.Ytjccjmjnlblhaaa.QForecasts
