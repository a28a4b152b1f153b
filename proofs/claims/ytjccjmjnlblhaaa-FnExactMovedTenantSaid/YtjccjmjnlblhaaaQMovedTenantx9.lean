-- Written by press.py, a program of this session, round the kit's print.py (functions and contracts; Lean checks them).
import Derived.Test.YtjccjmjnlblhaaaQMovedTenantx0
import Derived.Test.YtjccjmjnlblhaaaQMovedTenantx4
import Derived.Test.YtjccjmjnlblhaaaQMovedTenantx5
import Derived.Test.YtjccjmjnlblhaaaQMovedTenantx6
import Derived.Test.YtjccjmjnlblhaaaQMovedTenantx7
import Derived.Test.YtjccjmjnlblhaaaQMovedTenantx8
namespace Go.Proofs.Ytjccjmjnlblhaaa.QMovedTenant
open Go.Proofs.Ytjccjmjnlblhaaa.QWords
attribute [local go_sem high] binOp_string_geq_q binOp_string_leq_q binOp_string_gtr_q
open Go.RowKit Go.Proofs.YtjccjmjnlblhaaaW.PrintWords Go.Proofs.YtjccjmjnlblhaaaW.PrintLast Go.Proofs.YtjccjmjnlblhaaaW.PrintMore
attribute [local go_sem] max2_int min2_int max_two min_two max_three min_three max_four min_four   -- for this text's walks alone
set_option linter.unusedVariables false
set_option linter.unusedSimpArgs false

/-! ### impl_MovedTenant: function 32 -/
def impl_MovedTenant.j0 : Nat → List (S129) → ByteArray → Int → Int → Int → Bool → Option ((List (S129)) × Int)
  | 0, _, _, _, _, _, _ => none
  | k + 1, x0, x1, x2, x3, x10, x23 => if x23 = true then (some (([] : List (S129)), 2)) else (if x10 < 0 then (some (([] : List (S129)), 3)) else (if x1.size + 1 ≤ 9223372036854775807 then ((impl_tenantAt.f k x0 (x1 ++ (⟨#[98]⟩ : ByteArray))).bind fun t201 => (if t201 ≥ 0 then (some (([] : List (S129)), 4)) else (if (x0.length : Int) = 12 then (some (([] : List (S129)), 5)) else ((slices_Clone_Tenant.f x0).bind fun t202 => (if 0 ≤ x10 then (if x10 < (t202.length : Int) then ((impl_divRound.f (wrap64 (((rd_T129 t202 x10).f2) * x2)) x3).bind fun t206 => ((some (t202.set (x10 : Int).toNat (⟨(rd_T129 t202 x10).f0, (rd_T129 t202 x10).f1, t206⟩ : S129) : List (S129))).bind fun y210 => ((slices_BinarySearchFunc_Tenant.f k y210 (x1 ++ (⟨#[98]⟩ : ByteArray)) ((rd_T129 t202 x10).f1) (wrap64 (((rd_T129 t202 x10).f2) - t206))).bind fun bt211 => ((slices_Insert_Tenant.f y210 bt211.1 (([(⟨x1 ++ (⟨#[98]⟩ : ByteArray), (rd_T129 t202 x10).f1, wrap64 (((rd_T129 t202 x10).f2) - t206)⟩ : S129)] : List (S129)))).bind fun t216 => ((impl_ValidTenants.f k t216).bind fun t219 => (if t219 = true then (some (t216, 0)) else (some (([] : List (S129)), 6)))))))) else (none)) else (none)))))) else (none)))
def impl_MovedTenant.f (k : Nat) (l0 : List (S129)) (a1 : ByteArray) (a2 : Int) (a3 : Int) : Option ((List (S129)) × Int) := (impl_tenantAt.f k l0 a1).bind fun t197 => ((impl_ValidTenants.f k l0).bind fun t198 => (if t198 = true then (if a3 = 365 then ((impl_within.f a2 0 a3).bind fun t199 => (impl_MovedTenant.j0 k l0 a1 a2 a3 t197 (!t199))) else (if a3 = 366 then ((impl_within.f a2 0 a3).bind fun t200 => (impl_MovedTenant.j0 k l0 a1 a2 a3 t197 (!t200))) else (impl_MovedTenant.j0 k l0 a1 a2 a3 t197 true))) else (some (([] : List (S129)), 1))))
theorem impl_MovedTenant.mono_l : ∀ k, (∀ y0 y1 y2 y3 y4 y5, LeO (impl_MovedTenant.j0 k y0 y1 y2 y3 y4 y5) (impl_MovedTenant.j0 (k + 1) y0 y1 y2 y3 y4 y5))
  | 0 => fun _ _ _ _ _ _ r h => by simp [impl_MovedTenant.j0] at h
  | k + 1 => by
    have ih0 := impl_MovedTenant.mono_l k
    · intro y0 y1 y2 y3 y4 y5
      unfold impl_MovedTenant.j0
      repeat' first
      | (with_reducible exact ih0 _ _ _ _ _ _)
      | (with_reducible exact impl_ValidTenants.mono _ _)
      | (with_reducible exact impl_tenantAt.mono _ _ _)
      | (with_reducible exact slices_BinarySearchFunc_Tenant.mono _ _ _ _ _)
      | (with_reducible exact LeO.refl _)
      | (with_reducible exact LeO.none _)
      | (with_reducible refine LeO.ite ?_ ?_)
      | (with_reducible refine LeO.bind ?_ (fun _ => ?_))
      | exact ih0 _ _ _ _ _ _
      | exact impl_ValidTenants.mono _ _
      | exact impl_tenantAt.mono _ _ _
      | exact slices_BinarySearchFunc_Tenant.mono _ _ _ _ _
      | exact LeO.none _
      | refine LeO.ite ?_ ?_
      | refine LeO.bind ?_ (fun _ => ?_)
theorem impl_MovedTenant.mono : ∀ a0 a1 a2 a3 k, LeO (impl_MovedTenant.f k a0 a1 a2 a3) (impl_MovedTenant.f (k + 1) a0 a1 a2 a3) := by
  intro a0 a1 a2 a3 k
  have ih0 := impl_MovedTenant.mono_l k
  unfold impl_MovedTenant.f
  repeat' first
      | (with_reducible exact ih0 _ _ _ _ _ _)
      | (with_reducible exact impl_ValidTenants.mono _ _)
      | (with_reducible exact impl_tenantAt.mono _ _ _)
      | (with_reducible exact slices_BinarySearchFunc_Tenant.mono _ _ _ _ _)
      | (with_reducible exact LeO.refl _)
      | (with_reducible exact LeO.none _)
      | (with_reducible refine LeO.ite ?_ ?_)
      | (with_reducible refine LeO.bind ?_ (fun _ => ?_))
      | exact ih0 _ _ _ _ _ _
      | exact impl_ValidTenants.mono _ _
      | exact impl_tenantAt.mono _ _ _
      | exact slices_BinarySearchFunc_Tenant.mono _ _ _ _ _
      | exact LeO.none _
      | refine LeO.ite ?_ ?_
      | refine LeO.bind ?_ (fun _ => ?_)
def impl_MovedTenant.T14 : Bool × List (List Nat × List Nat) := (true, [([], []), ([0], [0]), ([], []), ([], []), ([2, 3], [2, 3]), ([4], [4]), ([5], [5]), ([], []), ([], []), ([7, 8], [7, 8]), ([9], [9]), ([10], [10]), ([], []), ([11, 12], [11, 12]), ([1, 6, 13], [1, 6, 13]), ([], []), ([15, 14, 0, 1, 2, 3, 4, 5, 6, 7, 8, 9, 10, 11, 12, 13, 14, 15], [14, 15])])
def impl_MovedTenant.B14 : List Nat := [0, 1, 0, 0, 12, 28, 60, 0, 0, 384, 896, 1920, 0, 8064, 16383, 0, 65535]
theorem impl_MovedTenant.tab14 : rtab .any (opsOf Try.f32 14) = impl_MovedTenant.T14 := by kernel_rfl
theorem impl_MovedTenant.bits14 : waitsOk impl_MovedTenant.T14.2 impl_MovedTenant.B14 = true := by kernel_rfl
set_option maxHeartbeats 8000000 in
set_option maxRecDepth 100000 in
theorem impl_MovedTenant.calls (k : Nat) (A0 : Option Addr) (c0 : Nat) (l0 : List (S129)) (a1 : ByteArray) (a2 : Int) (a3 : Int) (r1 : List (S129)) (r2 : Int) (w : World) (hr0 : Kd.C k129 w A0 l0.length l0) (hc0 : l0.length ≤ c0) (h : impl_MovedTenant.f k l0 a1 a2 a3 = some (r1, r2)) :
    Calls Try.prog 32 #[.slice A0 l0.length c0, .string a1, .int .i64 a2, .int .i64 a3] w fun e w' => ∃ v0_ : Value, e = .returned (.tuple #[v0_, .int .i64 r2]) ∧ Kd.R k129 129 w' w.heap.size (fun _ => True) v0_ r1 ∧ Below w.heap.size w w' := by
  have hu129 := Try.underlying129
  have HR0 := Aside0.mk hr0
  have HC0 := Aside0.mk hc0
  clear hr0 hc0
  have HB := Aside0.mk (Below.refl w.heap.size w)
  have H : ((impl_tenantAt.f k l0 a1).bind fun t197 => ((impl_ValidTenants.f k l0).bind fun t198 => (if t198 = true then (if a3 = 365 then ((impl_within.f a2 0 a3).bind fun t199 => (impl_MovedTenant.j0 k l0 a1 a2 a3 t197 (!t199))) else (if a3 = 366 then ((impl_within.f a2 0 a3).bind fun t200 => (impl_MovedTenant.j0 k l0 a1 a2 a3 t197 (!t200))) else (impl_MovedTenant.j0 k l0 a1 a2 a3 t197 true))) else (some (([] : List (S129)), 1))))) = some (r1, r2) := h
  clear h
  replace H := Option.bind_eq_some_iff.mp H
  obtain ⟨t197, A50, H⟩ := H
  replace H : ((impl_ValidTenants.f k l0).bind fun t198 => (if t198 = true then (if a3 = 365 then ((impl_within.f a2 0 a3).bind fun t199 => (impl_MovedTenant.j0 k l0 a1 a2 a3 t197 (!t199))) else (if a3 = 366 then ((impl_within.f a2 0 a3).bind fun t200 => (impl_MovedTenant.j0 k l0 a1 a2 a3 t197 (!t200))) else (impl_MovedTenant.j0 k l0 a1 a2 a3 t197 true))) else (some (([] : List (S129)), 1)))) = some (r1, r2) := H
  have A5 := Aside0.mk A50
  clear A50
  replace H := Option.bind_eq_some_iff.mp H
  obtain ⟨t198, A60, H⟩ := H
  replace H : (if t198 = true then (if a3 = 365 then ((impl_within.f a2 0 a3).bind fun t199 => (impl_MovedTenant.j0 k l0 a1 a2 a3 t197 (!t199))) else (if a3 = 366 then ((impl_within.f a2 0 a3).bind fun t200 => (impl_MovedTenant.j0 k l0 a1 a2 a3 t197 (!t200))) else (impl_MovedTenant.j0 k l0 a1 a2 a3 t197 true))) else (some (([] : List (S129)), 1))) = some (r1, r2) := H
  have A6 := Aside0.mk A60
  clear A60
  by_cases c7 : t198 = true
  · subst c7
    have H1 : (if a3 = 365 then ((impl_within.f a2 0 a3).bind fun t199 => (impl_MovedTenant.j0 k l0 a1 a2 a3 t197 (!t199))) else (if a3 = 366 then ((impl_within.f a2 0 a3).bind fun t200 => (impl_MovedTenant.j0 k l0 a1 a2 a3 t197 (!t200))) else (impl_MovedTenant.j0 k l0 a1 a2 a3 t197 true))) = some (r1, r2) := by rw [if_pos rfl] at H; exact H
    clear H
    have H := H1
    clear H1
    have HC8 := Aside0.mk H
    clear H
    go_enter Try.func32, Try.ntmps32
    go_upto_region 4 with (first | ((with_reducible refine gate_callee (f := 98) rfl ?_); refine goesL_ (some 18) rfl rfl Try.func98 (by kernel_rfl) rfl #[.slice A0 l0.length c0, .string a1] rfl (by (try simp only [List.map_toArray, List.map_cons, List.map_nil]); first | done | rfl | (simp only [List.length_drop, List.length_take]; rfl)) ?_; (with_reducible refine (impl_tenantAt.calls k _ _ l0 a1 t197 _ ?side1 ?side2 A5.out).mono ?_); (case side1 => repeat (first | exact HR0.out | (with_reducible refine Kd.C_alloc ?_ _) | (with_reducible refine Kd.C_drewN ?_ _) | (with_reducible refine Kd.C_drew ?_))); (case side2 => exact HC0.out); rintro e w9 ⟨rfl, hb⟩; refine ⟨_, rfl, ?_⟩; have n0_ := Aside0.mk (below_step (by repeat (first | (with_reducible first | exact HB.out | apply below_alloc | apply pw_below_drewN | apply below_drew1) | exact HB.out)) hb); clear HB; have HB := n0_; clear n0_; (try clear hb); (try clear hb2); (try clear hk); (try clear hi)) | ((with_reducible refine gate_callee (f := 99) rfl ?_); refine goesL_ (some 21) rfl rfl Try.func99 (by kernel_rfl) rfl #[.slice A0 l0.length c0] rfl (by (try simp only [List.map_toArray, List.map_cons, List.map_nil]); first | done | rfl | (simp only [List.length_drop, List.length_take]; rfl)) ?_; (with_reducible refine (impl_ValidTenants.calls k _ _ l0 true _ ?side1 ?side2 A6.out).mono ?_); (case side1 => repeat (first | exact (Kd.C_below HR0.out HB.out) | (with_reducible refine Kd.C_alloc ?_ _) | (with_reducible refine Kd.C_drewN ?_ _) | (with_reducible refine Kd.C_drew ?_))); (case side2 => exact HC0.out); rintro e w10 ⟨rfl, hb⟩; refine ⟨_, rfl, ?_⟩; have n0_ := Aside0.mk (below_step (by repeat (first | (with_reducible first | exact HB.out | apply below_alloc | apply pw_below_drewN | apply below_drew1) | exact HB.out)) hb); clear HB; have HB := n0_; clear n0_; (try clear hb); (try clear hb2); (try clear hk); (try clear hi)))
    (try simp only [Act.put, List.setIfInBounds_toArray, List.set_cons_zero, List.set_cons_succ])
    go_cut [23] (fun v23 wc => ∃ (kq : Nat) (x23_7 : Bool), v23 = .bool x23_7 ∧ Aside0 (impl_MovedTenant.j0 kq l0 a1 a2 a3 t197 x23_7 = some (r1, r2)) ∧ Aside0 (kq ≤ k) ∧ Aside0 (Below w.heap.size w wc))
    case first =>
      have H := HC8.out
      clear HC8
      by_cases c11 : a3 = 365
      · rw [if_pos c11] at H
        have c11b0 : (a3 == 365) = true := beq_iff_eq.mpr c11
        have c11b1 : (a3 != 365) = false := bne_eq_false_iff_eq.mpr c11
        clear c11
        (first | rw [c11b0] | (simp only [i64_w, i32_w]; rw [c11b0]) | skip)
        replace H := Option.bind_eq_some_iff.mp H
        obtain ⟨t199, A120, H⟩ := H
        replace H : (impl_MovedTenant.j0 k l0 a1 a2 a3 t197 (!t199)) = some (r1, r2) := H
        have A12 := Aside0.mk A120
        clear A120
        have H' := Aside0.mk H
        clear H
        go_wp2_with (first | (go_at_call 100; (first | (with_reducible refine (impl_within.calls a2 0 a3 t199 _ A12.out).mono ?_) | ((try simp only [Go.IntWalk.i64_left]); (with_reducible refine (impl_within.calls a2 0 a3 t199 _ A12.out).mono ?_))); rintro e w' ⟨rfl, ⟨nd, rfl⟩⟩))
        go_meet
        case rel => exact ⟨_, (!t199), (by first | rfl | (simp; done) | (simp [*]; done)), H', ⟨by first | omega | exact Nat.le_refl _⟩, ⟨by repeat (first | (with_reducible first | exact HB.out | apply below_alloc | apply pw_below_drewN | apply below_drew1) | exact HB.out)⟩⟩
      · rw [if_neg c11] at H
        have c11b0 : (a3 == 365) = false := beq_eq_false_iff_ne.mpr c11
        have c11b1 : (a3 != 365) = true := bne_iff_ne.mpr c11
        (first | rw [c11b0] | (simp only [i64_w, i32_w]; rw [c11b0]) | skip)
        by_cases c13 : a3 = 366
        · rw [if_pos c13] at H
          have c13b0 : (a3 == 366) = true := beq_iff_eq.mpr c13
          have c13b1 : (a3 != 366) = false := bne_eq_false_iff_eq.mpr c13
          clear c13
          replace H := Option.bind_eq_some_iff.mp H
          obtain ⟨t200, A140, H⟩ := H
          replace H : (impl_MovedTenant.j0 k l0 a1 a2 a3 t197 (!t200)) = some (r1, r2) := H
          have A14 := Aside0.mk A140
          clear A140
          have H' := Aside0.mk H
          clear H
          go_wp2_with (first | (go_at_call 100; (first | (with_reducible refine (impl_within.calls a2 0 a3 t200 _ A14.out).mono ?_) | ((try simp only [Go.IntWalk.i64_left]); (with_reducible refine (impl_within.calls a2 0 a3 t200 _ A14.out).mono ?_))); rintro e w' ⟨rfl, ⟨nd, rfl⟩⟩))
          go_meet
          case rel => exact ⟨_, (!t200), (by first | rfl | (simp; done) | (simp [*]; done)), H', ⟨by first | omega | exact Nat.le_refl _⟩, ⟨by repeat (first | (with_reducible first | exact HB.out | apply below_alloc | apply pw_below_drewN | apply below_drew1) | exact HB.out)⟩⟩
        · rw [if_neg c13] at H
          have c13b0 : (a3 == 366) = false := beq_eq_false_iff_ne.mpr c13
          have c13b1 : (a3 != 366) = true := bne_iff_ne.mpr c13
          have H' := Aside0.mk H
          clear H
          go_wp2
          go_meet
          case rel => exact ⟨_, (true), (by first | rfl | (simp; done) | (simp [*]; done)), H', ⟨by first | omega | exact Nat.le_refl _⟩, ⟨by repeat (first | (with_reducible first | exact HB.out | apply below_alloc | apply pw_below_drewN | apply below_drew1) | exact HB.out)⟩⟩
    case rest =>
      clear HC8
      try clear c1
      try clear p2
      try clear c3
      try clear c7
      try clear c9
      try clear c11
      try clear c11b0
      try clear c11b1
      try clear c13
      try clear c13b0
      try clear c13b1
      obtain ⟨kq, x23_7, rfl, HA, HJ7, HB⟩ := hcut
      cases kq with
      | zero => exact absurd HA.out (by simp [impl_MovedTenant.j0])
      | succ kj7 =>
        have H := HA.out
        clear HA
        simp only [impl_MovedTenant.j0] at H
        by_cases c15 : x23_7 = true
        · subst c15
          have H1 : (some (([] : List (S129)), 2)) = some (r1, r2) := by rw [if_pos rfl] at H; exact H
          clear H
          have H := H1
          clear H1
          simp only [Option.some.injEq, Prod.mk.injEq] at H
          obtain ⟨rfl, rfl⟩ := H
          go_wp2
          go_ret2
          exact ⟨_, by first | rfl | (simp [errW_none, errW_some] <;> rfl) | (simp [*, errW_none, errW_some] <;> rfl), by first | exact Kd.R_nil _ _ _ _ _ | exact Kd.N_nil _ _ _ _ _ | exact Kd.V_nil _ _ _ _ _ | exact Kd.Q_nil _ _ _ _ _ | exact Kd.S_nil _ _ _ _ _, by repeat (first | (with_reducible first | exact HB.out | apply below_alloc | apply pw_below_drewN | apply below_drew1) | exact HB.out)⟩
        · replace c15 := Bool.eq_false_iff.mpr c15
          subst c15
          have H1 : (if t197 < 0 then (some (([] : List (S129)), 3)) else (if a1.size + 1 ≤ 9223372036854775807 then ((impl_tenantAt.f kj7 l0 (a1 ++ (⟨#[98]⟩ : ByteArray))).bind fun t201 => (if t201 ≥ 0 then (some (([] : List (S129)), 4)) else (if (l0.length : Int) = 12 then (some (([] : List (S129)), 5)) else ((slices_Clone_Tenant.f l0).bind fun t202 => (if 0 ≤ t197 then (if t197 < (t202.length : Int) then ((impl_divRound.f (wrap64 (((rd_T129 t202 t197).f2) * a2)) a3).bind fun t206 => ((some (t202.set (t197 : Int).toNat (⟨(rd_T129 t202 t197).f0, (rd_T129 t202 t197).f1, t206⟩ : S129) : List (S129))).bind fun y210 => ((slices_BinarySearchFunc_Tenant.f kj7 y210 (a1 ++ (⟨#[98]⟩ : ByteArray)) ((rd_T129 t202 t197).f1) (wrap64 (((rd_T129 t202 t197).f2) - t206))).bind fun bt211 => ((slices_Insert_Tenant.f y210 bt211.1 (([(⟨a1 ++ (⟨#[98]⟩ : ByteArray), (rd_T129 t202 t197).f1, wrap64 (((rd_T129 t202 t197).f2) - t206)⟩ : S129)] : List (S129)))).bind fun t216 => ((impl_ValidTenants.f kj7 t216).bind fun t219 => (if t219 = true then (some (t216, 0)) else (some (([] : List (S129)), 6)))))))) else (none)) else (none)))))) else (none))) = some (r1, r2) := by rw [if_neg (show ¬ (false = true) by decide)] at H; exact H
          clear H
          have H := H1
          clear H1
          by_cases c16 : t197 < 0
          · rw [if_pos c16] at H
            have c16b0 : decide (t197 < 0) = true := decide_eq_true c16
            clear c16
            simp only [Option.some.injEq, Prod.mk.injEq] at H
            obtain ⟨rfl, rfl⟩ := H
            go_wp2
            go_ret2
            exact ⟨_, by first | rfl | (simp [errW_none, errW_some] <;> rfl) | (simp [*, errW_none, errW_some] <;> rfl), by first | exact Kd.R_nil _ _ _ _ _ | exact Kd.N_nil _ _ _ _ _ | exact Kd.V_nil _ _ _ _ _ | exact Kd.Q_nil _ _ _ _ _ | exact Kd.S_nil _ _ _ _ _, by repeat (first | (with_reducible first | exact HB.out | apply below_alloc | apply pw_below_drewN | apply below_drew1) | exact HB.out)⟩
          · rw [if_neg c16] at H
            have c16b0 : decide (t197 < 0) = false := decide_eq_false c16
            clear c16
            by_cases c17 : a1.size + 1 ≤ 9223372036854775807
            · rw [if_pos c17] at H
              have c17b0 := eq_true c17
              have c17b1 : decide (a1.size + 1 ≤ 9223372036854775807) = true := decide_eq_true c17
              try have c17b2 : (9223372036854775807 < a1.size + 1) = False := eq_false (Nat.not_lt.2 c17)
              replace H := Option.bind_eq_some_iff.mp H
              obtain ⟨t201, A180, H⟩ := H
              replace H : (if t201 ≥ 0 then (some (([] : List (S129)), 4)) else (if (l0.length : Int) = 12 then (some (([] : List (S129)), 5)) else ((slices_Clone_Tenant.f l0).bind fun t202 => (if 0 ≤ t197 then (if t197 < (t202.length : Int) then ((impl_divRound.f (wrap64 (((rd_T129 t202 t197).f2) * a2)) a3).bind fun t206 => ((some (t202.set (t197 : Int).toNat (⟨(rd_T129 t202 t197).f0, (rd_T129 t202 t197).f1, t206⟩ : S129) : List (S129))).bind fun y210 => ((slices_BinarySearchFunc_Tenant.f kj7 y210 (a1 ++ (⟨#[98]⟩ : ByteArray)) ((rd_T129 t202 t197).f1) (wrap64 (((rd_T129 t202 t197).f2) - t206))).bind fun bt211 => ((slices_Insert_Tenant.f y210 bt211.1 (([(⟨a1 ++ (⟨#[98]⟩ : ByteArray), (rd_T129 t202 t197).f1, wrap64 (((rd_T129 t202 t197).f2) - t206)⟩ : S129)] : List (S129)))).bind fun t216 => ((impl_ValidTenants.f kj7 t216).bind fun t219 => (if t219 = true then (some (t216, 0)) else (some (([] : List (S129)), 6)))))))) else (none)) else (none))))) = some (r1, r2) := H
              have A18 := Aside0.mk A180
              clear A180
              by_cases c19 : t201 ≥ 0
              · rw [if_pos c19] at H
                have c19b0 : decide (0 ≤ t201) = true := decide_eq_true c19
                clear c19
                simp only [Option.some.injEq, Prod.mk.injEq] at H
                obtain ⟨rfl, rfl⟩ := H
                go_wp2_with (first | ((with_reducible refine gate_callee (f := 98) rfl ?_); refine goesL_ (some 43) rfl rfl Try.func98 (by kernel_rfl) rfl #[.slice A0 l0.length c0, .string (a1 ++ (⟨#[98]⟩ : ByteArray))] rfl (by (try simp only [List.map_toArray, List.map_cons, List.map_nil]); first | done | rfl | (simp only [List.length_drop, List.length_take]; rfl)) ?_; (with_reducible refine (impl_tenantAt.calls kj7 _ _ l0 (a1 ++ (⟨#[98]⟩ : ByteArray)) t201 _ ?side1 ?side2 A18.out).mono ?_); (case side1 => repeat (first | exact (Kd.C_below HR0.out HB.out) | (with_reducible refine Kd.C_alloc ?_ _) | (with_reducible refine Kd.C_drewN ?_ _) | (with_reducible refine Kd.C_drew ?_))); (case side2 => exact HC0.out); rintro e w20 ⟨rfl, hb⟩; refine ⟨_, rfl, ?_⟩; have n0_ := Aside0.mk (below_step (by repeat (first | (with_reducible first | exact HB.out | apply below_alloc | apply pw_below_drewN | apply below_drew1) | exact HB.out)) hb); clear HB; have HB := n0_; clear n0_; (try clear hb); (try clear hb2); (try clear hk); (try clear hi)))
                go_ret2
                exact ⟨_, by first | rfl | (simp [errW_none, errW_some] <;> rfl) | (simp [*, errW_none, errW_some] <;> rfl), by first | exact Kd.R_nil _ _ _ _ _ | exact Kd.N_nil _ _ _ _ _ | exact Kd.V_nil _ _ _ _ _ | exact Kd.Q_nil _ _ _ _ _ | exact Kd.S_nil _ _ _ _ _, by repeat (first | (with_reducible first | exact HB.out | apply below_alloc | apply pw_below_drewN | apply below_drew1) | exact HB.out)⟩
              · rw [if_neg c19] at H
                have c19b0 : decide (0 ≤ t201) = false := decide_eq_false c19
                clear c19
                by_cases c21 : (l0.length : Int) = 12
                · rw [if_pos c21] at H
                  have c21b0 : ((l0.length : Int) == 12) = true := beq_iff_eq.mpr c21
                  have c21b1 : ((l0.length : Int) != 12) = false := bne_eq_false_iff_eq.mpr c21
                  clear c21
                  simp only [Option.some.injEq, Prod.mk.injEq] at H
                  obtain ⟨rfl, rfl⟩ := H
                  go_wp2_with (first | ((with_reducible refine gate_callee (f := 98) rfl ?_); refine goesL_ (some 43) rfl rfl Try.func98 (by kernel_rfl) rfl #[.slice A0 l0.length c0, .string (a1 ++ (⟨#[98]⟩ : ByteArray))] rfl (by (try simp only [List.map_toArray, List.map_cons, List.map_nil]); first | done | rfl | (simp only [List.length_drop, List.length_take]; rfl)) ?_; (with_reducible refine (impl_tenantAt.calls kj7 _ _ l0 (a1 ++ (⟨#[98]⟩ : ByteArray)) t201 _ ?side1 ?side2 A18.out).mono ?_); (case side1 => repeat (first | exact (Kd.C_below HR0.out HB.out) | (with_reducible refine Kd.C_alloc ?_ _) | (with_reducible refine Kd.C_drewN ?_ _) | (with_reducible refine Kd.C_drew ?_))); (case side2 => exact HC0.out); rintro e w22 ⟨rfl, hb⟩; refine ⟨_, rfl, ?_⟩; have n0_ := Aside0.mk (below_step (by repeat (first | (with_reducible first | exact HB.out | apply below_alloc | apply pw_below_drewN | apply below_drew1) | exact HB.out)) hb); clear HB; have HB := n0_; clear n0_; (try clear hb); (try clear hb2); (try clear hk); (try clear hi)))
                  go_ret2
                  exact ⟨_, by first | rfl | (simp [errW_none, errW_some] <;> rfl) | (simp [*, errW_none, errW_some] <;> rfl), by first | exact Kd.R_nil _ _ _ _ _ | exact Kd.N_nil _ _ _ _ _ | exact Kd.V_nil _ _ _ _ _ | exact Kd.Q_nil _ _ _ _ _ | exact Kd.S_nil _ _ _ _ _, by repeat (first | (with_reducible first | exact HB.out | apply below_alloc | apply pw_below_drewN | apply below_drew1) | exact HB.out)⟩
                · rw [if_neg c21] at H
                  have c21b0 : ((l0.length : Int) == 12) = false := beq_eq_false_iff_ne.mpr c21
                  have c21b1 : ((l0.length : Int) != 12) = true := bne_iff_ne.mpr c21
                  replace H := Option.bind_eq_some_iff.mp H
                  obtain ⟨t202, A230, H⟩ := H
                  replace H : (if 0 ≤ t197 then (if t197 < (t202.length : Int) then ((impl_divRound.f (wrap64 (((rd_T129 t202 t197).f2) * a2)) a3).bind fun t206 => ((some (t202.set (t197 : Int).toNat (⟨(rd_T129 t202 t197).f0, (rd_T129 t202 t197).f1, t206⟩ : S129) : List (S129))).bind fun y210 => ((slices_BinarySearchFunc_Tenant.f kj7 y210 (a1 ++ (⟨#[98]⟩ : ByteArray)) ((rd_T129 t202 t197).f1) (wrap64 (((rd_T129 t202 t197).f2) - t206))).bind fun bt211 => ((slices_Insert_Tenant.f y210 bt211.1 (([(⟨a1 ++ (⟨#[98]⟩ : ByteArray), (rd_T129 t202 t197).f1, wrap64 (((rd_T129 t202 t197).f2) - t206)⟩ : S129)] : List (S129)))).bind fun t216 => ((impl_ValidTenants.f kj7 t216).bind fun t219 => (if t219 = true then (some (t216, 0)) else (some (([] : List (S129)), 6)))))))) else (none)) else (none)) = some (r1, r2) := H
                  have A23 := Aside0.mk A230
                  clear A230
                  by_cases c24 : 0 ≤ t197
                  · rw [if_pos c24] at H
                    have c24b0 : decide (0 ≤ t197) = true := decide_eq_true c24
                    clear c24
                    by_cases c25 : t197 < (t202.length : Int)
                    · rw [if_pos c25] at H
                      have c25b0 : decide (t197 < (t202.length : Int)) = true := decide_eq_true c25
                      clear c25
                      replace H := Option.bind_eq_some_iff.mp H
                      obtain ⟨t206, A260, H⟩ := H
                      replace H : ((some (t202.set (t197 : Int).toNat (⟨(rd_T129 t202 t197).f0, (rd_T129 t202 t197).f1, t206⟩ : S129) : List (S129))).bind fun y210 => ((slices_BinarySearchFunc_Tenant.f kj7 y210 (a1 ++ (⟨#[98]⟩ : ByteArray)) ((rd_T129 t202 t197).f1) (wrap64 (((rd_T129 t202 t197).f2) - t206))).bind fun bt211 => ((slices_Insert_Tenant.f y210 bt211.1 (([(⟨a1 ++ (⟨#[98]⟩ : ByteArray), (rd_T129 t202 t197).f1, wrap64 (((rd_T129 t202 t197).f2) - t206)⟩ : S129)] : List (S129)))).bind fun t216 => ((impl_ValidTenants.f kj7 t216).bind fun t219 => (if t219 = true then (some (t216, 0)) else (some (([] : List (S129)), 6))))))) = some (r1, r2) := H
                      have A26 := Aside0.mk A260
                      clear A260
                      obtain ⟨y210, hy210⟩ : ∃ y_ : List (S129), y_ = (t202.set (t197 : Int).toNat (⟨(rd_T129 t202 t197).f0, (rd_T129 t202 t197).f1, t206⟩ : S129)) := ⟨_, rfl⟩
                      replace H : ((slices_BinarySearchFunc_Tenant.f kj7 y210 (a1 ++ (⟨#[98]⟩ : ByteArray)) ((rd_T129 t202 t197).f1) (wrap64 (((rd_T129 t202 t197).f2) - t206))).bind fun bt211 => ((slices_Insert_Tenant.f y210 bt211.1 (([(⟨a1 ++ (⟨#[98]⟩ : ByteArray), (rd_T129 t202 t197).f1, wrap64 (((rd_T129 t202 t197).f2) - t206)⟩ : S129)] : List (S129)))).bind fun t216 => ((impl_ValidTenants.f kj7 t216).bind fun t219 => (if t219 = true then (some (t216, 0)) else (some (([] : List (S129)), 6)))))) = some (r1, r2) := by first | (rw [hy210]; with_reducible exact H) | (have H2_ := (Option.bind_some _ _).symm.trans H; rw [hy210]; with_reducible exact H2_) | (have H2_ := (Option.bind_some _ _).symm.trans H; with_reducible exact H2_) | with_reducible exact H | (rw [hy210]; exact H) | exact H
                      have Ny210 := Aside0.mk hy210
                      clear hy210
                      replace H := Option.bind_eq_some_iff.mp H
                      obtain ⟨⟨t211, t212⟩, A280, H⟩ := H
                      replace H : ((slices_Insert_Tenant.f y210 t211 (([(⟨a1 ++ (⟨#[98]⟩ : ByteArray), (rd_T129 t202 t197).f1, wrap64 (((rd_T129 t202 t197).f2) - t206)⟩ : S129)] : List (S129)))).bind fun t216 => ((impl_ValidTenants.f kj7 t216).bind fun t219 => (if t219 = true then (some (t216, 0)) else (some (([] : List (S129)), 6))))) = some (r1, r2) := H
                      have A28 := Aside0.mk A280
                      clear A280
                      obtain ⟨y213, hy213⟩ : ∃ y_ : List (S129), y_ = (([(⟨a1 ++ (⟨#[98]⟩ : ByteArray), (rd_T129 t202 t197).f1, wrap64 (((rd_T129 t202 t197).f2) - t206)⟩ : S129)] : List (S129))) := ⟨_, rfl⟩
                      replace H : ((slices_Insert_Tenant.f y210 t211 y213).bind fun t216 => ((impl_ValidTenants.f kj7 t216).bind fun t219 => (if t219 = true then (some (t216, 0)) else (some (([] : List (S129)), 6))))) = some (r1, r2) := by first | (rw [hy213]; with_reducible exact H) | (have H2_ := (Option.bind_some _ _).symm.trans H; rw [hy213]; with_reducible exact H2_) | (have H2_ := (Option.bind_some _ _).symm.trans H; with_reducible exact H2_) | with_reducible exact H | (rw [hy213]; exact H) | exact H
                      have Ny213 := Aside0.mk hy213
                      clear hy213
                      replace H := Option.bind_eq_some_iff.mp H
                      obtain ⟨t216, A290, H⟩ := H
                      replace H : ((impl_ValidTenants.f kj7 t216).bind fun t219 => (if t219 = true then (some (t216, 0)) else (some (([] : List (S129)), 6)))) = some (r1, r2) := H
                      have A29 := Aside0.mk A290
                      clear A290
                      replace H := Option.bind_eq_some_iff.mp H
                      obtain ⟨t219, A300, H⟩ := H
                      replace H : (if t219 = true then (some (t216, 0)) else (some (([] : List (S129)), 6))) = some (r1, r2) := H
                      have A30 := Aside0.mk A300
                      clear A300
                      by_cases c31 : t219 = true
                      · subst c31
                        have H1 : (some (t216, 0)) = some (r1, r2) := by rw [if_pos rfl] at H; exact H
                        clear H
                        have H := H1
                        clear H1
                        simp only [Option.some.injEq, Prod.mk.injEq] at H
                        obtain ⟨rfl, rfl⟩ := H
                        try go_wp2_with (first | ((with_reducible refine gate_callee (f := 98) rfl ?_); refine goesL_ (some 43) rfl rfl Try.func98 (by kernel_rfl) rfl #[.slice A0 l0.length c0, .string (a1 ++ (⟨#[98]⟩ : ByteArray))] rfl (by (try simp only [List.map_toArray, List.map_cons, List.map_nil]); first | done | rfl | (simp only [List.length_drop, List.length_take]; rfl)) ?_; (with_reducible refine (impl_tenantAt.calls kj7 _ _ l0 (a1 ++ (⟨#[98]⟩ : ByteArray)) t201 _ ?side1 ?side2 A18.out).mono ?_); (case side1 => repeat (first | exact (Kd.C_below HR0.out HB.out) | (with_reducible refine Kd.C_alloc ?_ _) | (with_reducible refine Kd.C_drewN ?_ _) | (with_reducible refine Kd.C_drew ?_))); (case side2 => exact HC0.out); rintro e w32 ⟨rfl, hb⟩; refine ⟨_, rfl, ?_⟩; have n0_ := Aside0.mk (below_step (by repeat (first | (with_reducible first | exact HB.out | apply below_alloc | apply pw_below_drewN | apply below_drew1) | exact HB.out)) hb); clear HB; have HB := n0_; clear n0_; (try clear hb); (try clear hb2); (try clear hk); (try clear hi)) | ((with_reducible refine gate_callee (f := 101) rfl ?_); refine goesL_ (some 50) rfl rfl Try.func101 (by kernel_rfl) rfl #[.slice A0 l0.length c0] rfl (by (try simp only [List.map_toArray, List.map_cons, List.map_nil]); first | done | rfl | (simp only [List.length_drop, List.length_take]; rfl)) ?_; (with_reducible refine (slices_Clone_Tenant.calls _ _ l0 t202 _ ?side1 ?side2 A23.out).mono ?_); (case side1 => repeat (first | exact (Kd.C_below HR0.out HB.out) | (with_reducible refine Kd.C_alloc ?_ _) | (with_reducible refine Kd.C_drewN ?_ _) | (with_reducible refine Kd.C_drew ?_))); (case side2 => exact HC0.out); rintro e w33 ⟨v203, rfl, ho0, hb⟩; refine ⟨_, rfl, ?_⟩; have n0_ := Aside0.mk (Kd.R_lower ho0 (below_size (by repeat (first | (with_reducible first | exact HB.out | apply below_alloc | apply pw_below_drewN | apply below_drew1) | exact HB.out)))); have n1_ := Aside0.mk (below_step (by repeat (first | (with_reducible first | exact HB.out | apply below_alloc | apply pw_below_drewN | apply below_drew1) | exact HB.out)) hb); clear HB; have HO204 := n0_; have HB := n1_; clear n0_ n1_; (try clear hb); (try clear hb2); (try clear hk); (try clear hi); (try clear ho0); obtain ⟨Ao34, co34, eo34⟩ := Kd.R_slice HO204.out; subst eo34; have p205 : 0 ≤ (t197 : Int) := of_decide_eq_true (by first | (with_reducible assumption) | assumption); have q205 : t197 < (t202.length : Int) := of_decide_eq_true (by first | (with_reducible assumption) | assumption); obtain ⟨ad205, e205, hx205_0, hx205_1, hx205_2⟩ := at_T129 (Kd.R_reads' HO204.out).2.2 t197 p205 q205; cases e205; replace p205 := eq_true p205; replace q205 := eq_true q205) | ((with_reducible refine gate_callee (f := 102) rfl ?_); refine goesL_ (some 59) rfl rfl Try.func102 (by kernel_rfl) rfl #[.int .i64 (wrap64 (((rd_T129 t202 t197).f2) * a2)), .int .i64 a3] rfl (by (try simp only [List.map_toArray, List.map_cons, List.map_nil]); first | done | rfl | (simp only [List.length_drop, List.length_take]; rfl)) ?_; (with_reducible refine (impl_divRound.calls (wrap64 (((rd_T129 t202 t197).f2) * a2)) a3 t206 _ A26.out).mono ?_); rintro e w35 ⟨rfl, hb⟩; refine ⟨_, rfl, ?_⟩; have n0_ := Aside0.mk (Kd.R_below (by (with_reducible repeat (first | apply Kd.R_alloc | apply Kd.R_drewN | apply Kd.R_drew)); exact HO204.out) hb); have n1_ := Aside0.mk (below_step (by repeat (first | (with_reducible first | exact HB.out | apply below_alloc | apply pw_below_drewN | apply below_drew1) | exact HB.out)) hb); clear HO204; clear HB; have HO204 := n0_; have HB := n1_; clear n0_ n1_; (try clear hb); (try clear hb2); (try clear hk); (try clear hi)))
                        have n0_ := Aside0.mk (Kd.R_drew HO204.out)
                        have n1_ := Aside0.mk (below_drew1 HB.out)
                        clear HO204
                        clear HB
                        have HO204 := n0_
                        have HB := n1_
                        clear n0_ n1_
                        have p207 : 0 ≤ (t197 : Int) := of_decide_eq_true (by first | (with_reducible assumption) | assumption)
                        have q207 : t197 < (t202.length : Int) := of_decide_eq_true (by first | (with_reducible assumption) | assumption)
                        obtain ⟨ad207, e207, hx207_0, hx207_1, hx207_2⟩ := at_T129 (Kd.R_reads' HO204.out).2.2 t197 p207 q207
                        obtain rfl : ad205 = ad207 := (by injection e207)
                        replace p207 := eq_true p207
                        replace q207 := eq_true q207
                        have p208 : 0 ≤ (t197 : Int) := of_decide_eq_true (by first | (with_reducible assumption) | assumption)
                        have q208 : t197 < (t202.length : Int) := of_decide_eq_true (by first | (with_reducible assumption) | assumption)
                        obtain ⟨ad208, e208, hx208_0, hx208_1, hx208_2⟩ := at_T129 (Kd.R_reads' HO204.out).2.2 t197 p208 q208
                        obtain rfl : ad205 = ad208 := (by injection e208)
                        replace p208 := eq_true p208
                        replace q208 := eq_true q208
                        refine start_ (n := 17) (S := fun w' => w'.cell? (ad205.add ((t197).toNat * 3)) = some (.string ((rd_T129 t202 t197).f0)) ∧ w'.cell? ⟨(ad205.add ((t197).toNat * 3)).block, (ad205.add ((t197).toNat * 3)).off + 1, none⟩ = some (.int .i64 ((rd_T129 t202 t197).f1)) ∧ w'.cell? ⟨(ad205.add ((t197).toNat * 3)).block, (ad205.add ((t197).toNat * 3)).off + 2, none⟩ = some (.int .i64 ((rd_T129 t202 t197).f2)) ∧ w'.cell? (ad205.add ((t197).toNat * 3)) = some (.string ((rd_T129 t202 t197).f0)) ∧ w'.cell? ⟨(ad205.add ((t197).toNat * 3)).block, (ad205.add ((t197).toNat * 3)).off + 1, none⟩ = some (.int .i64 ((rd_T129 t202 t197).f1)) ∧ w'.cell? ⟨(ad205.add ((t197).toNat * 3)).block, (ad205.add ((t197).toNat * 3)).off + 2, none⟩ = some (.int .i64 ((rd_T129 t202 t197).f2))) (ds := []) #[false, false, false, false, false, false, false, false, false, false, false, false, false, false, false, false, false] (by kernel_rfl) rfl rfl ⟨hx207_0, hx207_1, hx207_2, hx208_0, hx208_1, hx208_2⟩ (fun hHeld => ?_); refine with_tabW impl_MovedTenant.tab14 impl_MovedTenant.bits14 (fun HT_ HW_ => ?_)
                        generalize w35.drew = w36 at HO204 HB hx207_0 hx207_1 hx207_2 hx208_0 hx208_1 hx208_2 hHeld ⊢
                        refine pure_ (i := 0) (N := some 60) (v := ?_) (a' := ?_) #[true, false, false, false, false, false, false, false, false, false, false, false, false, false, false, false, false] rfl rfl (any_of HT_.out (by kernel_rfl)) (fun _ _ _ h => h) (Or.inl ⟨by rfl, ?_⟩) ?_ ?_
                        rotate_left
                        · intro w'
                          go_simp
                          with_reducible rfl
                        rotate_left
                        · simp only [Act.put, List.setIfInBounds_toArray, List.set_cons_zero, List.set_cons_succ, i64_w, i32_w]
                          rfl
                        refine pure_ (i := 1) (N := some 61) (v := ?_) (a' := ?_) #[true, true, false, false, false, false, false, false, false, false, false, false, false, false, false, false, false] rfl rfl (any_of HT_.out (by kernel_rfl)) (fun _ _ _ h => h) (Or.inl ⟨by rfl, ?_⟩) ?_ ?_
                        rotate_left
                        · intro w'
                          go_simp
                          with_reducible rfl
                        rotate_left
                        · simp only [Act.put, List.setIfInBounds_toArray, List.set_cons_zero, List.set_cons_succ, i64_w, i32_w]
                          rfl
                        refine pure_ (i := 2) (N := some 62) (v := ?_) (a' := ?_) #[true, true, true, false, false, false, false, false, false, false, false, false, false, false, false, false, false] rfl rfl (any_of HT_.out (by kernel_rfl)) (fun _ _ _ h => h) (Or.inl ⟨by rfl, ?_⟩) ?_ ?_
                        rotate_left
                        · intro w'
                          go_simp
                          with_reducible rfl
                        rotate_left
                        · simp only [Act.put, List.setIfInBounds_toArray, List.set_cons_zero, List.set_cons_succ, i64_w, i32_w]
                          rfl
                        refine pure_ (i := 3) (N := some 63) (v := ?_) (a' := ?_) #[true, true, true, true, false, false, false, false, false, false, false, false, false, false, false, false, false] rfl rfl (any_of HT_.out (by kernel_rfl)) (fun _ _ _ h => h) (Or.inl ⟨by rfl, ?_⟩) ?_ ?_
                        rotate_left
                        · intro w'
                          go_simp
                          with_reducible rfl
                        rotate_left
                        · simp only [Act.put, List.setIfInBounds_toArray, List.set_cons_zero, List.set_cons_succ, i64_w, i32_w]
                          rfl
                        refine pure_ (i := 4) (N := some 64) (v := ?_) (a' := ?_) #[true, true, true, true, true, false, false, false, false, false, false, false, false, false, false, false, false] rfl rfl (any_of HT_.out (by kernel_rfl)) (fun _ _ _ h => h) (Or.inl ⟨by rfl, ?_⟩) ?_ ?_
                        rotate_left
                        · intro w'
                          go_simp
                          with_reducible rfl
                        rotate_left
                        · simp only [Act.put, List.setIfInBounds_toArray, List.set_cons_zero, List.set_cons_succ, i64_w, i32_w]
                          rfl
                        refine pure_ (i := 5) (N := some 65) (v := ?_) (a' := ?_) #[true, true, true, true, true, true, false, false, false, false, false, false, false, false, false, false, false] rfl rfl (any_of HT_.out (by kernel_rfl)) (fun _ _ _ h => h) (Or.inl ⟨by rfl, ?_⟩) ?_ ?_
                        rotate_left
                        · intro w'
                          go_simp
                          with_reducible rfl
                        rotate_left
                        · simp only [Act.put, List.setIfInBounds_toArray, List.set_cons_zero, List.set_cons_succ, i64_w, i32_w]
                          rfl
                        refine pure_ (i := 7) (N := some 67) (v := ?_) (a' := ?_) #[true, true, true, true, true, true, false, true, false, false, false, false, false, false, false, false, false] rfl rfl (any_of HT_.out (by kernel_rfl)) (fun _ _ _ h => h) (Or.inl ⟨by rfl, ?_⟩) ?_ ?_
                        rotate_left
                        · intro w'
                          go_simp
                          with_reducible rfl
                        rotate_left
                        · simp only [Act.put, List.setIfInBounds_toArray, List.set_cons_zero, List.set_cons_succ, i64_w, i32_w]
                          rfl
                        refine pure_ (i := 8) (N := some 68) (v := ?_) (a' := ?_) #[true, true, true, true, true, true, false, true, true, false, false, false, false, false, false, false, false] rfl rfl (any_of HT_.out (by kernel_rfl)) (fun _ _ _ h => h) (Or.inl ⟨by rfl, ?_⟩) ?_ ?_
                        rotate_left
                        · intro w'
                          go_simp
                          with_reducible rfl
                        rotate_left
                        · simp only [Act.put, List.setIfInBounds_toArray, List.set_cons_zero, List.set_cons_succ, i64_w, i32_w]
                          rfl
                        refine pure_ (i := 9) (N := some 69) (v := ?_) (a' := ?_) #[true, true, true, true, true, true, false, true, true, true, false, false, false, false, false, false, false] rfl rfl (any_of HT_.out (by kernel_rfl)) (fun _ _ _ h => h) (Or.inl ⟨by rfl, ?_⟩) ?_ ?_
                        rotate_left
                        · intro w'
                          go_simp
                          with_reducible rfl
                        rotate_left
                        · simp only [Act.put, List.setIfInBounds_toArray, List.set_cons_zero, List.set_cons_succ, i64_w, i32_w]
                          rfl
                        refine pure_ (i := 10) (N := some 70) (v := ?_) (a' := ?_) #[true, true, true, true, true, true, false, true, true, true, true, false, false, false, false, false, false] rfl rfl (any_of HT_.out (by kernel_rfl)) (fun _ _ _ h => h) (Or.inl ⟨by rfl, ?_⟩) ?_ ?_
                        rotate_left
                        · intro w'
                          go_simp
                          with_reducible rfl
                        rotate_left
                        · simp only [Act.put, List.setIfInBounds_toArray, List.set_cons_zero, List.set_cons_succ, i64_w, i32_w]
                          rfl
                        refine pure_ (i := 12) (N := some 72) (v := ?_) (a' := ?_) #[true, true, true, true, true, true, false, true, true, true, true, false, true, false, false, false, false] rfl rfl (any_of HT_.out (by kernel_rfl)) (fun _ _ _ h => h) (Or.inl ⟨by rfl, ?_⟩) ?_ ?_
                        rotate_left
                        · intro w'
                          go_simp
                          with_reducible rfl
                        rotate_left
                        · simp only [Act.put, List.setIfInBounds_toArray, List.set_cons_zero, List.set_cons_succ, i64_w, i32_w]
                          rfl
                        refine take_ (i := 6) (N := some 66) (v := ?_) (a' := ?_) #[true, true, true, true, true, true, true, true, true, true, true, false, true, false, false, false, false] rfl rfl (take_ofW HT_.out HW_.out (by kernel_rfl)) (fun _ _ _ h => h) (Or.inl ⟨by rfl, ?_⟩) hHeld ?_ ?_
                        rotate_left
                        · rintro w' ⟨s0, s1, s2, s3, s4, s5⟩
                          go_simp
                          with_reducible rfl
                        rotate_left
                        · simp only [Act.put, List.setIfInBounds_toArray, List.set_cons_zero, List.set_cons_succ, i64_w, i32_w]
                          rfl
                        refine take_ (i := 11) (N := some 71) (v := ?_) (a' := ?_) #[true, true, true, true, true, true, true, true, true, true, true, true, true, false, false, false, false] rfl rfl (take_ofW HT_.out HW_.out (by kernel_rfl)) (fun _ _ _ h => h) (Or.inl ⟨by rfl, ?_⟩) hHeld ?_ ?_
                        rotate_left
                        · rintro w' ⟨s0, s1, s2, s3, s4, s5⟩
                          go_simp
                          with_reducible rfl
                        rotate_left
                        · simp only [Act.put, List.setIfInBounds_toArray, List.set_cons_zero, List.set_cons_succ, i64_w, i32_w]
                          rfl
                        refine pure_ (i := 13) (N := some 73) (v := ?_) (a' := ?_) #[true, true, true, true, true, true, true, true, true, true, true, true, true, true, false, false, false] rfl rfl (any_of HT_.out (by kernel_rfl)) (fun _ _ _ h => h) (Or.inl ⟨by rfl, ?_⟩) ?_ ?_
                        rotate_left
                        · intro w'
                          go_simp
                          with_reducible rfl
                        rotate_left
                        · simp only [Act.put, List.setIfInBounds_toArray, List.set_cons_zero, List.set_cons_succ, i64_w, i32_w]
                          rfl
                        refine pure_ (i := 14) (N := some 74) (v := ?_) (a' := ?_) #[true, true, true, true, true, true, true, true, true, true, true, true, true, true, true, false, false] rfl rfl (any_of HT_.out (by kernel_rfl)) (fun _ _ _ h => h) (Or.inl ⟨by rfl, ?_⟩) ?_ ?_
                        rotate_left
                        · intro w'
                          go_simp
                          with_reducible rfl
                        rotate_left
                        · simp only [Act.put, List.setIfInBounds_toArray, List.set_cons_zero, List.set_cons_succ, i64_w, i32_w]
                          rfl
                        refine one_ (i := 15) (N := some 13) #[true, true, true, true, true, true, true, true, true, true, true, true, true, true, true, true, false] rfl rfl (one_of HT_.out (by kernel_rfl)) (by decide) (fun K hK => ?_)
                        refine box_step ?hg (N := 13) ?hd (cs := #[.string (⟨#[]⟩ : ByteArray), .int .i64 0, .int .i64 0]) (t := 129) ?hr ?_; (case hd => rfl); (case hg => rfl); (case hr => first | (go_simp; done) | (go_simp; rfl))
                        intro gb209 hg w37 hbox hb
                        have HS0_ := (hb.cell (World.block_lt_of_cell? _ _ (hHeld.1))).trans (hHeld.1)
                        have HS1_ := (hb.cell (World.block_lt_of_cell? _ _ (hHeld.2.1))).trans (hHeld.2.1)
                        have HS2_ := (hb.cell (World.block_lt_of_cell? _ _ (hHeld.2.2.1))).trans (hHeld.2.2.1)
                        have HS3_ := (hb.cell (World.block_lt_of_cell? _ _ (hHeld.2.2.2.1))).trans (hHeld.2.2.2.1)
                        have HS4_ := (hb.cell (World.block_lt_of_cell? _ _ (hHeld.2.2.2.2.1))).trans (hHeld.2.2.2.2.1)
                        have HS5_ := (hb.cell (World.block_lt_of_cell? _ _ (hHeld.2.2.2.2.2))).trans (hHeld.2.2.2.2.2)
                        have n0_ := Aside0.mk (Kd.R_below (Kd.R_elderB (by (with_reducible repeat (first | apply Kd.R_alloc | apply Kd.R_drewN | apply Kd.R_drew)); exact HO204.out) gb209 (Nat.le_of_eq hg.symm)) hb)
                        have n1_ := Aside0.mk (below_step (by repeat (first | (with_reducible first | exact HB.out | apply below_alloc | apply pw_below_drewN | apply below_drew1) | exact HB.out)) hb)
                        have n2_ := Aside0.mk (hbox)
                        have n3_ := Aside0.mk ((by rw [hg]; exact (below_size (by repeat (first | (with_reducible first | exact HB.out | apply below_alloc | apply pw_below_drewN | apply below_drew1) | exact HB.out))) : w.heap.size ≤ gb209))
                        have n4_ := Aside0.mk ((by rw [hg]; exact (below_size (by repeat (first | (with_reducible first | exact HB.out | apply below_alloc | apply pw_below_drewN | apply below_drew1) | exact HB.out))) : w.heap.size ≤ gb209))
                        clear HO204
                        clear HB
                        have HO204 := n0_
                        have HB := n1_
                        have BK209 := n2_
                        have GW209 := n3_
                        have GE209 := n4_
                        clear n0_ n1_ n2_ n3_ n4_
                        clear hb hbox hg
                        refine hK.out _ _ ⟨HS0_, HS1_, HS2_, HS3_, HS4_, HS5_⟩ (fun hHeld => ?_)
                        clear hK K
                        refine norm_ (a' := ?_) ?_ ?_
                        rotate_left
                        · show Act.put _ (some 13) _ = _
                          simp only [Act.put, List.setIfInBounds_toArray, List.set_cons_zero, List.set_cons_succ, i64_w, i32_w]
                          rfl
                        refine one_ (i := 16) (N := none) #[true, true, true, true, true, true, true, true, true, true, true, true, true, true, true, true, true] rfl rfl (one_of HT_.out (by kernel_rfl)) (by decide) (fun K hK => ?_)
                        have hs38 : w37.cell? ⟨gb209, 0, none⟩ = some (.string (⟨#[]⟩ : ByteArray)) := (blk_cell BK209.out 0).trans rfl
                        have hfs38 := blk_frozen BK209.out 0
                        have hs39 : w37.cell? ⟨gb209, 1, none⟩ = some (.int .i64 0) := (blk_cell BK209.out 1).trans rfl
                        have hfs39 := blk_frozen BK209.out 1
                        have hs40 : w37.cell? ⟨gb209, 2, none⟩ = some (.int .i64 0) := (blk_cell BK209.out 2).trans rfl
                        have hfs40 := blk_frozen BK209.out 2
                        refine skip_ (w1 := ?_) (by rfl) rfl ?_ ?_
                        rotate_left
                        · go_simp
                          rfl
                        refine hK.out _ _ ⟨((cell_far (p := ⟨gb209, _, none⟩) (by first | exact Kd.own_blk (Kd.R_away HO204.out (fun _ hk => hk.2)) | (rw [add_block]; exact Kd.own_blk (Kd.R_away HO204.out (fun _ hk => hk.2))) | (show (Addr.add _ _).block ≠ _; rw [add_block]; exact Kd.own_blk (Kd.R_away HO204.out (fun _ hk => hk.2))) | (dsimp only; exact Kd.own_blk (Kd.R_away HO204.out (fun _ hk => hk.2)))) _).trans (((cell_far (p := ⟨gb209, _, none⟩) (by first | exact Kd.own_blk (Kd.R_away HO204.out (fun _ hk => hk.2)) | (rw [add_block]; exact Kd.own_blk (Kd.R_away HO204.out (fun _ hk => hk.2))) | (show (Addr.add _ _).block ≠ _; rw [add_block]; exact Kd.own_blk (Kd.R_away HO204.out (fun _ hk => hk.2))) | (dsimp only; exact Kd.own_blk (Kd.R_away HO204.out (fun _ hk => hk.2)))) _).trans (((cell_far (p := ⟨gb209, _, none⟩) (by first | exact Kd.own_blk (Kd.R_away HO204.out (fun _ hk => hk.2)) | (rw [add_block]; exact Kd.own_blk (Kd.R_away HO204.out (fun _ hk => hk.2))) | (show (Addr.add _ _).block ≠ _; rw [add_block]; exact Kd.own_blk (Kd.R_away HO204.out (fun _ hk => hk.2))) | (dsimp only; exact Kd.own_blk (Kd.R_away HO204.out (fun _ hk => hk.2)))) _).trans (hHeld.1)))))), ((cell_far (p := ⟨gb209, _, none⟩) (by first | exact Kd.own_blk (Kd.R_away HO204.out (fun _ hk => hk.2)) | (rw [add_block]; exact Kd.own_blk (Kd.R_away HO204.out (fun _ hk => hk.2))) | (show (Addr.add _ _).block ≠ _; rw [add_block]; exact Kd.own_blk (Kd.R_away HO204.out (fun _ hk => hk.2))) | (dsimp only; exact Kd.own_blk (Kd.R_away HO204.out (fun _ hk => hk.2)))) _).trans (((cell_far (p := ⟨gb209, _, none⟩) (by first | exact Kd.own_blk (Kd.R_away HO204.out (fun _ hk => hk.2)) | (rw [add_block]; exact Kd.own_blk (Kd.R_away HO204.out (fun _ hk => hk.2))) | (show (Addr.add _ _).block ≠ _; rw [add_block]; exact Kd.own_blk (Kd.R_away HO204.out (fun _ hk => hk.2))) | (dsimp only; exact Kd.own_blk (Kd.R_away HO204.out (fun _ hk => hk.2)))) _).trans (((cell_far (p := ⟨gb209, _, none⟩) (by first | exact Kd.own_blk (Kd.R_away HO204.out (fun _ hk => hk.2)) | (rw [add_block]; exact Kd.own_blk (Kd.R_away HO204.out (fun _ hk => hk.2))) | (show (Addr.add _ _).block ≠ _; rw [add_block]; exact Kd.own_blk (Kd.R_away HO204.out (fun _ hk => hk.2))) | (dsimp only; exact Kd.own_blk (Kd.R_away HO204.out (fun _ hk => hk.2)))) _).trans (hHeld.2.1)))))), ((cell_far (p := ⟨gb209, _, none⟩) (by first | exact Kd.own_blk (Kd.R_away HO204.out (fun _ hk => hk.2)) | (rw [add_block]; exact Kd.own_blk (Kd.R_away HO204.out (fun _ hk => hk.2))) | (show (Addr.add _ _).block ≠ _; rw [add_block]; exact Kd.own_blk (Kd.R_away HO204.out (fun _ hk => hk.2))) | (dsimp only; exact Kd.own_blk (Kd.R_away HO204.out (fun _ hk => hk.2)))) _).trans (((cell_far (p := ⟨gb209, _, none⟩) (by first | exact Kd.own_blk (Kd.R_away HO204.out (fun _ hk => hk.2)) | (rw [add_block]; exact Kd.own_blk (Kd.R_away HO204.out (fun _ hk => hk.2))) | (show (Addr.add _ _).block ≠ _; rw [add_block]; exact Kd.own_blk (Kd.R_away HO204.out (fun _ hk => hk.2))) | (dsimp only; exact Kd.own_blk (Kd.R_away HO204.out (fun _ hk => hk.2)))) _).trans (((cell_far (p := ⟨gb209, _, none⟩) (by first | exact Kd.own_blk (Kd.R_away HO204.out (fun _ hk => hk.2)) | (rw [add_block]; exact Kd.own_blk (Kd.R_away HO204.out (fun _ hk => hk.2))) | (show (Addr.add _ _).block ≠ _; rw [add_block]; exact Kd.own_blk (Kd.R_away HO204.out (fun _ hk => hk.2))) | (dsimp only; exact Kd.own_blk (Kd.R_away HO204.out (fun _ hk => hk.2)))) _).trans (hHeld.2.2.1)))))), ((cell_far (p := ⟨gb209, _, none⟩) (by first | exact Kd.own_blk (Kd.R_away HO204.out (fun _ hk => hk.2)) | (rw [add_block]; exact Kd.own_blk (Kd.R_away HO204.out (fun _ hk => hk.2))) | (show (Addr.add _ _).block ≠ _; rw [add_block]; exact Kd.own_blk (Kd.R_away HO204.out (fun _ hk => hk.2))) | (dsimp only; exact Kd.own_blk (Kd.R_away HO204.out (fun _ hk => hk.2)))) _).trans (((cell_far (p := ⟨gb209, _, none⟩) (by first | exact Kd.own_blk (Kd.R_away HO204.out (fun _ hk => hk.2)) | (rw [add_block]; exact Kd.own_blk (Kd.R_away HO204.out (fun _ hk => hk.2))) | (show (Addr.add _ _).block ≠ _; rw [add_block]; exact Kd.own_blk (Kd.R_away HO204.out (fun _ hk => hk.2))) | (dsimp only; exact Kd.own_blk (Kd.R_away HO204.out (fun _ hk => hk.2)))) _).trans (((cell_far (p := ⟨gb209, _, none⟩) (by first | exact Kd.own_blk (Kd.R_away HO204.out (fun _ hk => hk.2)) | (rw [add_block]; exact Kd.own_blk (Kd.R_away HO204.out (fun _ hk => hk.2))) | (show (Addr.add _ _).block ≠ _; rw [add_block]; exact Kd.own_blk (Kd.R_away HO204.out (fun _ hk => hk.2))) | (dsimp only; exact Kd.own_blk (Kd.R_away HO204.out (fun _ hk => hk.2)))) _).trans (hHeld.2.2.2.1)))))), ((cell_far (p := ⟨gb209, _, none⟩) (by first | exact Kd.own_blk (Kd.R_away HO204.out (fun _ hk => hk.2)) | (rw [add_block]; exact Kd.own_blk (Kd.R_away HO204.out (fun _ hk => hk.2))) | (show (Addr.add _ _).block ≠ _; rw [add_block]; exact Kd.own_blk (Kd.R_away HO204.out (fun _ hk => hk.2))) | (dsimp only; exact Kd.own_blk (Kd.R_away HO204.out (fun _ hk => hk.2)))) _).trans (((cell_far (p := ⟨gb209, _, none⟩) (by first | exact Kd.own_blk (Kd.R_away HO204.out (fun _ hk => hk.2)) | (rw [add_block]; exact Kd.own_blk (Kd.R_away HO204.out (fun _ hk => hk.2))) | (show (Addr.add _ _).block ≠ _; rw [add_block]; exact Kd.own_blk (Kd.R_away HO204.out (fun _ hk => hk.2))) | (dsimp only; exact Kd.own_blk (Kd.R_away HO204.out (fun _ hk => hk.2)))) _).trans (((cell_far (p := ⟨gb209, _, none⟩) (by first | exact Kd.own_blk (Kd.R_away HO204.out (fun _ hk => hk.2)) | (rw [add_block]; exact Kd.own_blk (Kd.R_away HO204.out (fun _ hk => hk.2))) | (show (Addr.add _ _).block ≠ _; rw [add_block]; exact Kd.own_blk (Kd.R_away HO204.out (fun _ hk => hk.2))) | (dsimp only; exact Kd.own_blk (Kd.R_away HO204.out (fun _ hk => hk.2)))) _).trans (hHeld.2.2.2.2.1)))))), ((cell_far (p := ⟨gb209, _, none⟩) (by first | exact Kd.own_blk (Kd.R_away HO204.out (fun _ hk => hk.2)) | (rw [add_block]; exact Kd.own_blk (Kd.R_away HO204.out (fun _ hk => hk.2))) | (show (Addr.add _ _).block ≠ _; rw [add_block]; exact Kd.own_blk (Kd.R_away HO204.out (fun _ hk => hk.2))) | (dsimp only; exact Kd.own_blk (Kd.R_away HO204.out (fun _ hk => hk.2)))) _).trans (((cell_far (p := ⟨gb209, _, none⟩) (by first | exact Kd.own_blk (Kd.R_away HO204.out (fun _ hk => hk.2)) | (rw [add_block]; exact Kd.own_blk (Kd.R_away HO204.out (fun _ hk => hk.2))) | (show (Addr.add _ _).block ≠ _; rw [add_block]; exact Kd.own_blk (Kd.R_away HO204.out (fun _ hk => hk.2))) | (dsimp only; exact Kd.own_blk (Kd.R_away HO204.out (fun _ hk => hk.2)))) _).trans (((cell_far (p := ⟨gb209, _, none⟩) (by first | exact Kd.own_blk (Kd.R_away HO204.out (fun _ hk => hk.2)) | (rw [add_block]; exact Kd.own_blk (Kd.R_away HO204.out (fun _ hk => hk.2))) | (show (Addr.add _ _).block ≠ _; rw [add_block]; exact Kd.own_blk (Kd.R_away HO204.out (fun _ hk => hk.2))) | (dsimp only; exact Kd.own_blk (Kd.R_away HO204.out (fun _ hk => hk.2)))) _).trans (hHeld.2.2.2.2.2))))))⟩ (fun hHeld => ?_)
                        clear hK K
                        refine done_ (done_of HT_.out (by kernel_rfl)) ?_
                        have n0_ : Aside0 (Kd.R k129 129 (((w37.setCell ⟨gb209, 0, none⟩ (.string (a1 ++ (⟨#[98]⟩ : ByteArray)))).setCell ⟨gb209, 1, none⟩ (.int .i64 ((rd_T129 t202 t197).f1))).setCell ⟨gb209, 2, none⟩ (.int .i64 (wrap64 (((rd_T129 t202 t197).f2) - t206)))) w.heap.size (fun k_ => k_ ≠ gb209) (.slice (some ad205) t202.length co34) t202) := ⟨by (with_reducible repeat (first | apply Kd.R_alloc | apply Kd.R_drewN | apply Kd.R_drew)); exact Kd.R_mono (Kd.R_far (p := ⟨gb209, 2, none⟩) (Kd.R_far (p := ⟨gb209, 1, none⟩) (Kd.R_far (p := ⟨gb209, 0, none⟩) (Kd.R_mono HO204.out (fun k_ hk => (⟨hk, hk.2⟩ : _ ∧ k_ ≠ gb209))) (fun _ hk => hk.2) (.string (a1 ++ (⟨#[98]⟩ : ByteArray)))) (fun _ hk => hk.2) (.int .i64 ((rd_T129 t202 t197).f1))) (fun _ hk => hk.2) (.int .i64 (wrap64 (((rd_T129 t202 t197).f2) - t206)))) (fun _ hk => hk.1.2)⟩
                        have n1_ : Aside0 ((((w37.setCell ⟨gb209, 0, none⟩ (.string (a1 ++ (⟨#[98]⟩ : ByteArray)))).setCell ⟨gb209, 1, none⟩ (.int .i64 ((rd_T129 t202 t197).f1))).setCell ⟨gb209, 2, none⟩ (.int .i64 (wrap64 (((rd_T129 t202 t197).f2) - t206)))).heap[gb209]? = some (.cells #[.string (a1 ++ (⟨#[98]⟩ : ByteArray)), .int .i64 ((rd_T129 t202 t197).f1), .int .i64 (wrap64 (((rd_T129 t202 t197).f2) - t206))] 129 (0, 0))) := ⟨by (with_reducible repeat (first | refine blk_drewN ?_ _ | refine blk_drew ?_ | refine blk_alloc ?_ _)); refine blk_put (cs := #[.string (a1 ++ (⟨#[98]⟩ : ByteArray)), .int .i64 ((rd_T129 t202 t197).f1), .int .i64 0]) ?_ 2 _ rfl; (with_reducible repeat (first | refine blk_drewN ?_ _ | refine blk_drew ?_ | refine blk_alloc ?_ _)); refine blk_put (cs := #[.string (a1 ++ (⟨#[98]⟩ : ByteArray)), .int .i64 0, .int .i64 0]) ?_ 1 _ rfl; (with_reducible repeat (first | refine blk_drewN ?_ _ | refine blk_drew ?_ | refine blk_alloc ?_ _)); refine blk_put (cs := #[.string (⟨#[]⟩ : ByteArray), .int .i64 0, .int .i64 0]) ?_ 0 _ rfl; (with_reducible repeat (first | refine blk_drewN ?_ _ | refine blk_drew ?_ | refine blk_alloc ?_ _)); exact BK209.out⟩
                        have n2_ : Aside0 (Below w.heap.size w (((w37.setCell ⟨gb209, 0, none⟩ (.string (a1 ++ (⟨#[98]⟩ : ByteArray)))).setCell ⟨gb209, 1, none⟩ (.int .i64 ((rd_T129 t202 t197).f1))).setCell ⟨gb209, 2, none⟩ (.int .i64 (wrap64 (((rd_T129 t202 t197).f2) - t206))))) := ⟨by repeat (first | (with_reducible first | exact HB.out | apply below_alloc | apply pw_below_drewN | apply below_drew1 | refine below_set ?_ GE209.out) | exact HB.out)⟩
                        (try clear HO204)
                        (try clear BK209)
                        (try clear HB)
                        generalize (((w37.setCell ⟨gb209, 0, none⟩ (.string (a1 ++ (⟨#[98]⟩ : ByteArray)))).setCell ⟨gb209, 1, none⟩ (.int .i64 ((rd_T129 t202 t197).f1))).setCell ⟨gb209, 2, none⟩ (.int .i64 (wrap64 (((rd_T129 t202 t197).f2) - t206)))) = w41 at n0_ n1_ n2_ ⊢
                        have HO204 := n0_
                        have BK209 := n1_
                        have HB := n2_
                        clear n0_ n1_ n2_
                        have p27 : 0 ≤ (t197 : Int) := of_decide_eq_true (by first | (with_reducible assumption) | assumption)
                        have q27 : (t197 : Int) < ((t202.length : Int) : Int) := of_decide_eq_true (by first | (with_reducible assumption) | assumption)
                        obtain ⟨go27, co27, eo27, gb27, gl27, cl27, HG27⟩ := Kd.R_form HO204.out (by omega)
                        (first | cases eo27 | (injection eo27 with ea_ en_ ec_; (first | subst ea_ | (injection ea_ with ea_; subst ea_)); subst ec_; clear en_))
                        have GB27 := Aside0.mk gb27
                        have GG27 := Aside0.mk HG27
                        clear gb27 gl27 HG27
                        (first | simp only [add_plain] at hx205_0 | skip)
                        (first | simp only [add_plain] at hx205_1 | skip)
                        (first | simp only [add_plain] at hx205_2 | skip)
                        (first | simp only [add_plain] at hx207_0 | skip)
                        (first | simp only [add_plain] at hx207_1 | skip)
                        (first | simp only [add_plain] at hx207_2 | skip)
                        (first | simp only [add_plain] at hx208_0 | skip)
                        (first | simp only [add_plain] at hx208_1 | skip)
                        (first | simp only [add_plain] at hx208_2 | skip)
                        obtain ⟨ce27, hcl27, hM27, hcc27, hfr27⟩ := Kd.R_elem HO204.out z129 (t197 : Int) p27 q27
                        obtain rfl := k129_openM hM27
                        have hx27_0 : w41.cell? ⟨go27, (t197 : Int).toNat * 3, none⟩ = some (.string ((rd_T129 t202 t197).f0)) := hcc27 0 _ rfl
                        have hx27_1 : w41.cell? ⟨go27, (t197 : Int).toNat * 3 + 1, none⟩ = some (.int .i64 ((rd_T129 t202 t197).f1)) := hcc27 1 _ rfl
                        have hx27_2 : w41.cell? ⟨go27, (t197 : Int).toNat * 3 + 2, none⟩ = some (.int .i64 ((rd_T129 t202 t197).f2)) := hcc27 2 _ rfl
                        have hf27_0 : w41.frozen? ⟨go27, (t197 : Int).toNat * 3, none⟩ = false := hfr27 0
                        have hf27_1 : w41.frozen? ⟨go27, (t197 : Int).toNat * 3 + 1, none⟩ = false := hfr27 1
                        have hf27_2 : w41.frozen? ⟨go27, (t197 : Int).toNat * 3 + 2, none⟩ = false := hfr27 2
                        clear hcl27 hcc27 hfr27 hM27
                        replace p27 := eq_true p27
                        replace q27 := eq_true q27
                        have HX42 := Aside0.mk (show Kd.R k129 129 w41 w.heap.size (fun k_ => k_ ≠ gb209) (.slice (some ⟨go27, 0, none⟩) t202.length co34) t202 from (by (with_reducible repeat (first | apply Kd.R_alloc | apply Kd.R_drewN | apply Kd.R_drew)); exact HO204.out))
                        obtain ⟨ce42, hcl42, hM42, hcc42, hfr42⟩ := Kd.R_elem HX42.out z129 (t197 : Int) (of_decide_eq_true (by first | (with_reducible assumption) | assumption)) (by have h_ : (t197 : Int) < ((t202.length : Int) : Int) := of_decide_eq_true (by first | (with_reducible assumption) | assumption); first | exact h_ | (have e_ := (Kd.R_reads' HO204.out).1; omega) | simpa using h_)
                        obtain rfl := k129_openM hM42
                        have HP42 := Kd.R_seg HX42.out (t197 : Int) (of_decide_eq_true (by first | (with_reducible assumption) | assumption)) (by have h_ : (t197 : Int) < ((t202.length : Int) : Int) := of_decide_eq_true (by first | (with_reducible assumption) | assumption); first | exact h_ | (have e_ := (Kd.R_reads' HO204.out).1; omega) | simpa using h_) (seg := [.int .i64 t206]) (j := 2) hcl42 hcc42 (show 3 ≤ 3 from by decide) (x' := (⟨(rd_T129 t202 t197).f0, (rd_T129 t202 t197).f1, t206⟩ : S129)) (k129_mkM _ _ _ (⟨(rd_T129 t202 t197).f0, (rd_T129 t202 t197).f1, t206⟩ : S129) ) (fun _ hk => hk)
                        have hx42_2 := hcc42 2 _ rfl
                        (try simp only [show (k129).sz = 3 from rfl, Nat.mul_one, Nat.add_zero] at hx42_2)
                        have hf42_2 := hfr42 2
                        (try simp only [show (k129).sz = 3 from rfl, Nat.mul_one, Nat.add_zero] at hf42_2)
                        clear hcl42 hcc42 hfr42 hM42
                        try go_wp2_with (first | ((with_reducible refine gate_store (t := 2) (p := 79) rfl ?_); refine store_event (t := 2) (p := 79) (v := ?vo_w43) (w1 := (w41.setCell ⟨go27, (t197 : Int).toNat * 3 + 2, none⟩ (.int .i64 t206))) ?hg ?ho ?hn ?hr ?_; (case ho => rfl); (case hg => rfl); (case hn => rfl); (case hr => first | (go_simp; done) | (go_simp; rfl)); intro w43 hw; have hg : w41.grownBy w43 (some go27) := (by rw [hw]; exact HP42.2); have hp_ : Kd.R k129 129 w43 w.heap.size (fun k_ => k_ ≠ gb209) (.slice (some ⟨go27, 0, none⟩) t202.length co34) y210 := (by rw [hw, Ny210.out]; exact HP42.1); clear HP42; have n0_ := Aside0.mk (hp_); have n1_ := Aside0.mk (blk_grown (g := gb209) (o := .cells #[.string (a1 ++ (⟨#[98]⟩ : ByteArray)), .int .i64 ((rd_T129 t202 t197).f1), .int .i64 (wrap64 (((rd_T129 t202 t197).f2) - t206))] 129 (0, 0)) (by (with_reducible repeat (first | refine blk_drewN ?_ _ | refine blk_drew ?_ | refine blk_alloc ?_ _)); exact BK209.out) hg (Kd.R_away HO204.out (fun _ hk => hk))); have n2_ := Aside0.mk ((by rw [hw]; exact below_set (HB.out) GB27.out : Below w.heap.size w w43)); clear HO204; clear BK209; clear HB; have HO204 := n0_; have BK209 := n1_; have HB := n2_; clear n0_ n1_ n2_; clear hg hw hp_; have hcz44_0 : w43.cell? ⟨gb209, 0, none⟩ = some (.string (a1 ++ (⟨#[98]⟩ : ByteArray))) := (blk_cell BK209.out 0).trans rfl; have hcz44_1 : w43.cell? ⟨gb209, 1, none⟩ = some (.int .i64 ((rd_T129 t202 t197).f1)) := (blk_cell BK209.out 1).trans rfl; have hcz44_2 : w43.cell? ⟨gb209, 2, none⟩ = some (.int .i64 (wrap64 (((rd_T129 t202 t197).f2) - t206))) := (blk_cell BK209.out 2).trans rfl; have hfz44_0 := blk_frozen BK209.out 0; have hfz44_1 := blk_frozen BK209.out 1; have hfz44_2 := blk_frozen BK209.out 2) | ((with_reducible refine gate_callee (f := 103) rfl ?_); refine goesL_ (some 83) rfl rfl Try.func103 (by kernel_rfl) rfl #[.slice (some ⟨go27, 0, none⟩) y210.length co34, .agg #[.string (a1 ++ (⟨#[98]⟩ : ByteArray)), .int .i64 ((rd_T129 t202 t197).f1), .int .i64 (wrap64 (((rd_T129 t202 t197).f2) - t206))], .func (.func 104) #[] #[]] rfl (by (try simp only [List.map_toArray, List.map_cons, List.map_nil]); first | done | (rw [show y210.length = t202.length from (Kd.R_reads' HO204.out).1.symm] <;> rfl) | rfl | (simp only [List.length_drop, List.length_take]; rfl)) ?_; (with_reducible refine (slices_BinarySearchFunc_Tenant.calls kj7 _ _ y210 (a1 ++ (⟨#[98]⟩ : ByteArray)) ((rd_T129 t202 t197).f1) (wrap64 (((rd_T129 t202 t197).f2) - t206))  t211 t212 _ ?side1 ?side2 A28.out).mono ?_); (case side1 => repeat (first | exact (Kd.R_reads' HO204.out).2.2 | (with_reducible refine Kd.C_alloc ?_ _) | (with_reducible refine Kd.C_drewN ?_ _) | (with_reducible refine Kd.C_drew ?_))); (case side2 => rw [show y210.length = t202.length from (Kd.R_reads' HO204.out).1.symm]; exact (Kd.R_reads' HO204.out).2.1); rintro e w45 ⟨rfl, hb⟩; refine ⟨_, rfl, ?_⟩; have n0_ := Aside0.mk (Kd.R_below (by (with_reducible repeat (first | apply Kd.R_alloc | apply Kd.R_drewN | apply Kd.R_drew)); exact HO204.out) hb); have n1_ := Aside0.mk (blk_below (g := gb209) (o := .cells #[.string (a1 ++ (⟨#[98]⟩ : ByteArray)), .int .i64 ((rd_T129 t202 t197).f1), .int .i64 (wrap64 (((rd_T129 t202 t197).f2) - t206))] 129 (0, 0)) (by (with_reducible repeat (first | refine blk_drewN ?_ _ | refine blk_drew ?_ | refine blk_alloc ?_ _)); exact BK209.out) hb); have n2_ := Aside0.mk (below_step (by repeat (first | (with_reducible first | exact HB.out | apply below_alloc | apply pw_below_drewN | apply below_drew1 | refine below_set ?_ GE209.out) | exact HB.out)) hb); clear HO204; clear BK209; clear HB; have HO204 := n0_; have BK209 := n1_; have HB := n2_; clear n0_ n1_ n2_; (try clear hb); (try clear hb2); (try clear hk); (try clear hi); have hcz46_0 : w45.cell? ⟨gb209, 0, none⟩ = some (.string (a1 ++ (⟨#[98]⟩ : ByteArray))) := (blk_cell BK209.out 0).trans rfl; have hcz46_1 : w45.cell? ⟨gb209, 1, none⟩ = some (.int .i64 ((rd_T129 t202 t197).f1)) := (blk_cell BK209.out 1).trans rfl; have hcz46_2 : w45.cell? ⟨gb209, 2, none⟩ = some (.int .i64 (wrap64 (((rd_T129 t202 t197).f2) - t206))) := (blk_cell BK209.out 2).trans rfl; have hfz46_0 := blk_frozen BK209.out 0; have hfz46_1 := blk_frozen BK209.out 1; have hfz46_2 := blk_frozen BK209.out 2) | ((with_reducible refine gate_dst (N := 89) rfl ?_); refine Kd.R_lit k129 _ 129 ?hg (N := 89) ?hd (xs := ([(⟨a1 ++ (⟨#[98]⟩ : ByteArray), (rd_T129 t202 t197).f1, wrap64 (((rd_T129 t202 t197).f2) - t206)⟩ : S129)] : List (S129))) (inner := [.string (a1 ++ (⟨#[98]⟩ : ByteArray)), .int .i64 ((rd_T129 t202 t197).f1), .int .i64 (wrap64 (((rd_T129 t202 t197).f2) - t206))]) (ok := fun _ => True) (okp := fun _ => True) ?hr ?hp (fun _ hk => hk) trivial (Below.refl _ _) (Nat.le_refl _) (by simp) ?_; (case hd => rfl); (case hg => rfl); (case hr => first | (go_simp; done) | (go_simp; rfl)); (case hp => exact (Reps.c3 (show Kd.M k129 _ _ _ (⟨a1 ++ (⟨#[98]⟩ : ByteArray), (rd_T129 t202 t197).f1, wrap64 (((rd_T129 t202 t197).f2) - t206)⟩ : S129) [.string (a1 ++ (⟨#[98]⟩ : ByteArray)), .int .i64 ((rd_T129 t202 t197).f1), .int .i64 (wrap64 (((rd_T129 t202 t197).f2) - t206))] from (k129_mkM _ _ _ (⟨a1 ++ (⟨#[98]⟩ : ByteArray), (rd_T129 t202 t197).f1, wrap64 (((rd_T129 t202 t197).f2) - t206)⟩ : S129) )) (Reps.none _ _))); intro v214 w47 ho48 hb hg_ hnew_; clear hg_ hnew_; (first | rw [← Ny213.out] at ho48 | (simp only [Int.reduceToNat] at ho48; rw [← Ny213.out] at ho48)); have n0_ := Aside0.mk (Kd.R_elder' (by (with_reducible repeat (first | apply Kd.R_alloc | apply Kd.R_drewN | apply Kd.R_drew)); exact HO204.out) (Kd.R_base ho48) hb); have n1_ := Aside0.mk (Kd.R_lower (Kd.R_newB (Kd.R_new' ho48 (Kd.R_lt (by (with_reducible repeat (first | apply Kd.R_alloc | apply Kd.R_drewN | apply Kd.R_drew)); exact HO204.out))) (g := gb209) (o := .cells #[.string (a1 ++ (⟨#[98]⟩ : ByteArray)), .int .i64 ((rd_T129 t202 t197).f1), .int .i64 (wrap64 (((rd_T129 t202 t197).f2) - t206))] 129 (0, 0)) (by (with_reducible repeat (first | refine blk_drewN ?_ _ | refine blk_drew ?_ | refine blk_alloc ?_ _)); exact BK209.out)) (below_size (by repeat (first | (with_reducible first | exact HB.out | apply below_alloc | apply pw_below_drewN | apply below_drew1 | refine below_set ?_ GE209.out) | exact HB.out)))); have n2_ := Aside0.mk (blk_below (g := gb209) (o := .cells #[.string (a1 ++ (⟨#[98]⟩ : ByteArray)), .int .i64 ((rd_T129 t202 t197).f1), .int .i64 (wrap64 (((rd_T129 t202 t197).f2) - t206))] 129 (0, 0)) (by (with_reducible repeat (first | refine blk_drewN ?_ _ | refine blk_drew ?_ | refine blk_alloc ?_ _)); exact BK209.out) hb); have n3_ := Aside0.mk (below_step (by repeat (first | (with_reducible first | exact HB.out | apply below_alloc | apply pw_below_drewN | apply below_drew1 | refine below_set ?_ GE209.out) | exact HB.out)) hb); clear HO204; clear BK209; clear HB; have HO204 := n0_; have HO215 := n1_; have BK209 := n2_; have HB := n3_; clear n0_ n1_ n2_ n3_; clear hb ho48; obtain ⟨Ao49, co49, eo49⟩ := Kd.R_slice HO215.out; subst eo49) | ((with_reducible refine gate_callee (f := 106) rfl ?_); refine goesL_ (some 90) rfl rfl Try.func106 (by kernel_rfl) rfl #[.slice (some ⟨go27, 0, none⟩) t202.length co34, .int .i64 t211, .slice Ao49 y213.length co49] rfl (by (try simp only [List.map_toArray, List.map_cons, List.map_nil]); first | done | rfl | (simp only [List.length_drop, List.length_take]; rfl)) ?_; (with_reducible refine (slices_Insert_Tenant.calls (fun k_ => some k_ = (.slice (some ⟨go27, 0, none⟩) t202.length co34 : Value).ownBlock) (.slice (some ⟨go27, 0, none⟩) t202.length co34) y210 t211 (fun k_ => some k_ = (.slice Ao49 y213.length co49 : Value).ownBlock) (.slice Ao49 y213.length co49) y213 t216 w _ ?side1 ?side2 ?side3 ?side4 ?side5 A29.out).mono ?_); (case side1 => repeat (first | (with_reducible first | exact HB.out | apply below_alloc | apply pw_below_drewN | apply below_drew1 | refine below_set ?_ GE209.out) | exact HB.out)); (case side2 => exact Kd.R_tight rfl HO204.out); (case side3 => exact fun k_ e_ => (HO204.out.1 k_ e_.symm).2); (case side4 => exact Kd.R_tight rfl HO215.out); (case side5 => exact fun k_ e_ => (HO215.out.1 k_ e_.symm).1.2); rintro e w50 ⟨v217, rfl, ho0, hb, hkp⟩; refine ⟨_, rfl, ?_⟩; have n0_ := Aside0.mk (blk_kept (by (with_reducible repeat (first | refine blk_drewN ?_ _ | refine blk_drew ?_ | refine blk_alloc ?_ _)); exact BK209.out) hkp (fun hs_ => Or.elim hs_ (fun e_ => (fun e_ => (Kd.R_away HO204.out (fun _ hk => hk.1)) e_) e_) (fun e_ => (fun e_ => (Kd.R_away HO215.out (fun _ hk => hk.2)) e_) e_))); have n1_ := Aside0.mk (Kd.R_mono (ok' := fun k_ => k_ ≠ gb209) ho0 (fun k_ hk_ => Or.elim hk_ (fun hs_ => Or.elim hs_ (fun hs_ => fun e_ => (Kd.R_away HO204.out (fun _ hk => hk.1)) (by rw [← e_]; exact hs_)) (fun hs_ => fun e_ => (Kd.R_away HO215.out (fun _ hk => hk.2)) (by rw [← e_]; exact hs_))) (fun hn_ => (Kd.freshB (g := gb209) (o := .cells #[.string (a1 ++ (⟨#[98]⟩ : ByteArray)), .int .i64 ((rd_T129 t202 t197).f1), .int .i64 (wrap64 (((rd_T129 t202 t197).f2) - t206))] 129 (0, 0)) (by (with_reducible repeat (first | refine blk_drewN ?_ _ | refine blk_drew ?_ | refine blk_alloc ?_ _)); exact BK209.out) k_ hn_)))); have n2_ := Aside0.mk (hb); clear BK209; clear HB; clear HO204; clear HO215; have BK209 := n0_; have HO218 := n1_; have HB := n2_; clear n0_ n1_ n2_; (try clear hb); (try clear hkp); (try clear ho0); obtain ⟨Ao51, co51, eo51⟩ := Kd.R_slice HO218.out; subst eo51) | ((with_reducible refine gate_callee (f := 99) rfl ?_); refine goesL_ (some 92) rfl rfl Try.func99 (by kernel_rfl) rfl #[.slice Ao51 t216.length co51] rfl (by (try simp only [List.map_toArray, List.map_cons, List.map_nil]); first | done | rfl | (simp only [List.length_drop, List.length_take]; rfl)) ?_; (with_reducible refine (impl_ValidTenants.calls kj7 _ _ t216 true _ ?side1 ?side2 A30.out).mono ?_); (case side1 => repeat (first | exact (Kd.R_reads' HO218.out).2.2 | (with_reducible refine Kd.C_alloc ?_ _) | (with_reducible refine Kd.C_drewN ?_ _) | (with_reducible refine Kd.C_drew ?_))); (case side2 => exact (Kd.R_reads' HO218.out).2.1); rintro e w52 ⟨rfl, hb⟩; refine ⟨_, rfl, ?_⟩; have n0_ := Aside0.mk (Kd.R_below (by (with_reducible repeat (first | apply Kd.R_alloc | apply Kd.R_drewN | apply Kd.R_drew)); exact HO218.out) hb); have n1_ := Aside0.mk (blk_below (g := gb209) (o := .cells #[.string (a1 ++ (⟨#[98]⟩ : ByteArray)), .int .i64 ((rd_T129 t202 t197).f1), .int .i64 (wrap64 (((rd_T129 t202 t197).f2) - t206))] 129 (0, 0)) (by (with_reducible repeat (first | refine blk_drewN ?_ _ | refine blk_drew ?_ | refine blk_alloc ?_ _)); exact BK209.out) hb); have n2_ := Aside0.mk (below_step (by repeat (first | (with_reducible first | exact HB.out | apply below_alloc | apply pw_below_drewN | apply below_drew1 | refine below_set ?_ GE209.out) | exact HB.out)) hb); clear HO218; clear BK209; clear HB; have HO218 := n0_; have BK209 := n1_; have HB := n2_; clear n0_ n1_ n2_; (try clear hb); (try clear hb2); (try clear hk); (try clear hi)))
                        go_ret2
                        exact ⟨_, by first | rfl | (simp [errW_none, errW_some] <;> rfl) | (simp [*, errW_none, errW_some] <;> rfl), by (with_reducible repeat (first | apply Kd.R_alloc | apply Kd.R_drewN | apply Kd.R_drew)); exact Kd.R_mono HO218.out (fun _ hk => trivial), by repeat (first | (with_reducible first | exact HB.out | apply below_alloc | apply pw_below_drewN | apply below_drew1 | refine below_set ?_ GE209.out) | exact HB.out)⟩
                      · replace c31 := Bool.eq_false_iff.mpr c31
                        subst c31
                        have H1 : (some (([] : List (S129)), 6)) = some (r1, r2) := by rw [if_neg (show ¬ (false = true) by decide)] at H; exact H
                        clear H
                        have H := H1
                        clear H1
                        simp only [Option.some.injEq, Prod.mk.injEq] at H
                        obtain ⟨rfl, rfl⟩ := H
                        try go_wp2_with (first | ((with_reducible refine gate_callee (f := 98) rfl ?_); refine goesL_ (some 43) rfl rfl Try.func98 (by kernel_rfl) rfl #[.slice A0 l0.length c0, .string (a1 ++ (⟨#[98]⟩ : ByteArray))] rfl (by (try simp only [List.map_toArray, List.map_cons, List.map_nil]); first | done | rfl | (simp only [List.length_drop, List.length_take]; rfl)) ?_; (with_reducible refine (impl_tenantAt.calls kj7 _ _ l0 (a1 ++ (⟨#[98]⟩ : ByteArray)) t201 _ ?side1 ?side2 A18.out).mono ?_); (case side1 => repeat (first | exact (Kd.C_below HR0.out HB.out) | (with_reducible refine Kd.C_alloc ?_ _) | (with_reducible refine Kd.C_drewN ?_ _) | (with_reducible refine Kd.C_drew ?_))); (case side2 => exact HC0.out); rintro e w53 ⟨rfl, hb⟩; refine ⟨_, rfl, ?_⟩; have n0_ := Aside0.mk (below_step (by repeat (first | (with_reducible first | exact HB.out | apply below_alloc | apply pw_below_drewN | apply below_drew1) | exact HB.out)) hb); clear HB; have HB := n0_; clear n0_; (try clear hb); (try clear hb2); (try clear hk); (try clear hi)) | ((with_reducible refine gate_callee (f := 101) rfl ?_); refine goesL_ (some 50) rfl rfl Try.func101 (by kernel_rfl) rfl #[.slice A0 l0.length c0] rfl (by (try simp only [List.map_toArray, List.map_cons, List.map_nil]); first | done | rfl | (simp only [List.length_drop, List.length_take]; rfl)) ?_; (with_reducible refine (slices_Clone_Tenant.calls _ _ l0 t202 _ ?side1 ?side2 A23.out).mono ?_); (case side1 => repeat (first | exact (Kd.C_below HR0.out HB.out) | (with_reducible refine Kd.C_alloc ?_ _) | (with_reducible refine Kd.C_drewN ?_ _) | (with_reducible refine Kd.C_drew ?_))); (case side2 => exact HC0.out); rintro e w54 ⟨v203, rfl, ho0, hb⟩; refine ⟨_, rfl, ?_⟩; have n0_ := Aside0.mk (Kd.R_lower ho0 (below_size (by repeat (first | (with_reducible first | exact HB.out | apply below_alloc | apply pw_below_drewN | apply below_drew1) | exact HB.out)))); have n1_ := Aside0.mk (below_step (by repeat (first | (with_reducible first | exact HB.out | apply below_alloc | apply pw_below_drewN | apply below_drew1) | exact HB.out)) hb); clear HB; have HO204 := n0_; have HB := n1_; clear n0_ n1_; (try clear hb); (try clear hb2); (try clear hk); (try clear hi); (try clear ho0); obtain ⟨Ao55, co55, eo55⟩ := Kd.R_slice HO204.out; subst eo55; have p205 : 0 ≤ (t197 : Int) := of_decide_eq_true (by first | (with_reducible assumption) | assumption); have q205 : t197 < (t202.length : Int) := of_decide_eq_true (by first | (with_reducible assumption) | assumption); obtain ⟨ad205, e205, hx205_0, hx205_1, hx205_2⟩ := at_T129 (Kd.R_reads' HO204.out).2.2 t197 p205 q205; cases e205; replace p205 := eq_true p205; replace q205 := eq_true q205) | ((with_reducible refine gate_callee (f := 102) rfl ?_); refine goesL_ (some 59) rfl rfl Try.func102 (by kernel_rfl) rfl #[.int .i64 (wrap64 (((rd_T129 t202 t197).f2) * a2)), .int .i64 a3] rfl (by (try simp only [List.map_toArray, List.map_cons, List.map_nil]); first | done | rfl | (simp only [List.length_drop, List.length_take]; rfl)) ?_; (with_reducible refine (impl_divRound.calls (wrap64 (((rd_T129 t202 t197).f2) * a2)) a3 t206 _ A26.out).mono ?_); rintro e w56 ⟨rfl, hb⟩; refine ⟨_, rfl, ?_⟩; have n0_ := Aside0.mk (Kd.R_below (by (with_reducible repeat (first | apply Kd.R_alloc | apply Kd.R_drewN | apply Kd.R_drew)); exact HO204.out) hb); have n1_ := Aside0.mk (below_step (by repeat (first | (with_reducible first | exact HB.out | apply below_alloc | apply pw_below_drewN | apply below_drew1) | exact HB.out)) hb); clear HO204; clear HB; have HO204 := n0_; have HB := n1_; clear n0_ n1_; (try clear hb); (try clear hb2); (try clear hk); (try clear hi)))
                        have n0_ := Aside0.mk (Kd.R_drew HO204.out)
                        have n1_ := Aside0.mk (below_drew1 HB.out)
                        clear HO204
                        clear HB
                        have HO204 := n0_
                        have HB := n1_
                        clear n0_ n1_
                        have p207 : 0 ≤ (t197 : Int) := of_decide_eq_true (by first | (with_reducible assumption) | assumption)
                        have q207 : t197 < (t202.length : Int) := of_decide_eq_true (by first | (with_reducible assumption) | assumption)
                        obtain ⟨ad207, e207, hx207_0, hx207_1, hx207_2⟩ := at_T129 (Kd.R_reads' HO204.out).2.2 t197 p207 q207
                        obtain rfl : ad205 = ad207 := (by injection e207)
                        replace p207 := eq_true p207
                        replace q207 := eq_true q207
                        have p208 : 0 ≤ (t197 : Int) := of_decide_eq_true (by first | (with_reducible assumption) | assumption)
                        have q208 : t197 < (t202.length : Int) := of_decide_eq_true (by first | (with_reducible assumption) | assumption)
                        obtain ⟨ad208, e208, hx208_0, hx208_1, hx208_2⟩ := at_T129 (Kd.R_reads' HO204.out).2.2 t197 p208 q208
                        obtain rfl : ad205 = ad208 := (by injection e208)
                        replace p208 := eq_true p208
                        replace q208 := eq_true q208
                        refine start_ (n := 17) (S := fun w' => w'.cell? (ad205.add ((t197).toNat * 3)) = some (.string ((rd_T129 t202 t197).f0)) ∧ w'.cell? ⟨(ad205.add ((t197).toNat * 3)).block, (ad205.add ((t197).toNat * 3)).off + 1, none⟩ = some (.int .i64 ((rd_T129 t202 t197).f1)) ∧ w'.cell? ⟨(ad205.add ((t197).toNat * 3)).block, (ad205.add ((t197).toNat * 3)).off + 2, none⟩ = some (.int .i64 ((rd_T129 t202 t197).f2)) ∧ w'.cell? (ad205.add ((t197).toNat * 3)) = some (.string ((rd_T129 t202 t197).f0)) ∧ w'.cell? ⟨(ad205.add ((t197).toNat * 3)).block, (ad205.add ((t197).toNat * 3)).off + 1, none⟩ = some (.int .i64 ((rd_T129 t202 t197).f1)) ∧ w'.cell? ⟨(ad205.add ((t197).toNat * 3)).block, (ad205.add ((t197).toNat * 3)).off + 2, none⟩ = some (.int .i64 ((rd_T129 t202 t197).f2))) (ds := []) #[false, false, false, false, false, false, false, false, false, false, false, false, false, false, false, false, false] (by kernel_rfl) rfl rfl ⟨hx207_0, hx207_1, hx207_2, hx208_0, hx208_1, hx208_2⟩ (fun hHeld => ?_); refine with_tabW impl_MovedTenant.tab14 impl_MovedTenant.bits14 (fun HT_ HW_ => ?_)
                        generalize w56.drew = w57 at HO204 HB hx207_0 hx207_1 hx207_2 hx208_0 hx208_1 hx208_2 hHeld ⊢
                        refine pure_ (i := 0) (N := some 60) (v := ?_) (a' := ?_) #[true, false, false, false, false, false, false, false, false, false, false, false, false, false, false, false, false] rfl rfl (any_of HT_.out (by kernel_rfl)) (fun _ _ _ h => h) (Or.inl ⟨by rfl, ?_⟩) ?_ ?_
                        rotate_left
                        · intro w'
                          go_simp
                          with_reducible rfl
                        rotate_left
                        · simp only [Act.put, List.setIfInBounds_toArray, List.set_cons_zero, List.set_cons_succ, i64_w, i32_w]
                          rfl
                        refine pure_ (i := 1) (N := some 61) (v := ?_) (a' := ?_) #[true, true, false, false, false, false, false, false, false, false, false, false, false, false, false, false, false] rfl rfl (any_of HT_.out (by kernel_rfl)) (fun _ _ _ h => h) (Or.inl ⟨by rfl, ?_⟩) ?_ ?_
                        rotate_left
                        · intro w'
                          go_simp
                          with_reducible rfl
                        rotate_left
                        · simp only [Act.put, List.setIfInBounds_toArray, List.set_cons_zero, List.set_cons_succ, i64_w, i32_w]
                          rfl
                        refine pure_ (i := 2) (N := some 62) (v := ?_) (a' := ?_) #[true, true, true, false, false, false, false, false, false, false, false, false, false, false, false, false, false] rfl rfl (any_of HT_.out (by kernel_rfl)) (fun _ _ _ h => h) (Or.inl ⟨by rfl, ?_⟩) ?_ ?_
                        rotate_left
                        · intro w'
                          go_simp
                          with_reducible rfl
                        rotate_left
                        · simp only [Act.put, List.setIfInBounds_toArray, List.set_cons_zero, List.set_cons_succ, i64_w, i32_w]
                          rfl
                        refine pure_ (i := 3) (N := some 63) (v := ?_) (a' := ?_) #[true, true, true, true, false, false, false, false, false, false, false, false, false, false, false, false, false] rfl rfl (any_of HT_.out (by kernel_rfl)) (fun _ _ _ h => h) (Or.inl ⟨by rfl, ?_⟩) ?_ ?_
                        rotate_left
                        · intro w'
                          go_simp
                          with_reducible rfl
                        rotate_left
                        · simp only [Act.put, List.setIfInBounds_toArray, List.set_cons_zero, List.set_cons_succ, i64_w, i32_w]
                          rfl
                        refine pure_ (i := 4) (N := some 64) (v := ?_) (a' := ?_) #[true, true, true, true, true, false, false, false, false, false, false, false, false, false, false, false, false] rfl rfl (any_of HT_.out (by kernel_rfl)) (fun _ _ _ h => h) (Or.inl ⟨by rfl, ?_⟩) ?_ ?_
                        rotate_left
                        · intro w'
                          go_simp
                          with_reducible rfl
                        rotate_left
                        · simp only [Act.put, List.setIfInBounds_toArray, List.set_cons_zero, List.set_cons_succ, i64_w, i32_w]
                          rfl
                        refine pure_ (i := 5) (N := some 65) (v := ?_) (a' := ?_) #[true, true, true, true, true, true, false, false, false, false, false, false, false, false, false, false, false] rfl rfl (any_of HT_.out (by kernel_rfl)) (fun _ _ _ h => h) (Or.inl ⟨by rfl, ?_⟩) ?_ ?_
                        rotate_left
                        · intro w'
                          go_simp
                          with_reducible rfl
                        rotate_left
                        · simp only [Act.put, List.setIfInBounds_toArray, List.set_cons_zero, List.set_cons_succ, i64_w, i32_w]
                          rfl
                        refine pure_ (i := 7) (N := some 67) (v := ?_) (a' := ?_) #[true, true, true, true, true, true, false, true, false, false, false, false, false, false, false, false, false] rfl rfl (any_of HT_.out (by kernel_rfl)) (fun _ _ _ h => h) (Or.inl ⟨by rfl, ?_⟩) ?_ ?_
                        rotate_left
                        · intro w'
                          go_simp
                          with_reducible rfl
                        rotate_left
                        · simp only [Act.put, List.setIfInBounds_toArray, List.set_cons_zero, List.set_cons_succ, i64_w, i32_w]
                          rfl
                        refine pure_ (i := 8) (N := some 68) (v := ?_) (a' := ?_) #[true, true, true, true, true, true, false, true, true, false, false, false, false, false, false, false, false] rfl rfl (any_of HT_.out (by kernel_rfl)) (fun _ _ _ h => h) (Or.inl ⟨by rfl, ?_⟩) ?_ ?_
                        rotate_left
                        · intro w'
                          go_simp
                          with_reducible rfl
                        rotate_left
                        · simp only [Act.put, List.setIfInBounds_toArray, List.set_cons_zero, List.set_cons_succ, i64_w, i32_w]
                          rfl
                        refine pure_ (i := 9) (N := some 69) (v := ?_) (a' := ?_) #[true, true, true, true, true, true, false, true, true, true, false, false, false, false, false, false, false] rfl rfl (any_of HT_.out (by kernel_rfl)) (fun _ _ _ h => h) (Or.inl ⟨by rfl, ?_⟩) ?_ ?_
                        rotate_left
                        · intro w'
                          go_simp
                          with_reducible rfl
                        rotate_left
                        · simp only [Act.put, List.setIfInBounds_toArray, List.set_cons_zero, List.set_cons_succ, i64_w, i32_w]
                          rfl
                        refine pure_ (i := 10) (N := some 70) (v := ?_) (a' := ?_) #[true, true, true, true, true, true, false, true, true, true, true, false, false, false, false, false, false] rfl rfl (any_of HT_.out (by kernel_rfl)) (fun _ _ _ h => h) (Or.inl ⟨by rfl, ?_⟩) ?_ ?_
                        rotate_left
                        · intro w'
                          go_simp
                          with_reducible rfl
                        rotate_left
                        · simp only [Act.put, List.setIfInBounds_toArray, List.set_cons_zero, List.set_cons_succ, i64_w, i32_w]
                          rfl
                        refine pure_ (i := 12) (N := some 72) (v := ?_) (a' := ?_) #[true, true, true, true, true, true, false, true, true, true, true, false, true, false, false, false, false] rfl rfl (any_of HT_.out (by kernel_rfl)) (fun _ _ _ h => h) (Or.inl ⟨by rfl, ?_⟩) ?_ ?_
                        rotate_left
                        · intro w'
                          go_simp
                          with_reducible rfl
                        rotate_left
                        · simp only [Act.put, List.setIfInBounds_toArray, List.set_cons_zero, List.set_cons_succ, i64_w, i32_w]
                          rfl
                        refine take_ (i := 6) (N := some 66) (v := ?_) (a' := ?_) #[true, true, true, true, true, true, true, true, true, true, true, false, true, false, false, false, false] rfl rfl (take_ofW HT_.out HW_.out (by kernel_rfl)) (fun _ _ _ h => h) (Or.inl ⟨by rfl, ?_⟩) hHeld ?_ ?_
                        rotate_left
                        · rintro w' ⟨s0, s1, s2, s3, s4, s5⟩
                          go_simp
                          with_reducible rfl
                        rotate_left
                        · simp only [Act.put, List.setIfInBounds_toArray, List.set_cons_zero, List.set_cons_succ, i64_w, i32_w]
                          rfl
                        refine take_ (i := 11) (N := some 71) (v := ?_) (a' := ?_) #[true, true, true, true, true, true, true, true, true, true, true, true, true, false, false, false, false] rfl rfl (take_ofW HT_.out HW_.out (by kernel_rfl)) (fun _ _ _ h => h) (Or.inl ⟨by rfl, ?_⟩) hHeld ?_ ?_
                        rotate_left
                        · rintro w' ⟨s0, s1, s2, s3, s4, s5⟩
                          go_simp
                          with_reducible rfl
                        rotate_left
                        · simp only [Act.put, List.setIfInBounds_toArray, List.set_cons_zero, List.set_cons_succ, i64_w, i32_w]
                          rfl
                        refine pure_ (i := 13) (N := some 73) (v := ?_) (a' := ?_) #[true, true, true, true, true, true, true, true, true, true, true, true, true, true, false, false, false] rfl rfl (any_of HT_.out (by kernel_rfl)) (fun _ _ _ h => h) (Or.inl ⟨by rfl, ?_⟩) ?_ ?_
                        rotate_left
                        · intro w'
                          go_simp
                          with_reducible rfl
                        rotate_left
                        · simp only [Act.put, List.setIfInBounds_toArray, List.set_cons_zero, List.set_cons_succ, i64_w, i32_w]
                          rfl
                        refine pure_ (i := 14) (N := some 74) (v := ?_) (a' := ?_) #[true, true, true, true, true, true, true, true, true, true, true, true, true, true, true, false, false] rfl rfl (any_of HT_.out (by kernel_rfl)) (fun _ _ _ h => h) (Or.inl ⟨by rfl, ?_⟩) ?_ ?_
                        rotate_left
                        · intro w'
                          go_simp
                          with_reducible rfl
                        rotate_left
                        · simp only [Act.put, List.setIfInBounds_toArray, List.set_cons_zero, List.set_cons_succ, i64_w, i32_w]
                          rfl
                        refine one_ (i := 15) (N := some 13) #[true, true, true, true, true, true, true, true, true, true, true, true, true, true, true, true, false] rfl rfl (one_of HT_.out (by kernel_rfl)) (by decide) (fun K hK => ?_)
                        refine box_step ?hg (N := 13) ?hd (cs := #[.string (⟨#[]⟩ : ByteArray), .int .i64 0, .int .i64 0]) (t := 129) ?hr ?_; (case hd => rfl); (case hg => rfl); (case hr => first | (go_simp; done) | (go_simp; rfl))
                        intro gb209 hg w58 hbox hb
                        have HS0_ := (hb.cell (World.block_lt_of_cell? _ _ (hHeld.1))).trans (hHeld.1)
                        have HS1_ := (hb.cell (World.block_lt_of_cell? _ _ (hHeld.2.1))).trans (hHeld.2.1)
                        have HS2_ := (hb.cell (World.block_lt_of_cell? _ _ (hHeld.2.2.1))).trans (hHeld.2.2.1)
                        have HS3_ := (hb.cell (World.block_lt_of_cell? _ _ (hHeld.2.2.2.1))).trans (hHeld.2.2.2.1)
                        have HS4_ := (hb.cell (World.block_lt_of_cell? _ _ (hHeld.2.2.2.2.1))).trans (hHeld.2.2.2.2.1)
                        have HS5_ := (hb.cell (World.block_lt_of_cell? _ _ (hHeld.2.2.2.2.2))).trans (hHeld.2.2.2.2.2)
                        have n0_ := Aside0.mk (Kd.R_below (Kd.R_elderB (by (with_reducible repeat (first | apply Kd.R_alloc | apply Kd.R_drewN | apply Kd.R_drew)); exact HO204.out) gb209 (Nat.le_of_eq hg.symm)) hb)
                        have n1_ := Aside0.mk (below_step (by repeat (first | (with_reducible first | exact HB.out | apply below_alloc | apply pw_below_drewN | apply below_drew1) | exact HB.out)) hb)
                        have n2_ := Aside0.mk (hbox)
                        have n3_ := Aside0.mk ((by rw [hg]; exact (below_size (by repeat (first | (with_reducible first | exact HB.out | apply below_alloc | apply pw_below_drewN | apply below_drew1) | exact HB.out))) : w.heap.size ≤ gb209))
                        have n4_ := Aside0.mk ((by rw [hg]; exact (below_size (by repeat (first | (with_reducible first | exact HB.out | apply below_alloc | apply pw_below_drewN | apply below_drew1) | exact HB.out))) : w.heap.size ≤ gb209))
                        clear HO204
                        clear HB
                        have HO204 := n0_
                        have HB := n1_
                        have BK209 := n2_
                        have GW209 := n3_
                        have GE209 := n4_
                        clear n0_ n1_ n2_ n3_ n4_
                        clear hb hbox hg
                        refine hK.out _ _ ⟨HS0_, HS1_, HS2_, HS3_, HS4_, HS5_⟩ (fun hHeld => ?_)
                        clear hK K
                        refine norm_ (a' := ?_) ?_ ?_
                        rotate_left
                        · show Act.put _ (some 13) _ = _
                          simp only [Act.put, List.setIfInBounds_toArray, List.set_cons_zero, List.set_cons_succ, i64_w, i32_w]
                          rfl
                        refine one_ (i := 16) (N := none) #[true, true, true, true, true, true, true, true, true, true, true, true, true, true, true, true, true] rfl rfl (one_of HT_.out (by kernel_rfl)) (by decide) (fun K hK => ?_)
                        have hs59 : w58.cell? ⟨gb209, 0, none⟩ = some (.string (⟨#[]⟩ : ByteArray)) := (blk_cell BK209.out 0).trans rfl
                        have hfs59 := blk_frozen BK209.out 0
                        have hs60 : w58.cell? ⟨gb209, 1, none⟩ = some (.int .i64 0) := (blk_cell BK209.out 1).trans rfl
                        have hfs60 := blk_frozen BK209.out 1
                        have hs61 : w58.cell? ⟨gb209, 2, none⟩ = some (.int .i64 0) := (blk_cell BK209.out 2).trans rfl
                        have hfs61 := blk_frozen BK209.out 2
                        refine skip_ (w1 := ?_) (by rfl) rfl ?_ ?_
                        rotate_left
                        · go_simp
                          rfl
                        refine hK.out _ _ ⟨((cell_far (p := ⟨gb209, _, none⟩) (by first | exact Kd.own_blk (Kd.R_away HO204.out (fun _ hk => hk.2)) | (rw [add_block]; exact Kd.own_blk (Kd.R_away HO204.out (fun _ hk => hk.2))) | (show (Addr.add _ _).block ≠ _; rw [add_block]; exact Kd.own_blk (Kd.R_away HO204.out (fun _ hk => hk.2))) | (dsimp only; exact Kd.own_blk (Kd.R_away HO204.out (fun _ hk => hk.2)))) _).trans (((cell_far (p := ⟨gb209, _, none⟩) (by first | exact Kd.own_blk (Kd.R_away HO204.out (fun _ hk => hk.2)) | (rw [add_block]; exact Kd.own_blk (Kd.R_away HO204.out (fun _ hk => hk.2))) | (show (Addr.add _ _).block ≠ _; rw [add_block]; exact Kd.own_blk (Kd.R_away HO204.out (fun _ hk => hk.2))) | (dsimp only; exact Kd.own_blk (Kd.R_away HO204.out (fun _ hk => hk.2)))) _).trans (((cell_far (p := ⟨gb209, _, none⟩) (by first | exact Kd.own_blk (Kd.R_away HO204.out (fun _ hk => hk.2)) | (rw [add_block]; exact Kd.own_blk (Kd.R_away HO204.out (fun _ hk => hk.2))) | (show (Addr.add _ _).block ≠ _; rw [add_block]; exact Kd.own_blk (Kd.R_away HO204.out (fun _ hk => hk.2))) | (dsimp only; exact Kd.own_blk (Kd.R_away HO204.out (fun _ hk => hk.2)))) _).trans (hHeld.1)))))), ((cell_far (p := ⟨gb209, _, none⟩) (by first | exact Kd.own_blk (Kd.R_away HO204.out (fun _ hk => hk.2)) | (rw [add_block]; exact Kd.own_blk (Kd.R_away HO204.out (fun _ hk => hk.2))) | (show (Addr.add _ _).block ≠ _; rw [add_block]; exact Kd.own_blk (Kd.R_away HO204.out (fun _ hk => hk.2))) | (dsimp only; exact Kd.own_blk (Kd.R_away HO204.out (fun _ hk => hk.2)))) _).trans (((cell_far (p := ⟨gb209, _, none⟩) (by first | exact Kd.own_blk (Kd.R_away HO204.out (fun _ hk => hk.2)) | (rw [add_block]; exact Kd.own_blk (Kd.R_away HO204.out (fun _ hk => hk.2))) | (show (Addr.add _ _).block ≠ _; rw [add_block]; exact Kd.own_blk (Kd.R_away HO204.out (fun _ hk => hk.2))) | (dsimp only; exact Kd.own_blk (Kd.R_away HO204.out (fun _ hk => hk.2)))) _).trans (((cell_far (p := ⟨gb209, _, none⟩) (by first | exact Kd.own_blk (Kd.R_away HO204.out (fun _ hk => hk.2)) | (rw [add_block]; exact Kd.own_blk (Kd.R_away HO204.out (fun _ hk => hk.2))) | (show (Addr.add _ _).block ≠ _; rw [add_block]; exact Kd.own_blk (Kd.R_away HO204.out (fun _ hk => hk.2))) | (dsimp only; exact Kd.own_blk (Kd.R_away HO204.out (fun _ hk => hk.2)))) _).trans (hHeld.2.1)))))), ((cell_far (p := ⟨gb209, _, none⟩) (by first | exact Kd.own_blk (Kd.R_away HO204.out (fun _ hk => hk.2)) | (rw [add_block]; exact Kd.own_blk (Kd.R_away HO204.out (fun _ hk => hk.2))) | (show (Addr.add _ _).block ≠ _; rw [add_block]; exact Kd.own_blk (Kd.R_away HO204.out (fun _ hk => hk.2))) | (dsimp only; exact Kd.own_blk (Kd.R_away HO204.out (fun _ hk => hk.2)))) _).trans (((cell_far (p := ⟨gb209, _, none⟩) (by first | exact Kd.own_blk (Kd.R_away HO204.out (fun _ hk => hk.2)) | (rw [add_block]; exact Kd.own_blk (Kd.R_away HO204.out (fun _ hk => hk.2))) | (show (Addr.add _ _).block ≠ _; rw [add_block]; exact Kd.own_blk (Kd.R_away HO204.out (fun _ hk => hk.2))) | (dsimp only; exact Kd.own_blk (Kd.R_away HO204.out (fun _ hk => hk.2)))) _).trans (((cell_far (p := ⟨gb209, _, none⟩) (by first | exact Kd.own_blk (Kd.R_away HO204.out (fun _ hk => hk.2)) | (rw [add_block]; exact Kd.own_blk (Kd.R_away HO204.out (fun _ hk => hk.2))) | (show (Addr.add _ _).block ≠ _; rw [add_block]; exact Kd.own_blk (Kd.R_away HO204.out (fun _ hk => hk.2))) | (dsimp only; exact Kd.own_blk (Kd.R_away HO204.out (fun _ hk => hk.2)))) _).trans (hHeld.2.2.1)))))), ((cell_far (p := ⟨gb209, _, none⟩) (by first | exact Kd.own_blk (Kd.R_away HO204.out (fun _ hk => hk.2)) | (rw [add_block]; exact Kd.own_blk (Kd.R_away HO204.out (fun _ hk => hk.2))) | (show (Addr.add _ _).block ≠ _; rw [add_block]; exact Kd.own_blk (Kd.R_away HO204.out (fun _ hk => hk.2))) | (dsimp only; exact Kd.own_blk (Kd.R_away HO204.out (fun _ hk => hk.2)))) _).trans (((cell_far (p := ⟨gb209, _, none⟩) (by first | exact Kd.own_blk (Kd.R_away HO204.out (fun _ hk => hk.2)) | (rw [add_block]; exact Kd.own_blk (Kd.R_away HO204.out (fun _ hk => hk.2))) | (show (Addr.add _ _).block ≠ _; rw [add_block]; exact Kd.own_blk (Kd.R_away HO204.out (fun _ hk => hk.2))) | (dsimp only; exact Kd.own_blk (Kd.R_away HO204.out (fun _ hk => hk.2)))) _).trans (((cell_far (p := ⟨gb209, _, none⟩) (by first | exact Kd.own_blk (Kd.R_away HO204.out (fun _ hk => hk.2)) | (rw [add_block]; exact Kd.own_blk (Kd.R_away HO204.out (fun _ hk => hk.2))) | (show (Addr.add _ _).block ≠ _; rw [add_block]; exact Kd.own_blk (Kd.R_away HO204.out (fun _ hk => hk.2))) | (dsimp only; exact Kd.own_blk (Kd.R_away HO204.out (fun _ hk => hk.2)))) _).trans (hHeld.2.2.2.1)))))), ((cell_far (p := ⟨gb209, _, none⟩) (by first | exact Kd.own_blk (Kd.R_away HO204.out (fun _ hk => hk.2)) | (rw [add_block]; exact Kd.own_blk (Kd.R_away HO204.out (fun _ hk => hk.2))) | (show (Addr.add _ _).block ≠ _; rw [add_block]; exact Kd.own_blk (Kd.R_away HO204.out (fun _ hk => hk.2))) | (dsimp only; exact Kd.own_blk (Kd.R_away HO204.out (fun _ hk => hk.2)))) _).trans (((cell_far (p := ⟨gb209, _, none⟩) (by first | exact Kd.own_blk (Kd.R_away HO204.out (fun _ hk => hk.2)) | (rw [add_block]; exact Kd.own_blk (Kd.R_away HO204.out (fun _ hk => hk.2))) | (show (Addr.add _ _).block ≠ _; rw [add_block]; exact Kd.own_blk (Kd.R_away HO204.out (fun _ hk => hk.2))) | (dsimp only; exact Kd.own_blk (Kd.R_away HO204.out (fun _ hk => hk.2)))) _).trans (((cell_far (p := ⟨gb209, _, none⟩) (by first | exact Kd.own_blk (Kd.R_away HO204.out (fun _ hk => hk.2)) | (rw [add_block]; exact Kd.own_blk (Kd.R_away HO204.out (fun _ hk => hk.2))) | (show (Addr.add _ _).block ≠ _; rw [add_block]; exact Kd.own_blk (Kd.R_away HO204.out (fun _ hk => hk.2))) | (dsimp only; exact Kd.own_blk (Kd.R_away HO204.out (fun _ hk => hk.2)))) _).trans (hHeld.2.2.2.2.1)))))), ((cell_far (p := ⟨gb209, _, none⟩) (by first | exact Kd.own_blk (Kd.R_away HO204.out (fun _ hk => hk.2)) | (rw [add_block]; exact Kd.own_blk (Kd.R_away HO204.out (fun _ hk => hk.2))) | (show (Addr.add _ _).block ≠ _; rw [add_block]; exact Kd.own_blk (Kd.R_away HO204.out (fun _ hk => hk.2))) | (dsimp only; exact Kd.own_blk (Kd.R_away HO204.out (fun _ hk => hk.2)))) _).trans (((cell_far (p := ⟨gb209, _, none⟩) (by first | exact Kd.own_blk (Kd.R_away HO204.out (fun _ hk => hk.2)) | (rw [add_block]; exact Kd.own_blk (Kd.R_away HO204.out (fun _ hk => hk.2))) | (show (Addr.add _ _).block ≠ _; rw [add_block]; exact Kd.own_blk (Kd.R_away HO204.out (fun _ hk => hk.2))) | (dsimp only; exact Kd.own_blk (Kd.R_away HO204.out (fun _ hk => hk.2)))) _).trans (((cell_far (p := ⟨gb209, _, none⟩) (by first | exact Kd.own_blk (Kd.R_away HO204.out (fun _ hk => hk.2)) | (rw [add_block]; exact Kd.own_blk (Kd.R_away HO204.out (fun _ hk => hk.2))) | (show (Addr.add _ _).block ≠ _; rw [add_block]; exact Kd.own_blk (Kd.R_away HO204.out (fun _ hk => hk.2))) | (dsimp only; exact Kd.own_blk (Kd.R_away HO204.out (fun _ hk => hk.2)))) _).trans (hHeld.2.2.2.2.2))))))⟩ (fun hHeld => ?_)
                        clear hK K
                        refine done_ (done_of HT_.out (by kernel_rfl)) ?_
                        have n0_ : Aside0 (Kd.R k129 129 (((w58.setCell ⟨gb209, 0, none⟩ (.string (a1 ++ (⟨#[98]⟩ : ByteArray)))).setCell ⟨gb209, 1, none⟩ (.int .i64 ((rd_T129 t202 t197).f1))).setCell ⟨gb209, 2, none⟩ (.int .i64 (wrap64 (((rd_T129 t202 t197).f2) - t206)))) w.heap.size (fun k_ => k_ ≠ gb209) (.slice (some ad205) t202.length co55) t202) := ⟨by (with_reducible repeat (first | apply Kd.R_alloc | apply Kd.R_drewN | apply Kd.R_drew)); exact Kd.R_mono (Kd.R_far (p := ⟨gb209, 2, none⟩) (Kd.R_far (p := ⟨gb209, 1, none⟩) (Kd.R_far (p := ⟨gb209, 0, none⟩) (Kd.R_mono HO204.out (fun k_ hk => (⟨hk, hk.2⟩ : _ ∧ k_ ≠ gb209))) (fun _ hk => hk.2) (.string (a1 ++ (⟨#[98]⟩ : ByteArray)))) (fun _ hk => hk.2) (.int .i64 ((rd_T129 t202 t197).f1))) (fun _ hk => hk.2) (.int .i64 (wrap64 (((rd_T129 t202 t197).f2) - t206)))) (fun _ hk => hk.1.2)⟩
                        have n1_ : Aside0 ((((w58.setCell ⟨gb209, 0, none⟩ (.string (a1 ++ (⟨#[98]⟩ : ByteArray)))).setCell ⟨gb209, 1, none⟩ (.int .i64 ((rd_T129 t202 t197).f1))).setCell ⟨gb209, 2, none⟩ (.int .i64 (wrap64 (((rd_T129 t202 t197).f2) - t206)))).heap[gb209]? = some (.cells #[.string (a1 ++ (⟨#[98]⟩ : ByteArray)), .int .i64 ((rd_T129 t202 t197).f1), .int .i64 (wrap64 (((rd_T129 t202 t197).f2) - t206))] 129 (0, 0))) := ⟨by (with_reducible repeat (first | refine blk_drewN ?_ _ | refine blk_drew ?_ | refine blk_alloc ?_ _)); refine blk_put (cs := #[.string (a1 ++ (⟨#[98]⟩ : ByteArray)), .int .i64 ((rd_T129 t202 t197).f1), .int .i64 0]) ?_ 2 _ rfl; (with_reducible repeat (first | refine blk_drewN ?_ _ | refine blk_drew ?_ | refine blk_alloc ?_ _)); refine blk_put (cs := #[.string (a1 ++ (⟨#[98]⟩ : ByteArray)), .int .i64 0, .int .i64 0]) ?_ 1 _ rfl; (with_reducible repeat (first | refine blk_drewN ?_ _ | refine blk_drew ?_ | refine blk_alloc ?_ _)); refine blk_put (cs := #[.string (⟨#[]⟩ : ByteArray), .int .i64 0, .int .i64 0]) ?_ 0 _ rfl; (with_reducible repeat (first | refine blk_drewN ?_ _ | refine blk_drew ?_ | refine blk_alloc ?_ _)); exact BK209.out⟩
                        have n2_ : Aside0 (Below w.heap.size w (((w58.setCell ⟨gb209, 0, none⟩ (.string (a1 ++ (⟨#[98]⟩ : ByteArray)))).setCell ⟨gb209, 1, none⟩ (.int .i64 ((rd_T129 t202 t197).f1))).setCell ⟨gb209, 2, none⟩ (.int .i64 (wrap64 (((rd_T129 t202 t197).f2) - t206))))) := ⟨by repeat (first | (with_reducible first | exact HB.out | apply below_alloc | apply pw_below_drewN | apply below_drew1 | refine below_set ?_ GE209.out) | exact HB.out)⟩
                        (try clear HO204)
                        (try clear BK209)
                        (try clear HB)
                        generalize (((w58.setCell ⟨gb209, 0, none⟩ (.string (a1 ++ (⟨#[98]⟩ : ByteArray)))).setCell ⟨gb209, 1, none⟩ (.int .i64 ((rd_T129 t202 t197).f1))).setCell ⟨gb209, 2, none⟩ (.int .i64 (wrap64 (((rd_T129 t202 t197).f2) - t206)))) = w62 at n0_ n1_ n2_ ⊢
                        have HO204 := n0_
                        have BK209 := n1_
                        have HB := n2_
                        clear n0_ n1_ n2_
                        have p27 : 0 ≤ (t197 : Int) := of_decide_eq_true (by first | (with_reducible assumption) | assumption)
                        have q27 : (t197 : Int) < ((t202.length : Int) : Int) := of_decide_eq_true (by first | (with_reducible assumption) | assumption)
                        obtain ⟨go27, co27, eo27, gb27, gl27, cl27, HG27⟩ := Kd.R_form HO204.out (by omega)
                        (first | cases eo27 | (injection eo27 with ea_ en_ ec_; (first | subst ea_ | (injection ea_ with ea_; subst ea_)); subst ec_; clear en_))
                        have GB27 := Aside0.mk gb27
                        have GG27 := Aside0.mk HG27
                        clear gb27 gl27 HG27
                        (first | simp only [add_plain] at hx205_0 | skip)
                        (first | simp only [add_plain] at hx205_1 | skip)
                        (first | simp only [add_plain] at hx205_2 | skip)
                        (first | simp only [add_plain] at hx207_0 | skip)
                        (first | simp only [add_plain] at hx207_1 | skip)
                        (first | simp only [add_plain] at hx207_2 | skip)
                        (first | simp only [add_plain] at hx208_0 | skip)
                        (first | simp only [add_plain] at hx208_1 | skip)
                        (first | simp only [add_plain] at hx208_2 | skip)
                        obtain ⟨ce27, hcl27, hM27, hcc27, hfr27⟩ := Kd.R_elem HO204.out z129 (t197 : Int) p27 q27
                        obtain rfl := k129_openM hM27
                        have hx27_0 : w62.cell? ⟨go27, (t197 : Int).toNat * 3, none⟩ = some (.string ((rd_T129 t202 t197).f0)) := hcc27 0 _ rfl
                        have hx27_1 : w62.cell? ⟨go27, (t197 : Int).toNat * 3 + 1, none⟩ = some (.int .i64 ((rd_T129 t202 t197).f1)) := hcc27 1 _ rfl
                        have hx27_2 : w62.cell? ⟨go27, (t197 : Int).toNat * 3 + 2, none⟩ = some (.int .i64 ((rd_T129 t202 t197).f2)) := hcc27 2 _ rfl
                        have hf27_0 : w62.frozen? ⟨go27, (t197 : Int).toNat * 3, none⟩ = false := hfr27 0
                        have hf27_1 : w62.frozen? ⟨go27, (t197 : Int).toNat * 3 + 1, none⟩ = false := hfr27 1
                        have hf27_2 : w62.frozen? ⟨go27, (t197 : Int).toNat * 3 + 2, none⟩ = false := hfr27 2
                        clear hcl27 hcc27 hfr27 hM27
                        replace p27 := eq_true p27
                        replace q27 := eq_true q27
                        have HX63 := Aside0.mk (show Kd.R k129 129 w62 w.heap.size (fun k_ => k_ ≠ gb209) (.slice (some ⟨go27, 0, none⟩) t202.length co55) t202 from (by (with_reducible repeat (first | apply Kd.R_alloc | apply Kd.R_drewN | apply Kd.R_drew)); exact HO204.out))
                        obtain ⟨ce63, hcl63, hM63, hcc63, hfr63⟩ := Kd.R_elem HX63.out z129 (t197 : Int) (of_decide_eq_true (by first | (with_reducible assumption) | assumption)) (by have h_ : (t197 : Int) < ((t202.length : Int) : Int) := of_decide_eq_true (by first | (with_reducible assumption) | assumption); first | exact h_ | (have e_ := (Kd.R_reads' HO204.out).1; omega) | simpa using h_)
                        obtain rfl := k129_openM hM63
                        have HP63 := Kd.R_seg HX63.out (t197 : Int) (of_decide_eq_true (by first | (with_reducible assumption) | assumption)) (by have h_ : (t197 : Int) < ((t202.length : Int) : Int) := of_decide_eq_true (by first | (with_reducible assumption) | assumption); first | exact h_ | (have e_ := (Kd.R_reads' HO204.out).1; omega) | simpa using h_) (seg := [.int .i64 t206]) (j := 2) hcl63 hcc63 (show 3 ≤ 3 from by decide) (x' := (⟨(rd_T129 t202 t197).f0, (rd_T129 t202 t197).f1, t206⟩ : S129)) (k129_mkM _ _ _ (⟨(rd_T129 t202 t197).f0, (rd_T129 t202 t197).f1, t206⟩ : S129) ) (fun _ hk => hk)
                        have hx63_2 := hcc63 2 _ rfl
                        (try simp only [show (k129).sz = 3 from rfl, Nat.mul_one, Nat.add_zero] at hx63_2)
                        have hf63_2 := hfr63 2
                        (try simp only [show (k129).sz = 3 from rfl, Nat.mul_one, Nat.add_zero] at hf63_2)
                        clear hcl63 hcc63 hfr63 hM63
                        try go_wp2_with (first | ((with_reducible refine gate_store (t := 2) (p := 79) rfl ?_); refine store_event (t := 2) (p := 79) (v := ?vo_w64) (w1 := (w62.setCell ⟨go27, (t197 : Int).toNat * 3 + 2, none⟩ (.int .i64 t206))) ?hg ?ho ?hn ?hr ?_; (case ho => rfl); (case hg => rfl); (case hn => rfl); (case hr => first | (go_simp; done) | (go_simp; rfl)); intro w64 hw; have hg : w62.grownBy w64 (some go27) := (by rw [hw]; exact HP63.2); have hp_ : Kd.R k129 129 w64 w.heap.size (fun k_ => k_ ≠ gb209) (.slice (some ⟨go27, 0, none⟩) t202.length co55) y210 := (by rw [hw, Ny210.out]; exact HP63.1); clear HP63; have n0_ := Aside0.mk (hp_); have n1_ := Aside0.mk (blk_grown (g := gb209) (o := .cells #[.string (a1 ++ (⟨#[98]⟩ : ByteArray)), .int .i64 ((rd_T129 t202 t197).f1), .int .i64 (wrap64 (((rd_T129 t202 t197).f2) - t206))] 129 (0, 0)) (by (with_reducible repeat (first | refine blk_drewN ?_ _ | refine blk_drew ?_ | refine blk_alloc ?_ _)); exact BK209.out) hg (Kd.R_away HO204.out (fun _ hk => hk))); have n2_ := Aside0.mk ((by rw [hw]; exact below_set (HB.out) GB27.out : Below w.heap.size w w64)); clear HO204; clear BK209; clear HB; have HO204 := n0_; have BK209 := n1_; have HB := n2_; clear n0_ n1_ n2_; clear hg hw hp_; have hcz65_0 : w64.cell? ⟨gb209, 0, none⟩ = some (.string (a1 ++ (⟨#[98]⟩ : ByteArray))) := (blk_cell BK209.out 0).trans rfl; have hcz65_1 : w64.cell? ⟨gb209, 1, none⟩ = some (.int .i64 ((rd_T129 t202 t197).f1)) := (blk_cell BK209.out 1).trans rfl; have hcz65_2 : w64.cell? ⟨gb209, 2, none⟩ = some (.int .i64 (wrap64 (((rd_T129 t202 t197).f2) - t206))) := (blk_cell BK209.out 2).trans rfl; have hfz65_0 := blk_frozen BK209.out 0; have hfz65_1 := blk_frozen BK209.out 1; have hfz65_2 := blk_frozen BK209.out 2) | ((with_reducible refine gate_callee (f := 103) rfl ?_); refine goesL_ (some 83) rfl rfl Try.func103 (by kernel_rfl) rfl #[.slice (some ⟨go27, 0, none⟩) y210.length co55, .agg #[.string (a1 ++ (⟨#[98]⟩ : ByteArray)), .int .i64 ((rd_T129 t202 t197).f1), .int .i64 (wrap64 (((rd_T129 t202 t197).f2) - t206))], .func (.func 104) #[] #[]] rfl (by (try simp only [List.map_toArray, List.map_cons, List.map_nil]); first | done | (rw [show y210.length = t202.length from (Kd.R_reads' HO204.out).1.symm] <;> rfl) | rfl | (simp only [List.length_drop, List.length_take]; rfl)) ?_; (with_reducible refine (slices_BinarySearchFunc_Tenant.calls kj7 _ _ y210 (a1 ++ (⟨#[98]⟩ : ByteArray)) ((rd_T129 t202 t197).f1) (wrap64 (((rd_T129 t202 t197).f2) - t206))  t211 t212 _ ?side1 ?side2 A28.out).mono ?_); (case side1 => repeat (first | exact (Kd.R_reads' HO204.out).2.2 | (with_reducible refine Kd.C_alloc ?_ _) | (with_reducible refine Kd.C_drewN ?_ _) | (with_reducible refine Kd.C_drew ?_))); (case side2 => rw [show y210.length = t202.length from (Kd.R_reads' HO204.out).1.symm]; exact (Kd.R_reads' HO204.out).2.1); rintro e w66 ⟨rfl, hb⟩; refine ⟨_, rfl, ?_⟩; have n0_ := Aside0.mk (Kd.R_below (by (with_reducible repeat (first | apply Kd.R_alloc | apply Kd.R_drewN | apply Kd.R_drew)); exact HO204.out) hb); have n1_ := Aside0.mk (blk_below (g := gb209) (o := .cells #[.string (a1 ++ (⟨#[98]⟩ : ByteArray)), .int .i64 ((rd_T129 t202 t197).f1), .int .i64 (wrap64 (((rd_T129 t202 t197).f2) - t206))] 129 (0, 0)) (by (with_reducible repeat (first | refine blk_drewN ?_ _ | refine blk_drew ?_ | refine blk_alloc ?_ _)); exact BK209.out) hb); have n2_ := Aside0.mk (below_step (by repeat (first | (with_reducible first | exact HB.out | apply below_alloc | apply pw_below_drewN | apply below_drew1 | refine below_set ?_ GE209.out) | exact HB.out)) hb); clear HO204; clear BK209; clear HB; have HO204 := n0_; have BK209 := n1_; have HB := n2_; clear n0_ n1_ n2_; (try clear hb); (try clear hb2); (try clear hk); (try clear hi); have hcz67_0 : w66.cell? ⟨gb209, 0, none⟩ = some (.string (a1 ++ (⟨#[98]⟩ : ByteArray))) := (blk_cell BK209.out 0).trans rfl; have hcz67_1 : w66.cell? ⟨gb209, 1, none⟩ = some (.int .i64 ((rd_T129 t202 t197).f1)) := (blk_cell BK209.out 1).trans rfl; have hcz67_2 : w66.cell? ⟨gb209, 2, none⟩ = some (.int .i64 (wrap64 (((rd_T129 t202 t197).f2) - t206))) := (blk_cell BK209.out 2).trans rfl; have hfz67_0 := blk_frozen BK209.out 0; have hfz67_1 := blk_frozen BK209.out 1; have hfz67_2 := blk_frozen BK209.out 2) | ((with_reducible refine gate_dst (N := 89) rfl ?_); refine Kd.R_lit k129 _ 129 ?hg (N := 89) ?hd (xs := ([(⟨a1 ++ (⟨#[98]⟩ : ByteArray), (rd_T129 t202 t197).f1, wrap64 (((rd_T129 t202 t197).f2) - t206)⟩ : S129)] : List (S129))) (inner := [.string (a1 ++ (⟨#[98]⟩ : ByteArray)), .int .i64 ((rd_T129 t202 t197).f1), .int .i64 (wrap64 (((rd_T129 t202 t197).f2) - t206))]) (ok := fun _ => True) (okp := fun _ => True) ?hr ?hp (fun _ hk => hk) trivial (Below.refl _ _) (Nat.le_refl _) (by simp) ?_; (case hd => rfl); (case hg => rfl); (case hr => first | (go_simp; done) | (go_simp; rfl)); (case hp => exact (Reps.c3 (show Kd.M k129 _ _ _ (⟨a1 ++ (⟨#[98]⟩ : ByteArray), (rd_T129 t202 t197).f1, wrap64 (((rd_T129 t202 t197).f2) - t206)⟩ : S129) [.string (a1 ++ (⟨#[98]⟩ : ByteArray)), .int .i64 ((rd_T129 t202 t197).f1), .int .i64 (wrap64 (((rd_T129 t202 t197).f2) - t206))] from (k129_mkM _ _ _ (⟨a1 ++ (⟨#[98]⟩ : ByteArray), (rd_T129 t202 t197).f1, wrap64 (((rd_T129 t202 t197).f2) - t206)⟩ : S129) )) (Reps.none _ _))); intro v214 w68 ho69 hb hg_ hnew_; clear hg_ hnew_; (first | rw [← Ny213.out] at ho69 | (simp only [Int.reduceToNat] at ho69; rw [← Ny213.out] at ho69)); have n0_ := Aside0.mk (Kd.R_elder' (by (with_reducible repeat (first | apply Kd.R_alloc | apply Kd.R_drewN | apply Kd.R_drew)); exact HO204.out) (Kd.R_base ho69) hb); have n1_ := Aside0.mk (Kd.R_lower (Kd.R_newB (Kd.R_new' ho69 (Kd.R_lt (by (with_reducible repeat (first | apply Kd.R_alloc | apply Kd.R_drewN | apply Kd.R_drew)); exact HO204.out))) (g := gb209) (o := .cells #[.string (a1 ++ (⟨#[98]⟩ : ByteArray)), .int .i64 ((rd_T129 t202 t197).f1), .int .i64 (wrap64 (((rd_T129 t202 t197).f2) - t206))] 129 (0, 0)) (by (with_reducible repeat (first | refine blk_drewN ?_ _ | refine blk_drew ?_ | refine blk_alloc ?_ _)); exact BK209.out)) (below_size (by repeat (first | (with_reducible first | exact HB.out | apply below_alloc | apply pw_below_drewN | apply below_drew1 | refine below_set ?_ GE209.out) | exact HB.out)))); have n2_ := Aside0.mk (blk_below (g := gb209) (o := .cells #[.string (a1 ++ (⟨#[98]⟩ : ByteArray)), .int .i64 ((rd_T129 t202 t197).f1), .int .i64 (wrap64 (((rd_T129 t202 t197).f2) - t206))] 129 (0, 0)) (by (with_reducible repeat (first | refine blk_drewN ?_ _ | refine blk_drew ?_ | refine blk_alloc ?_ _)); exact BK209.out) hb); have n3_ := Aside0.mk (below_step (by repeat (first | (with_reducible first | exact HB.out | apply below_alloc | apply pw_below_drewN | apply below_drew1 | refine below_set ?_ GE209.out) | exact HB.out)) hb); clear HO204; clear BK209; clear HB; have HO204 := n0_; have HO215 := n1_; have BK209 := n2_; have HB := n3_; clear n0_ n1_ n2_ n3_; clear hb ho69; obtain ⟨Ao70, co70, eo70⟩ := Kd.R_slice HO215.out; subst eo70) | ((with_reducible refine gate_callee (f := 106) rfl ?_); refine goesL_ (some 90) rfl rfl Try.func106 (by kernel_rfl) rfl #[.slice (some ⟨go27, 0, none⟩) t202.length co55, .int .i64 t211, .slice Ao70 y213.length co70] rfl (by (try simp only [List.map_toArray, List.map_cons, List.map_nil]); first | done | rfl | (simp only [List.length_drop, List.length_take]; rfl)) ?_; (with_reducible refine (slices_Insert_Tenant.calls (fun k_ => some k_ = (.slice (some ⟨go27, 0, none⟩) t202.length co55 : Value).ownBlock) (.slice (some ⟨go27, 0, none⟩) t202.length co55) y210 t211 (fun k_ => some k_ = (.slice Ao70 y213.length co70 : Value).ownBlock) (.slice Ao70 y213.length co70) y213 t216 w _ ?side1 ?side2 ?side3 ?side4 ?side5 A29.out).mono ?_); (case side1 => repeat (first | (with_reducible first | exact HB.out | apply below_alloc | apply pw_below_drewN | apply below_drew1 | refine below_set ?_ GE209.out) | exact HB.out)); (case side2 => exact Kd.R_tight rfl HO204.out); (case side3 => exact fun k_ e_ => (HO204.out.1 k_ e_.symm).2); (case side4 => exact Kd.R_tight rfl HO215.out); (case side5 => exact fun k_ e_ => (HO215.out.1 k_ e_.symm).1.2); rintro e w71 ⟨v217, rfl, ho0, hb, hkp⟩; refine ⟨_, rfl, ?_⟩; have n0_ := Aside0.mk (blk_kept (by (with_reducible repeat (first | refine blk_drewN ?_ _ | refine blk_drew ?_ | refine blk_alloc ?_ _)); exact BK209.out) hkp (fun hs_ => Or.elim hs_ (fun e_ => (fun e_ => (Kd.R_away HO204.out (fun _ hk => hk.1)) e_) e_) (fun e_ => (fun e_ => (Kd.R_away HO215.out (fun _ hk => hk.2)) e_) e_))); have n1_ := Aside0.mk (Kd.R_mono (ok' := fun k_ => k_ ≠ gb209) ho0 (fun k_ hk_ => Or.elim hk_ (fun hs_ => Or.elim hs_ (fun hs_ => fun e_ => (Kd.R_away HO204.out (fun _ hk => hk.1)) (by rw [← e_]; exact hs_)) (fun hs_ => fun e_ => (Kd.R_away HO215.out (fun _ hk => hk.2)) (by rw [← e_]; exact hs_))) (fun hn_ => (Kd.freshB (g := gb209) (o := .cells #[.string (a1 ++ (⟨#[98]⟩ : ByteArray)), .int .i64 ((rd_T129 t202 t197).f1), .int .i64 (wrap64 (((rd_T129 t202 t197).f2) - t206))] 129 (0, 0)) (by (with_reducible repeat (first | refine blk_drewN ?_ _ | refine blk_drew ?_ | refine blk_alloc ?_ _)); exact BK209.out) k_ hn_)))); have n2_ := Aside0.mk (hb); clear BK209; clear HB; clear HO204; clear HO215; have BK209 := n0_; have HO218 := n1_; have HB := n2_; clear n0_ n1_ n2_; (try clear hb); (try clear hkp); (try clear ho0); obtain ⟨Ao72, co72, eo72⟩ := Kd.R_slice HO218.out; subst eo72) | ((with_reducible refine gate_callee (f := 99) rfl ?_); refine goesL_ (some 92) rfl rfl Try.func99 (by kernel_rfl) rfl #[.slice Ao72 t216.length co72] rfl (by (try simp only [List.map_toArray, List.map_cons, List.map_nil]); first | done | rfl | (simp only [List.length_drop, List.length_take]; rfl)) ?_; (with_reducible refine (impl_ValidTenants.calls kj7 _ _ t216 false _ ?side1 ?side2 A30.out).mono ?_); (case side1 => repeat (first | exact (Kd.R_reads' HO218.out).2.2 | (with_reducible refine Kd.C_alloc ?_ _) | (with_reducible refine Kd.C_drewN ?_ _) | (with_reducible refine Kd.C_drew ?_))); (case side2 => exact (Kd.R_reads' HO218.out).2.1); rintro e w73 ⟨rfl, hb⟩; refine ⟨_, rfl, ?_⟩; have n0_ := Aside0.mk (Kd.R_below (by (with_reducible repeat (first | apply Kd.R_alloc | apply Kd.R_drewN | apply Kd.R_drew)); exact HO218.out) hb); have n1_ := Aside0.mk (blk_below (g := gb209) (o := .cells #[.string (a1 ++ (⟨#[98]⟩ : ByteArray)), .int .i64 ((rd_T129 t202 t197).f1), .int .i64 (wrap64 (((rd_T129 t202 t197).f2) - t206))] 129 (0, 0)) (by (with_reducible repeat (first | refine blk_drewN ?_ _ | refine blk_drew ?_ | refine blk_alloc ?_ _)); exact BK209.out) hb); have n2_ := Aside0.mk (below_step (by repeat (first | (with_reducible first | exact HB.out | apply below_alloc | apply pw_below_drewN | apply below_drew1 | refine below_set ?_ GE209.out) | exact HB.out)) hb); clear HO218; clear BK209; clear HB; have HO218 := n0_; have BK209 := n1_; have HB := n2_; clear n0_ n1_ n2_; (try clear hb); (try clear hb2); (try clear hk); (try clear hi)))
                        go_ret2
                        exact ⟨_, by first | rfl | (simp [errW_none, errW_some] <;> rfl) | (simp [*, errW_none, errW_some] <;> rfl), by first | exact Kd.R_nil _ _ _ _ _ | exact Kd.N_nil _ _ _ _ _ | exact Kd.V_nil _ _ _ _ _ | exact Kd.Q_nil _ _ _ _ _ | exact Kd.S_nil _ _ _ _ _, by repeat (first | (with_reducible first | exact HB.out | apply below_alloc | apply pw_below_drewN | apply below_drew1 | refine below_set ?_ GE209.out) | exact HB.out)⟩
                    · rw [if_neg c25] at H
                      exact absurd H (by simp)
                  · rw [if_neg c24] at H
                    exact absurd H (by simp)
            · rw [if_neg c17] at H
              exact absurd H (by simp)
  · replace c7 := Bool.eq_false_iff.mpr c7
    subst c7
    have H1 : (some (([] : List (S129)), 1)) = some (r1, r2) := by rw [if_neg (show ¬ (false = true) by decide)] at H; exact H
    clear H
    have H := H1
    clear H1
    simp only [Option.some.injEq, Prod.mk.injEq] at H
    obtain ⟨rfl, rfl⟩ := H
    go_enter Try.func32, Try.ntmps32
    go_wp2_with (first | ((with_reducible refine gate_callee (f := 98) rfl ?_); refine goesL_ (some 18) rfl rfl Try.func98 (by kernel_rfl) rfl #[.slice A0 l0.length c0, .string a1] rfl (by (try simp only [List.map_toArray, List.map_cons, List.map_nil]); first | done | rfl | (simp only [List.length_drop, List.length_take]; rfl)) ?_; (with_reducible refine (impl_tenantAt.calls k _ _ l0 a1 t197 _ ?side1 ?side2 A5.out).mono ?_); (case side1 => repeat (first | exact HR0.out | (with_reducible refine Kd.C_alloc ?_ _) | (with_reducible refine Kd.C_drewN ?_ _) | (with_reducible refine Kd.C_drew ?_))); (case side2 => exact HC0.out); rintro e w74 ⟨rfl, hb⟩; refine ⟨_, rfl, ?_⟩; have n0_ := Aside0.mk (below_step (by repeat (first | (with_reducible first | exact HB.out | apply below_alloc | apply pw_below_drewN | apply below_drew1) | exact HB.out)) hb); clear HB; have HB := n0_; clear n0_; (try clear hb); (try clear hb2); (try clear hk); (try clear hi)) | ((with_reducible refine gate_callee (f := 99) rfl ?_); refine goesL_ (some 21) rfl rfl Try.func99 (by kernel_rfl) rfl #[.slice A0 l0.length c0] rfl (by (try simp only [List.map_toArray, List.map_cons, List.map_nil]); first | done | rfl | (simp only [List.length_drop, List.length_take]; rfl)) ?_; (with_reducible refine (impl_ValidTenants.calls k _ _ l0 false _ ?side1 ?side2 A6.out).mono ?_); (case side1 => repeat (first | exact (Kd.C_below HR0.out HB.out) | (with_reducible refine Kd.C_alloc ?_ _) | (with_reducible refine Kd.C_drewN ?_ _) | (with_reducible refine Kd.C_drew ?_))); (case side2 => exact HC0.out); rintro e w75 ⟨rfl, hb⟩; refine ⟨_, rfl, ?_⟩; have n0_ := Aside0.mk (below_step (by repeat (first | (with_reducible first | exact HB.out | apply below_alloc | apply pw_below_drewN | apply below_drew1) | exact HB.out)) hb); clear HB; have HB := n0_; clear n0_; (try clear hb); (try clear hb2); (try clear hk); (try clear hi)))
    go_ret2
    exact ⟨_, by first | rfl | (simp [errW_none, errW_some] <;> rfl) | (simp [*, errW_none, errW_some] <;> rfl), by first | exact Kd.R_nil _ _ _ _ _ | exact Kd.N_nil _ _ _ _ _ | exact Kd.V_nil _ _ _ _ _ | exact Kd.Q_nil _ _ _ _ _ | exact Kd.S_nil _ _ _ _ _, by repeat (first | (with_reducible first | exact HB.out | apply below_alloc | apply pw_below_drewN | apply below_drew1) | exact HB.out)⟩

/-! ### laws_eqTenant: function 107 -/
def laws_eqTenant.f (a0_0 : ByteArray) (a0_1 : Int) (a0_2 : Int) (a1_0 : ByteArray) (a1_1 : Int) (a1_2 : Int) : Option (Bool) := if a0_0.toList = a1_0.toList then (if a0_1 = a1_1 then (if a0_2 = a1_2 then (some true) else (some false)) else (some false)) else (some false)
set_option maxHeartbeats 8000000 in
set_option maxRecDepth 100000 in
theorem laws_eqTenant.calls (a0_0 : ByteArray) (a0_1 : Int) (a0_2 : Int) (a1_0 : ByteArray) (a1_1 : Int) (a1_2 : Int) (r : Bool) (w : World) (h : laws_eqTenant.f a0_0 a0_1 a0_2 a1_0 a1_1 a1_2 = some r) :
    Calls Try.prog 107 #[.agg #[.string a0_0, .int .i64 a0_1, .int .i64 a0_2], .agg #[.string a1_0, .int .i64 a1_1, .int .i64 a1_2]] w fun e w' => e = .returned (.bool r) ∧ Below w.heap.size w w' := by
  have hu129 := Try.underlying129
  have HB := Aside0.mk (Below.refl w.heap.size w)
  have H : (if a0_0.toList = a1_0.toList then (if a0_1 = a1_1 then (if a0_2 = a1_2 then (some true) else (some false)) else (some false)) else (some false)) = some r := h
  clear h
  by_cases c3 : a0_0.toList = a1_0.toList
  · rw [if_pos c3] at H
    have c3b0 : (a0_0.toList == a1_0.toList) = true := beq_iff_eq.mpr c3
    have c3b1 : (a0_0.toList != a1_0.toList) = false := bne_eq_false_iff_eq.mpr c3
    clear c3
    by_cases c4 : a0_1 = a1_1
    · rw [if_pos c4] at H
      have c4b0 : (a0_1 == a1_1) = true := beq_iff_eq.mpr c4
      have c4b1 : (a0_1 != a1_1) = false := bne_eq_false_iff_eq.mpr c4
      clear c4
      by_cases c5 : a0_2 = a1_2
      · rw [if_pos c5] at H
        have c5b0 : (a0_2 == a1_2) = true := beq_iff_eq.mpr c5
        have c5b1 : (a0_2 != a1_2) = false := bne_eq_false_iff_eq.mpr c5
        clear c5
        obtain rfl := Option.some.inj H
        go_enter Try.func107, Try.ntmps107
        go_wp2_with (first | ((with_reducible refine gate_dst (N := 2) rfl ?_); refine box_event ?hg (N := 2) ?hd (cs := #[.string a0_0, .int .i64 a0_1, .int .i64 a0_2]) (t := 129) ?hr ?_; (case hd => rfl); (case hg => rfl); (case hr => first | (go_simp; done) | (go_simp; rfl)); intro gb220 hg w6 hbox hb; have n0_ := Aside0.mk (below_step (by repeat (first | (with_reducible first | exact HB.out | apply below_alloc | apply pw_below_drewN | apply below_drew1) | exact HB.out)) hb); have n1_ := Aside0.mk (hbox); have n2_ := Aside0.mk ((by rw [hg]; exact (below_size (by repeat (first | (with_reducible first | exact HB.out | apply below_alloc | apply pw_below_drewN | apply below_drew1) | exact HB.out))) : w.heap.size ≤ gb220)); have n3_ := Aside0.mk ((by rw [hg]; exact (below_size (by repeat (first | (with_reducible first | exact HB.out | apply below_alloc | apply pw_below_drewN | apply below_drew1) | exact HB.out))) : w.heap.size ≤ gb220)); clear HB; have HB := n0_; have BK220 := n1_; have GW220 := n2_; have GE220 := n3_; clear n0_ n1_ n2_ n3_; clear hb hbox hg) | ((with_reducible refine gate_dst (N := 3) rfl ?_); refine box_event ?hg (N := 3) ?hd (cs := #[.string a1_0, .int .i64 a1_1, .int .i64 a1_2]) (t := 129) ?hr ?_; (case hd => rfl); (case hg => rfl); (case hr => first | (go_simp; done) | (go_simp; rfl)); intro gb221 hg w7 hbox hb; have n0_ := Aside0.mk (blk_below (g := gb220) (o := .cells #[.string a0_0, .int .i64 a0_1, .int .i64 a0_2] 129 (0, 0)) (by (with_reducible repeat (first | refine blk_drewN ?_ _ | refine blk_drew ?_ | refine blk_alloc ?_ _)); exact BK220.out) hb); have n1_ := Aside0.mk (below_step (by repeat (first | (with_reducible first | exact HB.out | apply below_alloc | apply pw_below_drewN | apply below_drew1 | refine below_set ?_ GE220.out) | exact HB.out)) hb); have n2_ := Aside0.mk (hbox); have n3_ := Aside0.mk ((by rw [hg]; exact (below_size (by repeat (first | (with_reducible first | exact HB.out | apply below_alloc | apply pw_below_drewN | apply below_drew1 | refine below_set ?_ GE220.out) | exact HB.out))) : w.heap.size ≤ gb221)); have n4_ := Aside0.mk ((by rw [hg]; exact (below_size (by repeat (first | (with_reducible first | exact HB.out | apply below_alloc | apply pw_below_drewN | apply below_drew1 | refine below_set ?_ GE220.out) | exact HB.out))) : w.heap.size ≤ gb221)); have n5_ := Aside0.mk ((by rw [hg]; exact Nat.ne_of_lt (blk_lt (g := gb220) (o := .cells #[.string a0_0, .int .i64 a0_1, .int .i64 a0_2] 129 (0, 0)) (by (with_reducible repeat (first | refine blk_drewN ?_ _ | refine blk_drew ?_ | refine blk_alloc ?_ _)); exact BK220.out)) : gb220 ≠ gb221)); have n6_ := Aside0.mk ((by rw [hg]; exact Nat.ne_of_gt (blk_lt (g := gb220) (o := .cells #[.string a0_0, .int .i64 a0_1, .int .i64 a0_2] 129 (0, 0)) (by (with_reducible repeat (first | refine blk_drewN ?_ _ | refine blk_drew ?_ | refine blk_alloc ?_ _)); exact BK220.out)) : gb221 ≠ gb220)); clear BK220; clear HB; have BK220 := n0_; have HB := n1_; have BK221 := n2_; have GW221 := n3_; have GE221 := n4_; have NB220_221 := n5_; have NB221_220 := n6_; clear n0_ n1_ n2_ n3_ n4_ n5_ n6_; clear hb hbox hg; have hnb8 := NB220_221.out; have hnc8 := NB221_220.out; have hcz9_0 : w7.cell? ⟨gb220, 0, none⟩ = some (.string a0_0) := (blk_cell BK220.out 0).trans rfl; have hcz9_1 : w7.cell? ⟨gb220, 1, none⟩ = some (.int .i64 a0_1) := (blk_cell BK220.out 1).trans rfl; have hcz9_2 : w7.cell? ⟨gb220, 2, none⟩ = some (.int .i64 a0_2) := (blk_cell BK220.out 2).trans rfl; have hfz9_0 := blk_frozen BK220.out 0; have hfz9_1 := blk_frozen BK220.out 1; have hfz9_2 := blk_frozen BK220.out 2; have hcz10_0 : w7.cell? ⟨gb221, 0, none⟩ = some (.string a1_0) := (blk_cell BK221.out 0).trans rfl; have hcz10_1 : w7.cell? ⟨gb221, 1, none⟩ = some (.int .i64 a1_1) := (blk_cell BK221.out 1).trans rfl; have hcz10_2 : w7.cell? ⟨gb221, 2, none⟩ = some (.int .i64 a1_2) := (blk_cell BK221.out 2).trans rfl; have hfz10_0 := blk_frozen BK221.out 0; have hfz10_1 := blk_frozen BK221.out 1; have hfz10_2 := blk_frozen BK221.out 2))
        go_ret
        exact ⟨by first | rfl | (simp [errW_none, errW_some] <;> rfl) | (simp [*, errW_none, errW_some] <;> rfl), by repeat (first | (with_reducible first | exact HB.out | apply below_alloc | apply pw_below_drewN | apply below_drew1 | refine below_set ?_ GE220.out | refine below_set ?_ GE221.out) | exact HB.out)⟩
      · rw [if_neg c5] at H
        have c5b0 : (a0_2 == a1_2) = false := beq_eq_false_iff_ne.mpr c5
        have c5b1 : (a0_2 != a1_2) = true := bne_iff_ne.mpr c5
        obtain rfl := Option.some.inj H
        go_enter Try.func107, Try.ntmps107
        go_wp2_with (first | ((with_reducible refine gate_dst (N := 2) rfl ?_); refine box_event ?hg (N := 2) ?hd (cs := #[.string a0_0, .int .i64 a0_1, .int .i64 a0_2]) (t := 129) ?hr ?_; (case hd => rfl); (case hg => rfl); (case hr => first | (go_simp; done) | (go_simp; rfl)); intro gb220 hg w11 hbox hb; have n0_ := Aside0.mk (below_step (by repeat (first | (with_reducible first | exact HB.out | apply below_alloc | apply pw_below_drewN | apply below_drew1) | exact HB.out)) hb); have n1_ := Aside0.mk (hbox); have n2_ := Aside0.mk ((by rw [hg]; exact (below_size (by repeat (first | (with_reducible first | exact HB.out | apply below_alloc | apply pw_below_drewN | apply below_drew1) | exact HB.out))) : w.heap.size ≤ gb220)); have n3_ := Aside0.mk ((by rw [hg]; exact (below_size (by repeat (first | (with_reducible first | exact HB.out | apply below_alloc | apply pw_below_drewN | apply below_drew1) | exact HB.out))) : w.heap.size ≤ gb220)); clear HB; have HB := n0_; have BK220 := n1_; have GW220 := n2_; have GE220 := n3_; clear n0_ n1_ n2_ n3_; clear hb hbox hg) | ((with_reducible refine gate_dst (N := 3) rfl ?_); refine box_event ?hg (N := 3) ?hd (cs := #[.string a1_0, .int .i64 a1_1, .int .i64 a1_2]) (t := 129) ?hr ?_; (case hd => rfl); (case hg => rfl); (case hr => first | (go_simp; done) | (go_simp; rfl)); intro gb221 hg w12 hbox hb; have n0_ := Aside0.mk (blk_below (g := gb220) (o := .cells #[.string a0_0, .int .i64 a0_1, .int .i64 a0_2] 129 (0, 0)) (by (with_reducible repeat (first | refine blk_drewN ?_ _ | refine blk_drew ?_ | refine blk_alloc ?_ _)); exact BK220.out) hb); have n1_ := Aside0.mk (below_step (by repeat (first | (with_reducible first | exact HB.out | apply below_alloc | apply pw_below_drewN | apply below_drew1 | refine below_set ?_ GE220.out) | exact HB.out)) hb); have n2_ := Aside0.mk (hbox); have n3_ := Aside0.mk ((by rw [hg]; exact (below_size (by repeat (first | (with_reducible first | exact HB.out | apply below_alloc | apply pw_below_drewN | apply below_drew1 | refine below_set ?_ GE220.out) | exact HB.out))) : w.heap.size ≤ gb221)); have n4_ := Aside0.mk ((by rw [hg]; exact (below_size (by repeat (first | (with_reducible first | exact HB.out | apply below_alloc | apply pw_below_drewN | apply below_drew1 | refine below_set ?_ GE220.out) | exact HB.out))) : w.heap.size ≤ gb221)); have n5_ := Aside0.mk ((by rw [hg]; exact Nat.ne_of_lt (blk_lt (g := gb220) (o := .cells #[.string a0_0, .int .i64 a0_1, .int .i64 a0_2] 129 (0, 0)) (by (with_reducible repeat (first | refine blk_drewN ?_ _ | refine blk_drew ?_ | refine blk_alloc ?_ _)); exact BK220.out)) : gb220 ≠ gb221)); have n6_ := Aside0.mk ((by rw [hg]; exact Nat.ne_of_gt (blk_lt (g := gb220) (o := .cells #[.string a0_0, .int .i64 a0_1, .int .i64 a0_2] 129 (0, 0)) (by (with_reducible repeat (first | refine blk_drewN ?_ _ | refine blk_drew ?_ | refine blk_alloc ?_ _)); exact BK220.out)) : gb221 ≠ gb220)); clear BK220; clear HB; have BK220 := n0_; have HB := n1_; have BK221 := n2_; have GW221 := n3_; have GE221 := n4_; have NB220_221 := n5_; have NB221_220 := n6_; clear n0_ n1_ n2_ n3_ n4_ n5_ n6_; clear hb hbox hg; have hnb13 := NB220_221.out; have hnc13 := NB221_220.out; have hcz14_0 : w12.cell? ⟨gb220, 0, none⟩ = some (.string a0_0) := (blk_cell BK220.out 0).trans rfl; have hcz14_1 : w12.cell? ⟨gb220, 1, none⟩ = some (.int .i64 a0_1) := (blk_cell BK220.out 1).trans rfl; have hcz14_2 : w12.cell? ⟨gb220, 2, none⟩ = some (.int .i64 a0_2) := (blk_cell BK220.out 2).trans rfl; have hfz14_0 := blk_frozen BK220.out 0; have hfz14_1 := blk_frozen BK220.out 1; have hfz14_2 := blk_frozen BK220.out 2; have hcz15_0 : w12.cell? ⟨gb221, 0, none⟩ = some (.string a1_0) := (blk_cell BK221.out 0).trans rfl; have hcz15_1 : w12.cell? ⟨gb221, 1, none⟩ = some (.int .i64 a1_1) := (blk_cell BK221.out 1).trans rfl; have hcz15_2 : w12.cell? ⟨gb221, 2, none⟩ = some (.int .i64 a1_2) := (blk_cell BK221.out 2).trans rfl; have hfz15_0 := blk_frozen BK221.out 0; have hfz15_1 := blk_frozen BK221.out 1; have hfz15_2 := blk_frozen BK221.out 2))
        go_ret
        exact ⟨by first | rfl | (simp [errW_none, errW_some] <;> rfl) | (simp [*, errW_none, errW_some] <;> rfl), by repeat (first | (with_reducible first | exact HB.out | apply below_alloc | apply pw_below_drewN | apply below_drew1 | refine below_set ?_ GE220.out | refine below_set ?_ GE221.out) | exact HB.out)⟩
    · rw [if_neg c4] at H
      have c4b0 : (a0_1 == a1_1) = false := beq_eq_false_iff_ne.mpr c4
      have c4b1 : (a0_1 != a1_1) = true := bne_iff_ne.mpr c4
      obtain rfl := Option.some.inj H
      go_enter Try.func107, Try.ntmps107
      go_wp2_with (first | ((with_reducible refine gate_dst (N := 2) rfl ?_); refine box_event ?hg (N := 2) ?hd (cs := #[.string a0_0, .int .i64 a0_1, .int .i64 a0_2]) (t := 129) ?hr ?_; (case hd => rfl); (case hg => rfl); (case hr => first | (go_simp; done) | (go_simp; rfl)); intro gb220 hg w16 hbox hb; have n0_ := Aside0.mk (below_step (by repeat (first | (with_reducible first | exact HB.out | apply below_alloc | apply pw_below_drewN | apply below_drew1) | exact HB.out)) hb); have n1_ := Aside0.mk (hbox); have n2_ := Aside0.mk ((by rw [hg]; exact (below_size (by repeat (first | (with_reducible first | exact HB.out | apply below_alloc | apply pw_below_drewN | apply below_drew1) | exact HB.out))) : w.heap.size ≤ gb220)); have n3_ := Aside0.mk ((by rw [hg]; exact (below_size (by repeat (first | (with_reducible first | exact HB.out | apply below_alloc | apply pw_below_drewN | apply below_drew1) | exact HB.out))) : w.heap.size ≤ gb220)); clear HB; have HB := n0_; have BK220 := n1_; have GW220 := n2_; have GE220 := n3_; clear n0_ n1_ n2_ n3_; clear hb hbox hg) | ((with_reducible refine gate_dst (N := 3) rfl ?_); refine box_event ?hg (N := 3) ?hd (cs := #[.string a1_0, .int .i64 a1_1, .int .i64 a1_2]) (t := 129) ?hr ?_; (case hd => rfl); (case hg => rfl); (case hr => first | (go_simp; done) | (go_simp; rfl)); intro gb221 hg w17 hbox hb; have n0_ := Aside0.mk (blk_below (g := gb220) (o := .cells #[.string a0_0, .int .i64 a0_1, .int .i64 a0_2] 129 (0, 0)) (by (with_reducible repeat (first | refine blk_drewN ?_ _ | refine blk_drew ?_ | refine blk_alloc ?_ _)); exact BK220.out) hb); have n1_ := Aside0.mk (below_step (by repeat (first | (with_reducible first | exact HB.out | apply below_alloc | apply pw_below_drewN | apply below_drew1 | refine below_set ?_ GE220.out) | exact HB.out)) hb); have n2_ := Aside0.mk (hbox); have n3_ := Aside0.mk ((by rw [hg]; exact (below_size (by repeat (first | (with_reducible first | exact HB.out | apply below_alloc | apply pw_below_drewN | apply below_drew1 | refine below_set ?_ GE220.out) | exact HB.out))) : w.heap.size ≤ gb221)); have n4_ := Aside0.mk ((by rw [hg]; exact (below_size (by repeat (first | (with_reducible first | exact HB.out | apply below_alloc | apply pw_below_drewN | apply below_drew1 | refine below_set ?_ GE220.out) | exact HB.out))) : w.heap.size ≤ gb221)); have n5_ := Aside0.mk ((by rw [hg]; exact Nat.ne_of_lt (blk_lt (g := gb220) (o := .cells #[.string a0_0, .int .i64 a0_1, .int .i64 a0_2] 129 (0, 0)) (by (with_reducible repeat (first | refine blk_drewN ?_ _ | refine blk_drew ?_ | refine blk_alloc ?_ _)); exact BK220.out)) : gb220 ≠ gb221)); have n6_ := Aside0.mk ((by rw [hg]; exact Nat.ne_of_gt (blk_lt (g := gb220) (o := .cells #[.string a0_0, .int .i64 a0_1, .int .i64 a0_2] 129 (0, 0)) (by (with_reducible repeat (first | refine blk_drewN ?_ _ | refine blk_drew ?_ | refine blk_alloc ?_ _)); exact BK220.out)) : gb221 ≠ gb220)); clear BK220; clear HB; have BK220 := n0_; have HB := n1_; have BK221 := n2_; have GW221 := n3_; have GE221 := n4_; have NB220_221 := n5_; have NB221_220 := n6_; clear n0_ n1_ n2_ n3_ n4_ n5_ n6_; clear hb hbox hg; have hnb18 := NB220_221.out; have hnc18 := NB221_220.out; have hcz19_0 : w17.cell? ⟨gb220, 0, none⟩ = some (.string a0_0) := (blk_cell BK220.out 0).trans rfl; have hcz19_1 : w17.cell? ⟨gb220, 1, none⟩ = some (.int .i64 a0_1) := (blk_cell BK220.out 1).trans rfl; have hcz19_2 : w17.cell? ⟨gb220, 2, none⟩ = some (.int .i64 a0_2) := (blk_cell BK220.out 2).trans rfl; have hfz19_0 := blk_frozen BK220.out 0; have hfz19_1 := blk_frozen BK220.out 1; have hfz19_2 := blk_frozen BK220.out 2; have hcz20_0 : w17.cell? ⟨gb221, 0, none⟩ = some (.string a1_0) := (blk_cell BK221.out 0).trans rfl; have hcz20_1 : w17.cell? ⟨gb221, 1, none⟩ = some (.int .i64 a1_1) := (blk_cell BK221.out 1).trans rfl; have hcz20_2 : w17.cell? ⟨gb221, 2, none⟩ = some (.int .i64 a1_2) := (blk_cell BK221.out 2).trans rfl; have hfz20_0 := blk_frozen BK221.out 0; have hfz20_1 := blk_frozen BK221.out 1; have hfz20_2 := blk_frozen BK221.out 2))
      go_ret
      exact ⟨by first | rfl | (simp [errW_none, errW_some] <;> rfl) | (simp [*, errW_none, errW_some] <;> rfl), by repeat (first | (with_reducible first | exact HB.out | apply below_alloc | apply pw_below_drewN | apply below_drew1 | refine below_set ?_ GE220.out | refine below_set ?_ GE221.out) | exact HB.out)⟩
  · rw [if_neg c3] at H
    have c3b0 : (a0_0.toList == a1_0.toList) = false := beq_eq_false_iff_ne.mpr c3
    have c3b1 : (a0_0.toList != a1_0.toList) = true := bne_iff_ne.mpr c3
    obtain rfl := Option.some.inj H
    go_enter Try.func107, Try.ntmps107
    go_wp2_with (first | ((with_reducible refine gate_dst (N := 2) rfl ?_); refine box_event ?hg (N := 2) ?hd (cs := #[.string a0_0, .int .i64 a0_1, .int .i64 a0_2]) (t := 129) ?hr ?_; (case hd => rfl); (case hg => rfl); (case hr => first | (go_simp; done) | (go_simp; rfl)); intro gb220 hg w21 hbox hb; have n0_ := Aside0.mk (below_step (by repeat (first | (with_reducible first | exact HB.out | apply below_alloc | apply pw_below_drewN | apply below_drew1) | exact HB.out)) hb); have n1_ := Aside0.mk (hbox); have n2_ := Aside0.mk ((by rw [hg]; exact (below_size (by repeat (first | (with_reducible first | exact HB.out | apply below_alloc | apply pw_below_drewN | apply below_drew1) | exact HB.out))) : w.heap.size ≤ gb220)); have n3_ := Aside0.mk ((by rw [hg]; exact (below_size (by repeat (first | (with_reducible first | exact HB.out | apply below_alloc | apply pw_below_drewN | apply below_drew1) | exact HB.out))) : w.heap.size ≤ gb220)); clear HB; have HB := n0_; have BK220 := n1_; have GW220 := n2_; have GE220 := n3_; clear n0_ n1_ n2_ n3_; clear hb hbox hg) | ((with_reducible refine gate_dst (N := 3) rfl ?_); refine box_event ?hg (N := 3) ?hd (cs := #[.string a1_0, .int .i64 a1_1, .int .i64 a1_2]) (t := 129) ?hr ?_; (case hd => rfl); (case hg => rfl); (case hr => first | (go_simp; done) | (go_simp; rfl)); intro gb221 hg w22 hbox hb; have n0_ := Aside0.mk (blk_below (g := gb220) (o := .cells #[.string a0_0, .int .i64 a0_1, .int .i64 a0_2] 129 (0, 0)) (by (with_reducible repeat (first | refine blk_drewN ?_ _ | refine blk_drew ?_ | refine blk_alloc ?_ _)); exact BK220.out) hb); have n1_ := Aside0.mk (below_step (by repeat (first | (with_reducible first | exact HB.out | apply below_alloc | apply pw_below_drewN | apply below_drew1 | refine below_set ?_ GE220.out) | exact HB.out)) hb); have n2_ := Aside0.mk (hbox); have n3_ := Aside0.mk ((by rw [hg]; exact (below_size (by repeat (first | (with_reducible first | exact HB.out | apply below_alloc | apply pw_below_drewN | apply below_drew1 | refine below_set ?_ GE220.out) | exact HB.out))) : w.heap.size ≤ gb221)); have n4_ := Aside0.mk ((by rw [hg]; exact (below_size (by repeat (first | (with_reducible first | exact HB.out | apply below_alloc | apply pw_below_drewN | apply below_drew1 | refine below_set ?_ GE220.out) | exact HB.out))) : w.heap.size ≤ gb221)); have n5_ := Aside0.mk ((by rw [hg]; exact Nat.ne_of_lt (blk_lt (g := gb220) (o := .cells #[.string a0_0, .int .i64 a0_1, .int .i64 a0_2] 129 (0, 0)) (by (with_reducible repeat (first | refine blk_drewN ?_ _ | refine blk_drew ?_ | refine blk_alloc ?_ _)); exact BK220.out)) : gb220 ≠ gb221)); have n6_ := Aside0.mk ((by rw [hg]; exact Nat.ne_of_gt (blk_lt (g := gb220) (o := .cells #[.string a0_0, .int .i64 a0_1, .int .i64 a0_2] 129 (0, 0)) (by (with_reducible repeat (first | refine blk_drewN ?_ _ | refine blk_drew ?_ | refine blk_alloc ?_ _)); exact BK220.out)) : gb221 ≠ gb220)); clear BK220; clear HB; have BK220 := n0_; have HB := n1_; have BK221 := n2_; have GW221 := n3_; have GE221 := n4_; have NB220_221 := n5_; have NB221_220 := n6_; clear n0_ n1_ n2_ n3_ n4_ n5_ n6_; clear hb hbox hg; have hnb23 := NB220_221.out; have hnc23 := NB221_220.out; have hcz24_0 : w22.cell? ⟨gb220, 0, none⟩ = some (.string a0_0) := (blk_cell BK220.out 0).trans rfl; have hcz24_1 : w22.cell? ⟨gb220, 1, none⟩ = some (.int .i64 a0_1) := (blk_cell BK220.out 1).trans rfl; have hcz24_2 : w22.cell? ⟨gb220, 2, none⟩ = some (.int .i64 a0_2) := (blk_cell BK220.out 2).trans rfl; have hfz24_0 := blk_frozen BK220.out 0; have hfz24_1 := blk_frozen BK220.out 1; have hfz24_2 := blk_frozen BK220.out 2; have hcz25_0 : w22.cell? ⟨gb221, 0, none⟩ = some (.string a1_0) := (blk_cell BK221.out 0).trans rfl; have hcz25_1 : w22.cell? ⟨gb221, 1, none⟩ = some (.int .i64 a1_1) := (blk_cell BK221.out 1).trans rfl; have hcz25_2 : w22.cell? ⟨gb221, 2, none⟩ = some (.int .i64 a1_2) := (blk_cell BK221.out 2).trans rfl; have hfz25_0 := blk_frozen BK221.out 0; have hfz25_1 := blk_frozen BK221.out 1; have hfz25_2 := blk_frozen BK221.out 2))
    go_ret
    exact ⟨by first | rfl | (simp [errW_none, errW_some] <;> rfl) | (simp [*, errW_none, errW_some] <;> rfl), by repeat (first | (with_reducible first | exact HB.out | apply below_alloc | apply pw_below_drewN | apply below_drew1 | refine below_set ?_ GE220.out | refine below_set ?_ GE221.out) | exact HB.out)⟩

end Go.Proofs.Ytjccjmjnlblhaaa.QMovedTenant
