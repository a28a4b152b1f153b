-- Written by press.py, a program of this session, round the kit's print.py (functions and contracts; Lean checks them).
import Derived.Test.YtnhkamfccoppbaaQPriceOfLimitx0
import Derived.Test.YtnhkamfccoppbaaQPriceOfLimitx2
import Derived.Test.YtnhkamfccoppbaaQPriceOfLimitx3
namespace Go.Proofs.Ytnhkamfccoppbaa.QPriceOfLimit
open Go.Proofs.Ytnhkamfccoppbaa.QWords
attribute [local go_sem high] binOp_string_geq_q binOp_string_leq_q binOp_string_gtr_q
open Go.RowKit Go.Proofs.YtnhkamfccoppbaaW.PrintWords Go.Proofs.YtnhkamfccoppbaaW.PrintLast Go.Proofs.YtnhkamfccoppbaaW.PrintMore
attribute [local go_sem] max2_int min2_int max_two min_two max_three min_three max_four min_four   -- for this text's walks alone
set_option linter.unusedVariables false
set_option linter.unusedSimpArgs false

/-! ### spec_PriceOfLimit: function 7 -/
def spec_PriceOfLimit.f (k : Nat) (l0 : List (S46)) (a1 : Int) (a2 : Int) : Option (Int × Int) := (spec_l16Query.f k l0 a1 a2).bind fun t164 => (if t164 = 0 then ((spec_l16Limit.f a2).bind fun t165 => ((spec_l16Costs.f k l0 a1 (wrap64 (t165 + 1))).bind fun t166 => (if 0 < (t166.length : Int) then (if 0 ≤ a1 then (if a1 < ((rd_L5 t166 0).length : Int) then (if 0 ≤ t165 then (if t165 < ((rd_L4 (rd_L5 t166 0) a1).length : Int) then (if (rd (rd_L4 (rd_L5 t166 0) a1) t165) < 0 then (some (0, 3)) else (if 0 ≤ (wrap64 (t165 + 1)) then (if (wrap64 (t165 + 1)) < ((rd_L4 (rd_L5 t166 0) a1).length : Int) then (some (wrap64 ((rd (rd_L4 (rd_L5 t166 0) a1) t165) - (rd (rd_L4 (rd_L5 t166 0) a1) (wrap64 (t165 + 1)))), 0)) else (none)) else (none))) else (none)) else (none)) else (none)) else (none)) else (none)))) else (some (0, t164)))
theorem spec_PriceOfLimit.mono : ∀ a0 a1 a2 k, LeO (spec_PriceOfLimit.f k a0 a1 a2) (spec_PriceOfLimit.f (k + 1) a0 a1 a2) := by
 intro a0 a1 a2 k
 unfold spec_PriceOfLimit.f
 repeat' first
   | (with_reducible exact spec_l16Costs.mono _ _ _ _)
   | (with_reducible exact spec_l16Query.mono _ _ _ _)
   | (with_reducible exact LeO.refl _)
   | (with_reducible exact LeO.none _)
   | (with_reducible refine LeO.ite ?_ ?_)
   | (with_reducible refine LeO.bind ?_ (fun _ => ?_))
   | exact spec_l16Costs.mono _ _ _ _
   | exact spec_l16Query.mono _ _ _ _
   | exact LeO.none _
   | refine LeO.ite ?_ ?_
   | refine LeO.bind ?_ (fun _ => ?_)
set_option maxHeartbeats 8000000 in
set_option maxRecDepth 100000 in
theorem spec_PriceOfLimit.calls (k : Nat) (A0 : Option Addr) (c0 : Nat) (l0 : List (S46)) (a1 : Int) (a2 : Int) (r1 : Int) (r2 : Int) (w : World) (hr0 : Kd.C k46 w A0 l0.length l0) (hc0 : l0.length ≤ c0) (h : spec_PriceOfLimit.f k l0 a1 a2 = some (r1, r2)) :
  Calls Try.prog 7 #[.slice A0 l0.length c0, .int .i64 a1, .int .i64 a2] w fun e w' => e = .returned (.tuple #[.int .i64 r1, .int .i64 r2]) ∧ Below w.heap.size w w' := by
 have HR0 := As0.mk hr0
 have HC0 := As0.mk hc0
 clear hr0 hc0
 have HB := As0.mk (Below.refl w.heap.size w)
 have H : ((spec_l16Query.f k l0 a1 a2).bind fun t164 => (if t164 = 0 then ((spec_l16Limit.f a2).bind fun t165 => ((spec_l16Costs.f k l0 a1 (wrap64 (t165 + 1))).bind fun t166 => (if 0 < (t166.length : Int) then (if 0 ≤ a1 then (if a1 < ((rd_L5 t166 0).length : Int) then (if 0 ≤ t165 then (if t165 < ((rd_L4 (rd_L5 t166 0) a1).length : Int) then (if (rd (rd_L4 (rd_L5 t166 0) a1) t165) < 0 then (some (0, 3)) else (if 0 ≤ (wrap64 (t165 + 1)) then (if (wrap64 (t165 + 1)) < ((rd_L4 (rd_L5 t166 0) a1).length : Int) then (some (wrap64 ((rd (rd_L4 (rd_L5 t166 0) a1) t165) - (rd (rd_L4 (rd_L5 t166 0) a1) (wrap64 (t165 + 1)))), 0)) else (none)) else (none))) else (none)) else (none)) else (none)) else (none)) else (none)))) else (some (0, t164)))) = some (r1, r2) := h
 clear h
 replace H := Option.bind_eq_some_iff.mp H
 obtain ⟨t164, A40, H⟩ := H
 replace H : (if t164 = 0 then ((spec_l16Limit.f a2).bind fun t165 => ((spec_l16Costs.f k l0 a1 (wrap64 (t165 + 1))).bind fun t166 => (if 0 < (t166.length : Int) then (if 0 ≤ a1 then (if a1 < ((rd_L5 t166 0).length : Int) then (if 0 ≤ t165 then (if t165 < ((rd_L4 (rd_L5 t166 0) a1).length : Int) then (if (rd (rd_L4 (rd_L5 t166 0) a1) t165) < 0 then (some (0, 3)) else (if 0 ≤ (wrap64 (t165 + 1)) then (if (wrap64 (t165 + 1)) < ((rd_L4 (rd_L5 t166 0) a1).length : Int) then (some (wrap64 ((rd (rd_L4 (rd_L5 t166 0) a1) t165) - (rd (rd_L4 (rd_L5 t166 0) a1) (wrap64 (t165 + 1)))), 0)) else (none)) else (none))) else (none)) else (none)) else (none)) else (none)) else (none)))) else (some (0, t164))) = some (r1, r2) := H
 have A4 := As0.mk A40
 clear A40
 by_cases c5 : t164 = 0
 ·rw [if_pos c5] at H
  have c5b0 : (t164 == 0) = true := beq_iff_eq.mpr c5
  have c5b1 : (t164 != 0) = false := bne_eq_false_iff_eq.mpr c5
  clear c5
  replace H := Option.bind_eq_some_iff.mp H
  obtain ⟨t165, A60, H⟩ := H
  replace H : ((spec_l16Costs.f k l0 a1 (wrap64 (t165 + 1))).bind fun t166 => (if 0 < (t166.length : Int) then (if 0 ≤ a1 then (if a1 < ((rd_L5 t166 0).length : Int) then (if 0 ≤ t165 then (if t165 < ((rd_L4 (rd_L5 t166 0) a1).length : Int) then (if (rd (rd_L4 (rd_L5 t166 0) a1) t165) < 0 then (some (0, 3)) else (if 0 ≤ (wrap64 (t165 + 1)) then (if (wrap64 (t165 + 1)) < ((rd_L4 (rd_L5 t166 0) a1).length : Int) then (some (wrap64 ((rd (rd_L4 (rd_L5 t166 0) a1) t165) - (rd (rd_L4 (rd_L5 t166 0) a1) (wrap64 (t165 + 1)))), 0)) else (none)) else (none))) else (none)) else (none)) else (none)) else (none)) else (none))) = some (r1, r2) := H
  have A6 := As0.mk A60
  clear A60
  replace H := Option.bind_eq_some_iff.mp H
  obtain ⟨t166, A70, H⟩ := H
  replace H : (if 0 < (t166.length : Int) then (if 0 ≤ a1 then (if a1 < ((rd_L5 t166 0).length : Int) then (if 0 ≤ t165 then (if t165 < ((rd_L4 (rd_L5 t166 0) a1).length : Int) then (if (rd (rd_L4 (rd_L5 t166 0) a1) t165) < 0 then (some (0, 3)) else (if 0 ≤ (wrap64 (t165 + 1)) then (if (wrap64 (t165 + 1)) < ((rd_L4 (rd_L5 t166 0) a1).length : Int) then (some (wrap64 ((rd (rd_L4 (rd_L5 t166 0) a1) t165) - (rd (rd_L4 (rd_L5 t166 0) a1) (wrap64 (t165 + 1)))), 0)) else (none)) else (none))) else (none)) else (none)) else (none)) else (none)) else (none)) = some (r1, r2) := H
  have A7 := As0.mk A70
  clear A70
  by_cases c8 : 0 < (t166.length : Int)
  ·rw [if_pos c8] at H
   have c8b0 : decide (0 < (t166.length : Int)) = true := decide_eq_true c8
   have c8b1 : decide (0 < t166.length) = true := decide_eq_true (by omega)
   clear c8
   by_cases c9 : 0 ≤ a1
   ·rw [if_pos c9] at H
    have c9b0 : decide (0 ≤ a1) = true := decide_eq_true c9
    clear c9
    by_cases c10 : a1 < ((rd_L5 t166 0).length : Int)
    ·rw [if_pos c10] at H
     have c10b0 : decide (a1 < ((rd_L5 t166 0).length : Int)) = true := decide_eq_true c10
     clear c10
     by_cases c11 : 0 ≤ t165
     ·rw [if_pos c11] at H
      have c11b0 : decide (0 ≤ t165) = true := decide_eq_true c11
      clear c11
      by_cases c12 : t165 < ((rd_L4 (rd_L5 t166 0) a1).length : Int)
      ·rw [if_pos c12] at H
       have c12b0 : decide (t165 < ((rd_L4 (rd_L5 t166 0) a1).length : Int)) = true := decide_eq_true c12
       clear c12
       by_cases c13 : (rd (rd_L4 (rd_L5 t166 0) a1) t165) < 0
       ·rw [if_pos c13] at H
        have c13b0 : decide ((rd (rd_L4 (rd_L5 t166 0) a1) t165) < 0) = true := decide_eq_true c13
        clear c13
        simp only [Option.some.injEq, Prod.mk.injEq] at H
        obtain ⟨rfl, rfl⟩ := H
        go_enter Try.func7, Try.ntmps7
        go_wp2_with (first | (go_at_call 20; (first | (with_reducible refine (spec_l16Query.calls k _ _ l0 a1 a2 t164 _ ?side1 ?side2 A4.out).mono ?_) | ((try simp only [Go.IntWalk.i64_left]); (with_reducible refine (spec_l16Query.calls k _ _ l0 a1 a2 t164 _ ?side1 ?side2 A4.out).mono ?_))); (case side1 => repeat (first | exact HR0.out | (with_reducible refine Kd.C_alloc ?_ _) | (with_reducible refine Kd.C_drewN ?_ _) | (with_reducible refine Kd.C_drew ?_))); (case side2 => exact HC0.out); rintro e w' ⟨rfl, ⟨nd, rfl⟩⟩; (try first | exact ⟨rfl, _, World.drewN_drewN _ _ _⟩ | exact ⟨rfl, _, Eq.trans (World.drewN_drewN _ _ _) (congrArg (World.drewN _) (Nat.add_assoc _ _ _))⟩)) | (go_at_call 21; (first | (with_reducible refine (spec_l16Limit.calls a2 t165 _ A6.out).mono ?_) | ((try simp only [Go.IntWalk.i64_left]); (with_reducible refine (spec_l16Limit.calls a2 t165 _ A6.out).mono ?_))); rintro e w' ⟨rfl, ⟨nd, rfl⟩⟩; (try first | exact ⟨rfl, _, World.drewN_drewN _ _ _⟩ | exact ⟨rfl, _, Eq.trans (World.drewN_drewN _ _ _) (congrArg (World.drewN _) (Nat.add_assoc _ _ _))⟩)) | (go_at_call 22; (first | (with_reducible refine (spec_l16Costs.calls k _ _ l0 a1 (wrap64 (t165 + 1)) t166 _ ?side1 ?side2 A7.out).mono ?_) | ((try simp only [Go.IntWalk.i64_left]); (with_reducible refine (spec_l16Costs.calls k _ _ l0 a1 (wrap64 (t165 + 1)) t166 _ ?side1 ?side2 A7.out).mono ?_))); (case side1 => repeat (first | exact HR0.out | (with_reducible refine Kd.C_alloc ?_ _) | (with_reducible refine Kd.C_drewN ?_ _) | (with_reducible refine Kd.C_drew ?_))); (case side2 => exact HC0.out); rintro e w14 ⟨v167, rfl, ho0, hb⟩; have n0_ := As0.mk (Kd.N_lower (Kd.N_mono (ok' := fun k_ => True) ho0 (fun k_ hk_ => trivial)) (bsz (by repeat (with_reducible first | exact HB.out | apply bal | apply pbN | apply bdw)))); have n1_ := As0.mk (bsp (by repeat (with_reducible first | exact HB.out | apply bal | apply pbN | apply bdw)) hb); clear HB; have HO168 := n0_; have HB := n1_; clear n0_ n1_; (try clear hb); (try clear hb2); (try clear hk); (try clear hi); (try clear ho0); obtain ⟨Ao15, co15, eo15⟩ := Kd.N_slice HO168.out; subst eo15; have p169 : 0 ≤ (0 : Int) := (by omega); have q169 : 0 < (t166.length : Int) := of_decide_eq_true (by assumption); obtain ⟨ad169, A169_0, c169_0, e169, hx169_0, hl169_0, hi169_0⟩ := at_L5 (Kd.N_reads' HO168.out).2.2 0 p169 q169; cases e169; obtain ⟨ce169, hce169, hMe169, hcc169⟩ := Kd.N_get HO168.out [] 0 p169 (by first | exact q169 | exact of_decide_eq_true (by assumption) | (have e_ := (Kd.N_reads' HO168.out).1; omega)); obtain ⟨ua169_0, uc169_0, rfl, ul169_0, ge169_0⟩ := Kd.FK_slice_open hMe169; have hv169_0 := hcc169 0 _ rfl; rw [Nat.add_zero, show ((Kd.slice 30 (Kd.slice 2 (Kd.int .i64)))).sz = 1 from rfl, Nat.mul_one] at hv169_0; replace hv169_0 := Option.some.inj (hv169_0.symm.trans hx169_0); injection hv169_0 with hva_ hvn_ hvc_; rw [hva_] at ge169_0; rw [hvc_] at ul169_0; have HL169_0 := As0.mk (show Kd.V (Kd.slice 2 (Kd.int .i64)) 30 _ w.heap.size _ _ (rd_L5 t166 0) from Kd.V_mk ul169_0 ge169_0); clear hva_ hvn_ hvc_ ge169_0 ul169_0; clear hcc169 hce169; have qi169 : (0 < t166.length) = True := eq_true (by omega); (try rw [show ((0 : Int)).toNat = 0 from rfl] at hx169_0); (try rw [Addr.add_zero'] at hx169_0); have HR169_0 := As0.mk hi169_0; have HC169_0 := As0.mk hl169_0; clear hi169_0 hl169_0; replace p169 := eq_true p169; replace q169 := eq_true q169; have p170 : 0 ≤ (a1 : Int) := of_decide_eq_true (by assumption); have q170 : a1 < ((rd_L5 t166 0).length : Int) := of_decide_eq_true (by assumption); obtain ⟨ad170, A170_0, c170_0, e170, hx170_0, hl170_0, hi170_0⟩ := at_L4 (by repeat (first | (with_reducible exact HR169_0.out) | (with_reducible refine Kd.C_alloc ?_ _) | (with_reducible refine Kd.C_drewN ?_ _) | (with_reducible refine Kd.C_drew ?_) | exact HR169_0.out)) a1 p170 q170; cases e170; obtain ⟨ce170, hce170, hMe170, hcc170⟩ := Kd.V_get HL169_0.out [] a1 p170 (by first | exact q170 | exact of_decide_eq_true (by assumption) | (have e_ := (Kd.V_reads' HL169_0.out).1; omega)); obtain ⟨ua170_0, uc170_0, rfl, ul170_0, ge170_0⟩ := Kd.FK_slice_open hMe170; have hv170_0 := hcc170 0 _ rfl; rw [Nat.add_zero, show ((Kd.slice 2 (Kd.int .i64))).sz = 1 from rfl, Nat.mul_one] at hv170_0; replace hv170_0 := Option.some.inj (hv170_0.symm.trans hx170_0); injection hv170_0 with hva_ hvn_ hvc_; rw [hva_] at ge170_0; rw [hvc_] at ul170_0; have HL170_0 := As0.mk (show Kd.V (Kd.int .i64) 2 _ w.heap.size _ _ (rd_L4 (rd_L5 t166 0) a1) from Kd.V_mk ul170_0 ge170_0); clear hva_ hvn_ hvc_ ge170_0 ul170_0; clear hcc170 hce170; have HR170_0 := As0.mk hi170_0; have HC170_0 := As0.mk hl170_0; clear hi170_0 hl170_0; replace p170 := eq_true p170; replace q170 := eq_true q170; have p171 : 0 ≤ (t165 : Int) := of_decide_eq_true (by assumption); have q171 : t165 < ((rd_L4 (rd_L5 t166 0) a1).length : Int) := of_decide_eq_true (by assumption); obtain ⟨ad171, e171, hx171_0⟩ := Kd.at_int (by repeat (first | (with_reducible exact HR170_0.out) | (with_reducible refine Kd.C_alloc ?_ _) | (with_reducible refine Kd.C_drewN ?_ _) | (with_reducible refine Kd.C_drew ?_) | exact HR170_0.out)) t165 p171 q171; cases e171; replace p171 := eq_true p171; replace q171 := eq_true q171))
        (try (have e_ := Option.some.inj (hx169_0.symm.trans hx170_0); injection e_ with f1_ f2_ f3_; injection f1_ with f1_; subst f1_; (try subst f3_)))
        (try (have e_ := Option.some.inj (hx169_0.symm.trans hx171_0); injection e_ with f1_ f2_ f3_; injection f1_ with f1_; subst f1_; (try subst f3_)))
        (try (have e_ := Option.some.inj (hx170_0.symm.trans hx171_0); injection e_ with f1_ f2_ f3_; injection f1_ with f1_; subst f1_; (try subst f3_)))
        repeat (go_quiet (fail); try go_wp2_with (first | (go_at_call 20; (first | (with_reducible refine (spec_l16Query.calls k _ _ l0 a1 a2 t164 _ ?side1 ?side2 A4.out).mono ?_) | ((try simp only [Go.IntWalk.i64_left]); (with_reducible refine (spec_l16Query.calls k _ _ l0 a1 a2 t164 _ ?side1 ?side2 A4.out).mono ?_))); (case side1 => repeat (first | exact HR0.out | (with_reducible refine Kd.C_alloc ?_ _) | (with_reducible refine Kd.C_drewN ?_ _) | (with_reducible refine Kd.C_drew ?_))); (case side2 => exact HC0.out); rintro e w' ⟨rfl, ⟨nd, rfl⟩⟩; (try first | exact ⟨rfl, _, World.drewN_drewN _ _ _⟩ | exact ⟨rfl, _, Eq.trans (World.drewN_drewN _ _ _) (congrArg (World.drewN _) (Nat.add_assoc _ _ _))⟩)) | (go_at_call 21; (first | (with_reducible refine (spec_l16Limit.calls a2 t165 _ A6.out).mono ?_) | ((try simp only [Go.IntWalk.i64_left]); (with_reducible refine (spec_l16Limit.calls a2 t165 _ A6.out).mono ?_))); rintro e w' ⟨rfl, ⟨nd, rfl⟩⟩; (try first | exact ⟨rfl, _, World.drewN_drewN _ _ _⟩ | exact ⟨rfl, _, Eq.trans (World.drewN_drewN _ _ _) (congrArg (World.drewN _) (Nat.add_assoc _ _ _))⟩)) | (go_at_call 22; (first | (with_reducible refine (spec_l16Costs.calls k _ _ l0 a1 (wrap64 (t165 + 1)) t166 _ ?side1 ?side2 A7.out).mono ?_) | ((try simp only [Go.IntWalk.i64_left]); (with_reducible refine (spec_l16Costs.calls k _ _ l0 a1 (wrap64 (t165 + 1)) t166 _ ?side1 ?side2 A7.out).mono ?_))); (case side1 => repeat (first | exact HR0.out | (with_reducible refine Kd.C_alloc ?_ _) | (with_reducible refine Kd.C_drewN ?_ _) | (with_reducible refine Kd.C_drew ?_))); (case side2 => exact HC0.out); rintro e w14 ⟨v167, rfl, ho0, hb⟩; have n0_ := As0.mk (Kd.N_lower (Kd.N_mono (ok' := fun k_ => True) ho0 (fun k_ hk_ => trivial)) (bsz (by repeat (with_reducible first | exact HB.out | apply bal | apply pbN | apply bdw)))); have n1_ := As0.mk (bsp (by repeat (with_reducible first | exact HB.out | apply bal | apply pbN | apply bdw)) hb); clear HB; have HO168 := n0_; have HB := n1_; clear n0_ n1_; (try clear hb); (try clear hb2); (try clear hk); (try clear hi); (try clear ho0); obtain ⟨Ao15, co15, eo15⟩ := Kd.N_slice HO168.out; subst eo15; have p169 : 0 ≤ (0 : Int) := (by omega); have q169 : 0 < (t166.length : Int) := of_decide_eq_true (by assumption); obtain ⟨ad169, A169_0, c169_0, e169, hx169_0, hl169_0, hi169_0⟩ := at_L5 (Kd.N_reads' HO168.out).2.2 0 p169 q169; cases e169; obtain ⟨ce169, hce169, hMe169, hcc169⟩ := Kd.N_get HO168.out [] 0 p169 (by first | exact q169 | exact of_decide_eq_true (by assumption) | (have e_ := (Kd.N_reads' HO168.out).1; omega)); obtain ⟨ua169_0, uc169_0, rfl, ul169_0, ge169_0⟩ := Kd.FK_slice_open hMe169; have hv169_0 := hcc169 0 _ rfl; rw [Nat.add_zero, show ((Kd.slice 30 (Kd.slice 2 (Kd.int .i64)))).sz = 1 from rfl, Nat.mul_one] at hv169_0; replace hv169_0 := Option.some.inj (hv169_0.symm.trans hx169_0); injection hv169_0 with hva_ hvn_ hvc_; rw [hva_] at ge169_0; rw [hvc_] at ul169_0; have HL169_0 := As0.mk (show Kd.V (Kd.slice 2 (Kd.int .i64)) 30 _ w.heap.size _ _ (rd_L5 t166 0) from Kd.V_mk ul169_0 ge169_0); clear hva_ hvn_ hvc_ ge169_0 ul169_0; clear hcc169 hce169; have qi169 : (0 < t166.length) = True := eq_true (by omega); (try rw [show ((0 : Int)).toNat = 0 from rfl] at hx169_0); (try rw [Addr.add_zero'] at hx169_0); have HR169_0 := As0.mk hi169_0; have HC169_0 := As0.mk hl169_0; clear hi169_0 hl169_0; replace p169 := eq_true p169; replace q169 := eq_true q169; have p170 : 0 ≤ (a1 : Int) := of_decide_eq_true (by assumption); have q170 : a1 < ((rd_L5 t166 0).length : Int) := of_decide_eq_true (by assumption); obtain ⟨ad170, A170_0, c170_0, e170, hx170_0, hl170_0, hi170_0⟩ := at_L4 (by repeat (first | (with_reducible exact HR169_0.out) | (with_reducible refine Kd.C_alloc ?_ _) | (with_reducible refine Kd.C_drewN ?_ _) | (with_reducible refine Kd.C_drew ?_) | exact HR169_0.out)) a1 p170 q170; cases e170; obtain ⟨ce170, hce170, hMe170, hcc170⟩ := Kd.V_get HL169_0.out [] a1 p170 (by first | exact q170 | exact of_decide_eq_true (by assumption) | (have e_ := (Kd.V_reads' HL169_0.out).1; omega)); obtain ⟨ua170_0, uc170_0, rfl, ul170_0, ge170_0⟩ := Kd.FK_slice_open hMe170; have hv170_0 := hcc170 0 _ rfl; rw [Nat.add_zero, show ((Kd.slice 2 (Kd.int .i64))).sz = 1 from rfl, Nat.mul_one] at hv170_0; replace hv170_0 := Option.some.inj (hv170_0.symm.trans hx170_0); injection hv170_0 with hva_ hvn_ hvc_; rw [hva_] at ge170_0; rw [hvc_] at ul170_0; have HL170_0 := As0.mk (show Kd.V (Kd.int .i64) 2 _ w.heap.size _ _ (rd_L4 (rd_L5 t166 0) a1) from Kd.V_mk ul170_0 ge170_0); clear hva_ hvn_ hvc_ ge170_0 ul170_0; clear hcc170 hce170; have HR170_0 := As0.mk hi170_0; have HC170_0 := As0.mk hl170_0; clear hi170_0 hl170_0; replace p170 := eq_true p170; replace q170 := eq_true q170; have p171 : 0 ≤ (t165 : Int) := of_decide_eq_true (by assumption); have q171 : t165 < ((rd_L4 (rd_L5 t166 0) a1).length : Int) := of_decide_eq_true (by assumption); obtain ⟨ad171, e171, hx171_0⟩ := Kd.at_int (by repeat (first | (with_reducible exact HR170_0.out) | (with_reducible refine Kd.C_alloc ?_ _) | (with_reducible refine Kd.C_drewN ?_ _) | (with_reducible refine Kd.C_drew ?_) | exact HR170_0.out)) t165 p171 q171; cases e171; replace p171 := eq_true p171; replace q171 := eq_true q171)))
        go_ret2
        exact ⟨by first | rfl | (simp [eWn, eWs] <;> rfl) | (simp [*, eWn, eWs] <;> rfl), by repeat (with_reducible first | exact HB.out | apply bal | apply pbN | apply bdw)⟩
       ·rw [if_neg c13] at H
        have c13b0 : decide ((rd (rd_L4 (rd_L5 t166 0) a1) t165) < 0) = false := decide_eq_false c13
        clear c13
        obtain ⟨ji16, hji16⟩ : ∃ j_ : Int, (wrap64 (t165 + 1)) = j_ := ⟨_, rfl⟩
        replace H : (if 0 ≤ (ji16) then (if (ji16) < ((rd_L4 (rd_L5 t166 0) a1).length : Int) then (some (wrap64 ((rd (rd_L4 (rd_L5 t166 0) a1) t165) - (rd (rd_L4 (rd_L5 t166 0) a1) (ji16))), 0)) else (none)) else (none)) = some (r1, r2) := by first | (rw [hji16] at H; exact H) | (simp only [hji16] at H ⊢; exact H)
        (try rw [hji16] at A4)
        (try rw [hji16] at A6)
        (try rw [hji16] at A7)
        have hji16w : (IntKind.i64.wrap (t165 + 1)) = ji16 := (i64_w _).trans hji16
        by_cases c17 : 0 ≤ (ji16)
        ·rw [if_pos c17] at H
         have c17b0 : decide (0 ≤ (ji16)) = true := decide_eq_true c17
         clear c17
         by_cases c18 : (ji16) < ((rd_L4 (rd_L5 t166 0) a1).length : Int)
         ·rw [if_pos c18] at H
          have c18b0 : decide ((ji16) < ((rd_L4 (rd_L5 t166 0) a1).length : Int)) = true := decide_eq_true c18
          clear c18
          simp only [Option.some.injEq, Prod.mk.injEq] at H
          obtain ⟨rfl, rfl⟩ := H
          go_enter Try.func7, Try.ntmps7
          go_wp2_with (first | (go_at_call 20; (first | (with_reducible refine (spec_l16Query.calls k _ _ l0 a1 a2 t164 _ ?side1 ?side2 A4.out).mono ?_) | ((try simp only [Go.IntWalk.i64_left]); (with_reducible refine (spec_l16Query.calls k _ _ l0 a1 a2 t164 _ ?side1 ?side2 A4.out).mono ?_))); (case side1 => repeat (first | exact HR0.out | (with_reducible refine Kd.C_alloc ?_ _) | (with_reducible refine Kd.C_drewN ?_ _) | (with_reducible refine Kd.C_drew ?_))); (case side2 => exact HC0.out); rintro e w' ⟨rfl, ⟨nd, rfl⟩⟩; (try first | exact ⟨rfl, _, World.drewN_drewN _ _ _⟩ | exact ⟨rfl, _, Eq.trans (World.drewN_drewN _ _ _) (congrArg (World.drewN _) (Nat.add_assoc _ _ _))⟩)) | (go_at_call 21; (first | (with_reducible refine (spec_l16Limit.calls a2 t165 _ A6.out).mono ?_) | ((try simp only [Go.IntWalk.i64_left]); (with_reducible refine (spec_l16Limit.calls a2 t165 _ A6.out).mono ?_))); rintro e w' ⟨rfl, ⟨nd, rfl⟩⟩; (try first | exact ⟨rfl, _, World.drewN_drewN _ _ _⟩ | exact ⟨rfl, _, Eq.trans (World.drewN_drewN _ _ _) (congrArg (World.drewN _) (Nat.add_assoc _ _ _))⟩)) | (go_at_call 22; (first | (with_reducible refine (spec_l16Costs.calls k _ _ l0 a1 ji16 t166 _ ?side1 ?side2 A7.out).mono ?_) | ((try simp only [Go.IntWalk.i64_left]); (with_reducible refine (spec_l16Costs.calls k _ _ l0 a1 ji16 t166 _ ?side1 ?side2 A7.out).mono ?_))); (case side1 => repeat (first | exact HR0.out | (with_reducible refine Kd.C_alloc ?_ _) | (with_reducible refine Kd.C_drewN ?_ _) | (with_reducible refine Kd.C_drew ?_))); (case side2 => exact HC0.out); rintro e w19 ⟨v167, rfl, ho0, hb⟩; have n0_ := As0.mk (Kd.N_lower (Kd.N_mono (ok' := fun k_ => True) ho0 (fun k_ hk_ => trivial)) (bsz (by repeat (with_reducible first | exact HB.out | apply bal | apply pbN | apply bdw)))); have n1_ := As0.mk (bsp (by repeat (with_reducible first | exact HB.out | apply bal | apply pbN | apply bdw)) hb); clear HB; have HO168 := n0_; have HB := n1_; clear n0_ n1_; (try clear hb); (try clear hb2); (try clear hk); (try clear hi); (try clear ho0); obtain ⟨Ao20, co20, eo20⟩ := Kd.N_slice HO168.out; subst eo20; have p169 : 0 ≤ (0 : Int) := (by omega); have q169 : 0 < (t166.length : Int) := of_decide_eq_true (by assumption); obtain ⟨ad169, A169_0, c169_0, e169, hx169_0, hl169_0, hi169_0⟩ := at_L5 (Kd.N_reads' HO168.out).2.2 0 p169 q169; cases e169; obtain ⟨ce169, hce169, hMe169, hcc169⟩ := Kd.N_get HO168.out [] 0 p169 (by first | exact q169 | exact of_decide_eq_true (by assumption) | (have e_ := (Kd.N_reads' HO168.out).1; omega)); obtain ⟨ua169_0, uc169_0, rfl, ul169_0, ge169_0⟩ := Kd.FK_slice_open hMe169; have hv169_0 := hcc169 0 _ rfl; rw [Nat.add_zero, show ((Kd.slice 30 (Kd.slice 2 (Kd.int .i64)))).sz = 1 from rfl, Nat.mul_one] at hv169_0; replace hv169_0 := Option.some.inj (hv169_0.symm.trans hx169_0); injection hv169_0 with hva_ hvn_ hvc_; rw [hva_] at ge169_0; rw [hvc_] at ul169_0; have HL169_0 := As0.mk (show Kd.V (Kd.slice 2 (Kd.int .i64)) 30 _ w.heap.size _ _ (rd_L5 t166 0) from Kd.V_mk ul169_0 ge169_0); clear hva_ hvn_ hvc_ ge169_0 ul169_0; clear hcc169 hce169; have qi169 : (0 < t166.length) = True := eq_true (by omega); (try rw [show ((0 : Int)).toNat = 0 from rfl] at hx169_0); (try rw [Addr.add_zero'] at hx169_0); have HR169_0 := As0.mk hi169_0; have HC169_0 := As0.mk hl169_0; clear hi169_0 hl169_0; replace p169 := eq_true p169; replace q169 := eq_true q169; have p170 : 0 ≤ (a1 : Int) := of_decide_eq_true (by assumption); have q170 : a1 < ((rd_L5 t166 0).length : Int) := of_decide_eq_true (by assumption); obtain ⟨ad170, A170_0, c170_0, e170, hx170_0, hl170_0, hi170_0⟩ := at_L4 (by repeat (first | (with_reducible exact HR169_0.out) | (with_reducible refine Kd.C_alloc ?_ _) | (with_reducible refine Kd.C_drewN ?_ _) | (with_reducible refine Kd.C_drew ?_) | exact HR169_0.out)) a1 p170 q170; cases e170; obtain ⟨ce170, hce170, hMe170, hcc170⟩ := Kd.V_get HL169_0.out [] a1 p170 (by first | exact q170 | exact of_decide_eq_true (by assumption) | (have e_ := (Kd.V_reads' HL169_0.out).1; omega)); obtain ⟨ua170_0, uc170_0, rfl, ul170_0, ge170_0⟩ := Kd.FK_slice_open hMe170; have hv170_0 := hcc170 0 _ rfl; rw [Nat.add_zero, show ((Kd.slice 2 (Kd.int .i64))).sz = 1 from rfl, Nat.mul_one] at hv170_0; replace hv170_0 := Option.some.inj (hv170_0.symm.trans hx170_0); injection hv170_0 with hva_ hvn_ hvc_; rw [hva_] at ge170_0; rw [hvc_] at ul170_0; have HL170_0 := As0.mk (show Kd.V (Kd.int .i64) 2 _ w.heap.size _ _ (rd_L4 (rd_L5 t166 0) a1) from Kd.V_mk ul170_0 ge170_0); clear hva_ hvn_ hvc_ ge170_0 ul170_0; clear hcc170 hce170; have HR170_0 := As0.mk hi170_0; have HC170_0 := As0.mk hl170_0; clear hi170_0 hl170_0; replace p170 := eq_true p170; replace q170 := eq_true q170; have p171 : 0 ≤ (t165 : Int) := of_decide_eq_true (by assumption); have q171 : t165 < ((rd_L4 (rd_L5 t166 0) a1).length : Int) := of_decide_eq_true (by assumption); obtain ⟨ad171, e171, hx171_0⟩ := Kd.at_int (by repeat (first | (with_reducible exact HR170_0.out) | (with_reducible refine Kd.C_alloc ?_ _) | (with_reducible refine Kd.C_drewN ?_ _) | (with_reducible refine Kd.C_drew ?_) | exact HR170_0.out)) t165 p171 q171; cases e171; replace p171 := eq_true p171; replace q171 := eq_true q171; have p172 : 0 ≤ (0 : Int) := (by omega); have q172 : 0 < (t166.length : Int) := of_decide_eq_true (by assumption); obtain ⟨ad172, A172_0, c172_0, e172, hx172_0, hl172_0, hi172_0⟩ := at_L5 (Kd.N_reads' HO168.out).2.2 0 p172 q172; obtain rfl : ad169 = ad172 := (by injection e172); obtain ⟨ce172, hce172, hMe172, hcc172⟩ := Kd.N_get HO168.out [] 0 p172 (by first | exact q172 | exact of_decide_eq_true (by assumption) | (have e_ := (Kd.N_reads' HO168.out).1; omega)); obtain ⟨ua172_0, uc172_0, rfl, ul172_0, ge172_0⟩ := Kd.FK_slice_open hMe172; have hv172_0 := hcc172 0 _ rfl; rw [Nat.add_zero, show ((Kd.slice 30 (Kd.slice 2 (Kd.int .i64)))).sz = 1 from rfl, Nat.mul_one] at hv172_0; replace hv172_0 := Option.some.inj (hv172_0.symm.trans hx172_0); injection hv172_0 with hva_ hvn_ hvc_; rw [hva_] at ge172_0; rw [hvc_] at ul172_0; have HL172_0 := As0.mk (show Kd.V (Kd.slice 2 (Kd.int .i64)) 30 _ w.heap.size _ _ (rd_L5 t166 0) from Kd.V_mk ul172_0 ge172_0); clear hva_ hvn_ hvc_ ge172_0 ul172_0; clear hcc172 hce172; have qi172 : (0 < t166.length) = True := eq_true (by omega); (try rw [show ((0 : Int)).toNat = 0 from rfl] at hx172_0); (try rw [Addr.add_zero'] at hx172_0); have HR172_0 := As0.mk hi172_0; have HC172_0 := As0.mk hl172_0; clear hi172_0 hl172_0; replace p172 := eq_true p172; replace q172 := eq_true q172; have ea_ := Option.some.inj (hx169_0.symm.trans hx172_0); injection ea_ with ea_ en_ ec_; subst ea_; subst ec_; clear en_; have p173 : 0 ≤ (a1 : Int) := of_decide_eq_true (by assumption); have q173 : a1 < ((rd_L5 t166 0).length : Int) := of_decide_eq_true (by assumption); obtain ⟨ad173, A173_0, c173_0, e173, hx173_0, hl173_0, hi173_0⟩ := at_L4 (by repeat (first | (with_reducible exact HR172_0.out) | (with_reducible refine Kd.C_alloc ?_ _) | (with_reducible refine Kd.C_drewN ?_ _) | (with_reducible refine Kd.C_drew ?_) | exact HR172_0.out)) a1 p173 q173; cases e173; obtain ⟨ce173, hce173, hMe173, hcc173⟩ := Kd.V_get HL172_0.out [] a1 p173 (by first | exact q173 | exact of_decide_eq_true (by assumption) | (have e_ := (Kd.V_reads' HL172_0.out).1; omega)); obtain ⟨ua173_0, uc173_0, rfl, ul173_0, ge173_0⟩ := Kd.FK_slice_open hMe173; have hv173_0 := hcc173 0 _ rfl; rw [Nat.add_zero, show ((Kd.slice 2 (Kd.int .i64))).sz = 1 from rfl, Nat.mul_one] at hv173_0; replace hv173_0 := Option.some.inj (hv173_0.symm.trans hx173_0); injection hv173_0 with hva_ hvn_ hvc_; rw [hva_] at ge173_0; rw [hvc_] at ul173_0; have HL173_0 := As0.mk (show Kd.V (Kd.int .i64) 2 _ w.heap.size _ _ (rd_L4 (rd_L5 t166 0) a1) from Kd.V_mk ul173_0 ge173_0); clear hva_ hvn_ hvc_ ge173_0 ul173_0; clear hcc173 hce173; have HR173_0 := As0.mk hi173_0; have HC173_0 := As0.mk hl173_0; clear hi173_0 hl173_0; replace p173 := eq_true p173; replace q173 := eq_true q173; have p174 : 0 ≤ (t165 : Int) := of_decide_eq_true (by assumption); have q174 : t165 < ((rd_L4 (rd_L5 t166 0) a1).length : Int) := of_decide_eq_true (by assumption); obtain ⟨ad174, e174, hx174_0⟩ := Kd.at_int (by repeat (first | (with_reducible exact HR173_0.out) | (with_reducible refine Kd.C_alloc ?_ _) | (with_reducible refine Kd.C_drewN ?_ _) | (with_reducible refine Kd.C_drew ?_) | exact HR173_0.out)) t165 p174 q174; cases e174; replace p174 := eq_true p174; replace q174 := eq_true q174; have p175 : 0 ≤ (0 : Int) := (by omega); have q175 : 0 < (t166.length : Int) := of_decide_eq_true (by assumption); obtain ⟨ad175, A175_0, c175_0, e175, hx175_0, hl175_0, hi175_0⟩ := at_L5 (Kd.N_reads' HO168.out).2.2 0 p175 q175; obtain rfl : ad169 = ad175 := (by injection e175); obtain ⟨ce175, hce175, hMe175, hcc175⟩ := Kd.N_get HO168.out [] 0 p175 (by first | exact q175 | exact of_decide_eq_true (by assumption) | (have e_ := (Kd.N_reads' HO168.out).1; omega)); obtain ⟨ua175_0, uc175_0, rfl, ul175_0, ge175_0⟩ := Kd.FK_slice_open hMe175; have hv175_0 := hcc175 0 _ rfl; rw [Nat.add_zero, show ((Kd.slice 30 (Kd.slice 2 (Kd.int .i64)))).sz = 1 from rfl, Nat.mul_one] at hv175_0; replace hv175_0 := Option.some.inj (hv175_0.symm.trans hx175_0); injection hv175_0 with hva_ hvn_ hvc_; rw [hva_] at ge175_0; rw [hvc_] at ul175_0; have HL175_0 := As0.mk (show Kd.V (Kd.slice 2 (Kd.int .i64)) 30 _ w.heap.size _ _ (rd_L5 t166 0) from Kd.V_mk ul175_0 ge175_0); clear hva_ hvn_ hvc_ ge175_0 ul175_0; clear hcc175 hce175; have qi175 : (0 < t166.length) = True := eq_true (by omega); (try rw [show ((0 : Int)).toNat = 0 from rfl] at hx175_0); (try rw [Addr.add_zero'] at hx175_0); have HR175_0 := As0.mk hi175_0; have HC175_0 := As0.mk hl175_0; clear hi175_0 hl175_0; replace p175 := eq_true p175; replace q175 := eq_true q175; have ea_ := Option.some.inj (hx169_0.symm.trans hx175_0); injection ea_ with ea_ en_ ec_; subst ea_; subst ec_; clear en_; have p176 : 0 ≤ (a1 : Int) := of_decide_eq_true (by assumption); have q176 : a1 < ((rd_L5 t166 0).length : Int) := of_decide_eq_true (by assumption); obtain ⟨ad176, A176_0, c176_0, e176, hx176_0, hl176_0, hi176_0⟩ := at_L4 (by repeat (first | (with_reducible exact HR175_0.out) | (with_reducible refine Kd.C_alloc ?_ _) | (with_reducible refine Kd.C_drewN ?_ _) | (with_reducible refine Kd.C_drew ?_) | exact HR175_0.out)) a1 p176 q176; cases e176; obtain ⟨ce176, hce176, hMe176, hcc176⟩ := Kd.V_get HL175_0.out [] a1 p176 (by first | exact q176 | exact of_decide_eq_true (by assumption) | (have e_ := (Kd.V_reads' HL175_0.out).1; omega)); obtain ⟨ua176_0, uc176_0, rfl, ul176_0, ge176_0⟩ := Kd.FK_slice_open hMe176; have hv176_0 := hcc176 0 _ rfl; rw [Nat.add_zero, show ((Kd.slice 2 (Kd.int .i64))).sz = 1 from rfl, Nat.mul_one] at hv176_0; replace hv176_0 := Option.some.inj (hv176_0.symm.trans hx176_0); injection hv176_0 with hva_ hvn_ hvc_; rw [hva_] at ge176_0; rw [hvc_] at ul176_0; have HL176_0 := As0.mk (show Kd.V (Kd.int .i64) 2 _ w.heap.size _ _ (rd_L4 (rd_L5 t166 0) a1) from Kd.V_mk ul176_0 ge176_0); clear hva_ hvn_ hvc_ ge176_0 ul176_0; clear hcc176 hce176; have HR176_0 := As0.mk hi176_0; have HC176_0 := As0.mk hl176_0; clear hi176_0 hl176_0; replace p176 := eq_true p176; replace q176 := eq_true q176; have p177 : 0 ≤ ((ji16) : Int) := of_decide_eq_true (by assumption); have q177 : (ji16) < ((rd_L4 (rd_L5 t166 0) a1).length : Int) := of_decide_eq_true (by assumption); obtain ⟨ad177, e177, hx177_0⟩ := Kd.at_int (by repeat (first | (with_reducible exact HR176_0.out) | (with_reducible refine Kd.C_alloc ?_ _) | (with_reducible refine Kd.C_drewN ?_ _) | (with_reducible refine Kd.C_drew ?_) | exact HR176_0.out)) (ji16) p177 q177; cases e177; replace p177 := eq_true p177; replace q177 := eq_true q177))
          (try (have e_ := Option.some.inj (hx169_0.symm.trans hx170_0); injection e_ with f1_ f2_ f3_; injection f1_ with f1_; subst f1_; (try subst f3_)))
          (try (have e_ := Option.some.inj (hx169_0.symm.trans hx171_0); injection e_ with f1_ f2_ f3_; injection f1_ with f1_; subst f1_; (try subst f3_)))
          (try (have e_ := Option.some.inj (hx169_0.symm.trans hx172_0); injection e_ with f1_ f2_ f3_; injection f1_ with f1_; subst f1_; (try subst f3_)))
          (try (have e_ := Option.some.inj (hx169_0.symm.trans hx173_0); injection e_ with f1_ f2_ f3_; injection f1_ with f1_; subst f1_; (try subst f3_)))
          (try (have e_ := Option.some.inj (hx169_0.symm.trans hx174_0); injection e_ with f1_ f2_ f3_; injection f1_ with f1_; subst f1_; (try subst f3_)))
          (try (have e_ := Option.some.inj (hx169_0.symm.trans hx175_0); injection e_ with f1_ f2_ f3_; injection f1_ with f1_; subst f1_; (try subst f3_)))
          (try (have e_ := Option.some.inj (hx169_0.symm.trans hx176_0); injection e_ with f1_ f2_ f3_; injection f1_ with f1_; subst f1_; (try subst f3_)))
          (try (have e_ := Option.some.inj (hx169_0.symm.trans hx177_0); injection e_ with f1_ f2_ f3_; injection f1_ with f1_; subst f1_; (try subst f3_)))
          (try (have e_ := Option.some.inj (hx170_0.symm.trans hx171_0); injection e_ with f1_ f2_ f3_; injection f1_ with f1_; subst f1_; (try subst f3_)))
          (try (have e_ := Option.some.inj (hx170_0.symm.trans hx172_0); injection e_ with f1_ f2_ f3_; injection f1_ with f1_; subst f1_; (try subst f3_)))
          (try (have e_ := Option.some.inj (hx170_0.symm.trans hx173_0); injection e_ with f1_ f2_ f3_; injection f1_ with f1_; subst f1_; (try subst f3_)))
          (try (have e_ := Option.some.inj (hx170_0.symm.trans hx174_0); injection e_ with f1_ f2_ f3_; injection f1_ with f1_; subst f1_; (try subst f3_)))
          (try (have e_ := Option.some.inj (hx170_0.symm.trans hx175_0); injection e_ with f1_ f2_ f3_; injection f1_ with f1_; subst f1_; (try subst f3_)))
          (try (have e_ := Option.some.inj (hx170_0.symm.trans hx176_0); injection e_ with f1_ f2_ f3_; injection f1_ with f1_; subst f1_; (try subst f3_)))
          (try (have e_ := Option.some.inj (hx170_0.symm.trans hx177_0); injection e_ with f1_ f2_ f3_; injection f1_ with f1_; subst f1_; (try subst f3_)))
          (try (have e_ := Option.some.inj (hx171_0.symm.trans hx172_0); injection e_ with f1_ f2_ f3_; injection f1_ with f1_; subst f1_; (try subst f3_)))
          (try (have e_ := Option.some.inj (hx171_0.symm.trans hx173_0); injection e_ with f1_ f2_ f3_; injection f1_ with f1_; subst f1_; (try subst f3_)))
          (try (have e_ := Option.some.inj (hx171_0.symm.trans hx174_0); injection e_ with f1_ f2_ f3_; injection f1_ with f1_; subst f1_; (try subst f3_)))
          (try (have e_ := Option.some.inj (hx171_0.symm.trans hx175_0); injection e_ with f1_ f2_ f3_; injection f1_ with f1_; subst f1_; (try subst f3_)))
          (try (have e_ := Option.some.inj (hx171_0.symm.trans hx176_0); injection e_ with f1_ f2_ f3_; injection f1_ with f1_; subst f1_; (try subst f3_)))
          (try (have e_ := Option.some.inj (hx171_0.symm.trans hx177_0); injection e_ with f1_ f2_ f3_; injection f1_ with f1_; subst f1_; (try subst f3_)))
          (try (have e_ := Option.some.inj (hx172_0.symm.trans hx173_0); injection e_ with f1_ f2_ f3_; injection f1_ with f1_; subst f1_; (try subst f3_)))
          (try (have e_ := Option.some.inj (hx172_0.symm.trans hx174_0); injection e_ with f1_ f2_ f3_; injection f1_ with f1_; subst f1_; (try subst f3_)))
          (try (have e_ := Option.some.inj (hx172_0.symm.trans hx175_0); injection e_ with f1_ f2_ f3_; injection f1_ with f1_; subst f1_; (try subst f3_)))
          (try (have e_ := Option.some.inj (hx172_0.symm.trans hx176_0); injection e_ with f1_ f2_ f3_; injection f1_ with f1_; subst f1_; (try subst f3_)))
          (try (have e_ := Option.some.inj (hx172_0.symm.trans hx177_0); injection e_ with f1_ f2_ f3_; injection f1_ with f1_; subst f1_; (try subst f3_)))
          (try (have e_ := Option.some.inj (hx173_0.symm.trans hx174_0); injection e_ with f1_ f2_ f3_; injection f1_ with f1_; subst f1_; (try subst f3_)))
          (try (have e_ := Option.some.inj (hx173_0.symm.trans hx175_0); injection e_ with f1_ f2_ f3_; injection f1_ with f1_; subst f1_; (try subst f3_)))
          (try (have e_ := Option.some.inj (hx173_0.symm.trans hx176_0); injection e_ with f1_ f2_ f3_; injection f1_ with f1_; subst f1_; (try subst f3_)))
          (try (have e_ := Option.some.inj (hx173_0.symm.trans hx177_0); injection e_ with f1_ f2_ f3_; injection f1_ with f1_; subst f1_; (try subst f3_)))
          (try (have e_ := Option.some.inj (hx174_0.symm.trans hx175_0); injection e_ with f1_ f2_ f3_; injection f1_ with f1_; subst f1_; (try subst f3_)))
          (try (have e_ := Option.some.inj (hx174_0.symm.trans hx176_0); injection e_ with f1_ f2_ f3_; injection f1_ with f1_; subst f1_; (try subst f3_)))
          (try (have e_ := Option.some.inj (hx174_0.symm.trans hx177_0); injection e_ with f1_ f2_ f3_; injection f1_ with f1_; subst f1_; (try subst f3_)))
          (try (have e_ := Option.some.inj (hx175_0.symm.trans hx176_0); injection e_ with f1_ f2_ f3_; injection f1_ with f1_; subst f1_; (try subst f3_)))
          (try (have e_ := Option.some.inj (hx175_0.symm.trans hx177_0); injection e_ with f1_ f2_ f3_; injection f1_ with f1_; subst f1_; (try subst f3_)))
          (try (have e_ := Option.some.inj (hx176_0.symm.trans hx177_0); injection e_ with f1_ f2_ f3_; injection f1_ with f1_; subst f1_; (try subst f3_)))
          repeat (go_quiet (fail); try go_wp2_with (first | (go_at_call 20; (first | (with_reducible refine (spec_l16Query.calls k _ _ l0 a1 a2 t164 _ ?side1 ?side2 A4.out).mono ?_) | ((try simp only [Go.IntWalk.i64_left]); (with_reducible refine (spec_l16Query.calls k _ _ l0 a1 a2 t164 _ ?side1 ?side2 A4.out).mono ?_))); (case side1 => repeat (first | exact HR0.out | (with_reducible refine Kd.C_alloc ?_ _) | (with_reducible refine Kd.C_drewN ?_ _) | (with_reducible refine Kd.C_drew ?_))); (case side2 => exact HC0.out); rintro e w' ⟨rfl, ⟨nd, rfl⟩⟩; (try first | exact ⟨rfl, _, World.drewN_drewN _ _ _⟩ | exact ⟨rfl, _, Eq.trans (World.drewN_drewN _ _ _) (congrArg (World.drewN _) (Nat.add_assoc _ _ _))⟩)) | (go_at_call 21; (first | (with_reducible refine (spec_l16Limit.calls a2 t165 _ A6.out).mono ?_) | ((try simp only [Go.IntWalk.i64_left]); (with_reducible refine (spec_l16Limit.calls a2 t165 _ A6.out).mono ?_))); rintro e w' ⟨rfl, ⟨nd, rfl⟩⟩; (try first | exact ⟨rfl, _, World.drewN_drewN _ _ _⟩ | exact ⟨rfl, _, Eq.trans (World.drewN_drewN _ _ _) (congrArg (World.drewN _) (Nat.add_assoc _ _ _))⟩)) | (go_at_call 22; (first | (with_reducible refine (spec_l16Costs.calls k _ _ l0 a1 ji16 t166 _ ?side1 ?side2 A7.out).mono ?_) | ((try simp only [Go.IntWalk.i64_left]); (with_reducible refine (spec_l16Costs.calls k _ _ l0 a1 ji16 t166 _ ?side1 ?side2 A7.out).mono ?_))); (case side1 => repeat (first | exact HR0.out | (with_reducible refine Kd.C_alloc ?_ _) | (with_reducible refine Kd.C_drewN ?_ _) | (with_reducible refine Kd.C_drew ?_))); (case side2 => exact HC0.out); rintro e w19 ⟨v167, rfl, ho0, hb⟩; have n0_ := As0.mk (Kd.N_lower (Kd.N_mono (ok' := fun k_ => True) ho0 (fun k_ hk_ => trivial)) (bsz (by repeat (with_reducible first | exact HB.out | apply bal | apply pbN | apply bdw)))); have n1_ := As0.mk (bsp (by repeat (with_reducible first | exact HB.out | apply bal | apply pbN | apply bdw)) hb); clear HB; have HO168 := n0_; have HB := n1_; clear n0_ n1_; (try clear hb); (try clear hb2); (try clear hk); (try clear hi); (try clear ho0); obtain ⟨Ao20, co20, eo20⟩ := Kd.N_slice HO168.out; subst eo20; have p169 : 0 ≤ (0 : Int) := (by omega); have q169 : 0 < (t166.length : Int) := of_decide_eq_true (by assumption); obtain ⟨ad169, A169_0, c169_0, e169, hx169_0, hl169_0, hi169_0⟩ := at_L5 (Kd.N_reads' HO168.out).2.2 0 p169 q169; cases e169; obtain ⟨ce169, hce169, hMe169, hcc169⟩ := Kd.N_get HO168.out [] 0 p169 (by first | exact q169 | exact of_decide_eq_true (by assumption) | (have e_ := (Kd.N_reads' HO168.out).1; omega)); obtain ⟨ua169_0, uc169_0, rfl, ul169_0, ge169_0⟩ := Kd.FK_slice_open hMe169; have hv169_0 := hcc169 0 _ rfl; rw [Nat.add_zero, show ((Kd.slice 30 (Kd.slice 2 (Kd.int .i64)))).sz = 1 from rfl, Nat.mul_one] at hv169_0; replace hv169_0 := Option.some.inj (hv169_0.symm.trans hx169_0); injection hv169_0 with hva_ hvn_ hvc_; rw [hva_] at ge169_0; rw [hvc_] at ul169_0; have HL169_0 := As0.mk (show Kd.V (Kd.slice 2 (Kd.int .i64)) 30 _ w.heap.size _ _ (rd_L5 t166 0) from Kd.V_mk ul169_0 ge169_0); clear hva_ hvn_ hvc_ ge169_0 ul169_0; clear hcc169 hce169; have qi169 : (0 < t166.length) = True := eq_true (by omega); (try rw [show ((0 : Int)).toNat = 0 from rfl] at hx169_0); (try rw [Addr.add_zero'] at hx169_0); have HR169_0 := As0.mk hi169_0; have HC169_0 := As0.mk hl169_0; clear hi169_0 hl169_0; replace p169 := eq_true p169; replace q169 := eq_true q169; have p170 : 0 ≤ (a1 : Int) := of_decide_eq_true (by assumption); have q170 : a1 < ((rd_L5 t166 0).length : Int) := of_decide_eq_true (by assumption); obtain ⟨ad170, A170_0, c170_0, e170, hx170_0, hl170_0, hi170_0⟩ := at_L4 (by repeat (first | (with_reducible exact HR169_0.out) | (with_reducible refine Kd.C_alloc ?_ _) | (with_reducible refine Kd.C_drewN ?_ _) | (with_reducible refine Kd.C_drew ?_) | exact HR169_0.out)) a1 p170 q170; cases e170; obtain ⟨ce170, hce170, hMe170, hcc170⟩ := Kd.V_get HL169_0.out [] a1 p170 (by first | exact q170 | exact of_decide_eq_true (by assumption) | (have e_ := (Kd.V_reads' HL169_0.out).1; omega)); obtain ⟨ua170_0, uc170_0, rfl, ul170_0, ge170_0⟩ := Kd.FK_slice_open hMe170; have hv170_0 := hcc170 0 _ rfl; rw [Nat.add_zero, show ((Kd.slice 2 (Kd.int .i64))).sz = 1 from rfl, Nat.mul_one] at hv170_0; replace hv170_0 := Option.some.inj (hv170_0.symm.trans hx170_0); injection hv170_0 with hva_ hvn_ hvc_; rw [hva_] at ge170_0; rw [hvc_] at ul170_0; have HL170_0 := As0.mk (show Kd.V (Kd.int .i64) 2 _ w.heap.size _ _ (rd_L4 (rd_L5 t166 0) a1) from Kd.V_mk ul170_0 ge170_0); clear hva_ hvn_ hvc_ ge170_0 ul170_0; clear hcc170 hce170; have HR170_0 := As0.mk hi170_0; have HC170_0 := As0.mk hl170_0; clear hi170_0 hl170_0; replace p170 := eq_true p170; replace q170 := eq_true q170; have p171 : 0 ≤ (t165 : Int) := of_decide_eq_true (by assumption); have q171 : t165 < ((rd_L4 (rd_L5 t166 0) a1).length : Int) := of_decide_eq_true (by assumption); obtain ⟨ad171, e171, hx171_0⟩ := Kd.at_int (by repeat (first | (with_reducible exact HR170_0.out) | (with_reducible refine Kd.C_alloc ?_ _) | (with_reducible refine Kd.C_drewN ?_ _) | (with_reducible refine Kd.C_drew ?_) | exact HR170_0.out)) t165 p171 q171; cases e171; replace p171 := eq_true p171; replace q171 := eq_true q171; have p172 : 0 ≤ (0 : Int) := (by omega); have q172 : 0 < (t166.length : Int) := of_decide_eq_true (by assumption); obtain ⟨ad172, A172_0, c172_0, e172, hx172_0, hl172_0, hi172_0⟩ := at_L5 (Kd.N_reads' HO168.out).2.2 0 p172 q172; obtain rfl : ad169 = ad172 := (by injection e172); obtain ⟨ce172, hce172, hMe172, hcc172⟩ := Kd.N_get HO168.out [] 0 p172 (by first | exact q172 | exact of_decide_eq_true (by assumption) | (have e_ := (Kd.N_reads' HO168.out).1; omega)); obtain ⟨ua172_0, uc172_0, rfl, ul172_0, ge172_0⟩ := Kd.FK_slice_open hMe172; have hv172_0 := hcc172 0 _ rfl; rw [Nat.add_zero, show ((Kd.slice 30 (Kd.slice 2 (Kd.int .i64)))).sz = 1 from rfl, Nat.mul_one] at hv172_0; replace hv172_0 := Option.some.inj (hv172_0.symm.trans hx172_0); injection hv172_0 with hva_ hvn_ hvc_; rw [hva_] at ge172_0; rw [hvc_] at ul172_0; have HL172_0 := As0.mk (show Kd.V (Kd.slice 2 (Kd.int .i64)) 30 _ w.heap.size _ _ (rd_L5 t166 0) from Kd.V_mk ul172_0 ge172_0); clear hva_ hvn_ hvc_ ge172_0 ul172_0; clear hcc172 hce172; have qi172 : (0 < t166.length) = True := eq_true (by omega); (try rw [show ((0 : Int)).toNat = 0 from rfl] at hx172_0); (try rw [Addr.add_zero'] at hx172_0); have HR172_0 := As0.mk hi172_0; have HC172_0 := As0.mk hl172_0; clear hi172_0 hl172_0; replace p172 := eq_true p172; replace q172 := eq_true q172; have ea_ := Option.some.inj (hx169_0.symm.trans hx172_0); injection ea_ with ea_ en_ ec_; subst ea_; subst ec_; clear en_; have p173 : 0 ≤ (a1 : Int) := of_decide_eq_true (by assumption); have q173 : a1 < ((rd_L5 t166 0).length : Int) := of_decide_eq_true (by assumption); obtain ⟨ad173, A173_0, c173_0, e173, hx173_0, hl173_0, hi173_0⟩ := at_L4 (by repeat (first | (with_reducible exact HR172_0.out) | (with_reducible refine Kd.C_alloc ?_ _) | (with_reducible refine Kd.C_drewN ?_ _) | (with_reducible refine Kd.C_drew ?_) | exact HR172_0.out)) a1 p173 q173; cases e173; obtain ⟨ce173, hce173, hMe173, hcc173⟩ := Kd.V_get HL172_0.out [] a1 p173 (by first | exact q173 | exact of_decide_eq_true (by assumption) | (have e_ := (Kd.V_reads' HL172_0.out).1; omega)); obtain ⟨ua173_0, uc173_0, rfl, ul173_0, ge173_0⟩ := Kd.FK_slice_open hMe173; have hv173_0 := hcc173 0 _ rfl; rw [Nat.add_zero, show ((Kd.slice 2 (Kd.int .i64))).sz = 1 from rfl, Nat.mul_one] at hv173_0; replace hv173_0 := Option.some.inj (hv173_0.symm.trans hx173_0); injection hv173_0 with hva_ hvn_ hvc_; rw [hva_] at ge173_0; rw [hvc_] at ul173_0; have HL173_0 := As0.mk (show Kd.V (Kd.int .i64) 2 _ w.heap.size _ _ (rd_L4 (rd_L5 t166 0) a1) from Kd.V_mk ul173_0 ge173_0); clear hva_ hvn_ hvc_ ge173_0 ul173_0; clear hcc173 hce173; have HR173_0 := As0.mk hi173_0; have HC173_0 := As0.mk hl173_0; clear hi173_0 hl173_0; replace p173 := eq_true p173; replace q173 := eq_true q173; have p174 : 0 ≤ (t165 : Int) := of_decide_eq_true (by assumption); have q174 : t165 < ((rd_L4 (rd_L5 t166 0) a1).length : Int) := of_decide_eq_true (by assumption); obtain ⟨ad174, e174, hx174_0⟩ := Kd.at_int (by repeat (first | (with_reducible exact HR173_0.out) | (with_reducible refine Kd.C_alloc ?_ _) | (with_reducible refine Kd.C_drewN ?_ _) | (with_reducible refine Kd.C_drew ?_) | exact HR173_0.out)) t165 p174 q174; cases e174; replace p174 := eq_true p174; replace q174 := eq_true q174; have p175 : 0 ≤ (0 : Int) := (by omega); have q175 : 0 < (t166.length : Int) := of_decide_eq_true (by assumption); obtain ⟨ad175, A175_0, c175_0, e175, hx175_0, hl175_0, hi175_0⟩ := at_L5 (Kd.N_reads' HO168.out).2.2 0 p175 q175; obtain rfl : ad169 = ad175 := (by injection e175); obtain ⟨ce175, hce175, hMe175, hcc175⟩ := Kd.N_get HO168.out [] 0 p175 (by first | exact q175 | exact of_decide_eq_true (by assumption) | (have e_ := (Kd.N_reads' HO168.out).1; omega)); obtain ⟨ua175_0, uc175_0, rfl, ul175_0, ge175_0⟩ := Kd.FK_slice_open hMe175; have hv175_0 := hcc175 0 _ rfl; rw [Nat.add_zero, show ((Kd.slice 30 (Kd.slice 2 (Kd.int .i64)))).sz = 1 from rfl, Nat.mul_one] at hv175_0; replace hv175_0 := Option.some.inj (hv175_0.symm.trans hx175_0); injection hv175_0 with hva_ hvn_ hvc_; rw [hva_] at ge175_0; rw [hvc_] at ul175_0; have HL175_0 := As0.mk (show Kd.V (Kd.slice 2 (Kd.int .i64)) 30 _ w.heap.size _ _ (rd_L5 t166 0) from Kd.V_mk ul175_0 ge175_0); clear hva_ hvn_ hvc_ ge175_0 ul175_0; clear hcc175 hce175; have qi175 : (0 < t166.length) = True := eq_true (by omega); (try rw [show ((0 : Int)).toNat = 0 from rfl] at hx175_0); (try rw [Addr.add_zero'] at hx175_0); have HR175_0 := As0.mk hi175_0; have HC175_0 := As0.mk hl175_0; clear hi175_0 hl175_0; replace p175 := eq_true p175; replace q175 := eq_true q175; have ea_ := Option.some.inj (hx169_0.symm.trans hx175_0); injection ea_ with ea_ en_ ec_; subst ea_; subst ec_; clear en_; have p176 : 0 ≤ (a1 : Int) := of_decide_eq_true (by assumption); have q176 : a1 < ((rd_L5 t166 0).length : Int) := of_decide_eq_true (by assumption); obtain ⟨ad176, A176_0, c176_0, e176, hx176_0, hl176_0, hi176_0⟩ := at_L4 (by repeat (first | (with_reducible exact HR175_0.out) | (with_reducible refine Kd.C_alloc ?_ _) | (with_reducible refine Kd.C_drewN ?_ _) | (with_reducible refine Kd.C_drew ?_) | exact HR175_0.out)) a1 p176 q176; cases e176; obtain ⟨ce176, hce176, hMe176, hcc176⟩ := Kd.V_get HL175_0.out [] a1 p176 (by first | exact q176 | exact of_decide_eq_true (by assumption) | (have e_ := (Kd.V_reads' HL175_0.out).1; omega)); obtain ⟨ua176_0, uc176_0, rfl, ul176_0, ge176_0⟩ := Kd.FK_slice_open hMe176; have hv176_0 := hcc176 0 _ rfl; rw [Nat.add_zero, show ((Kd.slice 2 (Kd.int .i64))).sz = 1 from rfl, Nat.mul_one] at hv176_0; replace hv176_0 := Option.some.inj (hv176_0.symm.trans hx176_0); injection hv176_0 with hva_ hvn_ hvc_; rw [hva_] at ge176_0; rw [hvc_] at ul176_0; have HL176_0 := As0.mk (show Kd.V (Kd.int .i64) 2 _ w.heap.size _ _ (rd_L4 (rd_L5 t166 0) a1) from Kd.V_mk ul176_0 ge176_0); clear hva_ hvn_ hvc_ ge176_0 ul176_0; clear hcc176 hce176; have HR176_0 := As0.mk hi176_0; have HC176_0 := As0.mk hl176_0; clear hi176_0 hl176_0; replace p176 := eq_true p176; replace q176 := eq_true q176; have p177 : 0 ≤ ((ji16) : Int) := of_decide_eq_true (by assumption); have q177 : (ji16) < ((rd_L4 (rd_L5 t166 0) a1).length : Int) := of_decide_eq_true (by assumption); obtain ⟨ad177, e177, hx177_0⟩ := Kd.at_int (by repeat (first | (with_reducible exact HR176_0.out) | (with_reducible refine Kd.C_alloc ?_ _) | (with_reducible refine Kd.C_drewN ?_ _) | (with_reducible refine Kd.C_drew ?_) | exact HR176_0.out)) (ji16) p177 q177; cases e177; replace p177 := eq_true p177; replace q177 := eq_true q177)))
          go_ret2
          exact ⟨by first | rfl | (simp [eWn, eWs] <;> rfl) | (simp only [← hji16]; first | rfl | (simp [eWn, eWs] <;> rfl)) | (simp [*, eWn, eWs] <;> rfl), by repeat (with_reducible first | exact HB.out | apply bal | apply pbN | apply bdw)⟩
         ·rw [if_neg c18] at H
          exact absurd H (by simp)
        ·rw [if_neg c17] at H
         exact absurd H (by simp)
      ·rw [if_neg c12] at H
       exact absurd H (by simp)
     ·rw [if_neg c11] at H
      exact absurd H (by simp)
    ·rw [if_neg c10] at H
     exact absurd H (by simp)
   ·rw [if_neg c9] at H
    exact absurd H (by simp)
  ·rw [if_neg c8] at H
   exact absurd H (by simp)
 ·rw [if_neg c5] at H
  have c5b0 : (t164 == 0) = false := beq_eq_false_iff_ne.mpr c5
  have c5b1 : (t164 != 0) = true := bne_iff_ne.mpr c5
  simp only [Option.some.injEq, Prod.mk.injEq] at H
  obtain ⟨rfl, rfl⟩ := H
  go_enter Try.func7, Try.ntmps7
  go_wp2_with (first | (go_at_call 20; (first | (with_reducible refine (spec_l16Query.calls k _ _ l0 a1 a2 t164 _ ?side1 ?side2 A4.out).mono ?_) | ((try simp only [Go.IntWalk.i64_left]); (with_reducible refine (spec_l16Query.calls k _ _ l0 a1 a2 t164 _ ?side1 ?side2 A4.out).mono ?_))); (case side1 => repeat (first | exact HR0.out | (with_reducible refine Kd.C_alloc ?_ _) | (with_reducible refine Kd.C_drewN ?_ _) | (with_reducible refine Kd.C_drew ?_))); (case side2 => exact HC0.out); rintro e w' ⟨rfl, ⟨nd, rfl⟩⟩; (try first | exact ⟨rfl, _, World.drewN_drewN _ _ _⟩ | exact ⟨rfl, _, Eq.trans (World.drewN_drewN _ _ _) (congrArg (World.drewN _) (Nat.add_assoc _ _ _))⟩)))
  repeat (go_quiet (first | (go_at_call 20; (first | (with_reducible refine (spec_l16Query.calls k _ _ l0 a1 a2 t164 _ ?side1 ?side2 A4.out).mono ?_) | ((try simp only [Go.IntWalk.i64_left]); (with_reducible refine (spec_l16Query.calls k _ _ l0 a1 a2 t164 _ ?side1 ?side2 A4.out).mono ?_))); (case side1 => repeat (first | exact HR0.out | (with_reducible refine Kd.C_alloc ?_ _) | (with_reducible refine Kd.C_drewN ?_ _) | (with_reducible refine Kd.C_drew ?_))); (case side2 => exact HC0.out); rintro e w' ⟨rfl, ⟨nd, rfl⟩⟩; (try first | exact ⟨rfl, _, World.drewN_drewN _ _ _⟩ | exact ⟨rfl, _, Eq.trans (World.drewN_drewN _ _ _) (congrArg (World.drewN _) (Nat.add_assoc _ _ _))⟩))); try go_wp2_with (first | (go_at_call 20; (first | (with_reducible refine (spec_l16Query.calls k _ _ l0 a1 a2 t164 _ ?side1 ?side2 A4.out).mono ?_) | ((try simp only [Go.IntWalk.i64_left]); (with_reducible refine (spec_l16Query.calls k _ _ l0 a1 a2 t164 _ ?side1 ?side2 A4.out).mono ?_))); (case side1 => repeat (first | exact HR0.out | (with_reducible refine Kd.C_alloc ?_ _) | (with_reducible refine Kd.C_drewN ?_ _) | (with_reducible refine Kd.C_drew ?_))); (case side2 => exact HC0.out); rintro e w' ⟨rfl, ⟨nd, rfl⟩⟩; (try first | exact ⟨rfl, _, World.drewN_drewN _ _ _⟩ | exact ⟨rfl, _, Eq.trans (World.drewN_drewN _ _ _) (congrArg (World.drewN _) (Nat.add_assoc _ _ _))⟩))))
  go_ret2
  exact ⟨by first | rfl | (simp [eWn, eWs] <;> rfl) | (simp [*, eWn, eWs] <;> rfl), by repeat (with_reducible first | exact HB.out | apply bal | apply pbN | apply bdw)⟩

/-! ### laws_toFuel: function 23 -/
def laws_toFuel.f (a0_0 : ByteArray) (a0_1 : Int) (a0_2 : Int) (a0_3 : Int) : Option (ByteArray × Int × Int × Int) := some (a0_0, a0_1, a0_2, a0_3)
set_option maxHeartbeats 8000000 in
set_option maxRecDepth 100000 in
theorem laws_toFuel.calls (a0_0 : ByteArray) (a0_1 : Int) (a0_2 : Int) (a0_3 : Int) (r1 : ByteArray) (r2 : Int) (r3 : Int) (r4 : Int) (w : World) (h : laws_toFuel.f a0_0 a0_1 a0_2 a0_3 = some (r1, r2, r3, r4)) :
  Calls Try.prog 23 #[.agg #[.string a0_0, .int .i64 a0_1, .int .i64 a0_2, .int .i64 a0_3]] w fun e w' => e = .returned (.agg #[.string r1, .int .i64 r2, .int .i64 r3, .int .i64 r4]) ∧ Below w.heap.size w w' := by
 have hu40 := Try.underlying40
 have hu46 := Try.underlying46
 have HB := As0.mk (Below.refl w.heap.size w)
 have H : (some (a0_0, a0_1, a0_2, a0_3)) = some (r1, r2, r3, r4) := h
 clear h
 simp only [Option.some.injEq, Prod.mk.injEq] at H
 obtain ⟨rfl, rfl, rfl, rfl⟩ := H
 go_enter Try.func23, Try.ntmps23
 go_wp2_with (first | ((with_reducible refine gate_dst (N := 1) rfl ?_); refine box_event ?hg (N := 1) ?hd (cs := #[.string a0_0, .int .i64 a0_1, .int .i64 a0_2, .int .i64 a0_3]) (t := 40) ?hr ?_; (case hd => rfl); (case hg => rfl); (case hr => first | (go_simp; done) | (go_simp; rfl)); intro gb178 hg w2 hbox hb; have n0_ := As0.mk (bsp (by repeat (with_reducible first | exact HB.out | apply bal | apply pbN | apply bdw)) hb); have n1_ := As0.mk (hbox); have n2_ := As0.mk ((by rw [hg]; exact (bsz (by repeat (with_reducible first | exact HB.out | apply bal | apply pbN | apply bdw))) : w.heap.size ≤ gb178)); have n3_ := As0.mk ((by rw [hg]; exact (bsz (by repeat (with_reducible first | exact HB.out | apply bal | apply pbN | apply bdw))) : w.heap.size ≤ gb178)); clear HB; have HB := n0_; have BK178 := n1_; have GW178 := n2_; have GE178 := n3_; clear n0_ n1_ n2_ n3_; clear hb hbox hg) | ((with_reducible refine gate_dst (N := 2) rfl ?_); refine box_event ?hg (N := 2) ?hd (cs := #[.string (⟨#[]⟩ : ByteArray), .int .i64 0, .int .i64 0, .int .i64 0]) (t := 46) ?hr ?_; (case hd => rfl); (case hg => rfl); (case hr => first | (go_simp; done) | (go_simp; rfl)); intro gb179 hg w3 hbox hb; have n0_ := As0.mk (bkb (g := gb178) (by (with_reducible repeat first | refine bkN ?_ _ | refine bkd ?_ | refine bka ?_ _); exact BK178.out) hb); have n1_ := As0.mk (bsp (by repeat (with_reducible first | exact HB.out | apply bal | apply pbN | apply bdw | refine bst ?_ GE178.out)) hb); have n2_ := As0.mk (hbox); have n3_ := As0.mk ((by rw [hg]; exact (bsz (by repeat (with_reducible first | exact HB.out | apply bal | apply pbN | apply bdw | refine bst ?_ GE178.out))) : w.heap.size ≤ gb179)); have n4_ := As0.mk ((by rw [hg]; exact (bsz (by repeat (with_reducible first | exact HB.out | apply bal | apply pbN | apply bdw | refine bst ?_ GE178.out))) : w.heap.size ≤ gb179)); have n5_ := As0.mk ((by rw [hg]; exact Nat.ne_of_lt (blk_lt (g := gb178) (o := .cells #[.string a0_0, .int .i64 a0_1, .int .i64 a0_2, .int .i64 a0_3] 40 (0, 0)) (by (with_reducible repeat first | refine bkN ?_ _ | refine bkd ?_ | refine bka ?_ _); exact BK178.out)) : gb178 ≠ gb179)); have n6_ := As0.mk ((by rw [hg]; exact Nat.ne_of_gt (blk_lt (g := gb178) (o := .cells #[.string a0_0, .int .i64 a0_1, .int .i64 a0_2, .int .i64 a0_3] 40 (0, 0)) (by (with_reducible repeat first | refine bkN ?_ _ | refine bkd ?_ | refine bka ?_ _); exact BK178.out)) : gb179 ≠ gb178)); clear BK178; clear HB; have BK178 := n0_; have HB := n1_; have BK179 := n2_; have GW179 := n3_; have GE179 := n4_; have NB178_179 := n5_; have NB179_178 := n6_; clear n0_ n1_ n2_ n3_ n4_ n5_ n6_; clear hb hbox hg) | ((with_reducible refine gate_dst (N := 3) rfl ?_); refine box_event ?hg (N := 3) ?hd (cs := #[.string (⟨#[]⟩ : ByteArray), .int .i64 0, .int .i64 0, .int .i64 0]) (t := 46) ?hr ?_; (case hd => rfl); (case hg => rfl); (case hr => first | (go_simp; done) | (go_simp; rfl)); intro gb180 hg w4 hbox hb; have n0_ := As0.mk (bkb (g := gb178) (by (with_reducible repeat first | refine bkN ?_ _ | refine bkd ?_ | refine bka ?_ _); exact BK178.out) hb); have n1_ := As0.mk (bkb (g := gb179) (o := .cells #[.string (⟨#[]⟩ : ByteArray), .int .i64 0, .int .i64 0, .int .i64 0] 46 (0, 0)) (by (with_reducible repeat first | refine bkN ?_ _ | refine bkd ?_ | refine bka ?_ _); exact BK179.out) hb); have n2_ := As0.mk (bsp (by repeat (with_reducible first | exact HB.out | apply bal | apply pbN | apply bdw | refine bst ?_ GE178.out | refine bst ?_ GE179.out)) hb); have n3_ := As0.mk (hbox); have n4_ := As0.mk ((by rw [hg]; exact (bsz (by repeat (with_reducible first | exact HB.out | apply bal | apply pbN | apply bdw | refine bst ?_ GE178.out | refine bst ?_ GE179.out))) : w.heap.size ≤ gb180)); have n5_ := As0.mk ((by rw [hg]; exact (bsz (by repeat (with_reducible first | exact HB.out | apply bal | apply pbN | apply bdw | refine bst ?_ GE178.out | refine bst ?_ GE179.out))) : w.heap.size ≤ gb180)); have n6_ := As0.mk ((by rw [hg]; exact Nat.ne_of_lt (blk_lt (g := gb178) (o := .cells #[.string a0_0, .int .i64 a0_1, .int .i64 a0_2, .int .i64 a0_3] 40 (0, 0)) (by (with_reducible repeat first | refine bkN ?_ _ | refine bkd ?_ | refine bka ?_ _); exact BK178.out)) : gb178 ≠ gb180)); have n7_ := As0.mk ((by rw [hg]; exact Nat.ne_of_gt (blk_lt (g := gb178) (o := .cells #[.string a0_0, .int .i64 a0_1, .int .i64 a0_2, .int .i64 a0_3] 40 (0, 0)) (by (with_reducible repeat first | refine bkN ?_ _ | refine bkd ?_ | refine bka ?_ _); exact BK178.out)) : gb180 ≠ gb178)); have n8_ := As0.mk ((by rw [hg]; exact Nat.ne_of_lt (blk_lt (g := gb179) (o := .cells #[.string (⟨#[]⟩ : ByteArray), .int .i64 0, .int .i64 0, .int .i64 0] 46 (0, 0)) (by (with_reducible repeat first | refine bkN ?_ _ | refine bkd ?_ | refine bka ?_ _); exact BK179.out)) : gb179 ≠ gb180)); have n9_ := As0.mk ((by rw [hg]; exact Nat.ne_of_gt (blk_lt (g := gb179) (o := .cells #[.string (⟨#[]⟩ : ByteArray), .int .i64 0, .int .i64 0, .int .i64 0] 46 (0, 0)) (by (with_reducible repeat first | refine bkN ?_ _ | refine bkd ?_ | refine bka ?_ _); exact BK179.out)) : gb180 ≠ gb179)); clear BK178; clear BK179; clear HB; have BK178 := n0_; have BK179 := n1_; have HB := n2_; have BK180 := n3_; have GW180 := n4_; have GE180 := n5_; have NB178_180 := n6_; have NB180_178 := n7_; have NB179_180 := n8_; have NB180_179 := n9_; clear n0_ n1_ n2_ n3_ n4_ n5_ n6_ n7_ n8_ n9_; clear hb hbox hg; have hnb5 := NB178_179.out; have hnc5 := NB179_178.out; have hnb6 := NB178_180.out; have hnc6 := NB180_178.out; have hcz7_0 : w4.cell? ⟨gb178, 0, none⟩ = some (.string a0_0) := (bkc BK178.out 0).trans rfl; have hcz7_1 : w4.cell? ⟨gb178, 1, none⟩ = some (.int .i64 a0_1) := (bkc BK178.out 1).trans rfl; have hcz7_2 : w4.cell? ⟨gb178, 2, none⟩ = some (.int .i64 a0_2) := (bkc BK178.out 2).trans rfl; have hcz7_3 : w4.cell? ⟨gb178, 3, none⟩ = some (.int .i64 a0_3) := (bkc BK178.out 3).trans rfl; have hfz7_0 := bkf BK178.out 0; have hfz7_1 := bkf BK178.out 1; have hfz7_2 := bkf BK178.out 2; have hfz7_3 := bkf BK178.out 3; have hnb8 := NB180_179.out; have hnc8 := NB179_180.out; have hcz9_0 : w4.cell? ⟨gb180, 0, none⟩ = some (.string (⟨#[]⟩ : ByteArray)) := (bkc BK180.out 0).trans rfl; have hcz9_1 : w4.cell? ⟨gb180, 1, none⟩ = some (.int .i64 0) := (bkc BK180.out 1).trans rfl; have hcz9_2 : w4.cell? ⟨gb180, 2, none⟩ = some (.int .i64 0) := (bkc BK180.out 2).trans rfl; have hcz9_3 : w4.cell? ⟨gb180, 3, none⟩ = some (.int .i64 0) := (bkc BK180.out 3).trans rfl; have hfz9_0 := bkf BK180.out 0; have hfz9_1 := bkf BK180.out 1; have hfz9_2 := bkf BK180.out 2; have hfz9_3 := bkf BK180.out 3; have hcz10_0 : w4.cell? ⟨gb179, 0, none⟩ = some (.string (⟨#[]⟩ : ByteArray)) := (bkc BK179.out 0).trans rfl; have hcz10_1 : w4.cell? ⟨gb179, 1, none⟩ = some (.int .i64 0) := (bkc BK179.out 1).trans rfl; have hcz10_2 : w4.cell? ⟨gb179, 2, none⟩ = some (.int .i64 0) := (bkc BK179.out 2).trans rfl; have hcz10_3 : w4.cell? ⟨gb179, 3, none⟩ = some (.int .i64 0) := (bkc BK179.out 3).trans rfl; have hfz10_0 := bkf BK179.out 0; have hfz10_1 := bkf BK179.out 1; have hfz10_2 := bkf BK179.out 2; have hfz10_3 := bkf BK179.out 3))
 refine bodyPost_ret (results_cell_row rfl _ _ gb179 46 #[.string a0_0, .int .i64 a0_1, .int .i64 a0_2, .int .i64 a0_3] (0, 0) _ rfl (by (with_reducible repeat first | refine bkN ?_ _ | refine bkd ?_ | refine bka ?_ _); refine blk_put (cs := #[.string a0_0, .int .i64 a0_1, .int .i64 a0_2, .int .i64 0]) ?_ 3 _ rfl; (with_reducible repeat first | refine bkN ?_ _ | refine bkd ?_ | refine bka ?_ _); refine blk_put (cs := #[.string a0_0, .int .i64 a0_1, .int .i64 0, .int .i64 0]) ?_ 2 _ rfl; (with_reducible repeat first | refine bkN ?_ _ | refine bkd ?_ | refine bka ?_ _); refine blk_put (cs := #[.string a0_0, .int .i64 0, .int .i64 0, .int .i64 0]) ?_ 1 _ rfl; (with_reducible repeat first | refine bkN ?_ _ | refine bkd ?_ | refine bka ?_ _); refine blk_put (cs := #[.string (⟨#[]⟩ : ByteArray), .int .i64 0, .int .i64 0, .int .i64 0]) ?_ 0 _ rfl; (with_reducible repeat first | refine bkN ?_ _ | refine bkd ?_ | refine bka ?_ _); refine blk_far ?_ NB179_180.out _; (with_reducible repeat first | refine bkN ?_ _ | refine bkd ?_ | refine bka ?_ _); refine blk_far ?_ NB179_180.out _; (with_reducible repeat first | refine bkN ?_ _ | refine bkd ?_ | refine bka ?_ _); refine blk_far ?_ NB179_180.out _; (with_reducible repeat first | refine bkN ?_ _ | refine bkd ?_ | refine bka ?_ _); refine blk_far ?_ NB179_180.out _; (with_reducible repeat first | refine bkN ?_ _ | refine bkd ?_ | refine bka ?_ _); exact BK179.out) Try.underlying46 rfl (by kernel_rfl)) rfl ?_
 exact ⟨by first | rfl | (simp [eWn, eWs] <;> rfl) | (simp [*, eWn, eWs] <;> rfl), by repeat (with_reducible first | exact HB.out | apply bal | apply pbN | apply bdw | refine bst ?_ GE178.out | refine bst ?_ GE179.out | refine bst ?_ GE180.out)⟩

/-! ### laws_toFuelS: function 8 -/
def laws_toFuelS.l0 : Nat → List (S40) → List (S46) → Int → Option ((List (S46)))
 | 0, _, _, _ => none
 | k + 1, x0, x3, x4 => if x4 < (x0.length : Int) then (if 0 ≤ x4 then ((laws_toFuel.f ((rd_T40 x0 x4).f0) ((rd_T40 x0 x4).f1) ((rd_T40 x0 x4).f2) ((rd_T40 x0 x4).f3)).bind fun bt185 => (if x4 < (x3.length : Int) then (laws_toFuelS.l0 k x0 (x3.set (x4 : Int).toNat (⟨bt185.1, bt185.2.1, bt185.2.2.1, bt185.2.2.2⟩ : S46)) (wrap64 (x4 + 1))) else (none))) else (none)) else (some x3)
def laws_toFuelS.f (k : Nat) (l0 : List (S40)) : Option ((List (S46))) := if 0 ≤ (l0.length : Int) then (if ((l0.length : Int) : Int).toNat ≤ 7036874417766 then (laws_toFuelS.l0 k l0 (List.replicate ((l0.length : Int) : Int).toNat z46) 0) else (none)) else (none)
theorem laws_toFuelS.mono_l : ∀ k, (∀ y0 y1 y2, LeO (laws_toFuelS.l0 k y0 y1 y2) (laws_toFuelS.l0 (k + 1) y0 y1 y2))
 | 0 => fun _ _ _ r h => by simp [laws_toFuelS.l0] at h
 | k + 1 => by
  have ih0 := laws_toFuelS.mono_l k
  ·intro y0 y1 y2
   unfold laws_toFuelS.l0
   repeat' first
   | (with_reducible exact ih0 _ _ _)
   | (with_reducible exact LeO.refl _)
   | (with_reducible exact LeO.none _)
   | (with_reducible refine LeO.ite ?_ ?_)
   | (with_reducible refine LeO.bind ?_ (fun _ => ?_))
   | exact ih0 _ _ _
   | exact LeO.none _
   | refine LeO.ite ?_ ?_
   | refine LeO.bind ?_ (fun _ => ?_)
theorem laws_toFuelS.mono : ∀ a0 k, LeO (laws_toFuelS.f k a0) (laws_toFuelS.f (k + 1) a0) := by
 intro a0 k
 have ih0 := laws_toFuelS.mono_l k
 unfold laws_toFuelS.f
 repeat' first
   | (with_reducible exact ih0 _ _ _)
   | (with_reducible exact LeO.refl _)
   | (with_reducible exact LeO.none _)
   | (with_reducible refine LeO.ite ?_ ?_)
   | (with_reducible refine LeO.bind ?_ (fun _ => ?_))
   | exact ih0 _ _ _
   | exact LeO.none _
   | refine LeO.ite ?_ ?_
   | refine LeO.bind ?_ (fun _ => ?_)
set_option maxHeartbeats 8000000 in
set_option maxRecDepth 100000 in
theorem laws_toFuelS.calls (k : Nat) (A0 : Option Addr) (c0 : Nat) (l0 : List (S40)) (r : List (S46)) (w : World) (hr0 : Kd.C k40 w A0 l0.length l0) (hc0 : l0.length ≤ c0) (h : laws_toFuelS.f k l0 = some r) :
  Calls Try.prog 8 #[.slice A0 l0.length c0] w fun e w' => ∃ v0_ : Value, e = .returned (v0_) ∧ Kd.R k46 46 w' w.heap.size (fun _ => True) v0_ r ∧ Below w.heap.size w w' := by
 have hu40 := Try.underlying40
 have hu46 := Try.underlying46
 have HR0 := As0.mk hr0
 have HC0 := As0.mk hc0
 clear hr0 hc0
 have HB := As0.mk (Below.refl w.heap.size w)
 have H : (if 0 ≤ (l0.length : Int) then (if ((l0.length : Int) : Int).toNat ≤ 7036874417766 then (laws_toFuelS.l0 k l0 (List.replicate ((l0.length : Int) : Int).toNat z46) 0) else (none)) else (none)) = some r := h
 clear h
 by_cases c2 : 0 ≤ (l0.length : Int)
 ·rw [if_pos c2] at H
  have c2b0 := eq_true c2
  have c2b1 : decide (0 ≤ (l0.length : Int)) = true := decide_eq_true c2
  clear c2
  by_cases c3 : ((l0.length : Int) : Int).toNat ≤ 7036874417766
  ·rw [if_pos c3] at H
   have c3b0 := eq_true c3
   have c3b1 : decide (((l0.length : Int) : Int).toNat ≤ 7036874417766) = true := decide_eq_true c3
   clear c3
   obtain ⟨y181, hy181⟩ : ∃ y_ : List (S46), y_ = (List.replicate ((l0.length : Int) : Int).toNat z46) := ⟨_, rfl⟩
   replace H : (laws_toFuelS.l0 k l0 y181 0) = some r := by first | (rw [hy181]; with_reducible exact H) | (have H2_ := (Option.bind_some _ _).symm.trans H; rw [hy181]; with_reducible exact H2_) | (have H2_ := (Option.bind_some _ _).symm.trans H; with_reducible exact H2_) | with_reducible exact H | (rw [hy181]; exact H) | exact H
   have Ny181 := As0.mk hy181
   clear hy181
   have H' := As0.mk H
   clear H
   go_enter Try.func8, Try.ntmps8
   go_wp2_with (first | ((with_reducible refine gate_dst (N := 7) rfl ?_); refine Kd.R_make k46 _ 46 rfl (N := 7) rfl 26 _ _ rfl (l0.length : Int) rfl rfl Try.underlying26 (.agg #[(.string ⟨#[]⟩), (.int .i64 0), (.int .i64 0), (.int .i64 0)]) 40 info46 rfl (by decide) (by omega) z46 (ok := fun _ => True) (okp := fun _ => True) (k46_mkM _ _ _ z46 ) (fun _ hk => hk) trivial (of_decide_eq_true (by assumption)) (Nat.le_trans (Nat.mul_le_mul_right _ (of_decide_eq_true (by assumption) : (l0.length : Int).toNat ≤ 7036874417766)) (by omega)) (Below.refl _ _) (Nat.le_refl _) ?_; intro v182 w4 ho5 hb hg_ hnew_; clear hg_ hnew_; (first | rw [← Ny181.out] at ho5 | (simp only [Int.reduceToNat] at ho5; rw [← Ny181.out] at ho5)); have n0_ := As0.mk (Kd.R_lower ho5 (bsz (by repeat (with_reducible first | exact HB.out | apply bal | apply pbN | apply bdw)))); have n1_ := As0.mk (bsp (by repeat (with_reducible first | exact HB.out | apply bal | apply pbN | apply bdw)) hb); clear HB; have HO183 := n0_; have HB := n1_; clear n0_ n1_; clear hb ho5))
   go_loopg [4] k (fun kq v4 w' => ∃ (x3_1 : List (S46)) (x4_1 : Int), v4 = .int .i64 x4_1 ∧ As0 (laws_toFuelS.l0 kq l0 x3_1 x4_1 = some r) ∧ As0 (kq ≤ k) ∧ As0 (Kd.R k46 46 w' w.heap.size (fun _ => True) v182 x3_1) ∧ As0 (Below w.heap.size w w'))
   case atStart => exact ⟨(y181), (0), (by first | rfl | (simp; done) | (simp [*]; done)), H', ⟨Nat.le_refl _⟩, ⟨by (with_reducible repeat (first | apply Kd.R_alloc | apply Kd.R_drewN | apply Kd.R_drew)); exact HO183.out⟩, ⟨by repeat (with_reducible first | exact HB.out | apply bal | apply pbN | apply bdw)⟩⟩
   case round =>
    clear H'
    try clear c2
    try clear c2b0
    try clear c2b1
    try clear p2
    try clear c3
    try clear c3b0
    try clear c3b1
    obtain ⟨x3_1, x4_1, rfl, HA, HK1, HO_3, HB⟩ := hrel
    cases gk with
    | zero => exact absurd HA.out (by simp [laws_toFuelS.l0])
    | succ k1 =>
     have H := HA.out
     clear HA
     simp only [laws_toFuelS.l0] at H
     by_cases c6 : x4_1 < (l0.length : Int)
     ·rw [if_pos c6] at H
      have c6b0 : decide (x4_1 < (l0.length : Int)) = true := decide_eq_true c6
      clear c6
      by_cases c7 : 0 ≤ x4_1
      ·rw [if_pos c7] at H
       have c7b0 : decide (0 ≤ x4_1) = true := decide_eq_true c7
       clear c7
       replace H := Option.bind_eq_some_iff.mp H
       obtain ⟨⟨t185, t186, t187, t188⟩, A80, H⟩ := H
       replace H : (if x4_1 < (x3_1.length : Int) then (laws_toFuelS.l0 k1 l0 (x3_1.set (x4_1 : Int).toNat (⟨t185, t186, t187, t188⟩ : S46)) (wrap64 (x4_1 + 1))) else (none)) = some r := H
       have A8 := As0.mk A80
       clear A80
       by_cases c9 : x4_1 < (x3_1.length : Int)
       ·rw [if_pos c9] at H
        have c9b0 : decide (x4_1 < (x3_1.length : Int)) = true := decide_eq_true c9
        clear c9
        obtain ⟨y189, hy189⟩ : ∃ y_ : List (S46), y_ = (x3_1.set (x4_1 : Int).toNat (⟨t185, t186, t187, t188⟩ : S46)) := ⟨_, rfl⟩
        replace H : (laws_toFuelS.l0 k1 l0 y189 (wrap64 (x4_1 + 1))) = some r := by first | (rw [hy189]; with_reducible exact H) | (have H2_ := (Option.bind_some _ _).symm.trans H; rw [hy189]; with_reducible exact H2_) | (have H2_ := (Option.bind_some _ _).symm.trans H; with_reducible exact H2_) | with_reducible exact H | (rw [hy189]; exact H) | exact H
        have Ny189 := As0.mk hy189
        clear hy189
        have H' := As0.mk H
        clear H
        have p184 : 0 ≤ (x4_1 : Int) := of_decide_eq_true (by assumption)
        have q184 : x4_1 < (l0.length : Int) := of_decide_eq_true (by assumption)
        obtain ⟨ad184, e184, hx184_0, hx184_1, hx184_2, hx184_3⟩ := at_T40 HR0.out x4_1 p184 q184
        cases e184
        replace hx184_0 := (HB.out.cell (blt w _ hx184_0)).trans hx184_0
        replace hx184_1 := (HB.out.cell (blt w _ hx184_1)).trans hx184_1
        replace hx184_2 := (HB.out.cell (blt w _ hx184_2)).trans hx184_2
        replace hx184_3 := (HB.out.cell (blt w _ hx184_3)).trans hx184_3
        replace p184 := eq_true p184
        replace q184 := eq_true q184
        go_wp2_with (first | ((with_reducible refine gce (f := 23) rfl ?_); refine goesL_ (some 20) rfl rfl Try.func23 (by kernel_rfl) rfl #[.agg #[.string ((rd_T40 l0 x4_1).f0), .int .i64 ((rd_T40 l0 x4_1).f1), .int .i64 ((rd_T40 l0 x4_1).f2), .int .i64 ((rd_T40 l0 x4_1).f3)]] rfl (by (try simp only [List.map_toArray, List.map_cons, List.map_nil]); first | done | rfl | (simp only [List.length_drop, List.length_take]; rfl)) ?_; (with_reducible refine (laws_toFuel.calls ((rd_T40 l0 x4_1).f0) ((rd_T40 l0 x4_1).f1) ((rd_T40 l0 x4_1).f2) ((rd_T40 l0 x4_1).f3) t185 t186 t187 t188 _ A8.out).mono ?_); rintro e w11 ⟨rfl, hb⟩; refine ⟨_, rfl, ?_⟩; have n0_ := As0.mk (Kd.R_below (by (with_reducible repeat (first | apply Kd.R_alloc | apply Kd.R_drewN | apply Kd.R_drew)); exact HO_3.out) hb); have n1_ := As0.mk (bsp (by repeat (with_reducible first | exact HB.out | apply bal | apply pbN | apply bdw)) hb); clear HO_3; clear HB; have HO_3 := n0_; have HB := n1_; clear n0_ n1_; (try clear hb); (try clear hb2); (try clear hk); (try clear hi); have p10 : 0 ≤ (x4_1 : Int) := of_decide_eq_true (by assumption); have q10 : (x4_1 : Int) < ((x3_1.length : Int) : Int) := of_decide_eq_true (by assumption); obtain ⟨go10, co10, eo10, gb10, gl10, cl10, HG10⟩ := Kd.R_form HO_3.out (by omega); (first | cases eo10 | (injection eo10 with ea_ en_ ec_; (first | subst ea_ | (injection ea_ with ea_; subst ea_)); subst ec_; clear en_)); have GB10 := As0.mk gb10; have GG10 := As0.mk HG10; clear gb10 gl10 HG10; obtain ⟨ce10, hcl10, hM10, hcc10, hfr10⟩ := Kd.R_elem HO_3.out z46 (x4_1 : Int) p10 q10; obtain rfl := k46_openM hM10; have hx10_0 : w11.cell? ⟨go10, (x4_1 : Int).toNat * 4, none⟩ = some (.string ((rd_T46 x3_1 x4_1).f0)) := hcc10 0 _ rfl; have hx10_1 : w11.cell? ⟨go10, (x4_1 : Int).toNat * 4 + 1, none⟩ = some (.int .i64 ((rd_T46 x3_1 x4_1).f1)) := hcc10 1 _ rfl; have hx10_2 : w11.cell? ⟨go10, (x4_1 : Int).toNat * 4 + 2, none⟩ = some (.int .i64 ((rd_T46 x3_1 x4_1).f2)) := hcc10 2 _ rfl; have hx10_3 : w11.cell? ⟨go10, (x4_1 : Int).toNat * 4 + 3, none⟩ = some (.int .i64 ((rd_T46 x3_1 x4_1).f3)) := hcc10 3 _ rfl; have hf10_0 : w11.frozen? ⟨go10, (x4_1 : Int).toNat * 4, none⟩ = false := hfr10 0; have hf10_1 : w11.frozen? ⟨go10, (x4_1 : Int).toNat * 4 + 1, none⟩ = false := hfr10 1; have hf10_2 : w11.frozen? ⟨go10, (x4_1 : Int).toNat * 4 + 2, none⟩ = false := hfr10 2; have hf10_3 : w11.frozen? ⟨go10, (x4_1 : Int).toNat * 4 + 3, none⟩ = false := hfr10 3; (try clear hM10); clear hcl10 hcc10 hfr10; replace p10 := eq_true p10; replace q10 := eq_true q10; have HX12 := As0.mk (show Kd.R k46 46 w11 w.heap.size (fun _ => True) (.slice (some ⟨go10, 0, none⟩) x3_1.length co10) x3_1 from (by (with_reducible repeat (first | apply Kd.R_alloc | apply Kd.R_drewN | apply Kd.R_drew)); exact HO_3.out)); obtain ⟨ce12, hcl12, hM12, hcc12, hfr12⟩ := Kd.R_elem HX12.out z46 (x4_1 : Int) (of_decide_eq_true (by assumption)) (by have h_ : (x4_1 : Int) < ((x3_1.length : Int) : Int) := of_decide_eq_true (by assumption); first | exact h_ | (have e_ := (Kd.R_reads' HO_3.out).1; omega) | simpa using h_); obtain rfl := k46_openM hM12; have HP12 := Kd.R_seg HX12.out (x4_1 : Int) (of_decide_eq_true (by assumption)) (by have h_ : (x4_1 : Int) < ((x3_1.length : Int) : Int) := of_decide_eq_true (by assumption); first | exact h_ | (have e_ := (Kd.R_reads' HO_3.out).1; omega) | simpa using h_) (seg := [.string t185, .int .i64 t186, .int .i64 t187, .int .i64 t188]) (j := 0) hcl12 hcc12 (show 4 ≤ 4 from by decide) (x' := (⟨t185, t186, t187, t188⟩ : S46)) (k46_mkM _ _ _ (⟨t185, t186, t187, t188⟩ : S46) ) (fun _ hk => hk); have hx12_0 := hcc12 0 _ rfl; (try simp only [show (k46).sz = 4 from rfl, Nat.mul_one, Nat.add_zero] at hx12_0); have hf12_0 := hfr12 0; (try simp only [show (k46).sz = 4 from rfl, Nat.mul_one, Nat.add_zero] at hf12_0); have hx12_1 := hcc12 1 _ rfl; (try simp only [show (k46).sz = 4 from rfl, Nat.mul_one, Nat.add_zero] at hx12_1); have hf12_1 := hfr12 1; (try simp only [show (k46).sz = 4 from rfl, Nat.mul_one, Nat.add_zero] at hf12_1); have hx12_2 := hcc12 2 _ rfl; (try simp only [show (k46).sz = 4 from rfl, Nat.mul_one, Nat.add_zero] at hx12_2); have hf12_2 := hfr12 2; (try simp only [show (k46).sz = 4 from rfl, Nat.mul_one, Nat.add_zero] at hf12_2); have hx12_3 := hcc12 3 _ rfl; (try simp only [show (k46).sz = 4 from rfl, Nat.mul_one, Nat.add_zero] at hx12_3); have hf12_3 := hfr12 3; (try simp only [show (k46).sz = 4 from rfl, Nat.mul_one, Nat.add_zero] at hf12_3); (try clear hM12); clear hcl12 hcc12 hfr12) | ((with_reducible refine gate_store (t := 46) (p := 21) rfl ?_); refine store_event (t := 46) (p := 21) (v := ?vo_w13) (w1 := ((((w11.setCell ⟨go10, (x4_1 : Int).toNat * 4, none⟩ (.string t185)).setCell ⟨go10, (x4_1 : Int).toNat * 4 + 1, none⟩ (.int .i64 t186)).setCell ⟨go10, (x4_1 : Int).toNat * 4 + 2, none⟩ (.int .i64 t187)).setCell ⟨go10, (x4_1 : Int).toNat * 4 + 3, none⟩ (.int .i64 t188))) ?hg ?ho ?hn ?hr ?_; (case ho => rfl); (case hg => rfl); (case hn => rfl); (case hr => first | (go_simp; done) | (go_simp; rfl)); intro w13 hw; have hg : w11.grownBy w13 (some go10) := (by rw [hw]; exact HP12.2); have hp_ : Kd.R k46 46 w13 w.heap.size (fun _ => True) (.slice (some ⟨go10, 0, none⟩) x3_1.length co10) y189 := (by rw [hw, Ny189.out]; exact HP12.1); clear HP12; have n0_ := As0.mk (hp_); have n1_ := As0.mk ((by rw [hw]; exact bst (bst (bst (bst (HB.out) GB10.out) GB10.out) GB10.out) GB10.out : Below w.heap.size w w13)); clear HO_3; clear HB; have HO_3 := n0_; have HB := n1_; clear n0_ n1_; clear hg hw hp_))
        go_roundg k1
        case measure => have := HK1.out; omega
        case rel => exact ⟨(y189), (wrap64 (x4_1 + 1)), (by first | rfl | (simp; done) | (simp [*]; done)), H', ⟨by have := HK1.out; omega⟩, ⟨by (with_reducible repeat (first | apply Kd.R_alloc | apply Kd.R_drewN | apply Kd.R_drew)); exact HO_3.out⟩, ⟨by repeat (with_reducible first | exact HB.out | apply bal | apply pbN | apply bdw)⟩⟩
       ·rw [if_neg c9] at H
        exact absurd H (by simp)
      ·rw [if_neg c7] at H
       exact absurd H (by simp)
     ·rw [if_neg c6] at H
      have c6b0 : decide (x4_1 < (l0.length : Int)) = false := decide_eq_false c6
      clear c6
      obtain rfl := Option.some.inj H
      go_wp2
      go_ret
      exact ⟨_, by first | rfl | (simp [eWn, eWs] <;> rfl) | (simp [*, eWn, eWs] <;> rfl), by (with_reducible repeat (first | apply Kd.R_alloc | apply Kd.R_drewN | apply Kd.R_drew)); exact HO_3.out, by repeat (with_reducible first | exact HB.out | apply bal | apply pbN | apply bdw)⟩
  ·rw [if_neg c3] at H
   exact absurd H (by simp)
 ·rw [if_neg c2] at H
  exact absurd H (by simp)

/-! ### impl_within: function 37 -/
def impl_within.f (a0 : Int) (a1 : Int) (a2 : Int) : Option (Bool) := if a0 ≥ a1 then (some (decide (a0 ≤ a2))) else (some false)
set_option maxHeartbeats 8000000 in
set_option maxRecDepth 100000 in
theorem impl_within.calls (a0 : Int) (a1 : Int) (a2 : Int) (r : Bool) (w : World) (h : impl_within.f a0 a1 a2 = some r) :
  Calls Try.prog 37 #[.int .i64 a0, .int .i64 a1, .int .i64 a2] w fun e w' => e = .returned (.bool r) ∧ Drawn0 w w' := by
 have H : (if a0 ≥ a1 then (some (decide (a0 ≤ a2))) else (some false)) = some r := h
 clear h
 by_cases c4 : a0 ≥ a1
 ·rw [if_pos c4] at H
  have c4b0 : decide (a1 ≤ a0) = true := decide_eq_true c4
  clear c4
  obtain rfl := Option.some.inj H
  go_enter Try.func37, Try.ntmps37
  go_wp2
  go_ret
  exact ⟨by first | rfl | (simp; done) | (simp [*]; done), by repeat (first | exact Drawn0.refl _ | apply Drawn0.step)⟩
 ·rw [if_neg c4] at H
  have c4b0 : decide (a1 ≤ a0) = false := decide_eq_false c4
  clear c4
  obtain rfl := Option.some.inj H
  go_enter Try.func37, Try.ntmps37
  go_wp2
  go_ret
  exact ⟨by first | rfl | (simp; done) | (simp [*]; done), by repeat (first | exact Drawn0.refl _ | apply Drawn0.step)⟩

/-! ### impl_onlyNameBytes: function 45 -/
def impl_onlyNameBytes.l0 : Nat → ByteArray → Int → Int → Option (Bool)
 | 0, _, _, _ => none
 | k + 1, x0, x6, x7 => if x7 < x6 then (if 0 ≤ x7 then (if x7 < (x0.size : Int) then (if (bt x0 x7) < 97 then (if (bt x0 x7) < 48 then (some false) else (if (bt x0 x7) > 57 then (some false) else (impl_onlyNameBytes.l0 k x0 x6 (wrap64 (x7 + 1))))) else (if (bt x0 x7) > 122 then (if (bt x0 x7) < 48 then (some false) else (if (bt x0 x7) > 57 then (some false) else (impl_onlyNameBytes.l0 k x0 x6 (wrap64 (x7 + 1))))) else (impl_onlyNameBytes.l0 k x0 x6 (wrap64 (x7 + 1))))) else (none)) else (none)) else (some true)
def impl_onlyNameBytes.f (k : Nat) (a0 : ByteArray) : Option (Bool) := impl_onlyNameBytes.l0 k a0 (a0.size : Int) 0
theorem impl_onlyNameBytes.mono_l : ∀ k, (∀ y0 y1 y2, LeO (impl_onlyNameBytes.l0 k y0 y1 y2) (impl_onlyNameBytes.l0 (k + 1) y0 y1 y2))
 | 0 => fun _ _ _ r h => by simp [impl_onlyNameBytes.l0] at h
 | k + 1 => by
  have ih0 := impl_onlyNameBytes.mono_l k
  ·intro y0 y1 y2
   unfold impl_onlyNameBytes.l0
   repeat' first
   | (with_reducible exact ih0 _ _ _)
   | (with_reducible exact LeO.refl _)
   | (with_reducible exact LeO.none _)
   | (with_reducible refine LeO.ite ?_ ?_)
   | (with_reducible refine LeO.bind ?_ (fun _ => ?_))
   | exact ih0 _ _ _
   | exact LeO.none _
   | refine LeO.ite ?_ ?_
   | refine LeO.bind ?_ (fun _ => ?_)
theorem impl_onlyNameBytes.mono : ∀ a0 k, LeO (impl_onlyNameBytes.f k a0) (impl_onlyNameBytes.f (k + 1) a0) := by
 intro a0 k
 have ih0 := impl_onlyNameBytes.mono_l k
 unfold impl_onlyNameBytes.f
 repeat' first
   | (with_reducible exact ih0 _ _ _)
   | (with_reducible exact LeO.refl _)
   | (with_reducible exact LeO.none _)
   | (with_reducible refine LeO.ite ?_ ?_)
   | (with_reducible refine LeO.bind ?_ (fun _ => ?_))
   | exact ih0 _ _ _
   | exact LeO.none _
   | refine LeO.ite ?_ ?_
   | refine LeO.bind ?_ (fun _ => ?_)
set_option maxHeartbeats 8000000 in
set_option maxRecDepth 100000 in
theorem impl_onlyNameBytes.calls (k : Nat) (a0 : ByteArray) (r : Bool) (w : World) (h : impl_onlyNameBytes.f k a0 = some r) :
  Calls Try.prog 45 #[.string a0] w fun e w' => e = .returned (.bool r) ∧ Drawn0 w w' := by
 have H : (impl_onlyNameBytes.l0 k a0 (a0.size : Int) 0) = some r := h
 clear h
 have H' := As0.mk H
 clear H
 go_enter Try.func45, Try.ntmps45
 go_wp2
 go_loopg [7] k (fun kq v7 w' => ∃ (x7_1 : Int), v7 = .int .i64 x7_1 ∧ As0 (impl_onlyNameBytes.l0 kq a0 (a0.size : Int) x7_1 = some r) ∧ As0 (kq ≤ k) ∧ Drawn0 w w')
 case atStart => exact ⟨(0), (by first | rfl | (simp; done) | (simp [*]; done)), H', ⟨Nat.le_refl _⟩, by repeat (first | exact Drawn0.refl _ | apply Drawn0.step)⟩
 case round =>
  clear H'
  obtain ⟨x7_1, rfl, HA, HK1, ⟨m1, rfl⟩⟩ := hrel
  cases gk with
  | zero => exact absurd HA.out (by simp [impl_onlyNameBytes.l0])
  | succ k1 =>
   have H := HA.out
   clear HA
   simp only [impl_onlyNameBytes.l0] at H
   by_cases c2 : x7_1 < (a0.size : Int)
   ·rw [if_pos c2] at H
    have c2b0 : decide (x7_1 < (a0.size : Int)) = true := decide_eq_true c2
    clear c2
    by_cases c3 : 0 ≤ x7_1
    ·rw [if_pos c3] at H
     have c3b0 : decide (0 ≤ x7_1) = true := decide_eq_true c3
     clear c3
     by_cases c4 : x7_1 < (a0.size : Int)
     ·rw [if_pos c4] at H
      have c4b0 : decide (x7_1 < (a0.size : Int)) = true := decide_eq_true c4
      clear c4
      by_cases c6 : (bt a0 x7_1) < 97
      ·rw [if_pos c6] at H
       have c6b0 : decide ((bt a0 x7_1) < 97) = true := decide_eq_true c6
       clear c6
       by_cases c7 : (bt a0 x7_1) < 48
       ·rw [if_pos c7] at H
        have c7b0 : decide ((bt a0 x7_1) < 48) = true := decide_eq_true c7
        clear c7
        obtain rfl := Option.some.inj H
        have p5 : 0 ≤ (x7_1 : Int) := of_decide_eq_true (by assumption)
        have q5 : x7_1 < (a0.size : Int) := of_decide_eq_true (by assumption)
        have hx5 := bt_at a0 x7_1
        replace p5 := eq_true p5
        replace q5 := eq_true q5
        go_wp2
        go_ret
        exact ⟨by first | rfl | (simp; done) | (simp [*]; done), by repeat (first | exact Drawn0.refl _ | apply Drawn0.step)⟩
       ·rw [if_neg c7] at H
        have c7b0 : decide ((bt a0 x7_1) < 48) = false := decide_eq_false c7
        clear c7
        by_cases c8 : (bt a0 x7_1) > 57
        ·rw [if_pos c8] at H
         have c8b0 : decide (57 < (bt a0 x7_1)) = true := decide_eq_true c8
         clear c8
         obtain rfl := Option.some.inj H
         have p5 : 0 ≤ (x7_1 : Int) := of_decide_eq_true (by assumption)
         have q5 : x7_1 < (a0.size : Int) := of_decide_eq_true (by assumption)
         have hx5 := bt_at a0 x7_1
         replace p5 := eq_true p5
         replace q5 := eq_true q5
         go_wp2
         go_ret
         exact ⟨by first | rfl | (simp; done) | (simp [*]; done), by repeat (first | exact Drawn0.refl _ | apply Drawn0.step)⟩
        ·rw [if_neg c8] at H
         have c8b0 : decide (57 < (bt a0 x7_1)) = false := decide_eq_false c8
         clear c8
         have H' := As0.mk H
         clear H
         have p5 : 0 ≤ (x7_1 : Int) := of_decide_eq_true (by assumption)
         have q5 : x7_1 < (a0.size : Int) := of_decide_eq_true (by assumption)
         have hx5 := bt_at a0 x7_1
         replace p5 := eq_true p5
         replace q5 := eq_true q5
         go_wp2
         go_roundg k1
         case measure => have := HK1.out; omega
         case rel => exact ⟨(wrap64 (x7_1 + 1)), (by first | rfl | (simp; done) | (simp [*]; done)), H', ⟨by have := HK1.out; omega⟩, by repeat (first | exact Drawn0.refl _ | apply Drawn0.step)⟩
      ·rw [if_neg c6] at H
       have c6b0 : decide ((bt a0 x7_1) < 97) = false := decide_eq_false c6
       clear c6
       by_cases c9 : (bt a0 x7_1) > 122
       ·rw [if_pos c9] at H
        have c9b0 : decide (122 < (bt a0 x7_1)) = true := decide_eq_true c9
        clear c9
        by_cases c10 : (bt a0 x7_1) < 48
        ·rw [if_pos c10] at H
         have c10b0 : decide ((bt a0 x7_1) < 48) = true := decide_eq_true c10
         clear c10
         obtain rfl := Option.some.inj H
         have p5 : 0 ≤ (x7_1 : Int) := of_decide_eq_true (by assumption)
         have q5 : x7_1 < (a0.size : Int) := of_decide_eq_true (by assumption)
         have hx5 := bt_at a0 x7_1
         replace p5 := eq_true p5
         replace q5 := eq_true q5
         go_wp2
         go_ret
         exact ⟨by first | rfl | (simp; done) | (simp [*]; done), by repeat (first | exact Drawn0.refl _ | apply Drawn0.step)⟩
        ·rw [if_neg c10] at H
         have c10b0 : decide ((bt a0 x7_1) < 48) = false := decide_eq_false c10
         clear c10
         by_cases c11 : (bt a0 x7_1) > 57
         ·rw [if_pos c11] at H
          have c11b0 : decide (57 < (bt a0 x7_1)) = true := decide_eq_true c11
          clear c11
          obtain rfl := Option.some.inj H
          have p5 : 0 ≤ (x7_1 : Int) := of_decide_eq_true (by assumption)
          have q5 : x7_1 < (a0.size : Int) := of_decide_eq_true (by assumption)
          have hx5 := bt_at a0 x7_1
          replace p5 := eq_true p5
          replace q5 := eq_true q5
          go_wp2
          go_ret
          exact ⟨by first | rfl | (simp; done) | (simp [*]; done), by repeat (first | exact Drawn0.refl _ | apply Drawn0.step)⟩
         ·rw [if_neg c11] at H
          have c11b0 : decide (57 < (bt a0 x7_1)) = false := decide_eq_false c11
          clear c11
          have H' := As0.mk H
          clear H
          have p5 : 0 ≤ (x7_1 : Int) := of_decide_eq_true (by assumption)
          have q5 : x7_1 < (a0.size : Int) := of_decide_eq_true (by assumption)
          have hx5 := bt_at a0 x7_1
          replace p5 := eq_true p5
          replace q5 := eq_true q5
          go_wp2
          go_roundg k1
          case measure => have := HK1.out; omega
          case rel => exact ⟨(wrap64 (x7_1 + 1)), (by first | rfl | (simp; done) | (simp [*]; done)), H', ⟨by have := HK1.out; omega⟩, by repeat (first | exact Drawn0.refl _ | apply Drawn0.step)⟩
       ·rw [if_neg c9] at H
        have c9b0 : decide (122 < (bt a0 x7_1)) = false := decide_eq_false c9
        clear c9
        have H' := As0.mk H
        clear H
        have p5 : 0 ≤ (x7_1 : Int) := of_decide_eq_true (by assumption)
        have q5 : x7_1 < (a0.size : Int) := of_decide_eq_true (by assumption)
        have hx5 := bt_at a0 x7_1
        replace p5 := eq_true p5
        replace q5 := eq_true q5
        go_wp2
        go_roundg k1
        case measure => have := HK1.out; omega
        case rel => exact ⟨(wrap64 (x7_1 + 1)), (by first | rfl | (simp; done) | (simp [*]; done)), H', ⟨by have := HK1.out; omega⟩, by repeat (first | exact Drawn0.refl _ | apply Drawn0.step)⟩
     ·rw [if_neg c4] at H
      exact absurd H (by simp)
    ·rw [if_neg c3] at H
     exact absurd H (by simp)
   ·rw [if_neg c2] at H
    have c2b0 : decide (x7_1 < (a0.size : Int)) = false := decide_eq_false c2
    clear c2
    obtain rfl := Option.some.inj H
    go_wp2
    go_ret
    exact ⟨by first | rfl | (simp; done) | (simp [*]; done), by repeat (first | exact Drawn0.refl _ | apply Drawn0.step)⟩

/-! ### impl_IsName: function 44 -/
def impl_IsName.f (k : Nat) (a0 : ByteArray) : Option (Bool) := if (a0.size : Int) < 1 then (some false) else (if (a0.size : Int) > 10 then (some false) else (if 0 < (a0.size : Int) then (if (bt a0 0) < 97 then (some false) else (if (bt a0 0) > 122 then (some false) else ((impl_onlyNameBytes.f k a0).bind fun t190 => (some t190)))) else (none)))
theorem impl_IsName.mono : ∀ a0 k, LeO (impl_IsName.f k a0) (impl_IsName.f (k + 1) a0) := by
 intro a0 k
 unfold impl_IsName.f
 repeat' first
   | (with_reducible exact impl_onlyNameBytes.mono _ _)
   | (with_reducible exact LeO.refl _)
   | (with_reducible exact LeO.none _)
   | (with_reducible refine LeO.ite ?_ ?_)
   | (with_reducible refine LeO.bind ?_ (fun _ => ?_))
   | exact impl_onlyNameBytes.mono _ _
   | exact LeO.none _
   | refine LeO.ite ?_ ?_
   | refine LeO.bind ?_ (fun _ => ?_)
set_option maxHeartbeats 8000000 in
set_option maxRecDepth 100000 in
theorem impl_IsName.calls (k : Nat) (a0 : ByteArray) (r : Bool) (w : World) (h : impl_IsName.f k a0 = some r) :
  Calls Try.prog 44 #[.string a0] w fun e w' => e = .returned (.bool r) ∧ Drawn0 w w' := by
 have H : (if (a0.size : Int) < 1 then (some false) else (if (a0.size : Int) > 10 then (some false) else (if 0 < (a0.size : Int) then (if (bt a0 0) < 97 then (some false) else (if (bt a0 0) > 122 then (some false) else ((impl_onlyNameBytes.f k a0).bind fun t190 => (some t190)))) else (none)))) = some r := h
 clear h
 by_cases c2 : (a0.size : Int) < 1
 ·rw [if_pos c2] at H
  have c2b0 : decide ((a0.size : Int) < 1) = true := decide_eq_true c2
  have c2b1 : decide (a0.size < 1) = true := decide_eq_true (by omega)
  clear c2
  obtain rfl := Option.some.inj H
  go_enter Try.func44, Try.ntmps44
  go_wp2
  go_ret
  exact ⟨by first | rfl | (simp; done) | (simp [*]; done), by repeat (first | exact Drawn0.refl _ | apply Drawn0.step)⟩
 ·rw [if_neg c2] at H
  have c2b0 : decide ((a0.size : Int) < 1) = false := decide_eq_false c2
  have c2b1 : decide (a0.size < 1) = false := decide_eq_false (by omega)
  clear c2
  by_cases c3 : (a0.size : Int) > 10
  ·rw [if_pos c3] at H
   have c3b0 : decide (10 < (a0.size : Int)) = true := decide_eq_true c3
   have c3b1 : decide (10 < a0.size) = true := decide_eq_true (by omega)
   clear c3
   obtain rfl := Option.some.inj H
   go_enter Try.func44, Try.ntmps44
   go_wp2
   go_ret
   exact ⟨by first | rfl | (simp; done) | (simp [*]; done), by repeat (first | exact Drawn0.refl _ | apply Drawn0.step)⟩
  ·rw [if_neg c3] at H
   have c3b0 : decide (10 < (a0.size : Int)) = false := decide_eq_false c3
   have c3b1 : decide (10 < a0.size) = false := decide_eq_false (by omega)
   clear c3
   by_cases c4 : 0 < (a0.size : Int)
   ·rw [if_pos c4] at H
    have c4b0 : decide (0 < (a0.size : Int)) = true := decide_eq_true c4
    have c4b1 : decide (0 < a0.size) = true := decide_eq_true (by omega)
    clear c4
    by_cases c6 : (bt a0 0) < 97
    ·rw [if_pos c6] at H
     have c6b0 : decide ((bt a0 0) < 97) = true := decide_eq_true c6
     clear c6
     obtain rfl := Option.some.inj H
     have p5 : 0 ≤ (0 : Int) := (by omega)
     have q5 : 0 < a0.size := (by have : (0 : Int) < (a0.size : Int) := of_decide_eq_true (by assumption); omega)
     have hx5 : ∀ h : 0 < a0.size, ((a0[0]'h).toNat : Int) = bt a0 0 := bt_at a0 0
     clear p5
     have qi5 : (0 < (a0.size : Int)) = True := eq_true (of_decide_eq_true (by assumption))
     replace q5 := eq_true q5
     go_enter Try.func44, Try.ntmps44
     go_wp2
     go_ret
     exact ⟨by first | rfl | (simp; done) | (simp [*]; done), by repeat (first | exact Drawn0.refl _ | apply Drawn0.step)⟩
    ·rw [if_neg c6] at H
     have c6b0 : decide ((bt a0 0) < 97) = false := decide_eq_false c6
     clear c6
     by_cases c8 : (bt a0 0) > 122
     ·rw [if_pos c8] at H
      have c8b0 : decide (122 < (bt a0 0)) = true := decide_eq_true c8
      clear c8
      obtain rfl := Option.some.inj H
      have p5 : 0 ≤ (0 : Int) := (by omega)
      have q5 : 0 < a0.size := (by have : (0 : Int) < (a0.size : Int) := of_decide_eq_true (by assumption); omega)
      have hx5 : ∀ h : 0 < a0.size, ((a0[0]'h).toNat : Int) = bt a0 0 := bt_at a0 0
      clear p5
      have qi5 : (0 < (a0.size : Int)) = True := eq_true (of_decide_eq_true (by assumption))
      replace q5 := eq_true q5
      have p7 : 0 ≤ (0 : Int) := (by omega)
      have q7 : 0 < a0.size := (by have : (0 : Int) < (a0.size : Int) := of_decide_eq_true (by assumption); omega)
      have hx7 : ∀ h : 0 < a0.size, ((a0[0]'h).toNat : Int) = bt a0 0 := bt_at a0 0
      clear p7
      have qi7 : (0 < (a0.size : Int)) = True := eq_true (of_decide_eq_true (by assumption))
      replace q7 := eq_true q7
      go_enter Try.func44, Try.ntmps44
      go_wp2
      go_ret
      exact ⟨by first | rfl | (simp; done) | (simp [*]; done), by repeat (first | exact Drawn0.refl _ | apply Drawn0.step)⟩
     ·rw [if_neg c8] at H
      have c8b0 : decide (122 < (bt a0 0)) = false := decide_eq_false c8
      clear c8
      replace H := Option.bind_eq_some_iff.mp H
      obtain ⟨t190, A90, H⟩ := H
      replace H : (some t190) = some r := H
      have A9 := As0.mk A90
      clear A90
      obtain rfl := Option.some.inj H
      have p5 : 0 ≤ (0 : Int) := (by omega)
      have q5 : 0 < a0.size := (by have : (0 : Int) < (a0.size : Int) := of_decide_eq_true (by assumption); omega)
      have hx5 : ∀ h : 0 < a0.size, ((a0[0]'h).toNat : Int) = bt a0 0 := bt_at a0 0
      clear p5
      have qi5 : (0 < (a0.size : Int)) = True := eq_true (of_decide_eq_true (by assumption))
      replace q5 := eq_true q5
      have p7 : 0 ≤ (0 : Int) := (by omega)
      have q7 : 0 < a0.size := (by have : (0 : Int) < (a0.size : Int) := of_decide_eq_true (by assumption); omega)
      have hx7 : ∀ h : 0 < a0.size, ((a0[0]'h).toNat : Int) = bt a0 0 := bt_at a0 0
      clear p7
      have qi7 : (0 < (a0.size : Int)) = True := eq_true (of_decide_eq_true (by assumption))
      replace q7 := eq_true q7
      go_enter Try.func44, Try.ntmps44
      go_wp2_with (first | ((with_reducible refine gce (f := 45) rfl ?_); refine goesL_ (some 22) rfl rfl Try.func45 (by kernel_rfl) rfl #[.string a0] rfl (by (try simp only [List.map_toArray, List.map_cons, List.map_nil]); first | done | rfl | (simp only [List.length_drop, List.length_take]; rfl)) ?_; (with_reducible refine (impl_onlyNameBytes.calls k a0 t190 _ A9.out).mono ?_); rintro e w' ⟨rfl, ⟨nd, rfl⟩⟩; refine ⟨_, rfl, ?_⟩))
      go_ret
      exact ⟨by first | rfl | (simp; done) | (simp [*]; done), by repeat (first | exact Drawn0.refl _ | apply Drawn0.step)⟩
   ·rw [if_neg c4] at H
    exact absurd H (by simp)

/-! ### impl_Fuel_valid: function 41 -/
def impl_Fuel_valid.f (k : Nat) (a0_0 : ByteArray) (a0_1 : Int) (a0_2 : Int) (a0_3 : Int) : Option (Bool) := (impl_IsName.f k a0_0).bind fun t192 => (if t192 = true then ((impl_within.f a0_1 0 20).bind fun t193 => (if t193 = true then ((impl_within.f a0_2 0 1000).bind fun t194 => (if t194 = true then ((impl_within.f a0_3 0 20).bind fun t195 => (some t195)) else (some false))) else (some false))) else (some false))
theorem impl_Fuel_valid.mono : ∀ a0 a1 a2 a3 k, LeO (impl_Fuel_valid.f k a0 a1 a2 a3) (impl_Fuel_valid.f (k + 1) a0 a1 a2 a3) := by
 intro a0 a1 a2 a3 k
 unfold impl_Fuel_valid.f
 repeat' first
   | (with_reducible exact impl_IsName.mono _ _)
   | (with_reducible exact LeO.refl _)
   | (with_reducible exact LeO.none _)
   | (with_reducible refine LeO.ite ?_ ?_)
   | (with_reducible refine LeO.bind ?_ (fun _ => ?_))
   | exact impl_IsName.mono _ _
   | exact LeO.none _
   | refine LeO.ite ?_ ?_
   | refine LeO.bind ?_ (fun _ => ?_)
set_option maxHeartbeats 8000000 in
set_option maxRecDepth 100000 in
theorem impl_Fuel_valid.calls (k : Nat) (a0_0 : ByteArray) (a0_1 : Int) (a0_2 : Int) (a0_3 : Int) (r : Bool) (w : World) (h : impl_Fuel_valid.f k a0_0 a0_1 a0_2 a0_3 = some r) :
  Calls Try.prog 41 #[.agg #[.string a0_0, .int .i64 a0_1, .int .i64 a0_2, .int .i64 a0_3]] w fun e w' => e = .returned (.bool r) ∧ Below w.heap.size w w' := by
 have hu46 := Try.underlying46
 have HB := As0.mk (Below.refl w.heap.size w)
 have H : ((impl_IsName.f k a0_0).bind fun t192 => (if t192 = true then ((impl_within.f a0_1 0 20).bind fun t193 => (if t193 = true then ((impl_within.f a0_2 0 1000).bind fun t194 => (if t194 = true then ((impl_within.f a0_3 0 20).bind fun t195 => (some t195)) else (some false))) else (some false))) else (some false))) = some r := h
 clear h
 replace H := Option.bind_eq_some_iff.mp H
 obtain ⟨t192, A20, H⟩ := H
 replace H : (if t192 = true then ((impl_within.f a0_1 0 20).bind fun t193 => (if t193 = true then ((impl_within.f a0_2 0 1000).bind fun t194 => (if t194 = true then ((impl_within.f a0_3 0 20).bind fun t195 => (some t195)) else (some false))) else (some false))) else (some false)) = some r := H
 have A2 := As0.mk A20
 clear A20
 by_cases c3 : t192 = true
 ·subst c3
  have H1 : ((impl_within.f a0_1 0 20).bind fun t193 => (if t193 = true then ((impl_within.f a0_2 0 1000).bind fun t194 => (if t194 = true then ((impl_within.f a0_3 0 20).bind fun t195 => (some t195)) else (some false))) else (some false))) = some r := by rw [if_pos rfl] at H; exact H
  clear H
  have H := H1
  clear H1
  replace H := Option.bind_eq_some_iff.mp H
  obtain ⟨t193, A40, H⟩ := H
  replace H : (if t193 = true then ((impl_within.f a0_2 0 1000).bind fun t194 => (if t194 = true then ((impl_within.f a0_3 0 20).bind fun t195 => (some t195)) else (some false))) else (some false)) = some r := H
  have A4 := As0.mk A40
  clear A40
  by_cases c5 : t193 = true
  ·subst c5
   have H1 : ((impl_within.f a0_2 0 1000).bind fun t194 => (if t194 = true then ((impl_within.f a0_3 0 20).bind fun t195 => (some t195)) else (some false))) = some r := by rw [if_pos rfl] at H; exact H
   clear H
   have H := H1
   clear H1
   replace H := Option.bind_eq_some_iff.mp H
   obtain ⟨t194, A60, H⟩ := H
   replace H : (if t194 = true then ((impl_within.f a0_3 0 20).bind fun t195 => (some t195)) else (some false)) = some r := H
   have A6 := As0.mk A60
   clear A60
   by_cases c7 : t194 = true
   ·subst c7
    have H1 : ((impl_within.f a0_3 0 20).bind fun t195 => (some t195)) = some r := by rw [if_pos rfl] at H; exact H
    clear H
    have H := H1
    clear H1
    replace H := Option.bind_eq_some_iff.mp H
    obtain ⟨t195, A80, H⟩ := H
    replace H : (some t195) = some r := H
    have A8 := As0.mk A80
    clear A80
    obtain rfl := Option.some.inj H
    go_enter Try.func41, Try.ntmps41
    go_wp2_with (first | ((with_reducible refine gate_dst (N := 1) rfl ?_); refine box_event ?hg (N := 1) ?hd (cs := #[.string a0_0, .int .i64 a0_1, .int .i64 a0_2, .int .i64 a0_3]) (t := 46) ?hr ?_; (case hd => rfl); (case hg => rfl); (case hr => first | (go_simp; done) | (go_simp; rfl)); intro gb191 hg w9 hbox hb; have n0_ := As0.mk (bsp (by repeat (with_reducible first | exact HB.out | apply bal | apply pbN | apply bdw)) hb); have n1_ := As0.mk (hbox); have n2_ := As0.mk ((by rw [hg]; exact (bsz (by repeat (with_reducible first | exact HB.out | apply bal | apply pbN | apply bdw))) : w.heap.size ≤ gb191)); have n3_ := As0.mk ((by rw [hg]; exact (bsz (by repeat (with_reducible first | exact HB.out | apply bal | apply pbN | apply bdw))) : w.heap.size ≤ gb191)); clear HB; have HB := n0_; have BK191 := n1_; have GW191 := n2_; have GE191 := n3_; clear n0_ n1_ n2_ n3_; clear hb hbox hg; have hcz10_0 : w9.cell? ⟨gb191, 0, none⟩ = some (.string a0_0) := (bkc BK191.out 0).trans rfl; have hcz10_1 : w9.cell? ⟨gb191, 1, none⟩ = some (.int .i64 a0_1) := (bkc BK191.out 1).trans rfl; have hcz10_2 : w9.cell? ⟨gb191, 2, none⟩ = some (.int .i64 a0_2) := (bkc BK191.out 2).trans rfl; have hcz10_3 : w9.cell? ⟨gb191, 3, none⟩ = some (.int .i64 a0_3) := (bkc BK191.out 3).trans rfl; have hfz10_0 := bkf BK191.out 0; have hfz10_1 := bkf BK191.out 1; have hfz10_2 := bkf BK191.out 2; have hfz10_3 := bkf BK191.out 3) | ((with_reducible refine gce (f := 44) rfl ?_); refine goesL_ (some 5) rfl rfl Try.func44 (by kernel_rfl) rfl #[.string a0_0] rfl (by (try simp only [List.map_toArray, List.map_cons, List.map_nil]); first | done | rfl | (simp only [List.length_drop, List.length_take]; rfl)) ?_; (with_reducible refine (impl_IsName.calls k a0_0 true _ A2.out).mono ?_); rintro e w' ⟨rfl, ⟨nd, rfl⟩⟩; refine ⟨_, rfl, ?_⟩) | (go_at_call 37; (first | (with_reducible refine (impl_within.calls a0_1 0 20 true _ A4.out).mono ?_) | ((try simp only [Go.IntWalk.i64_left]); (with_reducible refine (impl_within.calls a0_1 0 20 true _ A4.out).mono ?_))); rintro e w' ⟨rfl, ⟨nd, rfl⟩⟩) | (go_at_call 37; (first | (with_reducible refine (impl_within.calls a0_2 0 1000 true _ A6.out).mono ?_) | ((try simp only [Go.IntWalk.i64_left]); (with_reducible refine (impl_within.calls a0_2 0 1000 true _ A6.out).mono ?_))); rintro e w' ⟨rfl, ⟨nd, rfl⟩⟩) | (go_at_call 37; (first | (with_reducible refine (impl_within.calls a0_3 0 20 t195 _ A8.out).mono ?_) | ((try simp only [Go.IntWalk.i64_left]); (with_reducible refine (impl_within.calls a0_3 0 20 t195 _ A8.out).mono ?_))); rintro e w' ⟨rfl, ⟨nd, rfl⟩⟩))
    go_ret
    exact ⟨by first | rfl | (simp [eWn, eWs] <;> rfl) | (simp [*, eWn, eWs] <;> rfl), by repeat (with_reducible first | exact HB.out | apply bal | apply pbN | apply bdw | refine bst ?_ GE191.out)⟩
   ·replace c7 := Bool.eq_false_iff.mpr c7
    subst c7
    have H1 : (some false) = some r := by rw [if_neg (show ¬ (false = true) by decide)] at H; exact H
    clear H
    have H := H1
    clear H1
    obtain rfl := Option.some.inj H
    go_enter Try.func41, Try.ntmps41
    go_wp2_with (first | ((with_reducible refine gate_dst (N := 1) rfl ?_); refine box_event ?hg (N := 1) ?hd (cs := #[.string a0_0, .int .i64 a0_1, .int .i64 a0_2, .int .i64 a0_3]) (t := 46) ?hr ?_; (case hd => rfl); (case hg => rfl); (case hr => first | (go_simp; done) | (go_simp; rfl)); intro gb191 hg w11 hbox hb; have n0_ := As0.mk (bsp (by repeat (with_reducible first | exact HB.out | apply bal | apply pbN | apply bdw)) hb); have n1_ := As0.mk (hbox); have n2_ := As0.mk ((by rw [hg]; exact (bsz (by repeat (with_reducible first | exact HB.out | apply bal | apply pbN | apply bdw))) : w.heap.size ≤ gb191)); have n3_ := As0.mk ((by rw [hg]; exact (bsz (by repeat (with_reducible first | exact HB.out | apply bal | apply pbN | apply bdw))) : w.heap.size ≤ gb191)); clear HB; have HB := n0_; have BK191 := n1_; have GW191 := n2_; have GE191 := n3_; clear n0_ n1_ n2_ n3_; clear hb hbox hg; have hcz12_0 : w11.cell? ⟨gb191, 0, none⟩ = some (.string a0_0) := (bkc BK191.out 0).trans rfl; have hcz12_1 : w11.cell? ⟨gb191, 1, none⟩ = some (.int .i64 a0_1) := (bkc BK191.out 1).trans rfl; have hcz12_2 : w11.cell? ⟨gb191, 2, none⟩ = some (.int .i64 a0_2) := (bkc BK191.out 2).trans rfl; have hcz12_3 : w11.cell? ⟨gb191, 3, none⟩ = some (.int .i64 a0_3) := (bkc BK191.out 3).trans rfl; have hfz12_0 := bkf BK191.out 0; have hfz12_1 := bkf BK191.out 1; have hfz12_2 := bkf BK191.out 2; have hfz12_3 := bkf BK191.out 3) | ((with_reducible refine gce (f := 44) rfl ?_); refine goesL_ (some 5) rfl rfl Try.func44 (by kernel_rfl) rfl #[.string a0_0] rfl (by (try simp only [List.map_toArray, List.map_cons, List.map_nil]); first | done | rfl | (simp only [List.length_drop, List.length_take]; rfl)) ?_; (with_reducible refine (impl_IsName.calls k a0_0 true _ A2.out).mono ?_); rintro e w' ⟨rfl, ⟨nd, rfl⟩⟩; refine ⟨_, rfl, ?_⟩) | (go_at_call 37; (first | (with_reducible refine (impl_within.calls a0_1 0 20 true _ A4.out).mono ?_) | ((try simp only [Go.IntWalk.i64_left]); (with_reducible refine (impl_within.calls a0_1 0 20 true _ A4.out).mono ?_))); rintro e w' ⟨rfl, ⟨nd, rfl⟩⟩) | (go_at_call 37; (first | (with_reducible refine (impl_within.calls a0_2 0 1000 false _ A6.out).mono ?_) | ((try simp only [Go.IntWalk.i64_left]); (with_reducible refine (impl_within.calls a0_2 0 1000 false _ A6.out).mono ?_))); rintro e w' ⟨rfl, ⟨nd, rfl⟩⟩))
    go_ret
    exact ⟨by first | rfl | (simp [eWn, eWs] <;> rfl) | (simp [*, eWn, eWs] <;> rfl), by repeat (with_reducible first | exact HB.out | apply bal | apply pbN | apply bdw | refine bst ?_ GE191.out)⟩
  ·replace c5 := Bool.eq_false_iff.mpr c5
   subst c5
   have H1 : (some false) = some r := by rw [if_neg (show ¬ (false = true) by decide)] at H; exact H
   clear H
   have H := H1
   clear H1
   obtain rfl := Option.some.inj H
   go_enter Try.func41, Try.ntmps41
   go_wp2_with (first | ((with_reducible refine gate_dst (N := 1) rfl ?_); refine box_event ?hg (N := 1) ?hd (cs := #[.string a0_0, .int .i64 a0_1, .int .i64 a0_2, .int .i64 a0_3]) (t := 46) ?hr ?_; (case hd => rfl); (case hg => rfl); (case hr => first | (go_simp; done) | (go_simp; rfl)); intro gb191 hg w13 hbox hb; have n0_ := As0.mk (bsp (by repeat (with_reducible first | exact HB.out | apply bal | apply pbN | apply bdw)) hb); have n1_ := As0.mk (hbox); have n2_ := As0.mk ((by rw [hg]; exact (bsz (by repeat (with_reducible first | exact HB.out | apply bal | apply pbN | apply bdw))) : w.heap.size ≤ gb191)); have n3_ := As0.mk ((by rw [hg]; exact (bsz (by repeat (with_reducible first | exact HB.out | apply bal | apply pbN | apply bdw))) : w.heap.size ≤ gb191)); clear HB; have HB := n0_; have BK191 := n1_; have GW191 := n2_; have GE191 := n3_; clear n0_ n1_ n2_ n3_; clear hb hbox hg; have hcz14_0 : w13.cell? ⟨gb191, 0, none⟩ = some (.string a0_0) := (bkc BK191.out 0).trans rfl; have hcz14_1 : w13.cell? ⟨gb191, 1, none⟩ = some (.int .i64 a0_1) := (bkc BK191.out 1).trans rfl; have hcz14_2 : w13.cell? ⟨gb191, 2, none⟩ = some (.int .i64 a0_2) := (bkc BK191.out 2).trans rfl; have hcz14_3 : w13.cell? ⟨gb191, 3, none⟩ = some (.int .i64 a0_3) := (bkc BK191.out 3).trans rfl; have hfz14_0 := bkf BK191.out 0; have hfz14_1 := bkf BK191.out 1; have hfz14_2 := bkf BK191.out 2; have hfz14_3 := bkf BK191.out 3) | ((with_reducible refine gce (f := 44) rfl ?_); refine goesL_ (some 5) rfl rfl Try.func44 (by kernel_rfl) rfl #[.string a0_0] rfl (by (try simp only [List.map_toArray, List.map_cons, List.map_nil]); first | done | rfl | (simp only [List.length_drop, List.length_take]; rfl)) ?_; (with_reducible refine (impl_IsName.calls k a0_0 true _ A2.out).mono ?_); rintro e w' ⟨rfl, ⟨nd, rfl⟩⟩; refine ⟨_, rfl, ?_⟩) | (go_at_call 37; (first | (with_reducible refine (impl_within.calls a0_1 0 20 false _ A4.out).mono ?_) | ((try simp only [Go.IntWalk.i64_left]); (with_reducible refine (impl_within.calls a0_1 0 20 false _ A4.out).mono ?_))); rintro e w' ⟨rfl, ⟨nd, rfl⟩⟩))
   go_ret
   exact ⟨by first | rfl | (simp [eWn, eWs] <;> rfl) | (simp [*, eWn, eWs] <;> rfl), by repeat (with_reducible first | exact HB.out | apply bal | apply pbN | apply bdw | refine bst ?_ GE191.out)⟩
 ·replace c3 := Bool.eq_false_iff.mpr c3
  subst c3
  have H1 : (some false) = some r := by rw [if_neg (show ¬ (false = true) by decide)] at H; exact H
  clear H
  have H := H1
  clear H1
  obtain rfl := Option.some.inj H
  go_enter Try.func41, Try.ntmps41
  go_wp2_with (first | ((with_reducible refine gate_dst (N := 1) rfl ?_); refine box_event ?hg (N := 1) ?hd (cs := #[.string a0_0, .int .i64 a0_1, .int .i64 a0_2, .int .i64 a0_3]) (t := 46) ?hr ?_; (case hd => rfl); (case hg => rfl); (case hr => first | (go_simp; done) | (go_simp; rfl)); intro gb191 hg w15 hbox hb; have n0_ := As0.mk (bsp (by repeat (with_reducible first | exact HB.out | apply bal | apply pbN | apply bdw)) hb); have n1_ := As0.mk (hbox); have n2_ := As0.mk ((by rw [hg]; exact (bsz (by repeat (with_reducible first | exact HB.out | apply bal | apply pbN | apply bdw))) : w.heap.size ≤ gb191)); have n3_ := As0.mk ((by rw [hg]; exact (bsz (by repeat (with_reducible first | exact HB.out | apply bal | apply pbN | apply bdw))) : w.heap.size ≤ gb191)); clear HB; have HB := n0_; have BK191 := n1_; have GW191 := n2_; have GE191 := n3_; clear n0_ n1_ n2_ n3_; clear hb hbox hg; have hcz16_0 : w15.cell? ⟨gb191, 0, none⟩ = some (.string a0_0) := (bkc BK191.out 0).trans rfl; have hcz16_1 : w15.cell? ⟨gb191, 1, none⟩ = some (.int .i64 a0_1) := (bkc BK191.out 1).trans rfl; have hcz16_2 : w15.cell? ⟨gb191, 2, none⟩ = some (.int .i64 a0_2) := (bkc BK191.out 2).trans rfl; have hcz16_3 : w15.cell? ⟨gb191, 3, none⟩ = some (.int .i64 a0_3) := (bkc BK191.out 3).trans rfl; have hfz16_0 := bkf BK191.out 0; have hfz16_1 := bkf BK191.out 1; have hfz16_2 := bkf BK191.out 2; have hfz16_3 := bkf BK191.out 3) | ((with_reducible refine gce (f := 44) rfl ?_); refine goesL_ (some 5) rfl rfl Try.func44 (by kernel_rfl) rfl #[.string a0_0] rfl (by (try simp only [List.map_toArray, List.map_cons, List.map_nil]); first | done | rfl | (simp only [List.length_drop, List.length_take]; rfl)) ?_; (with_reducible refine (impl_IsName.calls k a0_0 false _ A2.out).mono ?_); rintro e w' ⟨rfl, ⟨nd, rfl⟩⟩; refine ⟨_, rfl, ?_⟩))
  go_ret
  exact ⟨by first | rfl | (simp [eWn, eWs] <;> rfl) | (simp [*, eWn, eWs] <;> rfl), by repeat (with_reducible first | exact HB.out | apply bal | apply pbN | apply bdw | refine bst ?_ GE191.out)⟩

end Go.Proofs.Ytnhkamfccoppbaa.QPriceOfLimit
