-- Written by press.py, a program of this session, round the kit's print.py (functions and contracts; Lean checks them).
import Derived.Test.YtnhkamfccoppbaaQCleanestMixx0
import Derived.Test.YtnhkamfccoppbaaQCleanestMixx2
import Derived.Test.YtnhkamfccoppbaaQCleanestMixx3
namespace Go.Proofs.Ytnhkamfccoppbaa.QCleanestMix
open Go.Proofs.Ytnhkamfccoppbaa.QWords
attribute [local go_sem high] binOp_string_geq_q binOp_string_leq_q binOp_string_gtr_q
open Go.RowKit Go.Proofs.YtnhkamfccoppbaaW.PrintWords Go.Proofs.YtnhkamfccoppbaaW.PrintLast Go.Proofs.YtnhkamfccoppbaaW.PrintMore
attribute [local go_sem] max2_int min2_int max_two min_two max_three min_three max_four min_four   -- for this text's walks alone
set_option linter.unusedVariables false
set_option linter.unusedSimpArgs false

/-! ### spec_CleanestMix: function 11 -/
mutual
def spec_CleanestMix.l0 : Nat → List (S46) → Int → List (List Int) → List Int → Int → Int → Option (List Int × Int × Int)
 | 0, _, _, _, _, _, _ => none
 | k + 1, x0, x1, x7, x8, x9, x10 => if x10 < (x0.length : Int) then (spec_CleanestMix.l1 k x0 x1 x7 x8 x9 x10 0) else (if 0 < (x7.length : Int) then (if 0 ≤ x1 then (if x1 < ((rd_L4 x7 0).length : Int) then (some (x8, rd (rd_L4 x7 0) x1, 0)) else (none)) else (none)) else (none))
def spec_CleanestMix.l1 : Nat → List (S46) → Int → List (List Int) → List Int → Int → Int → Int → Option (List Int × Int × Int)
 | 0, _, _, _, _, _, _, _ => none
 | k + 1, x0, x1, x7, x8, x9, x10, x11 => if 0 ≤ x10 then (if x10 < (x0.length : Int) then (if x11 ≤ ((rd_T46 x0 x10).f3) then (spec_CleanestMix.j2 k x0 x1 x7 x8 x9 x10 x11 (decide (x11 ≤ x9))) else (spec_CleanestMix.j2 k x0 x1 x7 x8 x9 x10 x11 false)) else (none)) else (none)
def spec_CleanestMix.j2 : Nat → List (S46) → Int → List (List Int) → List Int → Int → Int → Int → Bool → Option (List Int × Int × Int)
 | 0, _, _, _, _, _, _, _, _ => none
 | k + 1, x0, x1, x7, x8, x9, x10, x11, x48 => if x48 = true then (if 0 ≤ (wrap64 (x10 + 1)) then (if (wrap64 (x10 + 1)) < (x7.length : Int) then (if 0 ≤ (wrap64 (x9 - x11)) then (if (wrap64 (x9 - x11)) < ((rd_L4 x7 (wrap64 (x10 + 1))).length : Int) then (if (rd (rd_L4 x7 (wrap64 (x10 + 1))) (wrap64 (x9 - x11))) ≥ 0 then (if 0 ≤ x10 then (if x10 < (x0.length : Int) then (if x10 < (x7.length : Int) then (if 0 ≤ x9 then (if x9 < ((rd_L4 x7 x10).length : Int) then (if (wrap64 ((rd (rd_L4 x7 (wrap64 (x10 + 1))) (wrap64 (x9 - x11))) + (wrap64 (x11 * ((rd_T46 x0 x10).f1))))) = (rd (rd_L4 x7 x10) x9) then (if x8.length < 17592186044416 then (spec_CleanestMix.l0 k x0 x1 x7 (x8 ++ [x11]) (wrap64 (x9 - x11)) (wrap64 (x10 + 1))) else (none)) else (spec_CleanestMix.l1 k x0 x1 x7 x8 x9 x10 (wrap64 (x11 + 1)))) else (none)) else (none)) else (none)) else (none)) else (none)) else (spec_CleanestMix.l1 k x0 x1 x7 x8 x9 x10 (wrap64 (x11 + 1)))) else (none)) else (none)) else (none)) else (none)) else (spec_CleanestMix.l0 k x0 x1 x7 x8 x9 (wrap64 (x10 + 1)))
end
def spec_CleanestMix.f (k : Nat) (l0 : List (S46)) (a1 : Int) : Option (List Int × Int × Int) := (spec_l16Ok.f k l0).bind fun t160 => (if t160 = true then ((spec_l16Demand.f a1).bind fun t161 => (if t161 = true then ((spec_l16Table.f k l0 a1).bind fun t162 => (if 0 < (t162.length : Int) then (if 0 ≤ a1 then (if a1 < ((rd_L4 t162 0).length : Int) then (if (rd (rd_L4 t162 0) a1) < 0 then (some (([] : List Int), 0, 3)) else (spec_CleanestMix.l0 k l0 a1 t162 (([] : List Int)) a1 0)) else (none)) else (none)) else (none))) else (some (([] : List Int), 0, 2)))) else (some (([] : List Int), 0, 1)))
theorem spec_CleanestMix.mono_l : ∀ k, (∀ y0 y1 y2 y3 y4 y5, LeO (spec_CleanestMix.l0 k y0 y1 y2 y3 y4 y5) (spec_CleanestMix.l0 (k + 1) y0 y1 y2 y3 y4 y5)) ∧ (∀ y0 y1 y2 y3 y4 y5 y6, LeO (spec_CleanestMix.l1 k y0 y1 y2 y3 y4 y5 y6) (spec_CleanestMix.l1 (k + 1) y0 y1 y2 y3 y4 y5 y6)) ∧ (∀ y0 y1 y2 y3 y4 y5 y6 y7, LeO (spec_CleanestMix.j2 k y0 y1 y2 y3 y4 y5 y6 y7) (spec_CleanestMix.j2 (k + 1) y0 y1 y2 y3 y4 y5 y6 y7))
 | 0 => ⟨fun _ _ _ _ _ _ r h => by simp [spec_CleanestMix.l0] at h, fun _ _ _ _ _ _ _ r h => by simp [spec_CleanestMix.l1] at h, fun _ _ _ _ _ _ _ _ r h => by simp [spec_CleanestMix.j2] at h⟩
 | k + 1 => by
  obtain ⟨ih0, ih1, ih2⟩ := spec_CleanestMix.mono_l k
  refine ⟨?_, ?_, ?_⟩
  ·intro y0 y1 y2 y3 y4 y5
   unfold spec_CleanestMix.l0
   repeat' first
   | (with_reducible exact ih0 _ _ _ _ _ _)
   | (with_reducible exact ih1 _ _ _ _ _ _ _)
   | (with_reducible exact ih2 _ _ _ _ _ _ _ _)
   | (with_reducible exact spec_l16Ok.mono _ _)
   | (with_reducible exact spec_l16Table.mono _ _ _)
   | (with_reducible exact LeO.refl _)
   | (with_reducible exact LeO.none _)
   | (with_reducible refine LeO.ite ?_ ?_)
   | (with_reducible refine LeO.bind ?_ (fun _ => ?_))
   | exact ih0 _ _ _ _ _ _
   | exact ih1 _ _ _ _ _ _ _
   | exact ih2 _ _ _ _ _ _ _ _
   | exact spec_l16Ok.mono _ _
   | exact spec_l16Table.mono _ _ _
   | exact LeO.none _
   | refine LeO.ite ?_ ?_
   | refine LeO.bind ?_ (fun _ => ?_)
  ·intro y0 y1 y2 y3 y4 y5 y6
   unfold spec_CleanestMix.l1
   repeat' first
   | (with_reducible exact ih0 _ _ _ _ _ _)
   | (with_reducible exact ih1 _ _ _ _ _ _ _)
   | (with_reducible exact ih2 _ _ _ _ _ _ _ _)
   | (with_reducible exact spec_l16Ok.mono _ _)
   | (with_reducible exact spec_l16Table.mono _ _ _)
   | (with_reducible exact LeO.refl _)
   | (with_reducible exact LeO.none _)
   | (with_reducible refine LeO.ite ?_ ?_)
   | (with_reducible refine LeO.bind ?_ (fun _ => ?_))
   | exact ih0 _ _ _ _ _ _
   | exact ih1 _ _ _ _ _ _ _
   | exact ih2 _ _ _ _ _ _ _ _
   | exact spec_l16Ok.mono _ _
   | exact spec_l16Table.mono _ _ _
   | exact LeO.none _
   | refine LeO.ite ?_ ?_
   | refine LeO.bind ?_ (fun _ => ?_)
  ·intro y0 y1 y2 y3 y4 y5 y6 y7
   unfold spec_CleanestMix.j2
   repeat' first
   | (with_reducible exact ih0 _ _ _ _ _ _)
   | (with_reducible exact ih1 _ _ _ _ _ _ _)
   | (with_reducible exact ih2 _ _ _ _ _ _ _ _)
   | (with_reducible exact spec_l16Ok.mono _ _)
   | (with_reducible exact spec_l16Table.mono _ _ _)
   | (with_reducible exact LeO.refl _)
   | (with_reducible exact LeO.none _)
   | (with_reducible refine LeO.ite ?_ ?_)
   | (with_reducible refine LeO.bind ?_ (fun _ => ?_))
   | exact ih0 _ _ _ _ _ _
   | exact ih1 _ _ _ _ _ _ _
   | exact ih2 _ _ _ _ _ _ _ _
   | exact spec_l16Ok.mono _ _
   | exact spec_l16Table.mono _ _ _
   | exact LeO.none _
   | refine LeO.ite ?_ ?_
   | refine LeO.bind ?_ (fun _ => ?_)
theorem spec_CleanestMix.mono : ∀ a0 a1 k, LeO (spec_CleanestMix.f k a0 a1) (spec_CleanestMix.f (k + 1) a0 a1) := by
 intro a0 a1 k
 obtain ⟨ih0, ih1, ih2⟩ := spec_CleanestMix.mono_l k
 unfold spec_CleanestMix.f
 repeat' first
   | (with_reducible exact ih0 _ _ _ _ _ _)
   | (with_reducible exact ih1 _ _ _ _ _ _ _)
   | (with_reducible exact ih2 _ _ _ _ _ _ _ _)
   | (with_reducible exact spec_l16Ok.mono _ _)
   | (with_reducible exact spec_l16Table.mono _ _ _)
   | (with_reducible exact LeO.refl _)
   | (with_reducible exact LeO.none _)
   | (with_reducible refine LeO.ite ?_ ?_)
   | (with_reducible refine LeO.bind ?_ (fun _ => ?_))
   | exact ih0 _ _ _ _ _ _
   | exact ih1 _ _ _ _ _ _ _
   | exact ih2 _ _ _ _ _ _ _ _
   | exact spec_l16Ok.mono _ _
   | exact spec_l16Table.mono _ _ _
   | exact LeO.none _
   | refine LeO.ite ?_ ?_
   | refine LeO.bind ?_ (fun _ => ?_)
set_option maxHeartbeats 8000000 in
set_option maxRecDepth 100000 in
theorem spec_CleanestMix.calls (k : Nat) (A0 : Option Addr) (c0 : Nat) (l0 : List (S46)) (a1 : Int) (r1 : List Int) (r2 : Int) (r3 : Int) (w : World) (hr0 : Kd.C k46 w A0 l0.length l0) (hc0 : l0.length ≤ c0) (h : spec_CleanestMix.f k l0 a1 = some (r1, r2, r3)) :
  Calls Try.prog 11 #[.slice A0 l0.length c0, .int .i64 a1] w fun e w' => ∃ v0_ : Value, e = .returned (.tuple #[v0_, .int .i64 r2, .int .i64 r3]) ∧ Kd.R (Kd.int .i64) 2 w' w.heap.size (fun _ => True) v0_ r1 ∧ Below w.heap.size w w' := by
 have HR0 := As0.mk hr0
 have HC0 := As0.mk hc0
 clear hr0 hc0
 have HB := As0.mk (Below.refl w.heap.size w)
 have H : ((spec_l16Ok.f k l0).bind fun t160 => (if t160 = true then ((spec_l16Demand.f a1).bind fun t161 => (if t161 = true then ((spec_l16Table.f k l0 a1).bind fun t162 => (if 0 < (t162.length : Int) then (if 0 ≤ a1 then (if a1 < ((rd_L4 t162 0).length : Int) then (if (rd (rd_L4 t162 0) a1) < 0 then (some (([] : List Int), 0, 3)) else (spec_CleanestMix.l0 k l0 a1 t162 (([] : List Int)) a1 0)) else (none)) else (none)) else (none))) else (some (([] : List Int), 0, 2)))) else (some (([] : List Int), 0, 1)))) = some (r1, r2, r3) := h
 clear h
 replace H := Option.bind_eq_some_iff.mp H
 obtain ⟨t160, A30, H⟩ := H
 replace H : (if t160 = true then ((spec_l16Demand.f a1).bind fun t161 => (if t161 = true then ((spec_l16Table.f k l0 a1).bind fun t162 => (if 0 < (t162.length : Int) then (if 0 ≤ a1 then (if a1 < ((rd_L4 t162 0).length : Int) then (if (rd (rd_L4 t162 0) a1) < 0 then (some (([] : List Int), 0, 3)) else (spec_CleanestMix.l0 k l0 a1 t162 (([] : List Int)) a1 0)) else (none)) else (none)) else (none))) else (some (([] : List Int), 0, 2)))) else (some (([] : List Int), 0, 1))) = some (r1, r2, r3) := H
 have A3 := As0.mk A30
 clear A30
 by_cases c4 : t160 = true
 ·subst c4
  have H1 : ((spec_l16Demand.f a1).bind fun t161 => (if t161 = true then ((spec_l16Table.f k l0 a1).bind fun t162 => (if 0 < (t162.length : Int) then (if 0 ≤ a1 then (if a1 < ((rd_L4 t162 0).length : Int) then (if (rd (rd_L4 t162 0) a1) < 0 then (some (([] : List Int), 0, 3)) else (spec_CleanestMix.l0 k l0 a1 t162 (([] : List Int)) a1 0)) else (none)) else (none)) else (none))) else (some (([] : List Int), 0, 2)))) = some (r1, r2, r3) := by rw [if_pos rfl] at H; exact H
  clear H
  have H := H1
  clear H1
  replace H := Option.bind_eq_some_iff.mp H
  obtain ⟨t161, A50, H⟩ := H
  replace H : (if t161 = true then ((spec_l16Table.f k l0 a1).bind fun t162 => (if 0 < (t162.length : Int) then (if 0 ≤ a1 then (if a1 < ((rd_L4 t162 0).length : Int) then (if (rd (rd_L4 t162 0) a1) < 0 then (some (([] : List Int), 0, 3)) else (spec_CleanestMix.l0 k l0 a1 t162 (([] : List Int)) a1 0)) else (none)) else (none)) else (none))) else (some (([] : List Int), 0, 2))) = some (r1, r2, r3) := H
  have A5 := As0.mk A50
  clear A50
  by_cases c6 : t161 = true
  ·subst c6
   have H1 : ((spec_l16Table.f k l0 a1).bind fun t162 => (if 0 < (t162.length : Int) then (if 0 ≤ a1 then (if a1 < ((rd_L4 t162 0).length : Int) then (if (rd (rd_L4 t162 0) a1) < 0 then (some (([] : List Int), 0, 3)) else (spec_CleanestMix.l0 k l0 a1 t162 (([] : List Int)) a1 0)) else (none)) else (none)) else (none))) = some (r1, r2, r3) := by rw [if_pos rfl] at H; exact H
   clear H
   have H := H1
   clear H1
   replace H := Option.bind_eq_some_iff.mp H
   obtain ⟨t162, A70, H⟩ := H
   replace H : (if 0 < (t162.length : Int) then (if 0 ≤ a1 then (if a1 < ((rd_L4 t162 0).length : Int) then (if (rd (rd_L4 t162 0) a1) < 0 then (some (([] : List Int), 0, 3)) else (spec_CleanestMix.l0 k l0 a1 t162 (([] : List Int)) a1 0)) else (none)) else (none)) else (none)) = some (r1, r2, r3) := H
   have A7 := As0.mk A70
   clear A70
   by_cases c8 : 0 < (t162.length : Int)
   ·rw [if_pos c8] at H
    have c8b0 : decide (0 < (t162.length : Int)) = true := decide_eq_true c8
    have c8b1 : decide (0 < t162.length) = true := decide_eq_true (by omega)
    clear c8
    by_cases c9 : 0 ≤ a1
    ·rw [if_pos c9] at H
     have c9b0 : decide (0 ≤ a1) = true := decide_eq_true c9
     clear c9
     by_cases c10 : a1 < ((rd_L4 t162 0).length : Int)
     ·rw [if_pos c10] at H
      have c10b0 : decide (a1 < ((rd_L4 t162 0).length : Int)) = true := decide_eq_true c10
      clear c10
      by_cases c11 : (rd (rd_L4 t162 0) a1) < 0
      ·rw [if_pos c11] at H
       have c11b0 : decide ((rd (rd_L4 t162 0) a1) < 0) = true := decide_eq_true c11
       clear c11
       simp only [Option.some.injEq, Prod.mk.injEq] at H
       obtain ⟨rfl, rfl, rfl⟩ := H
       go_enter Try.func11, Try.ntmps11
       iterate 4 ((try go_wp2_with (first | (go_at_call 25; (first | (with_reducible refine (spec_l16Ok.calls k _ _ l0 true _ ?side1 ?side2 A3.out).mono ?_) | ((try simp only [Go.IntWalk.i64_left]); (with_reducible refine (spec_l16Ok.calls k _ _ l0 true _ ?side1 ?side2 A3.out).mono ?_))); (case side1 => repeat (first | exact HR0.out | (with_reducible refine Kd.C_alloc ?_ _) | (with_reducible refine Kd.C_drewN ?_ _) | (with_reducible refine Kd.C_drew ?_))); (case side2 => exact HC0.out); rintro e w' ⟨rfl, ⟨nd, rfl⟩⟩; (try first | exact ⟨rfl, _, World.drewN_drewN _ _ _⟩ | exact ⟨rfl, _, Eq.trans (World.drewN_drewN _ _ _) (congrArg (World.drewN _) (Nat.add_assoc _ _ _))⟩)) | (go_at_call 26; (first | (with_reducible refine (spec_l16Demand.calls a1 true _ A5.out).mono ?_) | ((try simp only [Go.IntWalk.i64_left]); (with_reducible refine (spec_l16Demand.calls a1 true _ A5.out).mono ?_))); rintro e w' ⟨rfl, ⟨nd, rfl⟩⟩; (try first | exact ⟨rfl, _, World.drewN_drewN _ _ _⟩ | exact ⟨rfl, _, Eq.trans (World.drewN_drewN _ _ _) (congrArg (World.drewN _) (Nat.add_assoc _ _ _))⟩)) | (go_at_call 27; (first | (with_reducible refine (spec_l16Table.calls k _ _ l0 a1 t162 _ ?side1 ?side2 A7.out).mono ?_) | ((try simp only [Go.IntWalk.i64_left]); (with_reducible refine (spec_l16Table.calls k _ _ l0 a1 t162 _ ?side1 ?side2 A7.out).mono ?_))); (case side1 => repeat (first | exact HR0.out | (with_reducible refine Kd.C_alloc ?_ _) | (with_reducible refine Kd.C_drewN ?_ _) | (with_reducible refine Kd.C_drew ?_))); (case side2 => exact HC0.out); rintro e w12 ⟨v163, rfl, ho0, hb⟩; have n0_ := As0.mk (Kd.N_lower (Kd.N_mono (ok' := fun k_ => True) ho0 (fun k_ hk_ => trivial)) (bsz (by repeat (with_reducible first | exact HB.out | apply bal | apply pbN | apply bdw)))); have n1_ := As0.mk (bsp (by repeat (with_reducible first | exact HB.out | apply bal | apply pbN | apply bdw)) hb); clear HB; have HO164 := n0_; have HB := n1_; clear n0_ n1_; (try clear hb); (try clear hb2); (try clear hk); (try clear hi); (try clear ho0); obtain ⟨Ao13, co13, eo13⟩ := Kd.N_slice HO164.out; subst eo13; have p165 : 0 ≤ (0 : Int) := (by omega); have q165 : 0 < (t162.length : Int) := of_decide_eq_true (by assumption); obtain ⟨ad165, A165_0, c165_0, e165, hx165_0, hl165_0, hi165_0⟩ := at_L4 (Kd.N_reads' HO164.out).2.2 0 p165 q165; cases e165; obtain ⟨ce165, hce165, hMe165, hcc165⟩ := Kd.N_get HO164.out [] 0 p165 (by first | exact q165 | exact of_decide_eq_true (by assumption) | (have e_ := (Kd.N_reads' HO164.out).1; omega)); obtain ⟨ua165_0, uc165_0, rfl, ul165_0, ge165_0⟩ := Kd.FK_slice_open hMe165; have hv165_0 := hcc165 0 _ rfl; rw [Nat.add_zero, show ((Kd.slice 2 (Kd.int .i64))).sz = 1 from rfl, Nat.mul_one] at hv165_0; replace hv165_0 := Option.some.inj (hv165_0.symm.trans hx165_0); injection hv165_0 with hva_ hvn_ hvc_; rw [hva_] at ge165_0; rw [hvc_] at ul165_0; have HL165_0 := As0.mk (show Kd.V (Kd.int .i64) 2 _ w.heap.size _ _ (rd_L4 t162 0) from Kd.V_mk ul165_0 ge165_0); clear hva_ hvn_ hvc_ ge165_0 ul165_0; clear hcc165 hce165; have qi165 : (0 < t162.length) = True := eq_true (by omega); (try rw [show ((0 : Int)).toNat = 0 from rfl] at hx165_0); (try rw [Addr.add_zero'] at hx165_0); have HR165_0 := As0.mk hi165_0; have HC165_0 := As0.mk hl165_0; clear hi165_0 hl165_0; replace p165 := eq_true p165; replace q165 := eq_true q165; have p166 : 0 ≤ (a1 : Int) := of_decide_eq_true (by assumption); have q166 : a1 < ((rd_L4 t162 0).length : Int) := of_decide_eq_true (by assumption); obtain ⟨ad166, e166, hx166_0⟩ := Kd.at_int (by repeat (first | (with_reducible exact HR165_0.out) | (with_reducible refine Kd.C_alloc ?_ _) | (with_reducible refine Kd.C_drewN ?_ _) | (with_reducible refine Kd.C_drew ?_) | exact HR165_0.out)) a1 p166 q166; cases e166; replace p166 := eq_true p166; replace q166 := eq_true q166))); (try go_quiet (fail)))
       go_ret3
       exact ⟨_, by first | rfl | (simp [eWn, eWs] <;> rfl) | (simp [*, eWn, eWs] <;> rfl), by first | exact Kd.R_nil _ _ _ _ _ | exact Kd.N_nil _ _ _ _ _ | exact Kd.V_nil _ _ _ _ _ | exact Kd.Q_nil _ _ _ _ _ | exact Kd.S_nil _ _ _ _ _, by repeat (with_reducible first | exact HB.out | apply bal | apply pbN | apply bdw)⟩
      ·rw [if_neg c11] at H
       have c11b0 : decide ((rd (rd_L4 t162 0) a1) < 0) = false := decide_eq_false c11
       clear c11
       obtain ⟨y167, hy167⟩ : ∃ y_ : List Int, y_ = (([] : List Int)) := ⟨_, rfl⟩
       replace H : (spec_CleanestMix.l0 k l0 a1 t162 y167 a1 0) = some (r1, r2, r3) := by first | (rw [hy167]; with_reducible exact H) | (have H2_ := (Option.bind_some _ _).symm.trans H; rw [hy167]; with_reducible exact H2_) | (have H2_ := (Option.bind_some _ _).symm.trans H; with_reducible exact H2_) | with_reducible exact H | (rw [hy167]; exact H) | exact H
       have Ny167 := As0.mk hy167
       clear hy167
       have H' := As0.mk H
       clear H
       go_enter Try.func11, Try.ntmps11
       iterate 4 ((try go_wp2_with (first | (go_at_call 25; (first | (with_reducible refine (spec_l16Ok.calls k _ _ l0 true _ ?side1 ?side2 A3.out).mono ?_) | ((try simp only [Go.IntWalk.i64_left]); (with_reducible refine (spec_l16Ok.calls k _ _ l0 true _ ?side1 ?side2 A3.out).mono ?_))); (case side1 => repeat (first | exact HR0.out | (with_reducible refine Kd.C_alloc ?_ _) | (with_reducible refine Kd.C_drewN ?_ _) | (with_reducible refine Kd.C_drew ?_))); (case side2 => exact HC0.out); rintro e w' ⟨rfl, ⟨nd, rfl⟩⟩; (try first | exact ⟨rfl, _, World.drewN_drewN _ _ _⟩ | exact ⟨rfl, _, Eq.trans (World.drewN_drewN _ _ _) (congrArg (World.drewN _) (Nat.add_assoc _ _ _))⟩)) | (go_at_call 26; (first | (with_reducible refine (spec_l16Demand.calls a1 true _ A5.out).mono ?_) | ((try simp only [Go.IntWalk.i64_left]); (with_reducible refine (spec_l16Demand.calls a1 true _ A5.out).mono ?_))); rintro e w' ⟨rfl, ⟨nd, rfl⟩⟩; (try first | exact ⟨rfl, _, World.drewN_drewN _ _ _⟩ | exact ⟨rfl, _, Eq.trans (World.drewN_drewN _ _ _) (congrArg (World.drewN _) (Nat.add_assoc _ _ _))⟩)) | (go_at_call 27; (first | (with_reducible refine (spec_l16Table.calls k _ _ l0 a1 t162 _ ?side1 ?side2 A7.out).mono ?_) | ((try simp only [Go.IntWalk.i64_left]); (with_reducible refine (spec_l16Table.calls k _ _ l0 a1 t162 _ ?side1 ?side2 A7.out).mono ?_))); (case side1 => repeat (first | exact HR0.out | (with_reducible refine Kd.C_alloc ?_ _) | (with_reducible refine Kd.C_drewN ?_ _) | (with_reducible refine Kd.C_drew ?_))); (case side2 => exact HC0.out); rintro e w14 ⟨v163, rfl, ho0, hb⟩; have n0_ := As0.mk (Kd.N_lower (Kd.N_mono (ok' := fun k_ => True) ho0 (fun k_ hk_ => trivial)) (bsz (by repeat (with_reducible first | exact HB.out | apply bal | apply pbN | apply bdw)))); have n1_ := As0.mk (bsp (by repeat (with_reducible first | exact HB.out | apply bal | apply pbN | apply bdw)) hb); clear HB; have HO164 := n0_; have HB := n1_; clear n0_ n1_; (try clear hb); (try clear hb2); (try clear hk); (try clear hi); (try clear ho0); obtain ⟨Ao15, co15, eo15⟩ := Kd.N_slice HO164.out; subst eo15; have p165 : 0 ≤ (0 : Int) := (by omega); have q165 : 0 < (t162.length : Int) := of_decide_eq_true (by assumption); obtain ⟨ad165, A165_0, c165_0, e165, hx165_0, hl165_0, hi165_0⟩ := at_L4 (Kd.N_reads' HO164.out).2.2 0 p165 q165; cases e165; obtain ⟨ce165, hce165, hMe165, hcc165⟩ := Kd.N_get HO164.out [] 0 p165 (by first | exact q165 | exact of_decide_eq_true (by assumption) | (have e_ := (Kd.N_reads' HO164.out).1; omega)); obtain ⟨ua165_0, uc165_0, rfl, ul165_0, ge165_0⟩ := Kd.FK_slice_open hMe165; have hv165_0 := hcc165 0 _ rfl; rw [Nat.add_zero, show ((Kd.slice 2 (Kd.int .i64))).sz = 1 from rfl, Nat.mul_one] at hv165_0; replace hv165_0 := Option.some.inj (hv165_0.symm.trans hx165_0); injection hv165_0 with hva_ hvn_ hvc_; rw [hva_] at ge165_0; rw [hvc_] at ul165_0; have HL165_0 := As0.mk (show Kd.V (Kd.int .i64) 2 _ w.heap.size _ _ (rd_L4 t162 0) from Kd.V_mk ul165_0 ge165_0); clear hva_ hvn_ hvc_ ge165_0 ul165_0; clear hcc165 hce165; have qi165 : (0 < t162.length) = True := eq_true (by omega); (try rw [show ((0 : Int)).toNat = 0 from rfl] at hx165_0); (try rw [Addr.add_zero'] at hx165_0); have HR165_0 := As0.mk hi165_0; have HC165_0 := As0.mk hl165_0; clear hi165_0 hl165_0; replace p165 := eq_true p165; replace q165 := eq_true q165; have p166 : 0 ≤ (a1 : Int) := of_decide_eq_true (by assumption); have q166 : a1 < ((rd_L4 t162 0).length : Int) := of_decide_eq_true (by assumption); obtain ⟨ad166, e166, hx166_0⟩ := Kd.at_int (by repeat (first | (with_reducible exact HR165_0.out) | (with_reducible refine Kd.C_alloc ?_ _) | (with_reducible refine Kd.C_drewN ?_ _) | (with_reducible refine Kd.C_drew ?_) | exact HR165_0.out)) a1 p166 q166; cases e166; replace p166 := eq_true p166; replace q166 := eq_true q166) | ((with_reducible refine gate_dst (N := 29) rfl ?_); refine Kd.R_lit (Kd.int .i64) _ 2 ?hg (N := 29) ?hd (xs := ([] : List Int)) (inner := []) (ok := fun _ => True) (okp := fun _ => True) ?hr ?hp (fun _ hk => hk) trivial (Below.refl _ _) (Nat.le_refl _) (by simp) ?_; (case hd => rfl); (case hg => rfl); (case hr => first | (go_simp; done) | (go_simp; rfl)); (case hp => exact (Reps.none _ _)); intro v168 w16 ho17 hb hg_ hnew_; clear hg_ hnew_; (first | rw [← Ny167.out] at ho17 | (simp only [Int.reduceToNat] at ho17; rw [← Ny167.out] at ho17)); have n0_ := As0.mk (Kd.N_elder' (by (with_reducible repeat (first | apply Kd.N_alloc | apply Kd.N_drewN | apply Kd.N_drew)); exact HO164.out) (Kd.R_base ho17) hb); have n1_ := As0.mk (Kd.V_elder' (by (with_reducible repeat (first | apply Kd.V_alloc | apply Kd.V_drewN | apply Kd.V_drew)); exact HL165_0.out) (Kd.R_base ho17) hb); have n2_ := As0.mk (Kd.R_lower ho17 (bsz (by repeat (with_reducible first | exact HB.out | apply bal | apply pbN | apply bdw)))); have n3_ := As0.mk (Kd.C_below (by repeat (first | (with_reducible exact HR165_0.out) | (with_reducible refine Kd.C_alloc ?_ _) | (with_reducible refine Kd.C_drewN ?_ _) | (with_reducible refine Kd.C_drew ?_) | exact HR165_0.out)) hb); have n4_ := As0.mk (bsp (by repeat (with_reducible first | exact HB.out | apply bal | apply pbN | apply bdw)) hb); clear HO164; clear HL165_0; clear HR165_0; clear HB; have HO164 := n0_; have HL165_0 := n1_; have HO169 := n2_; have HR165_0 := n3_; have HB := n4_; clear n0_ n1_ n2_ n3_ n4_; clear hb ho17))); (try go_quiet (fail)))
       go_loopg [8, 9, 10] k (fun kq v8 v9 v10 w' => ∃ (x8_1 : List Int) (x9_1 : Int) (x10_1 : Int), v9 = .int .i64 x9_1 ∧ v10 = .int .i64 x10_1 ∧ As0 (spec_CleanestMix.l0 kq l0 a1 t162 x8_1 x9_1 x10_1 = some (r1, r2, r3)) ∧ As0 (kq ≤ k) ∧ As0 (Kd.N (Kd.slice 2 (Kd.int .i64)) 30 w' w.heap.size (fun k_ => some k_ ≠ (v8 : Value).ownBlock) (.slice (some ad165) t162.length co15) t162) ∧ As0 (Kd.R (Kd.int .i64) 2 w' w.heap.size (fun _ => True) v8 x8_1) ∧ As0 (Below w.heap.size w w'))
       case atStart => exact ⟨(y167), (a1), (0), (by first | rfl | (simp; done) | (simp [*]; done)), (by first | rfl | (simp; done) | (simp [*]; done)), H', ⟨Nat.le_refl _⟩, ⟨by (with_reducible repeat (first | apply Kd.N_alloc | apply Kd.N_drewN | apply Kd.N_drew)); exact Kd.N_mono HO164.out (fun _ hk => hk.2)⟩, ⟨by (with_reducible repeat (first | apply Kd.R_alloc | apply Kd.R_drewN | apply Kd.R_drew)); exact HO169.out⟩, ⟨by repeat (with_reducible first | exact HB.out | apply bal | apply pbN | apply bdw)⟩⟩
       case round =>
        clear H'
        try clear c1
        try clear p1
        try clear q1
        try clear hx1
        try clear qi1
        try clear p2
        try clear c4
        try clear c6
        try clear c8
        try clear c8b0
        try clear c8b1
        try clear c9
        try clear c9b0
        try clear c10
        try clear c10b0
        try clear c11
        try clear c11b0
        try clear c16
        try clear p16
        try clear q16
        try clear hx16
        try clear qi16
        try clear hx165_0
        try clear hx166_0
        try clear p165
        try clear p166
        try clear q165
        try clear q166
        obtain ⟨x8_1, x9_1, x10_1, rfl, rfl, HA, HK1, HO_7, HO_8, HB⟩ := hrel
        cases gk with
        | zero => exact absurd HA.out (by simp [spec_CleanestMix.l0])
        | succ k1 =>
         have H := HA.out
         clear HA
         simp only [spec_CleanestMix.l0] at H
         by_cases c18 : x10_1 < (l0.length : Int)
         ·rw [if_pos c18] at H
          have c18b0 : decide (x10_1 < (l0.length : Int)) = true := decide_eq_true c18
          clear c18
          have H' := As0.mk H
          clear H
          go_wp2
          repeat (go_quiet (fail); try go_wp2)
          go_loopg [8, 9, 11] k1 (fun kq v8 v9 v11 w' => ∃ (x8_2 : List Int) (x9_2 : Int) (x11_2 : Int), v9 = .int .i64 x9_2 ∧ v11 = .int .i64 x11_2 ∧ As0 (spec_CleanestMix.l1 kq l0 a1 t162 x8_2 x9_2 x10_1 x11_2 = some (r1, r2, r3)) ∧ As0 (kq ≤ k1) ∧ As0 (Kd.N (Kd.slice 2 (Kd.int .i64)) 30 w' w.heap.size (fun k_ => some k_ ≠ (v8 : Value).ownBlock) (.slice (some ad165) t162.length co15) t162) ∧ As0 (Kd.R (Kd.int .i64) 2 w' w.heap.size (fun _ => True) v8 x8_2) ∧ As0 (Below w.heap.size w w'))
          case atStart => exact ⟨(x8_1), (x9_1), (0), (by first | rfl | (simp; done) | (simp [*]; done)), (by first | rfl | (simp; done) | (simp [*]; done)), H', ⟨Nat.le_refl _⟩, ⟨by (with_reducible repeat (first | apply Kd.N_alloc | apply Kd.N_drewN | apply Kd.N_drew)); exact HO_7.out⟩, ⟨by (with_reducible repeat (first | apply Kd.R_alloc | apply Kd.R_drewN | apply Kd.R_drew)); exact HO_8.out⟩, ⟨by repeat (with_reducible first | exact HB.out | apply bal | apply pbN | apply bdw)⟩⟩
          case round =>
           clear H'
           try clear c1
           try clear p1
           try clear q1
           try clear hx1
           try clear qi1
           try clear p2
           try clear c4
           try clear c6
           try clear c8
           try clear c8b0
           try clear c8b1
           try clear c9
           try clear c9b0
           try clear c10
           try clear c10b0
           try clear c11
           try clear c11b0
           try clear c16
           try clear p16
           try clear q16
           try clear hx16
           try clear qi16
           try clear c18
           try clear c18b0
           try clear hx165_0
           try clear hx166_0
           try clear p1
           try clear p16
           try clear p165
           try clear p166
           try clear p2
           try clear q1
           try clear q16
           try clear q165
           try clear q166
           obtain ⟨x8_2, x9_2, x11_2, rfl, rfl, HA, HK2, HO_7, HO_8, HB⟩ := hrel
           cases gk with
           | zero => exact absurd HA.out (by simp [spec_CleanestMix.l1])
           | succ k2 =>
            have H := HA.out
            clear HA
            simp only [spec_CleanestMix.l1] at H
            have HC19 := As0.mk H
            clear H
            go_upto_region 14 with (fail)
            repeat (go_quiet (fail); go_upto_region 14 with (fail))
            go_cut [48] (fun v48 wc => ∃ (kq : Nat) (x48_18 : Bool), v48 = .bool x48_18 ∧ As0 (spec_CleanestMix.j2 kq l0 a1 t162 x8_2 x9_2 x10_1 x11_2 x48_18 = some (r1, r2, r3)) ∧ As0 (kq ≤ k2) ∧ As0 (Kd.N (Kd.slice 2 (Kd.int .i64)) 30 wc w.heap.size (fun k_ => some k_ ≠ (u8 : Value).ownBlock) (.slice (some ad165) t162.length co15) t162) ∧ As0 (Kd.R (Kd.int .i64) 2 wc w.heap.size (fun _ => True) u8 x8_2) ∧ As0 (Below w.heap.size w wc))
            case first =>
             have H := HC19.out
             clear HC19
             by_cases c20 : 0 ≤ x10_1
             ·rw [if_pos c20] at H
              have c20b0 : decide (0 ≤ x10_1) = true := decide_eq_true c20
              clear c20
              (first | rw [c20b0] | (simp only [i64_w, i32_w]; rw [c20b0]) | skip)
              by_cases c21 : x10_1 < (l0.length : Int)
              ·rw [if_pos c21] at H
               have c21b0 : decide (x10_1 < (l0.length : Int)) = true := decide_eq_true c21
               clear c21
               by_cases c22 : x11_2 ≤ ((rd_T46 l0 x10_1).f3)
               ·rw [if_pos c22] at H
                have c22b0 : decide (x11_2 ≤ ((rd_T46 l0 x10_1).f3)) = true := decide_eq_true c22
                clear c22
                have H' := As0.mk H
                clear H
                have p172 : 0 ≤ (x10_1 : Int) := of_decide_eq_true (by assumption)
                have q172 : x10_1 < (l0.length : Int) := of_decide_eq_true (by assumption)
                obtain ⟨ad172, e172, hx172_0, hx172_1, hx172_2, hx172_3⟩ := at_T46 HR0.out x10_1 p172 q172
                cases e172
                replace hx172_0 := (HB.out.cell (blt w _ hx172_0)).trans hx172_0
                replace hx172_1 := (HB.out.cell (blt w _ hx172_1)).trans hx172_1
                replace hx172_2 := (HB.out.cell (blt w _ hx172_2)).trans hx172_2
                replace hx172_3 := (HB.out.cell (blt w _ hx172_3)).trans hx172_3
                replace p172 := eq_true p172
                replace q172 := eq_true q172
                go_wp2
                repeat (go_quiet (fail); try go_wp2)
                go_meet
                case rel => exact ⟨_, (decide (x11_2 ≤ x9_2)), (by first | rfl | (simp; done) | (simp [*]; done)), H', ⟨by have := HK1.out; have := HK2.out; first | omega | exact Nat.le_refl _⟩, ⟨by (with_reducible repeat (first | apply Kd.N_alloc | apply Kd.N_drewN | apply Kd.N_drew)); exact HO_7.out⟩, ⟨by (with_reducible repeat (first | apply Kd.R_alloc | apply Kd.R_drewN | apply Kd.R_drew)); exact HO_8.out⟩, ⟨by repeat (with_reducible first | exact HB.out | apply bal | apply pbN | apply bdw)⟩⟩
               ·rw [if_neg c22] at H
                have c22b0 : decide (x11_2 ≤ ((rd_T46 l0 x10_1).f3)) = false := decide_eq_false c22
                clear c22
                have H' := As0.mk H
                clear H
                have p172 : 0 ≤ (x10_1 : Int) := of_decide_eq_true (by assumption)
                have q172 : x10_1 < (l0.length : Int) := of_decide_eq_true (by assumption)
                obtain ⟨ad172, e172, hx172_0, hx172_1, hx172_2, hx172_3⟩ := at_T46 HR0.out x10_1 p172 q172
                cases e172
                replace hx172_0 := (HB.out.cell (blt w _ hx172_0)).trans hx172_0
                replace hx172_1 := (HB.out.cell (blt w _ hx172_1)).trans hx172_1
                replace hx172_2 := (HB.out.cell (blt w _ hx172_2)).trans hx172_2
                replace hx172_3 := (HB.out.cell (blt w _ hx172_3)).trans hx172_3
                replace p172 := eq_true p172
                replace q172 := eq_true q172
                go_wp2
                repeat (go_quiet (fail); try go_wp2)
                go_meet
                case rel => exact ⟨_, (false), (by first | rfl | (simp; done) | (simp [*]; done)), H', ⟨by have := HK1.out; have := HK2.out; first | omega | exact Nat.le_refl _⟩, ⟨by (with_reducible repeat (first | apply Kd.N_alloc | apply Kd.N_drewN | apply Kd.N_drew)); exact HO_7.out⟩, ⟨by (with_reducible repeat (first | apply Kd.R_alloc | apply Kd.R_drewN | apply Kd.R_drew)); exact HO_8.out⟩, ⟨by repeat (with_reducible first | exact HB.out | apply bal | apply pbN | apply bdw)⟩⟩
              ·rw [if_neg c21] at H
               exact absurd H (by simp)
             ·rw [if_neg c20] at H
              exact absurd H (by simp)
            case rest =>
             clear HC19
             try clear c1
             try clear p1
             try clear q1
             try clear hx1
             try clear qi1
             try clear c2
             try clear p2
             try clear c4
             try clear c6
             try clear c8
             try clear c8b0
             try clear c8b1
             try clear c9
             try clear c9b0
             try clear c10
             try clear c10b0
             try clear c11
             try clear c11b0
             try clear c16
             try clear p16
             try clear q16
             try clear hx16
             try clear qi16
             try clear p17
             try clear q17
             try clear hx17
             try clear c18
             try clear c18b0
             try clear c20
             try clear c20b0
             try clear c21
             try clear c21b0
             try clear c22
             try clear c22b0
             try clear hx165_0
             try clear hx166_0
             try clear hx172_0
             try clear hx172_1
             try clear hx172_2
             try clear hx172_3
             try clear p1
             try clear p16
             try clear p165
             try clear p166
             try clear p172
             try clear p2
             try clear q1
             try clear q16
             try clear q165
             try clear q166
             try clear q172
             obtain ⟨kq, x48_18, rfl, HA, HJ18, HO_7, HO_8, HB⟩ := hcut
             cases kq with
             | zero => exact absurd HA.out (by simp [spec_CleanestMix.j2])
             | succ kj18 =>
              have H := HA.out
              clear HA
              simp only [spec_CleanestMix.j2] at H
              by_cases c23 : x48_18 = true
              ·subst c23
               have H1 : (if 0 ≤ (wrap64 (x10_1 + 1)) then (if (wrap64 (x10_1 + 1)) < (t162.length : Int) then (if 0 ≤ (wrap64 (x9_2 - x11_2)) then (if (wrap64 (x9_2 - x11_2)) < ((rd_L4 t162 (wrap64 (x10_1 + 1))).length : Int) then (if (rd (rd_L4 t162 (wrap64 (x10_1 + 1))) (wrap64 (x9_2 - x11_2))) ≥ 0 then (if 0 ≤ x10_1 then (if x10_1 < (l0.length : Int) then (if x10_1 < (t162.length : Int) then (if 0 ≤ x9_2 then (if x9_2 < ((rd_L4 t162 x10_1).length : Int) then (if (wrap64 ((rd (rd_L4 t162 (wrap64 (x10_1 + 1))) (wrap64 (x9_2 - x11_2))) + (wrap64 (x11_2 * ((rd_T46 l0 x10_1).f1))))) = (rd (rd_L4 t162 x10_1) x9_2) then (if x8_2.length < 17592186044416 then (spec_CleanestMix.l0 kj18 l0 a1 t162 (x8_2 ++ [x11_2]) (wrap64 (x9_2 - x11_2)) (wrap64 (x10_1 + 1))) else (none)) else (spec_CleanestMix.l1 kj18 l0 a1 t162 x8_2 x9_2 x10_1 (wrap64 (x11_2 + 1)))) else (none)) else (none)) else (none)) else (none)) else (none)) else (spec_CleanestMix.l1 kj18 l0 a1 t162 x8_2 x9_2 x10_1 (wrap64 (x11_2 + 1)))) else (none)) else (none)) else (none)) else (none)) = some (r1, r2, r3) := by rw [if_pos rfl] at H; exact H
               clear H
               have H := H1
               clear H1
               obtain ⟨ji24, hji24⟩ : ∃ j_ : Int, (wrap64 (x10_1 + 1)) = j_ := ⟨_, rfl⟩
               replace H : (if 0 ≤ (ji24) then (if (ji24) < (t162.length : Int) then (if 0 ≤ (wrap64 (x9_2 - x11_2)) then (if (wrap64 (x9_2 - x11_2)) < ((rd_L4 t162 (ji24)).length : Int) then (if (rd (rd_L4 t162 (ji24)) (wrap64 (x9_2 - x11_2))) ≥ 0 then (if 0 ≤ x10_1 then (if x10_1 < (l0.length : Int) then (if x10_1 < (t162.length : Int) then (if 0 ≤ x9_2 then (if x9_2 < ((rd_L4 t162 x10_1).length : Int) then (if (wrap64 ((rd (rd_L4 t162 (ji24)) (wrap64 (x9_2 - x11_2))) + (wrap64 (x11_2 * ((rd_T46 l0 x10_1).f1))))) = (rd (rd_L4 t162 x10_1) x9_2) then (if x8_2.length < 17592186044416 then (spec_CleanestMix.l0 kj18 l0 a1 t162 (x8_2 ++ [x11_2]) (wrap64 (x9_2 - x11_2)) ji24) else (none)) else (spec_CleanestMix.l1 kj18 l0 a1 t162 x8_2 x9_2 x10_1 (wrap64 (x11_2 + 1)))) else (none)) else (none)) else (none)) else (none)) else (none)) else (spec_CleanestMix.l1 kj18 l0 a1 t162 x8_2 x9_2 x10_1 (wrap64 (x11_2 + 1)))) else (none)) else (none)) else (none)) else (none)) = some (r1, r2, r3) := by first | (rw [hji24] at H; exact H) | (simp only [hji24] at H ⊢; exact H)
               have hji24w : (IntKind.i64.wrap (x10_1 + 1)) = ji24 := (i64_w _).trans hji24
               by_cases c25 : 0 ≤ (ji24)
               ·rw [if_pos c25] at H
                have c25b0 : decide (0 ≤ (ji24)) = true := decide_eq_true c25
                clear c25
                by_cases c26 : (ji24) < (t162.length : Int)
                ·rw [if_pos c26] at H
                 have c26b0 : decide ((ji24) < (t162.length : Int)) = true := decide_eq_true c26
                 clear c26
                 obtain ⟨ji27, hji27⟩ : ∃ j_ : Int, (wrap64 (x9_2 - x11_2)) = j_ := ⟨_, rfl⟩
                 replace H : (if 0 ≤ (ji27) then (if (ji27) < ((rd_L4 t162 (ji24)).length : Int) then (if (rd (rd_L4 t162 (ji24)) (ji27)) ≥ 0 then (if 0 ≤ x10_1 then (if x10_1 < (l0.length : Int) then (if x10_1 < (t162.length : Int) then (if 0 ≤ x9_2 then (if x9_2 < ((rd_L4 t162 x10_1).length : Int) then (if (wrap64 ((rd (rd_L4 t162 (ji24)) (ji27)) + (wrap64 (x11_2 * ((rd_T46 l0 x10_1).f1))))) = (rd (rd_L4 t162 x10_1) x9_2) then (if x8_2.length < 17592186044416 then (spec_CleanestMix.l0 kj18 l0 a1 t162 (x8_2 ++ [x11_2]) ji27 ji24) else (none)) else (spec_CleanestMix.l1 kj18 l0 a1 t162 x8_2 x9_2 x10_1 (wrap64 (x11_2 + 1)))) else (none)) else (none)) else (none)) else (none)) else (none)) else (spec_CleanestMix.l1 kj18 l0 a1 t162 x8_2 x9_2 x10_1 (wrap64 (x11_2 + 1)))) else (none)) else (none)) = some (r1, r2, r3) := by first | (rw [hji27] at H; exact H) | (simp only [hji27] at H ⊢; exact H)
                 have hji27w : (IntKind.i64.wrap (x9_2 - x11_2)) = ji27 := (i64_w _).trans hji27
                 by_cases c28 : 0 ≤ (ji27)
                 ·rw [if_pos c28] at H
                  have c28b0 : decide (0 ≤ (ji27)) = true := decide_eq_true c28
                  clear c28
                  by_cases c29 : (ji27) < ((rd_L4 t162 (ji24)).length : Int)
                  ·rw [if_pos c29] at H
                   have c29b0 : decide ((ji27) < ((rd_L4 t162 (ji24)).length : Int)) = true := decide_eq_true c29
                   clear c29
                   by_cases c30 : (rd (rd_L4 t162 (ji24)) (ji27)) ≥ 0
                   ·rw [if_pos c30] at H
                    have c30b0 : decide (0 ≤ (rd (rd_L4 t162 (ji24)) (ji27))) = true := decide_eq_true c30
                    clear c30
                    by_cases c31 : 0 ≤ x10_1
                    ·rw [if_pos c31] at H
                     have c31b0 : decide (0 ≤ x10_1) = true := decide_eq_true c31
                     clear c31
                     by_cases c32 : x10_1 < (l0.length : Int)
                     ·rw [if_pos c32] at H
                      have c32b0 : decide (x10_1 < (l0.length : Int)) = true := decide_eq_true c32
                      clear c32
                      by_cases c33 : x10_1 < (t162.length : Int)
                      ·rw [if_pos c33] at H
                       have c33b0 : decide (x10_1 < (t162.length : Int)) = true := decide_eq_true c33
                       clear c33
                       by_cases c34 : 0 ≤ x9_2
                       ·rw [if_pos c34] at H
                        have c34b0 : decide (0 ≤ x9_2) = true := decide_eq_true c34
                        clear c34
                        by_cases c35 : x9_2 < ((rd_L4 t162 x10_1).length : Int)
                        ·rw [if_pos c35] at H
                         have c35b0 : decide (x9_2 < ((rd_L4 t162 x10_1).length : Int)) = true := decide_eq_true c35
                         clear c35
                         by_cases c36 : (wrap64 ((rd (rd_L4 t162 (ji24)) (ji27)) + (wrap64 (x11_2 * ((rd_T46 l0 x10_1).f1))))) = (rd (rd_L4 t162 x10_1) x9_2)
                         ·rw [if_pos c36] at H
                          have c36b0 : ((wrap64 ((rd (rd_L4 t162 (ji24)) (ji27)) + (wrap64 (x11_2 * ((rd_T46 l0 x10_1).f1))))) == (rd (rd_L4 t162 x10_1) x9_2)) = true := beq_iff_eq.mpr c36
                          have c36b1 : ((wrap64 ((rd (rd_L4 t162 (ji24)) (ji27)) + (wrap64 (x11_2 * ((rd_T46 l0 x10_1).f1))))) != (rd (rd_L4 t162 x10_1) x9_2)) = false := bne_eq_false_iff_eq.mpr c36
                          clear c36
                          by_cases c37 : x8_2.length < 17592186044416
                          ·rw [if_pos c37] at H
                           have LMc37 := As0.mk c37
                           clear c37
                           obtain ⟨y178, hy178⟩ : ∃ y_ : List Int, y_ = (x8_2 ++ [x11_2]) := ⟨_, rfl⟩
                           replace H : (spec_CleanestMix.l0 kj18 l0 a1 t162 y178 ji27 ji24) = some (r1, r2, r3) := by first | (rw [hy178]; with_reducible exact H) | (have H2_ := (Option.bind_some _ _).symm.trans H; rw [hy178]; with_reducible exact H2_) | (have H2_ := (Option.bind_some _ _).symm.trans H; with_reducible exact H2_) | with_reducible exact H | (rw [hy178]; exact H) | exact H
                           have Ny178 := As0.mk hy178
                           clear hy178
                           have H' := As0.mk H
                           clear H
                           have p173 : 0 ≤ ((ji24) : Int) := of_decide_eq_true (by assumption)
                           have q173 : (ji24) < (t162.length : Int) := of_decide_eq_true (by assumption)
                           obtain ⟨ad173, A173_0, c173_0, e173, hx173_0, hl173_0, hi173_0⟩ := at_L4 (Kd.N_reads' HO_7.out).2.2 (ji24) p173 q173
                           obtain rfl : ad165 = ad173 := (by injection e173)
                           obtain ⟨ce173, hce173, hMe173, hcc173⟩ := Kd.N_get HO_7.out [] (ji24) p173 (by first | exact q173 | exact of_decide_eq_true (by assumption) | (have e_ := (Kd.N_reads' HO_7.out).1; omega))
                           obtain ⟨ua173_0, uc173_0, rfl, ul173_0, ge173_0⟩ := Kd.FK_slice_open hMe173
                           have hv173_0 := hcc173 0 _ rfl
                           rw [Nat.add_zero, show ((Kd.slice 2 (Kd.int .i64))).sz = 1 from rfl, Nat.mul_one] at hv173_0
                           replace hv173_0 := Option.some.inj (hv173_0.symm.trans hx173_0)
                           injection hv173_0 with hva_ hvn_ hvc_
                           rw [hva_] at ge173_0
                           rw [hvc_] at ul173_0
                           have HL173_0 := As0.mk (show Kd.V (Kd.int .i64) 2 _ w.heap.size _ _ (rd_L4 t162 (ji24)) from Kd.V_mk ul173_0 ge173_0)
                           clear hva_ hvn_ hvc_ ge173_0 ul173_0
                           clear hcc173 hce173
                           have HR173_0 := As0.mk hi173_0
                           have HC173_0 := As0.mk hl173_0
                           clear hi173_0 hl173_0
                           replace p173 := eq_true p173
                           replace q173 := eq_true q173
                           have p174 : 0 ≤ ((ji27) : Int) := of_decide_eq_true (by assumption)
                           have q174 : (ji27) < ((rd_L4 t162 (ji24)).length : Int) := of_decide_eq_true (by assumption)
                           obtain ⟨ad174, e174, hx174_0⟩ := Kd.at_int (by repeat (first | (with_reducible exact HR173_0.out) | (with_reducible refine Kd.C_alloc ?_ _) | (with_reducible refine Kd.C_drewN ?_ _) | (with_reducible refine Kd.C_drew ?_) | exact HR173_0.out)) (ji27) p174 q174
                           cases e174
                           replace p174 := eq_true p174
                           replace q174 := eq_true q174
                           have p175 : 0 ≤ (x10_1 : Int) := of_decide_eq_true (by assumption)
                           have q175 : x10_1 < (l0.length : Int) := of_decide_eq_true (by assumption)
                           obtain ⟨ad175, e175, hx175_0, hx175_1, hx175_2, hx175_3⟩ := at_T46 HR0.out x10_1 p175 q175
                           cases e175
                           replace hx175_0 := (HB.out.cell (blt w _ hx175_0)).trans hx175_0
                           replace hx175_1 := (HB.out.cell (blt w _ hx175_1)).trans hx175_1
                           replace hx175_2 := (HB.out.cell (blt w _ hx175_2)).trans hx175_2
                           replace hx175_3 := (HB.out.cell (blt w _ hx175_3)).trans hx175_3
                           replace p175 := eq_true p175
                           replace q175 := eq_true q175
                           have p176 : 0 ≤ (x10_1 : Int) := of_decide_eq_true (by assumption)
                           have q176 : x10_1 < (t162.length : Int) := of_decide_eq_true (by assumption)
                           obtain ⟨ad176, A176_0, c176_0, e176, hx176_0, hl176_0, hi176_0⟩ := at_L4 (Kd.N_reads' HO_7.out).2.2 x10_1 p176 q176
                           obtain rfl : ad165 = ad176 := (by injection e176)
                           obtain ⟨ce176, hce176, hMe176, hcc176⟩ := Kd.N_get HO_7.out [] x10_1 p176 (by first | exact q176 | exact of_decide_eq_true (by assumption) | (have e_ := (Kd.N_reads' HO_7.out).1; omega))
                           obtain ⟨ua176_0, uc176_0, rfl, ul176_0, ge176_0⟩ := Kd.FK_slice_open hMe176
                           have hv176_0 := hcc176 0 _ rfl
                           rw [Nat.add_zero, show ((Kd.slice 2 (Kd.int .i64))).sz = 1 from rfl, Nat.mul_one] at hv176_0
                           replace hv176_0 := Option.some.inj (hv176_0.symm.trans hx176_0)
                           injection hv176_0 with hva_ hvn_ hvc_
                           rw [hva_] at ge176_0
                           rw [hvc_] at ul176_0
                           have HL176_0 := As0.mk (show Kd.V (Kd.int .i64) 2 _ w.heap.size _ _ (rd_L4 t162 x10_1) from Kd.V_mk ul176_0 ge176_0)
                           clear hva_ hvn_ hvc_ ge176_0 ul176_0
                           clear hcc176 hce176
                           have HR176_0 := As0.mk hi176_0
                           have HC176_0 := As0.mk hl176_0
                           clear hi176_0 hl176_0
                           replace p176 := eq_true p176
                           replace q176 := eq_true q176
                           have p177 : 0 ≤ (x9_2 : Int) := of_decide_eq_true (by assumption)
                           have q177 : x9_2 < ((rd_L4 t162 x10_1).length : Int) := of_decide_eq_true (by assumption)
                           obtain ⟨ad177, e177, hx177_0⟩ := Kd.at_int (by repeat (first | (with_reducible exact HR176_0.out) | (with_reducible refine Kd.C_alloc ?_ _) | (with_reducible refine Kd.C_drewN ?_ _) | (with_reducible refine Kd.C_drew ?_) | exact HR176_0.out)) x9_2 p177 q177
                           cases e177
                           replace p177 := eq_true p177
                           replace q177 := eq_true q177
                           iterate 4 ((try go_wp2_with (first | ((with_reducible refine gbu (b := .append) (xs := #[.tmp 82, .tmp 84]) rfl ?_); at_builtin; refine Kd.R_append (Kd.int .i64) (w0 := w) w.heap.size rfl (.tmp 82) (.tmp 84) 30 2 (.int .i64 0) 8 rfl Try.underlying30 info2 rfl (by decide) (by omega) u8 x8_2 x11_2 [.int .i64 x11_2] (fun _ => True) (fun _ => False) rfl rfl ?aP (fun _ hk => hk.elim) ?aF ?aO ?aB ?aS ?aL ?_; (case aP => exact rfl); (case aB => exact (by repeat (with_reducible first | exact HB.out | apply bal | apply pbN | apply bdw))); (case aF => exact (fun _ _ => trivial)); (case aO => exact (by (with_reducible repeat (first | apply Kd.R_alloc | apply Kd.R_drewN | apply Kd.R_drew)); exact HO_8.out)); (case aS => exact (bsz (by repeat (with_reducible first | exact HB.out | apply bal | apply pbN | apply bdw)))); (case aL => have := LMc37.out; omega); intro v179 w38 ho hb hg hat; rw [← Ny178.out] at ho; have n0_ := As0.mk (Kd.N_afterv (ok := (fun _ => True)) (by (with_reducible repeat (first | apply Kd.N_alloc | apply Kd.N_drewN | apply Kd.N_drew)); exact Kd.N_mono HO_7.out (fun _ hk => ⟨trivial, hk⟩)) hg hat); have n1_ := As0.mk (Kd.V_afterv (ok := (fun k_ => some k_ ≠ (.slice (some ad165) t162.length co15 : Value).ownBlock)) (by (with_reducible repeat (first | apply Kd.V_alloc | apply Kd.V_drewN | apply Kd.V_drew)); exact Kd.V_mono HL173_0.out (fun _ hk => ⟨hk.2, hk.1⟩)) hg hat); have n2_ := As0.mk (Kd.V_afterv (ok := (fun k_ => some k_ ≠ (.slice (some ad165) t162.length co15 : Value).ownBlock)) (by (with_reducible repeat (first | apply Kd.V_alloc | apply Kd.V_drewN | apply Kd.V_drew)); exact Kd.V_mono HL176_0.out (fun _ hk => ⟨hk.2, hk.1⟩)) hg hat); have n3_ := As0.mk (hb); have n4_ := As0.mk (ho); clear HO_7; clear HL173_0; clear HL176_0; clear HB; clear HO_8; have HO_7 := n0_; have HL173_0 := n1_; have HL176_0 := n2_; have HB := n3_; have HO180 := n4_; clear n0_ n1_ n2_ n3_ n4_; clear ho hb hg hat))); (try go_quiet (fail)))
                           go_roundg kj18
                           case measure => have := HK1.out; have := HK2.out; have := HJ18.out; omega
                           case rel => exact ⟨(y178), (ji27), (ji24), (by first | rfl | (simp; done) | (simp only [← hji27] <;> (first | rfl | simp)) | (simp [*]; done)), (by first | rfl | (simp; done) | (simp only [← hji24] <;> (first | rfl | simp)) | (simp [*]; done)), H', ⟨by have := HK1.out; have := HK2.out; have := HJ18.out; omega⟩, ⟨by (with_reducible repeat (first | apply Kd.N_alloc | apply Kd.N_drewN | apply Kd.N_drew)); exact Kd.N_mono HO_7.out (fun _ hk => hk.2)⟩, ⟨by (with_reducible repeat (first | apply Kd.R_alloc | apply Kd.R_drewN | apply Kd.R_drew)); exact HO180.out⟩, ⟨by repeat (with_reducible first | exact HB.out | apply bal | apply pbN | apply bdw)⟩⟩
                          ·rw [if_neg c37] at H
                           exact absurd H (by simp)
                         ·rw [if_neg c36] at H
                          have c36b0 : ((wrap64 ((rd (rd_L4 t162 (ji24)) (ji27)) + (wrap64 (x11_2 * ((rd_T46 l0 x10_1).f1))))) == (rd (rd_L4 t162 x10_1) x9_2)) = false := beq_eq_false_iff_ne.mpr c36
                          have c36b1 : ((wrap64 ((rd (rd_L4 t162 (ji24)) (ji27)) + (wrap64 (x11_2 * ((rd_T46 l0 x10_1).f1))))) != (rd (rd_L4 t162 x10_1) x9_2)) = true := bne_iff_ne.mpr c36
                          have H' := As0.mk H
                          clear H
                          have p173 : 0 ≤ ((ji24) : Int) := of_decide_eq_true (by assumption)
                          have q173 : (ji24) < (t162.length : Int) := of_decide_eq_true (by assumption)
                          obtain ⟨ad173, A173_0, c173_0, e173, hx173_0, hl173_0, hi173_0⟩ := at_L4 (Kd.N_reads' HO_7.out).2.2 (ji24) p173 q173
                          obtain rfl : ad165 = ad173 := (by injection e173)
                          obtain ⟨ce173, hce173, hMe173, hcc173⟩ := Kd.N_get HO_7.out [] (ji24) p173 (by first | exact q173 | exact of_decide_eq_true (by assumption) | (have e_ := (Kd.N_reads' HO_7.out).1; omega))
                          obtain ⟨ua173_0, uc173_0, rfl, ul173_0, ge173_0⟩ := Kd.FK_slice_open hMe173
                          have hv173_0 := hcc173 0 _ rfl
                          rw [Nat.add_zero, show ((Kd.slice 2 (Kd.int .i64))).sz = 1 from rfl, Nat.mul_one] at hv173_0
                          replace hv173_0 := Option.some.inj (hv173_0.symm.trans hx173_0)
                          injection hv173_0 with hva_ hvn_ hvc_
                          rw [hva_] at ge173_0
                          rw [hvc_] at ul173_0
                          have HL173_0 := As0.mk (show Kd.V (Kd.int .i64) 2 _ w.heap.size _ _ (rd_L4 t162 (ji24)) from Kd.V_mk ul173_0 ge173_0)
                          clear hva_ hvn_ hvc_ ge173_0 ul173_0
                          clear hcc173 hce173
                          have HR173_0 := As0.mk hi173_0
                          have HC173_0 := As0.mk hl173_0
                          clear hi173_0 hl173_0
                          replace p173 := eq_true p173
                          replace q173 := eq_true q173
                          have p174 : 0 ≤ ((ji27) : Int) := of_decide_eq_true (by assumption)
                          have q174 : (ji27) < ((rd_L4 t162 (ji24)).length : Int) := of_decide_eq_true (by assumption)
                          obtain ⟨ad174, e174, hx174_0⟩ := Kd.at_int (by repeat (first | (with_reducible exact HR173_0.out) | (with_reducible refine Kd.C_alloc ?_ _) | (with_reducible refine Kd.C_drewN ?_ _) | (with_reducible refine Kd.C_drew ?_) | exact HR173_0.out)) (ji27) p174 q174
                          cases e174
                          replace p174 := eq_true p174
                          replace q174 := eq_true q174
                          have p175 : 0 ≤ (x10_1 : Int) := of_decide_eq_true (by assumption)
                          have q175 : x10_1 < (l0.length : Int) := of_decide_eq_true (by assumption)
                          obtain ⟨ad175, e175, hx175_0, hx175_1, hx175_2, hx175_3⟩ := at_T46 HR0.out x10_1 p175 q175
                          cases e175
                          replace hx175_0 := (HB.out.cell (blt w _ hx175_0)).trans hx175_0
                          replace hx175_1 := (HB.out.cell (blt w _ hx175_1)).trans hx175_1
                          replace hx175_2 := (HB.out.cell (blt w _ hx175_2)).trans hx175_2
                          replace hx175_3 := (HB.out.cell (blt w _ hx175_3)).trans hx175_3
                          replace p175 := eq_true p175
                          replace q175 := eq_true q175
                          have p176 : 0 ≤ (x10_1 : Int) := of_decide_eq_true (by assumption)
                          have q176 : x10_1 < (t162.length : Int) := of_decide_eq_true (by assumption)
                          obtain ⟨ad176, A176_0, c176_0, e176, hx176_0, hl176_0, hi176_0⟩ := at_L4 (Kd.N_reads' HO_7.out).2.2 x10_1 p176 q176
                          obtain rfl : ad165 = ad176 := (by injection e176)
                          obtain ⟨ce176, hce176, hMe176, hcc176⟩ := Kd.N_get HO_7.out [] x10_1 p176 (by first | exact q176 | exact of_decide_eq_true (by assumption) | (have e_ := (Kd.N_reads' HO_7.out).1; omega))
                          obtain ⟨ua176_0, uc176_0, rfl, ul176_0, ge176_0⟩ := Kd.FK_slice_open hMe176
                          have hv176_0 := hcc176 0 _ rfl
                          rw [Nat.add_zero, show ((Kd.slice 2 (Kd.int .i64))).sz = 1 from rfl, Nat.mul_one] at hv176_0
                          replace hv176_0 := Option.some.inj (hv176_0.symm.trans hx176_0)
                          injection hv176_0 with hva_ hvn_ hvc_
                          rw [hva_] at ge176_0
                          rw [hvc_] at ul176_0
                          have HL176_0 := As0.mk (show Kd.V (Kd.int .i64) 2 _ w.heap.size _ _ (rd_L4 t162 x10_1) from Kd.V_mk ul176_0 ge176_0)
                          clear hva_ hvn_ hvc_ ge176_0 ul176_0
                          clear hcc176 hce176
                          have HR176_0 := As0.mk hi176_0
                          have HC176_0 := As0.mk hl176_0
                          clear hi176_0 hl176_0
                          replace p176 := eq_true p176
                          replace q176 := eq_true q176
                          have p177 : 0 ≤ (x9_2 : Int) := of_decide_eq_true (by assumption)
                          have q177 : x9_2 < ((rd_L4 t162 x10_1).length : Int) := of_decide_eq_true (by assumption)
                          obtain ⟨ad177, e177, hx177_0⟩ := Kd.at_int (by repeat (first | (with_reducible exact HR176_0.out) | (with_reducible refine Kd.C_alloc ?_ _) | (with_reducible refine Kd.C_drewN ?_ _) | (with_reducible refine Kd.C_drew ?_) | exact HR176_0.out)) x9_2 p177 q177
                          cases e177
                          replace p177 := eq_true p177
                          replace q177 := eq_true q177
                          go_wp2
                          repeat (go_quiet (fail); try go_wp2)
                          go_roundg kj18
                          case measure => have := HK1.out; have := HK2.out; have := HJ18.out; omega
                          case rel => exact ⟨(x8_2), (x9_2), (wrap64 (x11_2 + 1)), (by first | rfl | (simp; done) | (simp [*]; done)), (by first | rfl | (simp; done) | (simp [*]; done)), H', ⟨by have := HK1.out; have := HK2.out; have := HJ18.out; omega⟩, ⟨by (with_reducible repeat (first | apply Kd.N_alloc | apply Kd.N_drewN | apply Kd.N_drew)); exact HO_7.out⟩, ⟨by (with_reducible repeat (first | apply Kd.R_alloc | apply Kd.R_drewN | apply Kd.R_drew)); exact HO_8.out⟩, ⟨by repeat (with_reducible first | exact HB.out | apply bal | apply pbN | apply bdw)⟩⟩
                        ·rw [if_neg c35] at H
                         exact absurd H (by simp)
                       ·rw [if_neg c34] at H
                        exact absurd H (by simp)
                      ·rw [if_neg c33] at H
                       exact absurd H (by simp)
                     ·rw [if_neg c32] at H
                      exact absurd H (by simp)
                    ·rw [if_neg c31] at H
                     exact absurd H (by simp)
                   ·rw [if_neg c30] at H
                    have c30b0 : decide (0 ≤ (rd (rd_L4 t162 (ji24)) (ji27))) = false := decide_eq_false c30
                    clear c30
                    have H' := As0.mk H
                    clear H
                    have p173 : 0 ≤ ((ji24) : Int) := of_decide_eq_true (by assumption)
                    have q173 : (ji24) < (t162.length : Int) := of_decide_eq_true (by assumption)
                    obtain ⟨ad173, A173_0, c173_0, e173, hx173_0, hl173_0, hi173_0⟩ := at_L4 (Kd.N_reads' HO_7.out).2.2 (ji24) p173 q173
                    obtain rfl : ad165 = ad173 := (by injection e173)
                    obtain ⟨ce173, hce173, hMe173, hcc173⟩ := Kd.N_get HO_7.out [] (ji24) p173 (by first | exact q173 | exact of_decide_eq_true (by assumption) | (have e_ := (Kd.N_reads' HO_7.out).1; omega))
                    obtain ⟨ua173_0, uc173_0, rfl, ul173_0, ge173_0⟩ := Kd.FK_slice_open hMe173
                    have hv173_0 := hcc173 0 _ rfl
                    rw [Nat.add_zero, show ((Kd.slice 2 (Kd.int .i64))).sz = 1 from rfl, Nat.mul_one] at hv173_0
                    replace hv173_0 := Option.some.inj (hv173_0.symm.trans hx173_0)
                    injection hv173_0 with hva_ hvn_ hvc_
                    rw [hva_] at ge173_0
                    rw [hvc_] at ul173_0
                    have HL173_0 := As0.mk (show Kd.V (Kd.int .i64) 2 _ w.heap.size _ _ (rd_L4 t162 (ji24)) from Kd.V_mk ul173_0 ge173_0)
                    clear hva_ hvn_ hvc_ ge173_0 ul173_0
                    clear hcc173 hce173
                    have HR173_0 := As0.mk hi173_0
                    have HC173_0 := As0.mk hl173_0
                    clear hi173_0 hl173_0
                    replace p173 := eq_true p173
                    replace q173 := eq_true q173
                    have p174 : 0 ≤ ((ji27) : Int) := of_decide_eq_true (by assumption)
                    have q174 : (ji27) < ((rd_L4 t162 (ji24)).length : Int) := of_decide_eq_true (by assumption)
                    obtain ⟨ad174, e174, hx174_0⟩ := Kd.at_int (by repeat (first | (with_reducible exact HR173_0.out) | (with_reducible refine Kd.C_alloc ?_ _) | (with_reducible refine Kd.C_drewN ?_ _) | (with_reducible refine Kd.C_drew ?_) | exact HR173_0.out)) (ji27) p174 q174
                    cases e174
                    replace p174 := eq_true p174
                    replace q174 := eq_true q174
                    go_wp2
                    repeat (go_quiet (fail); try go_wp2)
                    go_roundg kj18
                    case measure => have := HK1.out; have := HK2.out; have := HJ18.out; omega
                    case rel => exact ⟨(x8_2), (x9_2), (wrap64 (x11_2 + 1)), (by first | rfl | (simp; done) | (simp [*]; done)), (by first | rfl | (simp; done) | (simp [*]; done)), H', ⟨by have := HK1.out; have := HK2.out; have := HJ18.out; omega⟩, ⟨by (with_reducible repeat (first | apply Kd.N_alloc | apply Kd.N_drewN | apply Kd.N_drew)); exact HO_7.out⟩, ⟨by (with_reducible repeat (first | apply Kd.R_alloc | apply Kd.R_drewN | apply Kd.R_drew)); exact HO_8.out⟩, ⟨by repeat (with_reducible first | exact HB.out | apply bal | apply pbN | apply bdw)⟩⟩
                  ·rw [if_neg c29] at H
                   exact absurd H (by simp)
                 ·rw [if_neg c28] at H
                  exact absurd H (by simp)
                ·rw [if_neg c26] at H
                 exact absurd H (by simp)
               ·rw [if_neg c25] at H
                exact absurd H (by simp)
              ·replace c23 := Bool.eq_false_iff.mpr c23
               subst c23
               have H1 : (spec_CleanestMix.l0 kj18 l0 a1 t162 x8_2 x9_2 (wrap64 (x10_1 + 1))) = some (r1, r2, r3) := by rw [if_neg (show ¬ (false = true) by decide)] at H; exact H
               clear H
               have H := H1
               clear H1
               have H' := As0.mk H
               clear H
               go_wp2
               repeat (go_quiet (fail); try go_wp2)
               go_roundg kj18
               case measure => have := HK1.out; have := HK2.out; have := HJ18.out; omega
               case rel => exact ⟨(x8_2), (x9_2), (wrap64 (x10_1 + 1)), (by first | rfl | (simp; done) | (simp [*]; done)), (by first | rfl | (simp; done) | (simp [*]; done)), H', ⟨by have := HK1.out; have := HK2.out; have := HJ18.out; omega⟩, ⟨by (with_reducible repeat (first | apply Kd.N_alloc | apply Kd.N_drewN | apply Kd.N_drew)); exact HO_7.out⟩, ⟨by (with_reducible repeat (first | apply Kd.R_alloc | apply Kd.R_drewN | apply Kd.R_drew)); exact HO_8.out⟩, ⟨by repeat (with_reducible first | exact HB.out | apply bal | apply pbN | apply bdw)⟩⟩
         ·rw [if_neg c18] at H
          have c18b0 : decide (x10_1 < (l0.length : Int)) = false := decide_eq_false c18
          clear c18
          by_cases c39 : 0 < (t162.length : Int)
          ·rw [if_pos c39] at H
           have c39b0 : decide (0 < (t162.length : Int)) = true := decide_eq_true c39
           have c39b1 : decide (0 < t162.length) = true := decide_eq_true (by omega)
           clear c39
           by_cases c40 : 0 ≤ a1
           ·rw [if_pos c40] at H
            have c40b0 : decide (0 ≤ a1) = true := decide_eq_true c40
            clear c40
            by_cases c41 : a1 < ((rd_L4 t162 0).length : Int)
            ·rw [if_pos c41] at H
             have c41b0 : decide (a1 < ((rd_L4 t162 0).length : Int)) = true := decide_eq_true c41
             clear c41
             simp only [Option.some.injEq, Prod.mk.injEq] at H
             obtain ⟨rfl, rfl, rfl⟩ := H
             have p170 : 0 ≤ (0 : Int) := (by omega)
             have q170 : 0 < (t162.length : Int) := of_decide_eq_true (by assumption)
             obtain ⟨ad170, A170_0, c170_0, e170, hx170_0, hl170_0, hi170_0⟩ := at_L4 (Kd.N_reads' HO_7.out).2.2 0 p170 q170
             obtain rfl : ad165 = ad170 := (by injection e170)
             obtain ⟨ce170, hce170, hMe170, hcc170⟩ := Kd.N_get HO_7.out [] 0 p170 (by first | exact q170 | exact of_decide_eq_true (by assumption) | (have e_ := (Kd.N_reads' HO_7.out).1; omega))
             obtain ⟨ua170_0, uc170_0, rfl, ul170_0, ge170_0⟩ := Kd.FK_slice_open hMe170
             have hv170_0 := hcc170 0 _ rfl
             rw [Nat.add_zero, show ((Kd.slice 2 (Kd.int .i64))).sz = 1 from rfl, Nat.mul_one] at hv170_0
             replace hv170_0 := Option.some.inj (hv170_0.symm.trans hx170_0)
             injection hv170_0 with hva_ hvn_ hvc_
             rw [hva_] at ge170_0
             rw [hvc_] at ul170_0
             have HL170_0 := As0.mk (show Kd.V (Kd.int .i64) 2 _ w.heap.size _ _ (rd_L4 t162 0) from Kd.V_mk ul170_0 ge170_0)
             clear hva_ hvn_ hvc_ ge170_0 ul170_0
             clear hcc170 hce170
             have qi170 : (0 < t162.length) = True := eq_true (by omega)
             (try rw [show ((0 : Int)).toNat = 0 from rfl] at hx170_0)
             (try rw [Addr.add_zero'] at hx170_0)
             have HR170_0 := As0.mk hi170_0
             have HC170_0 := As0.mk hl170_0
             clear hi170_0 hl170_0
             replace p170 := eq_true p170
             replace q170 := eq_true q170
             have p171 : 0 ≤ (a1 : Int) := of_decide_eq_true (by assumption)
             have q171 : a1 < ((rd_L4 t162 0).length : Int) := of_decide_eq_true (by assumption)
             obtain ⟨ad171, e171, hx171_0⟩ := Kd.at_int (by repeat (first | (with_reducible exact HR170_0.out) | (with_reducible refine Kd.C_alloc ?_ _) | (with_reducible refine Kd.C_drewN ?_ _) | (with_reducible refine Kd.C_drew ?_) | exact HR170_0.out)) a1 p171 q171
             cases e171
             replace p171 := eq_true p171
             replace q171 := eq_true q171
             go_wp2
             repeat (go_quiet (fail); try go_wp2)
             go_ret3
             exact ⟨_, by first | rfl | (simp [eWn, eWs] <;> rfl) | (simp [*, eWn, eWs] <;> rfl), by (with_reducible repeat (first | apply Kd.R_alloc | apply Kd.R_drewN | apply Kd.R_drew)); exact HO_8.out, by repeat (with_reducible first | exact HB.out | apply bal | apply pbN | apply bdw)⟩
            ·rw [if_neg c41] at H
             exact absurd H (by simp)
           ·rw [if_neg c40] at H
            exact absurd H (by simp)
          ·rw [if_neg c39] at H
           exact absurd H (by simp)
     ·rw [if_neg c10] at H
      exact absurd H (by simp)
    ·rw [if_neg c9] at H
     exact absurd H (by simp)
   ·rw [if_neg c8] at H
    exact absurd H (by simp)
  ·replace c6 := Bool.eq_false_iff.mpr c6
   subst c6
   have H1 : (some (([] : List Int), 0, 2)) = some (r1, r2, r3) := by rw [if_neg (show ¬ (false = true) by decide)] at H; exact H
   clear H
   have H := H1
   clear H1
   simp only [Option.some.injEq, Prod.mk.injEq] at H
   obtain ⟨rfl, rfl, rfl⟩ := H
   go_enter Try.func11, Try.ntmps11
   go_wp2_with (first | (go_at_call 25; (first | (with_reducible refine (spec_l16Ok.calls k _ _ l0 true _ ?side1 ?side2 A3.out).mono ?_) | ((try simp only [Go.IntWalk.i64_left]); (with_reducible refine (spec_l16Ok.calls k _ _ l0 true _ ?side1 ?side2 A3.out).mono ?_))); (case side1 => repeat (first | exact HR0.out | (with_reducible refine Kd.C_alloc ?_ _) | (with_reducible refine Kd.C_drewN ?_ _) | (with_reducible refine Kd.C_drew ?_))); (case side2 => exact HC0.out); rintro e w' ⟨rfl, ⟨nd, rfl⟩⟩; (try first | exact ⟨rfl, _, World.drewN_drewN _ _ _⟩ | exact ⟨rfl, _, Eq.trans (World.drewN_drewN _ _ _) (congrArg (World.drewN _) (Nat.add_assoc _ _ _))⟩)) | (go_at_call 26; (first | (with_reducible refine (spec_l16Demand.calls a1 false _ A5.out).mono ?_) | ((try simp only [Go.IntWalk.i64_left]); (with_reducible refine (spec_l16Demand.calls a1 false _ A5.out).mono ?_))); rintro e w' ⟨rfl, ⟨nd, rfl⟩⟩; (try first | exact ⟨rfl, _, World.drewN_drewN _ _ _⟩ | exact ⟨rfl, _, Eq.trans (World.drewN_drewN _ _ _) (congrArg (World.drewN _) (Nat.add_assoc _ _ _))⟩)))
   repeat (go_quiet (first | (go_at_call 25; (first | (with_reducible refine (spec_l16Ok.calls k _ _ l0 true _ ?side1 ?side2 A3.out).mono ?_) | ((try simp only [Go.IntWalk.i64_left]); (with_reducible refine (spec_l16Ok.calls k _ _ l0 true _ ?side1 ?side2 A3.out).mono ?_))); (case side1 => repeat (first | exact HR0.out | (with_reducible refine Kd.C_alloc ?_ _) | (with_reducible refine Kd.C_drewN ?_ _) | (with_reducible refine Kd.C_drew ?_))); (case side2 => exact HC0.out); rintro e w' ⟨rfl, ⟨nd, rfl⟩⟩; (try first | exact ⟨rfl, _, World.drewN_drewN _ _ _⟩ | exact ⟨rfl, _, Eq.trans (World.drewN_drewN _ _ _) (congrArg (World.drewN _) (Nat.add_assoc _ _ _))⟩)) | (go_at_call 26; (first | (with_reducible refine (spec_l16Demand.calls a1 false _ A5.out).mono ?_) | ((try simp only [Go.IntWalk.i64_left]); (with_reducible refine (spec_l16Demand.calls a1 false _ A5.out).mono ?_))); rintro e w' ⟨rfl, ⟨nd, rfl⟩⟩; (try first | exact ⟨rfl, _, World.drewN_drewN _ _ _⟩ | exact ⟨rfl, _, Eq.trans (World.drewN_drewN _ _ _) (congrArg (World.drewN _) (Nat.add_assoc _ _ _))⟩))); try go_wp2_with (first | (go_at_call 25; (first | (with_reducible refine (spec_l16Ok.calls k _ _ l0 true _ ?side1 ?side2 A3.out).mono ?_) | ((try simp only [Go.IntWalk.i64_left]); (with_reducible refine (spec_l16Ok.calls k _ _ l0 true _ ?side1 ?side2 A3.out).mono ?_))); (case side1 => repeat (first | exact HR0.out | (with_reducible refine Kd.C_alloc ?_ _) | (with_reducible refine Kd.C_drewN ?_ _) | (with_reducible refine Kd.C_drew ?_))); (case side2 => exact HC0.out); rintro e w' ⟨rfl, ⟨nd, rfl⟩⟩; (try first | exact ⟨rfl, _, World.drewN_drewN _ _ _⟩ | exact ⟨rfl, _, Eq.trans (World.drewN_drewN _ _ _) (congrArg (World.drewN _) (Nat.add_assoc _ _ _))⟩)) | (go_at_call 26; (first | (with_reducible refine (spec_l16Demand.calls a1 false _ A5.out).mono ?_) | ((try simp only [Go.IntWalk.i64_left]); (with_reducible refine (spec_l16Demand.calls a1 false _ A5.out).mono ?_))); rintro e w' ⟨rfl, ⟨nd, rfl⟩⟩; (try first | exact ⟨rfl, _, World.drewN_drewN _ _ _⟩ | exact ⟨rfl, _, Eq.trans (World.drewN_drewN _ _ _) (congrArg (World.drewN _) (Nat.add_assoc _ _ _))⟩))))
   go_ret3
   exact ⟨_, by first | rfl | (simp [eWn, eWs] <;> rfl) | (simp [*, eWn, eWs] <;> rfl), by first | exact Kd.R_nil _ _ _ _ _ | exact Kd.N_nil _ _ _ _ _ | exact Kd.V_nil _ _ _ _ _ | exact Kd.Q_nil _ _ _ _ _ | exact Kd.S_nil _ _ _ _ _, by repeat (with_reducible first | exact HB.out | apply bal | apply pbN | apply bdw)⟩
 ·replace c4 := Bool.eq_false_iff.mpr c4
  subst c4
  have H1 : (some (([] : List Int), 0, 1)) = some (r1, r2, r3) := by rw [if_neg (show ¬ (false = true) by decide)] at H; exact H
  clear H
  have H := H1
  clear H1
  simp only [Option.some.injEq, Prod.mk.injEq] at H
  obtain ⟨rfl, rfl, rfl⟩ := H
  go_enter Try.func11, Try.ntmps11
  go_wp2_with (first | (go_at_call 25; (first | (with_reducible refine (spec_l16Ok.calls k _ _ l0 false _ ?side1 ?side2 A3.out).mono ?_) | ((try simp only [Go.IntWalk.i64_left]); (with_reducible refine (spec_l16Ok.calls k _ _ l0 false _ ?side1 ?side2 A3.out).mono ?_))); (case side1 => repeat (first | exact HR0.out | (with_reducible refine Kd.C_alloc ?_ _) | (with_reducible refine Kd.C_drewN ?_ _) | (with_reducible refine Kd.C_drew ?_))); (case side2 => exact HC0.out); rintro e w' ⟨rfl, ⟨nd, rfl⟩⟩; (try first | exact ⟨rfl, _, World.drewN_drewN _ _ _⟩ | exact ⟨rfl, _, Eq.trans (World.drewN_drewN _ _ _) (congrArg (World.drewN _) (Nat.add_assoc _ _ _))⟩)))
  repeat (go_quiet (first | (go_at_call 25; (first | (with_reducible refine (spec_l16Ok.calls k _ _ l0 false _ ?side1 ?side2 A3.out).mono ?_) | ((try simp only [Go.IntWalk.i64_left]); (with_reducible refine (spec_l16Ok.calls k _ _ l0 false _ ?side1 ?side2 A3.out).mono ?_))); (case side1 => repeat (first | exact HR0.out | (with_reducible refine Kd.C_alloc ?_ _) | (with_reducible refine Kd.C_drewN ?_ _) | (with_reducible refine Kd.C_drew ?_))); (case side2 => exact HC0.out); rintro e w' ⟨rfl, ⟨nd, rfl⟩⟩; (try first | exact ⟨rfl, _, World.drewN_drewN _ _ _⟩ | exact ⟨rfl, _, Eq.trans (World.drewN_drewN _ _ _) (congrArg (World.drewN _) (Nat.add_assoc _ _ _))⟩))); try go_wp2_with (first | (go_at_call 25; (first | (with_reducible refine (spec_l16Ok.calls k _ _ l0 false _ ?side1 ?side2 A3.out).mono ?_) | ((try simp only [Go.IntWalk.i64_left]); (with_reducible refine (spec_l16Ok.calls k _ _ l0 false _ ?side1 ?side2 A3.out).mono ?_))); (case side1 => repeat (first | exact HR0.out | (with_reducible refine Kd.C_alloc ?_ _) | (with_reducible refine Kd.C_drewN ?_ _) | (with_reducible refine Kd.C_drew ?_))); (case side2 => exact HC0.out); rintro e w' ⟨rfl, ⟨nd, rfl⟩⟩; (try first | exact ⟨rfl, _, World.drewN_drewN _ _ _⟩ | exact ⟨rfl, _, Eq.trans (World.drewN_drewN _ _ _) (congrArg (World.drewN _) (Nat.add_assoc _ _ _))⟩))))
  go_ret3
  exact ⟨_, by first | rfl | (simp [eWn, eWs] <;> rfl) | (simp [*, eWn, eWs] <;> rfl), by first | exact Kd.R_nil _ _ _ _ _ | exact Kd.N_nil _ _ _ _ _ | exact Kd.V_nil _ _ _ _ _ | exact Kd.Q_nil _ _ _ _ _ | exact Kd.S_nil _ _ _ _ _, by repeat (with_reducible first | exact HB.out | apply bal | apply pbN | apply bdw)⟩

/-! ### impl_within: function 37 -/
def impl_within.f (a0 : Int) (a1 : Int) (a2 : Int) : Option (Bool) := if a0 ≥ a1 then (some (decide (a0 ≤ a2))) else (some false)
set_option maxHeartbeats 8000000 in
set_option maxRecDepth 100000 in
theorem impl_within.calls (a0 : Int) (a1 : Int) (a2 : Int) (r : Bool) (w : World) (h : impl_within.f a0 a1 a2 = some r) :
  Calls Try.prog 37 #[.int .i64 a0, .int .i64 a1, .int .i64 a2] w fun e w' => e = .returned (.bool r) ∧ Drawn0 w w' := by
 have H : (if a0 ≥ a1 then (some (decide (a0 ≤ a2))) else (some false)) = some r := h
 clear h
 by_cases c4 : a0 ≥ a1
 ·rw [if_pos c4] at H
  have c4b0 : decide (a1 ≤ a0) = true := decide_eq_true c4
  clear c4
  obtain rfl := Option.some.inj H
  go_enter Try.func37, Try.ntmps37
  go_wp2
  go_ret
  exact ⟨by first | rfl | (simp; done) | (simp [*]; done), by repeat (first | exact Drawn0.refl _ | apply Drawn0.step)⟩
 ·rw [if_neg c4] at H
  have c4b0 : decide (a1 ≤ a0) = false := decide_eq_false c4
  clear c4
  obtain rfl := Option.some.inj H
  go_enter Try.func37, Try.ntmps37
  go_wp2
  go_ret
  exact ⟨by first | rfl | (simp; done) | (simp [*]; done), by repeat (first | exact Drawn0.refl _ | apply Drawn0.step)⟩

end Go.Proofs.Ytnhkamfccoppbaa.QCleanestMix
