-- Written by press.py, a program of this session, round the kit's print.py (functions and contracts; Lean checks them).
import Derived.Test.YtnhkamfccoppbaaQCheapestMixx0
import Derived.Test.YtnhkamfccoppbaaQCheapestMixx3
import Derived.Test.YtnhkamfccoppbaaQCheapestMixx4
namespace Go.Proofs.Ytnhkamfccoppbaa.QCheapestMix
open Go.Proofs.Ytnhkamfccoppbaa.QWords
attribute [local go_sem high] binOp_string_geq_q binOp_string_leq_q binOp_string_gtr_q
open Go.RowKit Go.Proofs.YtnhkamfccoppbaaW.PrintWords Go.Proofs.YtnhkamfccoppbaaW.PrintLast Go.Proofs.YtnhkamfccoppbaaW.PrintMore
attribute [local go_sem] max2_int min2_int max_two min_two max_three min_three max_four min_four   -- for this text's walks alone
set_option linter.unusedVariables false
set_option linter.unusedSimpArgs false

/-! ### spec_CheapestMix: function 17 -/
mutual
def spec_CheapestMix.l0 : Nat → List (S46) → Int → Int → Int → List (List (List Int)) → List Int → Int → Int → Option (List Int × Int × Int)
 | 0, _, _, _, _, _, _, _, _ => none
 | k + 1, x0, x1, x2, x10, x11, x12, x13, x14 => if x14 < (x0.length : Int) then (spec_CheapestMix.l1 k x0 x1 x2 x10 x11 x12 x13 x14 0) else (if 0 < (x11.length : Int) then (if 0 ≤ x1 then (if x1 < ((rd_L6 x11 0).length : Int) then ((spec_l16Limit.f x2).bind fun t206 => (if 0 ≤ t206 then (if t206 < ((rd_L5 (rd_L6 x11 0) x1).length : Int) then (some (x12, rd (rd_L5 (rd_L6 x11 0) x1) t206, 0)) else (none)) else (none))) else (none)) else (none)) else (none))
def spec_CheapestMix.l1 : Nat → List (S46) → Int → Int → Int → List (List (List Int)) → List Int → Int → Int → Int → Option (List Int × Int × Int)
 | 0, _, _, _, _, _, _, _, _, _ => none
 | k + 1, x0, x1, x2, x10, x11, x12, x13, x14, x15 => if 0 ≤ x14 then (if x14 < (x0.length : Int) then (if x15 ≤ ((rd_T46 x0 x14).f3) then (if x15 ≤ x13 then (spec_CheapestMix.j2 k x0 x1 x2 x10 x11 x12 x13 x14 x15 (decide ((wrap64 (x15 * ((rd_T46 x0 x14).f1))) ≤ x10))) else (spec_CheapestMix.j2 k x0 x1 x2 x10 x11 x12 x13 x14 x15 false)) else (spec_CheapestMix.j2 k x0 x1 x2 x10 x11 x12 x13 x14 x15 false)) else (none)) else (none)
def spec_CheapestMix.j2 : Nat → List (S46) → Int → Int → Int → List (List (List Int)) → List Int → Int → Int → Int → Bool → Option (List Int × Int × Int)
 | 0, _, _, _, _, _, _, _, _, _, _ => none
 | k + 1, x0, x1, x2, x10, x11, x12, x13, x14, x15, x70 => if x70 = true then (if 0 ≤ (wrap64 (x14 + 1)) then (if (wrap64 (x14 + 1)) < (x11.length : Int) then (if 0 ≤ (wrap64 (x13 - x15)) then (if (wrap64 (x13 - x15)) < ((rd_L6 x11 (wrap64 (x14 + 1))).length : Int) then (if 0 ≤ x14 then (if x14 < (x0.length : Int) then (if 0 ≤ (wrap64 (x10 - (wrap64 (x15 * ((rd_T46 x0 x14).f1))))) then (if (wrap64 (x10 - (wrap64 (x15 * ((rd_T46 x0 x14).f1))))) < ((rd_L5 (rd_L6 x11 (wrap64 (x14 + 1))) (wrap64 (x13 - x15))).length : Int) then (if (rd (rd_L5 (rd_L6 x11 (wrap64 (x14 + 1))) (wrap64 (x13 - x15))) (wrap64 (x10 - (wrap64 (x15 * ((rd_T46 x0 x14).f1)))))) ≥ 0 then (if x14 < (x11.length : Int) then (if 0 ≤ x13 then (if x13 < ((rd_L6 x11 x14).length : Int) then (if 0 ≤ x10 then (if x10 < ((rd_L5 (rd_L6 x11 x14) x13).length : Int) then (if (wrap64 ((rd (rd_L5 (rd_L6 x11 (wrap64 (x14 + 1))) (wrap64 (x13 - x15))) (wrap64 (x10 - (wrap64 (x15 * ((rd_T46 x0 x14).f1)))))) + (wrap64 (x15 * ((rd_T46 x0 x14).f2))))) = (rd (rd_L5 (rd_L6 x11 x14) x13) x10) then (if x12.length < 17592186044416 then (spec_CheapestMix.l0 k x0 x1 x2 (wrap64 (x10 - (wrap64 (x15 * ((rd_T46 x0 x14).f1))))) x11 (x12 ++ [x15]) (wrap64 (x13 - x15)) (wrap64 (x14 + 1))) else (none)) else (spec_CheapestMix.l1 k x0 x1 x2 x10 x11 x12 x13 x14 (wrap64 (x15 + 1)))) else (none)) else (none)) else (none)) else (none)) else (none)) else (spec_CheapestMix.l1 k x0 x1 x2 x10 x11 x12 x13 x14 (wrap64 (x15 + 1)))) else (none)) else (none)) else (none)) else (none)) else (none)) else (none)) else (none)) else (none)) else (spec_CheapestMix.l0 k x0 x1 x2 x10 x11 x12 x13 (wrap64 (x14 + 1)))
end
def spec_CheapestMix.f (k : Nat) (l0 : List (S46)) (a1 : Int) (a2 : Int) : Option (List Int × Int × Int) := (spec_l16Query.f k l0 a1 a2).bind fun t193 => (if t193 = 0 then ((spec_l16Limit.f a2).bind fun t194 => ((spec_l16Costs.f k l0 a1 t194).bind fun t195 => (if 0 < (t195.length : Int) then (if 0 ≤ a1 then (if a1 < ((rd_L6 t195 0).length : Int) then (if 0 ≤ t194 then (if t194 < ((rd_L5 (rd_L6 t195 0) a1).length : Int) then (if (rd (rd_L5 (rd_L6 t195 0) a1) t194) < 0 then (some (([] : List Int), 0, 3)) else (spec_CheapestMix.l0 k l0 a1 a2 t194 t195 (([] : List Int)) a1 0)) else (none)) else (none)) else (none)) else (none)) else (none)))) else (some (([] : List Int), 0, t193)))
theorem spec_CheapestMix.mono_l : ∀ k, (∀ y0 y1 y2 y3 y4 y5 y6 y7, LeO (spec_CheapestMix.l0 k y0 y1 y2 y3 y4 y5 y6 y7) (spec_CheapestMix.l0 (k + 1) y0 y1 y2 y3 y4 y5 y6 y7)) ∧ (∀ y0 y1 y2 y3 y4 y5 y6 y7 y8, LeO (spec_CheapestMix.l1 k y0 y1 y2 y3 y4 y5 y6 y7 y8) (spec_CheapestMix.l1 (k + 1) y0 y1 y2 y3 y4 y5 y6 y7 y8)) ∧ (∀ y0 y1 y2 y3 y4 y5 y6 y7 y8 y9, LeO (spec_CheapestMix.j2 k y0 y1 y2 y3 y4 y5 y6 y7 y8 y9) (spec_CheapestMix.j2 (k + 1) y0 y1 y2 y3 y4 y5 y6 y7 y8 y9))
 | 0 => ⟨fun _ _ _ _ _ _ _ _ r h => by simp [spec_CheapestMix.l0] at h, fun _ _ _ _ _ _ _ _ _ r h => by simp [spec_CheapestMix.l1] at h, fun _ _ _ _ _ _ _ _ _ _ r h => by simp [spec_CheapestMix.j2] at h⟩
 | k + 1 => by
  obtain ⟨ih0, ih1, ih2⟩ := spec_CheapestMix.mono_l k
  refine ⟨?_, ?_, ?_⟩
  ·intro y0 y1 y2 y3 y4 y5 y6 y7
   unfold spec_CheapestMix.l0
   repeat' first
   | (with_reducible exact ih0 _ _ _ _ _ _ _ _)
   | (with_reducible exact ih1 _ _ _ _ _ _ _ _ _)
   | (with_reducible exact ih2 _ _ _ _ _ _ _ _ _ _)
   | (with_reducible exact spec_l16Costs.mono _ _ _ _)
   | (with_reducible exact spec_l16Query.mono _ _ _ _)
   | (with_reducible exact LeO.refl _)
   | (with_reducible exact LeO.none _)
   | (with_reducible refine LeO.ite ?_ ?_)
   | (with_reducible refine LeO.bind ?_ (fun _ => ?_))
   | exact ih0 _ _ _ _ _ _ _ _
   | exact ih1 _ _ _ _ _ _ _ _ _
   | exact ih2 _ _ _ _ _ _ _ _ _ _
   | exact spec_l16Costs.mono _ _ _ _
   | exact spec_l16Query.mono _ _ _ _
   | exact LeO.none _
   | refine LeO.ite ?_ ?_
   | refine LeO.bind ?_ (fun _ => ?_)
  ·intro y0 y1 y2 y3 y4 y5 y6 y7 y8
   unfold spec_CheapestMix.l1
   repeat' first
   | (with_reducible exact ih0 _ _ _ _ _ _ _ _)
   | (with_reducible exact ih1 _ _ _ _ _ _ _ _ _)
   | (with_reducible exact ih2 _ _ _ _ _ _ _ _ _ _)
   | (with_reducible exact spec_l16Costs.mono _ _ _ _)
   | (with_reducible exact spec_l16Query.mono _ _ _ _)
   | (with_reducible exact LeO.refl _)
   | (with_reducible exact LeO.none _)
   | (with_reducible refine LeO.ite ?_ ?_)
   | (with_reducible refine LeO.bind ?_ (fun _ => ?_))
   | exact ih0 _ _ _ _ _ _ _ _
   | exact ih1 _ _ _ _ _ _ _ _ _
   | exact ih2 _ _ _ _ _ _ _ _ _ _
   | exact spec_l16Costs.mono _ _ _ _
   | exact spec_l16Query.mono _ _ _ _
   | exact LeO.none _
   | refine LeO.ite ?_ ?_
   | refine LeO.bind ?_ (fun _ => ?_)
  ·intro y0 y1 y2 y3 y4 y5 y6 y7 y8 y9
   unfold spec_CheapestMix.j2
   repeat' first
   | (with_reducible exact ih0 _ _ _ _ _ _ _ _)
   | (with_reducible exact ih1 _ _ _ _ _ _ _ _ _)
   | (with_reducible exact ih2 _ _ _ _ _ _ _ _ _ _)
   | (with_reducible exact spec_l16Costs.mono _ _ _ _)
   | (with_reducible exact spec_l16Query.mono _ _ _ _)
   | (with_reducible exact LeO.refl _)
   | (with_reducible exact LeO.none _)
   | (with_reducible refine LeO.ite ?_ ?_)
   | (with_reducible refine LeO.bind ?_ (fun _ => ?_))
   | exact ih0 _ _ _ _ _ _ _ _
   | exact ih1 _ _ _ _ _ _ _ _ _
   | exact ih2 _ _ _ _ _ _ _ _ _ _
   | exact spec_l16Costs.mono _ _ _ _
   | exact spec_l16Query.mono _ _ _ _
   | exact LeO.none _
   | refine LeO.ite ?_ ?_
   | refine LeO.bind ?_ (fun _ => ?_)
theorem spec_CheapestMix.mono : ∀ a0 a1 a2 k, LeO (spec_CheapestMix.f k a0 a1 a2) (spec_CheapestMix.f (k + 1) a0 a1 a2) := by
 intro a0 a1 a2 k
 obtain ⟨ih0, ih1, ih2⟩ := spec_CheapestMix.mono_l k
 unfold spec_CheapestMix.f
 repeat' first
   | (with_reducible exact ih0 _ _ _ _ _ _ _ _)
   | (with_reducible exact ih1 _ _ _ _ _ _ _ _ _)
   | (with_reducible exact ih2 _ _ _ _ _ _ _ _ _ _)
   | (with_reducible exact spec_l16Costs.mono _ _ _ _)
   | (with_reducible exact spec_l16Query.mono _ _ _ _)
   | (with_reducible exact LeO.refl _)
   | (with_reducible exact LeO.none _)
   | (with_reducible refine LeO.ite ?_ ?_)
   | (with_reducible refine LeO.bind ?_ (fun _ => ?_))
   | exact ih0 _ _ _ _ _ _ _ _
   | exact ih1 _ _ _ _ _ _ _ _ _
   | exact ih2 _ _ _ _ _ _ _ _ _ _
   | exact spec_l16Costs.mono _ _ _ _
   | exact spec_l16Query.mono _ _ _ _
   | exact LeO.none _
   | refine LeO.ite ?_ ?_
   | refine LeO.bind ?_ (fun _ => ?_)
set_option maxHeartbeats 8000000 in
set_option maxRecDepth 100000 in
theorem spec_CheapestMix.calls (k : Nat) (A0 : Option Addr) (c0 : Nat) (l0 : List (S46)) (a1 : Int) (a2 : Int) (r1 : List Int) (r2 : Int) (r3 : Int) (w : World) (hr0 : Kd.C k46 w A0 l0.length l0) (hc0 : l0.length ≤ c0) (h : spec_CheapestMix.f k l0 a1 a2 = some (r1, r2, r3)) :
  Calls Try.prog 17 #[.slice A0 l0.length c0, .int .i64 a1, .int .i64 a2] w fun e w' => ∃ v0_ : Value, e = .returned (.tuple #[v0_, .int .i64 r2, .int .i64 r3]) ∧ Kd.R (Kd.int .i64) 2 w' w.heap.size (fun _ => True) v0_ r1 ∧ Below w.heap.size w w' := by
 have HR0 := As0.mk hr0
 have HC0 := As0.mk hc0
 clear hr0 hc0
 have HB := As0.mk (Below.refl w.heap.size w)
 have H : ((spec_l16Query.f k l0 a1 a2).bind fun t193 => (if t193 = 0 then ((spec_l16Limit.f a2).bind fun t194 => ((spec_l16Costs.f k l0 a1 t194).bind fun t195 => (if 0 < (t195.length : Int) then (if 0 ≤ a1 then (if a1 < ((rd_L6 t195 0).length : Int) then (if 0 ≤ t194 then (if t194 < ((rd_L5 (rd_L6 t195 0) a1).length : Int) then (if (rd (rd_L5 (rd_L6 t195 0) a1) t194) < 0 then (some (([] : List Int), 0, 3)) else (spec_CheapestMix.l0 k l0 a1 a2 t194 t195 (([] : List Int)) a1 0)) else (none)) else (none)) else (none)) else (none)) else (none)))) else (some (([] : List Int), 0, t193)))) = some (r1, r2, r3) := h
 clear h
 replace H := Option.bind_eq_some_iff.mp H
 obtain ⟨t193, A40, H⟩ := H
 replace H : (if t193 = 0 then ((spec_l16Limit.f a2).bind fun t194 => ((spec_l16Costs.f k l0 a1 t194).bind fun t195 => (if 0 < (t195.length : Int) then (if 0 ≤ a1 then (if a1 < ((rd_L6 t195 0).length : Int) then (if 0 ≤ t194 then (if t194 < ((rd_L5 (rd_L6 t195 0) a1).length : Int) then (if (rd (rd_L5 (rd_L6 t195 0) a1) t194) < 0 then (some (([] : List Int), 0, 3)) else (spec_CheapestMix.l0 k l0 a1 a2 t194 t195 (([] : List Int)) a1 0)) else (none)) else (none)) else (none)) else (none)) else (none)))) else (some (([] : List Int), 0, t193))) = some (r1, r2, r3) := H
 have A4 := As0.mk A40
 clear A40
 by_cases c5 : t193 = 0
 ·as_aux_lemma =>
  rw [if_pos c5] at H
  have c5b0 : (t193 == 0) = true := beq_iff_eq.mpr c5
  have c5b1 : (t193 != 0) = false := bne_eq_false_iff_eq.mpr c5
  clear c5
  replace H := Option.bind_eq_some_iff.mp H
  obtain ⟨t194, A60, H⟩ := H
  replace H : ((spec_l16Costs.f k l0 a1 t194).bind fun t195 => (if 0 < (t195.length : Int) then (if 0 ≤ a1 then (if a1 < ((rd_L6 t195 0).length : Int) then (if 0 ≤ t194 then (if t194 < ((rd_L5 (rd_L6 t195 0) a1).length : Int) then (if (rd (rd_L5 (rd_L6 t195 0) a1) t194) < 0 then (some (([] : List Int), 0, 3)) else (spec_CheapestMix.l0 k l0 a1 a2 t194 t195 (([] : List Int)) a1 0)) else (none)) else (none)) else (none)) else (none)) else (none))) = some (r1, r2, r3) := H
  have A6 := As0.mk A60
  clear A60
  replace H := Option.bind_eq_some_iff.mp H
  obtain ⟨t195, A70, H⟩ := H
  replace H : (if 0 < (t195.length : Int) then (if 0 ≤ a1 then (if a1 < ((rd_L6 t195 0).length : Int) then (if 0 ≤ t194 then (if t194 < ((rd_L5 (rd_L6 t195 0) a1).length : Int) then (if (rd (rd_L5 (rd_L6 t195 0) a1) t194) < 0 then (some (([] : List Int), 0, 3)) else (spec_CheapestMix.l0 k l0 a1 a2 t194 t195 (([] : List Int)) a1 0)) else (none)) else (none)) else (none)) else (none)) else (none)) = some (r1, r2, r3) := H
  have A7 := As0.mk A70
  clear A70
  by_cases c8 : 0 < (t195.length : Int)
  ·as_aux_lemma =>
   rw [if_pos c8] at H
   have c8b0 : decide (0 < (t195.length : Int)) = true := decide_eq_true c8
   have c8b1 : decide (0 < t195.length) = true := decide_eq_true (by omega)
   clear c8
   by_cases c9 : 0 ≤ a1
   ·as_aux_lemma =>
    rw [if_pos c9] at H
    have c9b0 : decide (0 ≤ a1) = true := decide_eq_true c9
    clear c9
    by_cases c10 : a1 < ((rd_L6 t195 0).length : Int)
    ·as_aux_lemma =>
     rw [if_pos c10] at H
     have c10b0 : decide (a1 < ((rd_L6 t195 0).length : Int)) = true := decide_eq_true c10
     clear c10
     by_cases c11 : 0 ≤ t194
     ·as_aux_lemma =>
      rw [if_pos c11] at H
      have c11b0 : decide (0 ≤ t194) = true := decide_eq_true c11
      clear c11
      by_cases c12 : t194 < ((rd_L5 (rd_L6 t195 0) a1).length : Int)
      ·as_aux_lemma =>
       rw [if_pos c12] at H
       have c12b0 : decide (t194 < ((rd_L5 (rd_L6 t195 0) a1).length : Int)) = true := decide_eq_true c12
       clear c12
       by_cases c13 : (rd (rd_L5 (rd_L6 t195 0) a1) t194) < 0
       ·rw [if_pos c13] at H
        have c13b0 : decide ((rd (rd_L5 (rd_L6 t195 0) a1) t194) < 0) = true := decide_eq_true c13
        clear c13
        simp only [Option.some.injEq, Prod.mk.injEq] at H
        obtain ⟨rfl, rfl, rfl⟩ := H
        go_enter Try.func17, Try.ntmps17
        iterate 4 ((try go_wp2_with (first | (go_at_call 20; (first | (with_reducible refine (spec_l16Query.calls k _ _ l0 a1 a2 t193 _ ?side1 ?side2 A4.out).mono ?_) | ((try simp only [Go.IntWalk.i64_left]); (with_reducible refine (spec_l16Query.calls k _ _ l0 a1 a2 t193 _ ?side1 ?side2 A4.out).mono ?_))); (case side1 => repeat (first | exact HR0.out | (with_reducible refine Kd.C_alloc ?_ _) | (with_reducible refine Kd.C_drewN ?_ _) | (with_reducible refine Kd.C_drew ?_))); (case side2 => exact HC0.out); rintro e w' ⟨rfl, ⟨nd, rfl⟩⟩; (try first | exact ⟨rfl, _, World.drewN_drewN _ _ _⟩ | exact ⟨rfl, _, Eq.trans (World.drewN_drewN _ _ _) (congrArg (World.drewN _) (Nat.add_assoc _ _ _))⟩)) | (go_at_call 21; (first | (with_reducible refine (spec_l16Limit.calls a2 t194 _ A6.out).mono ?_) | ((try simp only [Go.IntWalk.i64_left]); (with_reducible refine (spec_l16Limit.calls a2 t194 _ A6.out).mono ?_))); rintro e w' ⟨rfl, ⟨nd, rfl⟩⟩; (try first | exact ⟨rfl, _, World.drewN_drewN _ _ _⟩ | exact ⟨rfl, _, Eq.trans (World.drewN_drewN _ _ _) (congrArg (World.drewN _) (Nat.add_assoc _ _ _))⟩)) | (go_at_call 22; (first | (with_reducible refine (spec_l16Costs.calls k _ _ l0 a1 t194 t195 _ ?side1 ?side2 A7.out).mono ?_) | ((try simp only [Go.IntWalk.i64_left]); (with_reducible refine (spec_l16Costs.calls k _ _ l0 a1 t194 t195 _ ?side1 ?side2 A7.out).mono ?_))); (case side1 => repeat (first | exact HR0.out | (with_reducible refine Kd.C_alloc ?_ _) | (with_reducible refine Kd.C_drewN ?_ _) | (with_reducible refine Kd.C_drew ?_))); (case side2 => exact HC0.out); rintro e w14 ⟨v196, rfl, ho0, hb⟩; have n0_ := As0.mk (Kd.N_lower (Kd.N_mono (ok' := fun k_ => True) ho0 (fun k_ hk_ => trivial)) (bsz (by repeat (with_reducible first | exact HB.out | apply bal | apply pbN | apply bdw)))); have n1_ := As0.mk (bsp (by repeat (with_reducible first | exact HB.out | apply bal | apply pbN | apply bdw)) hb); clear HB; have HO197 := n0_; have HB := n1_; clear n0_ n1_; (try clear hb); (try clear hb2); (try clear hk); (try clear hi); (try clear ho0); obtain ⟨Ao15, co15, eo15⟩ := Kd.N_slice HO197.out; subst eo15; have p198 : 0 ≤ (0 : Int) := (by omega); have q198 : 0 < (t195.length : Int) := of_decide_eq_true (by assumption); obtain ⟨ad198, A198_0, c198_0, e198, hx198_0, hl198_0, hi198_0⟩ := at_L6 (Kd.N_reads' HO197.out).2.2 0 p198 q198; cases e198; obtain ⟨ce198, hce198, hMe198, hcc198⟩ := Kd.N_get HO197.out [] 0 p198 (by first | exact q198 | exact of_decide_eq_true (by assumption) | (have e_ := (Kd.N_reads' HO197.out).1; omega)); obtain ⟨ua198_0, uc198_0, rfl, ul198_0, ge198_0⟩ := Kd.FK_slice_open hMe198; have hv198_0 := hcc198 0 _ rfl; rw [Nat.add_zero, show ((Kd.slice 30 (Kd.slice 2 (Kd.int .i64)))).sz = 1 from rfl, Nat.mul_one] at hv198_0; replace hv198_0 := Option.some.inj (hv198_0.symm.trans hx198_0); injection hv198_0 with hva_ hvn_ hvc_; rw [hva_] at ge198_0; rw [hvc_] at ul198_0; have HL198_0 := As0.mk (show Kd.V (Kd.slice 2 (Kd.int .i64)) 30 _ w.heap.size _ _ (rd_L6 t195 0) from Kd.V_mk ul198_0 ge198_0); clear hva_ hvn_ hvc_ ge198_0 ul198_0; clear hcc198 hce198; have qi198 : (0 < t195.length) = True := eq_true (by omega); (try rw [show ((0 : Int)).toNat = 0 from rfl] at hx198_0); (try rw [Addr.add_zero'] at hx198_0); have HR198_0 := As0.mk hi198_0; have HC198_0 := As0.mk hl198_0; clear hi198_0 hl198_0; replace p198 := eq_true p198; replace q198 := eq_true q198; have p199 : 0 ≤ (a1 : Int) := of_decide_eq_true (by assumption); have q199 : a1 < ((rd_L6 t195 0).length : Int) := of_decide_eq_true (by assumption); obtain ⟨ad199, A199_0, c199_0, e199, hx199_0, hl199_0, hi199_0⟩ := at_L5 (by repeat (first | (with_reducible exact HR198_0.out) | (with_reducible refine Kd.C_alloc ?_ _) | (with_reducible refine Kd.C_drewN ?_ _) | (with_reducible refine Kd.C_drew ?_) | exact HR198_0.out)) a1 p199 q199; cases e199; obtain ⟨ce199, hce199, hMe199, hcc199⟩ := Kd.V_get HL198_0.out [] a1 p199 (by first | exact q199 | exact of_decide_eq_true (by assumption) | (have e_ := (Kd.V_reads' HL198_0.out).1; omega)); obtain ⟨ua199_0, uc199_0, rfl, ul199_0, ge199_0⟩ := Kd.FK_slice_open hMe199; have hv199_0 := hcc199 0 _ rfl; rw [Nat.add_zero, show ((Kd.slice 2 (Kd.int .i64))).sz = 1 from rfl, Nat.mul_one] at hv199_0; replace hv199_0 := Option.some.inj (hv199_0.symm.trans hx199_0); injection hv199_0 with hva_ hvn_ hvc_; rw [hva_] at ge199_0; rw [hvc_] at ul199_0; have HL199_0 := As0.mk (show Kd.V (Kd.int .i64) 2 _ w.heap.size _ _ (rd_L5 (rd_L6 t195 0) a1) from Kd.V_mk ul199_0 ge199_0); clear hva_ hvn_ hvc_ ge199_0 ul199_0; clear hcc199 hce199; have HR199_0 := As0.mk hi199_0; have HC199_0 := As0.mk hl199_0; clear hi199_0 hl199_0; replace p199 := eq_true p199; replace q199 := eq_true q199; have p200 : 0 ≤ (t194 : Int) := of_decide_eq_true (by assumption); have q200 : t194 < ((rd_L5 (rd_L6 t195 0) a1).length : Int) := of_decide_eq_true (by assumption); obtain ⟨ad200, e200, hx200_0⟩ := Kd.at_int (by repeat (first | (with_reducible exact HR199_0.out) | (with_reducible refine Kd.C_alloc ?_ _) | (with_reducible refine Kd.C_drewN ?_ _) | (with_reducible refine Kd.C_drew ?_) | exact HR199_0.out)) t194 p200 q200; cases e200; replace p200 := eq_true p200; replace q200 := eq_true q200))); (try go_quiet (fail)))
        go_ret3
        exact ⟨_, by first | rfl | (simp [eWn, eWs] <;> rfl) | (simp [*, eWn, eWs] <;> rfl), by first | exact Kd.R_nil _ _ _ _ _ | exact Kd.N_nil _ _ _ _ _ | exact Kd.V_nil _ _ _ _ _ | exact Kd.Q_nil _ _ _ _ _ | exact Kd.S_nil _ _ _ _ _, by repeat (with_reducible first | exact HB.out | apply bal | apply pbN | apply bdw)⟩
       ·as_aux_lemma =>
        rw [if_neg c13] at H
        have c13b0 : decide ((rd (rd_L5 (rd_L6 t195 0) a1) t194) < 0) = false := decide_eq_false c13
        clear c13
        obtain ⟨y201, hy201⟩ : ∃ y_ : List Int, y_ = (([] : List Int)) := ⟨_, rfl⟩
        replace H : (spec_CheapestMix.l0 k l0 a1 a2 t194 t195 y201 a1 0) = some (r1, r2, r3) := by first | (rw [hy201]; with_reducible exact H) | (have H2_ := (Option.bind_some _ _).symm.trans H; rw [hy201]; with_reducible exact H2_) | (have H2_ := (Option.bind_some _ _).symm.trans H; with_reducible exact H2_) | with_reducible exact H | (rw [hy201]; exact H) | exact H
        have Ny201 := As0.mk hy201
        clear hy201
        have H' := As0.mk H
        clear H
        go_enter Try.func17, Try.ntmps17
        iterate 4 ((try go_wp2_with (first | (go_at_call 20; (first | (with_reducible refine (spec_l16Query.calls k _ _ l0 a1 a2 t193 _ ?side1 ?side2 A4.out).mono ?_) | ((try simp only [Go.IntWalk.i64_left]); (with_reducible refine (spec_l16Query.calls k _ _ l0 a1 a2 t193 _ ?side1 ?side2 A4.out).mono ?_))); (case side1 => repeat (first | exact HR0.out | (with_reducible refine Kd.C_alloc ?_ _) | (with_reducible refine Kd.C_drewN ?_ _) | (with_reducible refine Kd.C_drew ?_))); (case side2 => exact HC0.out); rintro e w' ⟨rfl, ⟨nd, rfl⟩⟩; (try first | exact ⟨rfl, _, World.drewN_drewN _ _ _⟩ | exact ⟨rfl, _, Eq.trans (World.drewN_drewN _ _ _) (congrArg (World.drewN _) (Nat.add_assoc _ _ _))⟩)) | (go_at_call 21; (first | (with_reducible refine (spec_l16Limit.calls a2 t194 _ A6.out).mono ?_) | ((try simp only [Go.IntWalk.i64_left]); (with_reducible refine (spec_l16Limit.calls a2 t194 _ A6.out).mono ?_))); rintro e w' ⟨rfl, ⟨nd, rfl⟩⟩; (try first | exact ⟨rfl, _, World.drewN_drewN _ _ _⟩ | exact ⟨rfl, _, Eq.trans (World.drewN_drewN _ _ _) (congrArg (World.drewN _) (Nat.add_assoc _ _ _))⟩)) | (go_at_call 22; (first | (with_reducible refine (spec_l16Costs.calls k _ _ l0 a1 t194 t195 _ ?side1 ?side2 A7.out).mono ?_) | ((try simp only [Go.IntWalk.i64_left]); (with_reducible refine (spec_l16Costs.calls k _ _ l0 a1 t194 t195 _ ?side1 ?side2 A7.out).mono ?_))); (case side1 => repeat (first | exact HR0.out | (with_reducible refine Kd.C_alloc ?_ _) | (with_reducible refine Kd.C_drewN ?_ _) | (with_reducible refine Kd.C_drew ?_))); (case side2 => exact HC0.out); rintro e w16 ⟨v196, rfl, ho0, hb⟩; have n0_ := As0.mk (Kd.N_lower (Kd.N_mono (ok' := fun k_ => True) ho0 (fun k_ hk_ => trivial)) (bsz (by repeat (with_reducible first | exact HB.out | apply bal | apply pbN | apply bdw)))); have n1_ := As0.mk (bsp (by repeat (with_reducible first | exact HB.out | apply bal | apply pbN | apply bdw)) hb); clear HB; have HO197 := n0_; have HB := n1_; clear n0_ n1_; (try clear hb); (try clear hb2); (try clear hk); (try clear hi); (try clear ho0); obtain ⟨Ao17, co17, eo17⟩ := Kd.N_slice HO197.out; subst eo17; have p198 : 0 ≤ (0 : Int) := (by omega); have q198 : 0 < (t195.length : Int) := of_decide_eq_true (by assumption); obtain ⟨ad198, A198_0, c198_0, e198, hx198_0, hl198_0, hi198_0⟩ := at_L6 (Kd.N_reads' HO197.out).2.2 0 p198 q198; cases e198; obtain ⟨ce198, hce198, hMe198, hcc198⟩ := Kd.N_get HO197.out [] 0 p198 (by first | exact q198 | exact of_decide_eq_true (by assumption) | (have e_ := (Kd.N_reads' HO197.out).1; omega)); obtain ⟨ua198_0, uc198_0, rfl, ul198_0, ge198_0⟩ := Kd.FK_slice_open hMe198; have hv198_0 := hcc198 0 _ rfl; rw [Nat.add_zero, show ((Kd.slice 30 (Kd.slice 2 (Kd.int .i64)))).sz = 1 from rfl, Nat.mul_one] at hv198_0; replace hv198_0 := Option.some.inj (hv198_0.symm.trans hx198_0); injection hv198_0 with hva_ hvn_ hvc_; rw [hva_] at ge198_0; rw [hvc_] at ul198_0; have HL198_0 := As0.mk (show Kd.V (Kd.slice 2 (Kd.int .i64)) 30 _ w.heap.size _ _ (rd_L6 t195 0) from Kd.V_mk ul198_0 ge198_0); clear hva_ hvn_ hvc_ ge198_0 ul198_0; clear hcc198 hce198; have qi198 : (0 < t195.length) = True := eq_true (by omega); (try rw [show ((0 : Int)).toNat = 0 from rfl] at hx198_0); (try rw [Addr.add_zero'] at hx198_0); have HR198_0 := As0.mk hi198_0; have HC198_0 := As0.mk hl198_0; clear hi198_0 hl198_0; replace p198 := eq_true p198; replace q198 := eq_true q198; have p199 : 0 ≤ (a1 : Int) := of_decide_eq_true (by assumption); have q199 : a1 < ((rd_L6 t195 0).length : Int) := of_decide_eq_true (by assumption); obtain ⟨ad199, A199_0, c199_0, e199, hx199_0, hl199_0, hi199_0⟩ := at_L5 (by repeat (first | (with_reducible exact HR198_0.out) | (with_reducible refine Kd.C_alloc ?_ _) | (with_reducible refine Kd.C_drewN ?_ _) | (with_reducible refine Kd.C_drew ?_) | exact HR198_0.out)) a1 p199 q199; cases e199; obtain ⟨ce199, hce199, hMe199, hcc199⟩ := Kd.V_get HL198_0.out [] a1 p199 (by first | exact q199 | exact of_decide_eq_true (by assumption) | (have e_ := (Kd.V_reads' HL198_0.out).1; omega)); obtain ⟨ua199_0, uc199_0, rfl, ul199_0, ge199_0⟩ := Kd.FK_slice_open hMe199; have hv199_0 := hcc199 0 _ rfl; rw [Nat.add_zero, show ((Kd.slice 2 (Kd.int .i64))).sz = 1 from rfl, Nat.mul_one] at hv199_0; replace hv199_0 := Option.some.inj (hv199_0.symm.trans hx199_0); injection hv199_0 with hva_ hvn_ hvc_; rw [hva_] at ge199_0; rw [hvc_] at ul199_0; have HL199_0 := As0.mk (show Kd.V (Kd.int .i64) 2 _ w.heap.size _ _ (rd_L5 (rd_L6 t195 0) a1) from Kd.V_mk ul199_0 ge199_0); clear hva_ hvn_ hvc_ ge199_0 ul199_0; clear hcc199 hce199; have HR199_0 := As0.mk hi199_0; have HC199_0 := As0.mk hl199_0; clear hi199_0 hl199_0; replace p199 := eq_true p199; replace q199 := eq_true q199; have p200 : 0 ≤ (t194 : Int) := of_decide_eq_true (by assumption); have q200 : t194 < ((rd_L5 (rd_L6 t195 0) a1).length : Int) := of_decide_eq_true (by assumption); obtain ⟨ad200, e200, hx200_0⟩ := Kd.at_int (by repeat (first | (with_reducible exact HR199_0.out) | (with_reducible refine Kd.C_alloc ?_ _) | (with_reducible refine Kd.C_drewN ?_ _) | (with_reducible refine Kd.C_drew ?_) | exact HR199_0.out)) t194 p200 q200; cases e200; replace p200 := eq_true p200; replace q200 := eq_true q200) | ((with_reducible refine gate_dst (N := 40) rfl ?_); refine Kd.R_lit (Kd.int .i64) _ 2 ?hg (N := 40) ?hd (xs := ([] : List Int)) (inner := []) (ok := fun _ => True) (okp := fun _ => True) ?hr ?hp (fun _ hk => hk) trivial (Below.refl _ _) (Nat.le_refl _) (by simp) ?_; (case hd => rfl); (case hg => rfl); (case hr => first | (go_simp; done) | (go_simp; rfl)); (case hp => exact (Reps.none _ _)); intro v202 w18 ho19 hb hg_ hnew_; clear hg_ hnew_; (first | rw [← Ny201.out] at ho19 | (simp only [Int.reduceToNat] at ho19; rw [← Ny201.out] at ho19)); have n0_ := As0.mk (Kd.N_elder' (by (with_reducible repeat (first | apply Kd.N_alloc | apply Kd.N_drewN | apply Kd.N_drew)); exact HO197.out) (Kd.R_base ho19) hb); have n1_ := As0.mk (Kd.V_elder' (by (with_reducible repeat (first | apply Kd.V_alloc | apply Kd.V_drewN | apply Kd.V_drew)); exact HL198_0.out) (Kd.R_base ho19) hb); have n2_ := As0.mk (Kd.V_elder' (by (with_reducible repeat (first | apply Kd.V_alloc | apply Kd.V_drewN | apply Kd.V_drew)); exact HL199_0.out) (Kd.R_base ho19) hb); have n3_ := As0.mk (Kd.R_lower ho19 (bsz (by repeat (with_reducible first | exact HB.out | apply bal | apply pbN | apply bdw)))); have n4_ := As0.mk (Kd.C_below (by repeat (first | (with_reducible exact HR198_0.out) | (with_reducible refine Kd.C_alloc ?_ _) | (with_reducible refine Kd.C_drewN ?_ _) | (with_reducible refine Kd.C_drew ?_) | exact HR198_0.out)) hb); have n5_ := As0.mk (Kd.C_below (by repeat (first | (with_reducible exact HR199_0.out) | (with_reducible refine Kd.C_alloc ?_ _) | (with_reducible refine Kd.C_drewN ?_ _) | (with_reducible refine Kd.C_drew ?_) | exact HR199_0.out)) hb); have n6_ := As0.mk (bsp (by repeat (with_reducible first | exact HB.out | apply bal | apply pbN | apply bdw)) hb); clear HO197; clear HL198_0; clear HL199_0; clear HR198_0; clear HR199_0; clear HB; have HO197 := n0_; have HL198_0 := n1_; have HL199_0 := n2_; have HO203 := n3_; have HR198_0 := n4_; have HR199_0 := n5_; have HB := n6_; clear n0_ n1_ n2_ n3_ n4_ n5_ n6_; clear hb ho19))); (try go_quiet (fail)))
        go_loopg [10, 12, 13, 14] k (fun kq v10 v12 v13 v14 w' => ∃ (x10_1 : Int) (x12_1 : List Int) (x13_1 : Int) (x14_1 : Int), v10 = .int .i64 x10_1 ∧ v13 = .int .i64 x13_1 ∧ v14 = .int .i64 x14_1 ∧ As0 (spec_CheapestMix.l0 kq l0 a1 a2 x10_1 t195 x12_1 x13_1 x14_1 = some (r1, r2, r3)) ∧ As0 (kq ≤ k) ∧ As0 (Kd.N (Kd.slice 30 (Kd.slice 2 (Kd.int .i64))) 45 w' w.heap.size (fun k_ => some k_ ≠ (v12 : Value).ownBlock) (.slice (some ad198) t195.length co17) t195) ∧ As0 (Kd.R (Kd.int .i64) 2 w' w.heap.size (fun _ => True) v12 x12_1) ∧ As0 (Below w.heap.size w w'))
        case atStart => exact ⟨(t194), (y201), (a1), (0), (by first | rfl | (simp; done) | (simp [*]; done)), (by first | rfl | (simp; done) | (simp [*]; done)), (by first | rfl | (simp; done) | (simp [*]; done)), H', ⟨Nat.le_refl _⟩, ⟨by (with_reducible repeat (first | apply Kd.N_alloc | apply Kd.N_drewN | apply Kd.N_drew)); exact Kd.N_mono HO197.out (fun _ hk => hk.2)⟩, ⟨by (with_reducible repeat (first | apply Kd.R_alloc | apply Kd.R_drewN | apply Kd.R_drew)); exact HO203.out⟩, ⟨by repeat (with_reducible first | exact HB.out | apply bal | apply pbN | apply bdw)⟩⟩
        case round =>
         clear H'
         try clear c1
         try clear p1
         try clear q1
         try clear hx1
         try clear qi1
         try clear p2
         try clear q2
         try clear hx2
         try clear c5
         try clear c5b0
         try clear c5b1
         try clear c8
         try clear c8b0
         try clear c8b1
         try clear c9
         try clear c9b0
         try clear c10
         try clear c10b0
         try clear c11
         try clear c11b0
         try clear c12
         try clear c12b0
         try clear c13
         try clear c13b0
         try clear c17
         try clear c19
         try clear p19
         try clear q19
         try clear hx19
         try clear qi19
         try clear hx198_0
         try clear hx199_0
         try clear hx200_0
         try clear p198
         try clear p199
         try clear p200
         try clear q198
         try clear q199
         try clear q200
         obtain ⟨x10_1, x12_1, x13_1, x14_1, rfl, rfl, rfl, HA, HK1, HO_11, HO_12, HB⟩ := hrel
         cases gk with
         | zero => exact absurd HA.out (by simp [spec_CheapestMix.l0])
         | succ k1 =>
          have H := HA.out
          clear HA
          simp only [spec_CheapestMix.l0] at H
          by_cases c20 : x14_1 < (l0.length : Int)
          ·as_aux_lemma =>
           rw [if_pos c20] at H
           have c20b0 : decide (x14_1 < (l0.length : Int)) = true := decide_eq_true c20
           clear c20
           have H' := As0.mk H
           clear H
           go_wp2
           repeat (go_quiet (fail); try go_wp2)
           go_loopg [10, 12, 13, 15] k1 (fun kq v10 v12 v13 v15 w' => ∃ (x10_2 : Int) (x12_2 : List Int) (x13_2 : Int) (x15_2 : Int), v10 = .int .i64 x10_2 ∧ v13 = .int .i64 x13_2 ∧ v15 = .int .i64 x15_2 ∧ As0 (spec_CheapestMix.l1 kq l0 a1 a2 x10_2 t195 x12_2 x13_2 x14_1 x15_2 = some (r1, r2, r3)) ∧ As0 (kq ≤ k1) ∧ As0 (Kd.N (Kd.slice 30 (Kd.slice 2 (Kd.int .i64))) 45 w' w.heap.size (fun k_ => some k_ ≠ (v12 : Value).ownBlock) (.slice (some ad198) t195.length co17) t195) ∧ As0 (Kd.R (Kd.int .i64) 2 w' w.heap.size (fun _ => True) v12 x12_2) ∧ As0 (Below w.heap.size w w'))
           case atStart => exact ⟨(x10_1), (x12_1), (x13_1), (0), (by first | rfl | (simp; done) | (simp [*]; done)), (by first | rfl | (simp; done) | (simp [*]; done)), (by first | rfl | (simp; done) | (simp [*]; done)), H', ⟨Nat.le_refl _⟩, ⟨by (with_reducible repeat (first | apply Kd.N_alloc | apply Kd.N_drewN | apply Kd.N_drew)); exact HO_11.out⟩, ⟨by (with_reducible repeat (first | apply Kd.R_alloc | apply Kd.R_drewN | apply Kd.R_drew)); exact HO_12.out⟩, ⟨by repeat (with_reducible first | exact HB.out | apply bal | apply pbN | apply bdw)⟩⟩
           case round =>
            clear H'
            try clear c1
            try clear p1
            try clear q1
            try clear hx1
            try clear qi1
            try clear c2
            try clear p2
            try clear q2
            try clear hx2
            try clear c5
            try clear c5b0
            try clear c5b1
            try clear c8
            try clear c8b0
            try clear c8b1
            try clear c9
            try clear c9b0
            try clear c10
            try clear c10b0
            try clear c11
            try clear c11b0
            try clear c12
            try clear c12b0
            try clear c13
            try clear c13b0
            try clear c17
            try clear c19
            try clear p19
            try clear q19
            try clear hx19
            try clear qi19
            try clear c20
            try clear c20b0
            try clear p20
            try clear q20
            try clear hx20
            try clear hx198_0
            try clear hx199_0
            try clear hx200_0
            try clear p1
            try clear p19
            try clear p198
            try clear p199
            try clear p2
            try clear p200
            try clear q1
            try clear q19
            try clear q198
            try clear q199
            try clear q2
            try clear q200
            obtain ⟨x10_2, x12_2, x13_2, x15_2, rfl, rfl, rfl, HA, HK2, HO_11, HO_12, HB⟩ := hrel
            cases gk with
            | zero => exact absurd HA.out (by simp [spec_CheapestMix.l1])
            | succ k2 =>
             have H := HA.out
             clear HA
             simp only [spec_CheapestMix.l1] at H
             have HC21 := As0.mk H
             clear H
             go_upto_region 14 with (fail)
             repeat (go_quiet (fail); go_upto_region 14 with (fail))
             go_cut [70] (fun v70 wc => ∃ (kq : Nat) (x70_20 : Bool), v70 = .bool x70_20 ∧ As0 (spec_CheapestMix.j2 kq l0 a1 a2 x10_2 t195 x12_2 x13_2 x14_1 x15_2 x70_20 = some (r1, r2, r3)) ∧ As0 (kq ≤ k2) ∧ As0 (Kd.N (Kd.slice 30 (Kd.slice 2 (Kd.int .i64))) 45 wc w.heap.size (fun k_ => some k_ ≠ (u12 : Value).ownBlock) (.slice (some ad198) t195.length co17) t195) ∧ As0 (Kd.R (Kd.int .i64) 2 wc w.heap.size (fun _ => True) u12 x12_2) ∧ As0 (Below w.heap.size w wc))
             case first =>
              have H := HC21.out
              clear HC21
              by_cases c22 : 0 ≤ x14_1
              ·as_aux_lemma =>
               rw [if_pos c22] at H
               have c22b0 : decide (0 ≤ x14_1) = true := decide_eq_true c22
               clear c22
               (first | rw [c22b0] | (simp only [i64_w, i32_w]; rw [c22b0]) | skip)
               by_cases c23 : x14_1 < (l0.length : Int)
               ·as_aux_lemma =>
                rw [if_pos c23] at H
                have c23b0 : decide (x14_1 < (l0.length : Int)) = true := decide_eq_true c23
                clear c23
                by_cases c24 : x15_2 ≤ ((rd_T46 l0 x14_1).f3)
                ·rw [if_pos c24] at H
                 have c24b0 : decide (x15_2 ≤ ((rd_T46 l0 x14_1).f3)) = true := decide_eq_true c24
                 clear c24
                 by_cases c25 : x15_2 ≤ x13_2
                 ·rw [if_pos c25] at H
                  have c25b0 : decide (x15_2 ≤ x13_2) = true := decide_eq_true c25
                  clear c25
                  have H' := As0.mk H
                  clear H
                  have p208 : 0 ≤ (x14_1 : Int) := of_decide_eq_true (by assumption)
                  have q208 : x14_1 < (l0.length : Int) := of_decide_eq_true (by assumption)
                  obtain ⟨ad208, e208, hx208_0, hx208_1, hx208_2, hx208_3⟩ := at_T46 HR0.out x14_1 p208 q208
                  cases e208
                  replace hx208_0 := (HB.out.cell (blt w _ hx208_0)).trans hx208_0
                  replace hx208_1 := (HB.out.cell (blt w _ hx208_1)).trans hx208_1
                  replace hx208_2 := (HB.out.cell (blt w _ hx208_2)).trans hx208_2
                  replace hx208_3 := (HB.out.cell (blt w _ hx208_3)).trans hx208_3
                  replace p208 := eq_true p208
                  replace q208 := eq_true q208
                  have p209 : 0 ≤ (x14_1 : Int) := of_decide_eq_true (by assumption)
                  have q209 : x14_1 < (l0.length : Int) := of_decide_eq_true (by assumption)
                  obtain ⟨ad209, e209, hx209_0, hx209_1, hx209_2, hx209_3⟩ := at_T46 HR0.out x14_1 p209 q209
                  obtain rfl : ad208 = ad209 := (by injection e209)
                  replace hx209_0 := (HB.out.cell (blt w _ hx209_0)).trans hx209_0
                  replace hx209_1 := (HB.out.cell (blt w _ hx209_1)).trans hx209_1
                  replace hx209_2 := (HB.out.cell (blt w _ hx209_2)).trans hx209_2
                  replace hx209_3 := (HB.out.cell (blt w _ hx209_3)).trans hx209_3
                  replace p209 := eq_true p209
                  replace q209 := eq_true q209
                  go_wp2
                  repeat (go_quiet (fail); try go_wp2)
                  go_meet
                  case rel => exact ⟨_, (decide ((wrap64 (x15_2 * ((rd_T46 l0 x14_1).f1))) ≤ x10_2)), (by first | rfl | (simp; done) | (simp [*]; done)), H', ⟨by have := HK1.out; have := HK2.out; first | omega | exact Nat.le_refl _⟩, ⟨by (with_reducible repeat (first | apply Kd.N_alloc | apply Kd.N_drewN | apply Kd.N_drew)); exact HO_11.out⟩, ⟨by (with_reducible repeat (first | apply Kd.R_alloc | apply Kd.R_drewN | apply Kd.R_drew)); exact HO_12.out⟩, ⟨by repeat (with_reducible first | exact HB.out | apply bal | apply pbN | apply bdw)⟩⟩
                 ·rw [if_neg c25] at H
                  have c25b0 : decide (x15_2 ≤ x13_2) = false := decide_eq_false c25
                  clear c25
                  have H' := As0.mk H
                  clear H
                  have p208 : 0 ≤ (x14_1 : Int) := of_decide_eq_true (by assumption)
                  have q208 : x14_1 < (l0.length : Int) := of_decide_eq_true (by assumption)
                  obtain ⟨ad208, e208, hx208_0, hx208_1, hx208_2, hx208_3⟩ := at_T46 HR0.out x14_1 p208 q208
                  cases e208
                  replace hx208_0 := (HB.out.cell (blt w _ hx208_0)).trans hx208_0
                  replace hx208_1 := (HB.out.cell (blt w _ hx208_1)).trans hx208_1
                  replace hx208_2 := (HB.out.cell (blt w _ hx208_2)).trans hx208_2
                  replace hx208_3 := (HB.out.cell (blt w _ hx208_3)).trans hx208_3
                  replace p208 := eq_true p208
                  replace q208 := eq_true q208
                  go_wp2
                  repeat (go_quiet (fail); try go_wp2)
                  go_meet
                  case rel => exact ⟨_, (false), (by first | rfl | (simp; done) | (simp [*]; done)), H', ⟨by have := HK1.out; have := HK2.out; first | omega | exact Nat.le_refl _⟩, ⟨by (with_reducible repeat (first | apply Kd.N_alloc | apply Kd.N_drewN | apply Kd.N_drew)); exact HO_11.out⟩, ⟨by (with_reducible repeat (first | apply Kd.R_alloc | apply Kd.R_drewN | apply Kd.R_drew)); exact HO_12.out⟩, ⟨by repeat (with_reducible first | exact HB.out | apply bal | apply pbN | apply bdw)⟩⟩
                ·rw [if_neg c24] at H
                 have c24b0 : decide (x15_2 ≤ ((rd_T46 l0 x14_1).f3)) = false := decide_eq_false c24
                 clear c24
                 have H' := As0.mk H
                 clear H
                 have p208 : 0 ≤ (x14_1 : Int) := of_decide_eq_true (by assumption)
                 have q208 : x14_1 < (l0.length : Int) := of_decide_eq_true (by assumption)
                 obtain ⟨ad208, e208, hx208_0, hx208_1, hx208_2, hx208_3⟩ := at_T46 HR0.out x14_1 p208 q208
                 cases e208
                 replace hx208_0 := (HB.out.cell (blt w _ hx208_0)).trans hx208_0
                 replace hx208_1 := (HB.out.cell (blt w _ hx208_1)).trans hx208_1
                 replace hx208_2 := (HB.out.cell (blt w _ hx208_2)).trans hx208_2
                 replace hx208_3 := (HB.out.cell (blt w _ hx208_3)).trans hx208_3
                 replace p208 := eq_true p208
                 replace q208 := eq_true q208
                 go_wp2
                 repeat (go_quiet (fail); try go_wp2)
                 go_meet
                 case rel => exact ⟨_, (false), (by first | rfl | (simp; done) | (simp [*]; done)), H', ⟨by have := HK1.out; have := HK2.out; first | omega | exact Nat.le_refl _⟩, ⟨by (with_reducible repeat (first | apply Kd.N_alloc | apply Kd.N_drewN | apply Kd.N_drew)); exact HO_11.out⟩, ⟨by (with_reducible repeat (first | apply Kd.R_alloc | apply Kd.R_drewN | apply Kd.R_drew)); exact HO_12.out⟩, ⟨by repeat (with_reducible first | exact HB.out | apply bal | apply pbN | apply bdw)⟩⟩
               ·rw [if_neg c23] at H
                exact absurd H (by simp)
              ·rw [if_neg c22] at H
               exact absurd H (by simp)
             case rest =>
              clear HC21
              try clear c1
              try clear p1
              try clear q1
              try clear hx1
              try clear qi1
              try clear c2
              try clear p2
              try clear q2
              try clear hx2
              try clear c5
              try clear c5b0
              try clear c5b1
              try clear p6
              try clear c8
              try clear c8b0
              try clear c8b1
              try clear c9
              try clear c9b0
              try clear c10
              try clear c10b0
              try clear c11
              try clear c11b0
              try clear c12
              try clear c12b0
              try clear c13
              try clear c13b0
              try clear c17
              try clear c19
              try clear p19
              try clear q19
              try clear hx19
              try clear qi19
              try clear c20
              try clear c20b0
              try clear p20
              try clear q20
              try clear hx20
              try clear c22
              try clear c22b0
              try clear c23
              try clear c23b0
              try clear c24
              try clear c24b0
              try clear c25
              try clear c25b0
              try clear hx198_0
              try clear hx199_0
              try clear hx200_0
              try clear hx208_0
              try clear hx208_1
              try clear hx208_2
              try clear hx208_3
              try clear hx209_0
              try clear hx209_1
              try clear hx209_2
              try clear hx209_3
              try clear p1
              try clear p19
              try clear p198
              try clear p199
              try clear p2
              try clear p20
              try clear p200
              try clear p208
              try clear p209
              try clear q1
              try clear q19
              try clear q198
              try clear q199
              try clear q2
              try clear q20
              try clear q200
              try clear q208
              try clear q209
              obtain ⟨kq, x70_20, rfl, HA, HJ20, HO_11, HO_12, HB⟩ := hcut
              cases kq with
              | zero => exact absurd HA.out (by simp [spec_CheapestMix.j2])
              | succ kj20 =>
               have H := HA.out
               clear HA
               simp only [spec_CheapestMix.j2] at H
               by_cases c26 : x70_20 = true
               ·as_aux_lemma =>
                subst c26
                have H1 : (if 0 ≤ (wrap64 (x14_1 + 1)) then (if (wrap64 (x14_1 + 1)) < (t195.length : Int) then (if 0 ≤ (wrap64 (x13_2 - x15_2)) then (if (wrap64 (x13_2 - x15_2)) < ((rd_L6 t195 (wrap64 (x14_1 + 1))).length : Int) then (if 0 ≤ x14_1 then (if x14_1 < (l0.length : Int) then (if 0 ≤ (wrap64 (x10_2 - (wrap64 (x15_2 * ((rd_T46 l0 x14_1).f1))))) then (if (wrap64 (x10_2 - (wrap64 (x15_2 * ((rd_T46 l0 x14_1).f1))))) < ((rd_L5 (rd_L6 t195 (wrap64 (x14_1 + 1))) (wrap64 (x13_2 - x15_2))).length : Int) then (if (rd (rd_L5 (rd_L6 t195 (wrap64 (x14_1 + 1))) (wrap64 (x13_2 - x15_2))) (wrap64 (x10_2 - (wrap64 (x15_2 * ((rd_T46 l0 x14_1).f1)))))) ≥ 0 then (if x14_1 < (t195.length : Int) then (if 0 ≤ x13_2 then (if x13_2 < ((rd_L6 t195 x14_1).length : Int) then (if 0 ≤ x10_2 then (if x10_2 < ((rd_L5 (rd_L6 t195 x14_1) x13_2).length : Int) then (if (wrap64 ((rd (rd_L5 (rd_L6 t195 (wrap64 (x14_1 + 1))) (wrap64 (x13_2 - x15_2))) (wrap64 (x10_2 - (wrap64 (x15_2 * ((rd_T46 l0 x14_1).f1)))))) + (wrap64 (x15_2 * ((rd_T46 l0 x14_1).f2))))) = (rd (rd_L5 (rd_L6 t195 x14_1) x13_2) x10_2) then (if x12_2.length < 17592186044416 then (spec_CheapestMix.l0 kj20 l0 a1 a2 (wrap64 (x10_2 - (wrap64 (x15_2 * ((rd_T46 l0 x14_1).f1))))) t195 (x12_2 ++ [x15_2]) (wrap64 (x13_2 - x15_2)) (wrap64 (x14_1 + 1))) else (none)) else (spec_CheapestMix.l1 kj20 l0 a1 a2 x10_2 t195 x12_2 x13_2 x14_1 (wrap64 (x15_2 + 1)))) else (none)) else (none)) else (none)) else (none)) else (none)) else (spec_CheapestMix.l1 kj20 l0 a1 a2 x10_2 t195 x12_2 x13_2 x14_1 (wrap64 (x15_2 + 1)))) else (none)) else (none)) else (none)) else (none)) else (none)) else (none)) else (none)) else (none)) = some (r1, r2, r3) := by rw [if_pos rfl] at H; exact H
                clear H
                have H := H1
                clear H1
                obtain ⟨ji27, hji27⟩ : ∃ j_ : Int, (wrap64 (x14_1 + 1)) = j_ := ⟨_, rfl⟩
                replace H : (if 0 ≤ (ji27) then (if (ji27) < (t195.length : Int) then (if 0 ≤ (wrap64 (x13_2 - x15_2)) then (if (wrap64 (x13_2 - x15_2)) < ((rd_L6 t195 (ji27)).length : Int) then (if 0 ≤ x14_1 then (if x14_1 < (l0.length : Int) then (if 0 ≤ (wrap64 (x10_2 - (wrap64 (x15_2 * ((rd_T46 l0 x14_1).f1))))) then (if (wrap64 (x10_2 - (wrap64 (x15_2 * ((rd_T46 l0 x14_1).f1))))) < ((rd_L5 (rd_L6 t195 (ji27)) (wrap64 (x13_2 - x15_2))).length : Int) then (if (rd (rd_L5 (rd_L6 t195 (ji27)) (wrap64 (x13_2 - x15_2))) (wrap64 (x10_2 - (wrap64 (x15_2 * ((rd_T46 l0 x14_1).f1)))))) ≥ 0 then (if x14_1 < (t195.length : Int) then (if 0 ≤ x13_2 then (if x13_2 < ((rd_L6 t195 x14_1).length : Int) then (if 0 ≤ x10_2 then (if x10_2 < ((rd_L5 (rd_L6 t195 x14_1) x13_2).length : Int) then (if (wrap64 ((rd (rd_L5 (rd_L6 t195 (ji27)) (wrap64 (x13_2 - x15_2))) (wrap64 (x10_2 - (wrap64 (x15_2 * ((rd_T46 l0 x14_1).f1)))))) + (wrap64 (x15_2 * ((rd_T46 l0 x14_1).f2))))) = (rd (rd_L5 (rd_L6 t195 x14_1) x13_2) x10_2) then (if x12_2.length < 17592186044416 then (spec_CheapestMix.l0 kj20 l0 a1 a2 (wrap64 (x10_2 - (wrap64 (x15_2 * ((rd_T46 l0 x14_1).f1))))) t195 (x12_2 ++ [x15_2]) (wrap64 (x13_2 - x15_2)) ji27) else (none)) else (spec_CheapestMix.l1 kj20 l0 a1 a2 x10_2 t195 x12_2 x13_2 x14_1 (wrap64 (x15_2 + 1)))) else (none)) else (none)) else (none)) else (none)) else (none)) else (spec_CheapestMix.l1 kj20 l0 a1 a2 x10_2 t195 x12_2 x13_2 x14_1 (wrap64 (x15_2 + 1)))) else (none)) else (none)) else (none)) else (none)) else (none)) else (none)) else (none)) else (none)) = some (r1, r2, r3) := by first | (rw [hji27] at H; exact H) | (simp only [hji27] at H ⊢; exact H)
                have hji27w : (IntKind.i64.wrap (x14_1 + 1)) = ji27 := (i64_w _).trans hji27
                by_cases c28 : 0 ≤ (ji27)
                ·as_aux_lemma =>
                 rw [if_pos c28] at H
                 have c28b0 : decide (0 ≤ (ji27)) = true := decide_eq_true c28
                 clear c28
                 by_cases c29 : (ji27) < (t195.length : Int)
                 ·as_aux_lemma =>
                  rw [if_pos c29] at H
                  have c29b0 : decide ((ji27) < (t195.length : Int)) = true := decide_eq_true c29
                  clear c29
                  obtain ⟨ji30, hji30⟩ : ∃ j_ : Int, (wrap64 (x13_2 - x15_2)) = j_ := ⟨_, rfl⟩
                  replace H : (if 0 ≤ (ji30) then (if (ji30) < ((rd_L6 t195 (ji27)).length : Int) then (if 0 ≤ x14_1 then (if x14_1 < (l0.length : Int) then (if 0 ≤ (wrap64 (x10_2 - (wrap64 (x15_2 * ((rd_T46 l0 x14_1).f1))))) then (if (wrap64 (x10_2 - (wrap64 (x15_2 * ((rd_T46 l0 x14_1).f1))))) < ((rd_L5 (rd_L6 t195 (ji27)) (ji30)).length : Int) then (if (rd (rd_L5 (rd_L6 t195 (ji27)) (ji30)) (wrap64 (x10_2 - (wrap64 (x15_2 * ((rd_T46 l0 x14_1).f1)))))) ≥ 0 then (if x14_1 < (t195.length : Int) then (if 0 ≤ x13_2 then (if x13_2 < ((rd_L6 t195 x14_1).length : Int) then (if 0 ≤ x10_2 then (if x10_2 < ((rd_L5 (rd_L6 t195 x14_1) x13_2).length : Int) then (if (wrap64 ((rd (rd_L5 (rd_L6 t195 (ji27)) (ji30)) (wrap64 (x10_2 - (wrap64 (x15_2 * ((rd_T46 l0 x14_1).f1)))))) + (wrap64 (x15_2 * ((rd_T46 l0 x14_1).f2))))) = (rd (rd_L5 (rd_L6 t195 x14_1) x13_2) x10_2) then (if x12_2.length < 17592186044416 then (spec_CheapestMix.l0 kj20 l0 a1 a2 (wrap64 (x10_2 - (wrap64 (x15_2 * ((rd_T46 l0 x14_1).f1))))) t195 (x12_2 ++ [x15_2]) ji30 ji27) else (none)) else (spec_CheapestMix.l1 kj20 l0 a1 a2 x10_2 t195 x12_2 x13_2 x14_1 (wrap64 (x15_2 + 1)))) else (none)) else (none)) else (none)) else (none)) else (none)) else (spec_CheapestMix.l1 kj20 l0 a1 a2 x10_2 t195 x12_2 x13_2 x14_1 (wrap64 (x15_2 + 1)))) else (none)) else (none)) else (none)) else (none)) else (none)) else (none)) = some (r1, r2, r3) := by first | (rw [hji30] at H; exact H) | (simp only [hji30] at H ⊢; exact H)
                  have hji30w : (IntKind.i64.wrap (x13_2 - x15_2)) = ji30 := (i64_w _).trans hji30
                  by_cases c31 : 0 ≤ (ji30)
                  ·as_aux_lemma =>
                   rw [if_pos c31] at H
                   have c31b0 : decide (0 ≤ (ji30)) = true := decide_eq_true c31
                   clear c31
                   by_cases c32 : (ji30) < ((rd_L6 t195 (ji27)).length : Int)
                   ·as_aux_lemma =>
                    rw [if_pos c32] at H
                    have c32b0 : decide ((ji30) < ((rd_L6 t195 (ji27)).length : Int)) = true := decide_eq_true c32
                    clear c32
                    by_cases c33 : 0 ≤ x14_1
                    ·as_aux_lemma =>
                     rw [if_pos c33] at H
                     have c33b0 : decide (0 ≤ x14_1) = true := decide_eq_true c33
                     clear c33
                     by_cases c34 : x14_1 < (l0.length : Int)
                     ·as_aux_lemma =>
                      rw [if_pos c34] at H
                      have c34b0 : decide (x14_1 < (l0.length : Int)) = true := decide_eq_true c34
                      clear c34
                      obtain ⟨ji35, hji35⟩ : ∃ j_ : Int, (wrap64 (x10_2 - (wrap64 (x15_2 * ((rd_T46 l0 x14_1).f1))))) = j_ := ⟨_, rfl⟩
                      replace H : (if 0 ≤ (ji35) then (if (ji35) < ((rd_L5 (rd_L6 t195 (ji27)) (ji30)).length : Int) then (if (rd (rd_L5 (rd_L6 t195 (ji27)) (ji30)) (ji35)) ≥ 0 then (if x14_1 < (t195.length : Int) then (if 0 ≤ x13_2 then (if x13_2 < ((rd_L6 t195 x14_1).length : Int) then (if 0 ≤ x10_2 then (if x10_2 < ((rd_L5 (rd_L6 t195 x14_1) x13_2).length : Int) then (if (wrap64 ((rd (rd_L5 (rd_L6 t195 (ji27)) (ji30)) (ji35)) + (wrap64 (x15_2 * ((rd_T46 l0 x14_1).f2))))) = (rd (rd_L5 (rd_L6 t195 x14_1) x13_2) x10_2) then (if x12_2.length < 17592186044416 then (spec_CheapestMix.l0 kj20 l0 a1 a2 ji35 t195 (x12_2 ++ [x15_2]) ji30 ji27) else (none)) else (spec_CheapestMix.l1 kj20 l0 a1 a2 x10_2 t195 x12_2 x13_2 x14_1 (wrap64 (x15_2 + 1)))) else (none)) else (none)) else (none)) else (none)) else (none)) else (spec_CheapestMix.l1 kj20 l0 a1 a2 x10_2 t195 x12_2 x13_2 x14_1 (wrap64 (x15_2 + 1)))) else (none)) else (none)) = some (r1, r2, r3) := by first | (rw [hji35] at H; exact H) | (simp only [hji35] at H ⊢; exact H)
                      have hji35w : (IntKind.i64.wrap (x10_2 - (wrap64 (x15_2 * ((rd_T46 l0 x14_1).f1))))) = ji35 := (i64_w _).trans hji35
                      by_cases c36 : 0 ≤ (ji35)
                      ·as_aux_lemma =>
                       rw [if_pos c36] at H
                       have c36b0 : decide (0 ≤ (ji35)) = true := decide_eq_true c36
                       clear c36
                       by_cases c37 : (ji35) < ((rd_L5 (rd_L6 t195 (ji27)) (ji30)).length : Int)
                       ·as_aux_lemma =>
                        rw [if_pos c37] at H
                        have c37b0 : decide ((ji35) < ((rd_L5 (rd_L6 t195 (ji27)) (ji30)).length : Int)) = true := decide_eq_true c37
                        clear c37
                        by_cases c38 : (rd (rd_L5 (rd_L6 t195 (ji27)) (ji30)) (ji35)) ≥ 0
                        ·as_aux_lemma =>
                         rw [if_pos c38] at H
                         have c38b0 : decide (0 ≤ (rd (rd_L5 (rd_L6 t195 (ji27)) (ji30)) (ji35))) = true := decide_eq_true c38
                         clear c38
                         by_cases c39 : x14_1 < (t195.length : Int)
                         ·as_aux_lemma =>
                          rw [if_pos c39] at H
                          have c39b0 : decide (x14_1 < (t195.length : Int)) = true := decide_eq_true c39
                          clear c39
                          by_cases c40 : 0 ≤ x13_2
                          ·as_aux_lemma =>
                           rw [if_pos c40] at H
                           have c40b0 : decide (0 ≤ x13_2) = true := decide_eq_true c40
                           clear c40
                           by_cases c41 : x13_2 < ((rd_L6 t195 x14_1).length : Int)
                           ·as_aux_lemma =>
                            rw [if_pos c41] at H
                            have c41b0 : decide (x13_2 < ((rd_L6 t195 x14_1).length : Int)) = true := decide_eq_true c41
                            clear c41
                            by_cases c42 : 0 ≤ x10_2
                            ·as_aux_lemma =>
                             rw [if_pos c42] at H
                             have c42b0 : decide (0 ≤ x10_2) = true := decide_eq_true c42
                             clear c42
                             by_cases c43 : x10_2 < ((rd_L5 (rd_L6 t195 x14_1) x13_2).length : Int)
                             ·as_aux_lemma =>
                              rw [if_pos c43] at H
                              have c43b0 : decide (x10_2 < ((rd_L5 (rd_L6 t195 x14_1) x13_2).length : Int)) = true := decide_eq_true c43
                              clear c43
                              by_cases c44 : (wrap64 ((rd (rd_L5 (rd_L6 t195 (ji27)) (ji30)) (ji35)) + (wrap64 (x15_2 * ((rd_T46 l0 x14_1).f2))))) = (rd (rd_L5 (rd_L6 t195 x14_1) x13_2) x10_2)
                              ·as_aux_lemma =>
                               rw [if_pos c44] at H
                               have c44b0 : ((wrap64 ((rd (rd_L5 (rd_L6 t195 (ji27)) (ji30)) (ji35)) + (wrap64 (x15_2 * ((rd_T46 l0 x14_1).f2))))) == (rd (rd_L5 (rd_L6 t195 x14_1) x13_2) x10_2)) = true := beq_iff_eq.mpr c44
                               have c44b1 : ((wrap64 ((rd (rd_L5 (rd_L6 t195 (ji27)) (ji30)) (ji35)) + (wrap64 (x15_2 * ((rd_T46 l0 x14_1).f2))))) != (rd (rd_L5 (rd_L6 t195 x14_1) x13_2) x10_2)) = false := bne_eq_false_iff_eq.mpr c44
                               clear c44
                               by_cases c45 : x12_2.length < 17592186044416
                               ·as_aux_lemma =>
                                rw [if_pos c45] at H
                                have LMc45 := As0.mk c45
                                clear c45
                                obtain ⟨y218, hy218⟩ : ∃ y_ : List Int, y_ = (x12_2 ++ [x15_2]) := ⟨_, rfl⟩
                                replace H : (spec_CheapestMix.l0 kj20 l0 a1 a2 ji35 t195 y218 ji30 ji27) = some (r1, r2, r3) := by first | (rw [hy218]; with_reducible exact H) | (have H2_ := (Option.bind_some _ _).symm.trans H; rw [hy218]; with_reducible exact H2_) | (have H2_ := (Option.bind_some _ _).symm.trans H; with_reducible exact H2_) | with_reducible exact H | (rw [hy218]; exact H) | exact H
                                have Ny218 := As0.mk hy218
                                clear hy218
                                have H' := As0.mk H
                                clear H
                                have p210 : 0 ≤ ((ji27) : Int) := of_decide_eq_true (by assumption)
                                have q210 : (ji27) < (t195.length : Int) := of_decide_eq_true (by assumption)
                                obtain ⟨ad210, A210_0, c210_0, e210, hx210_0, hl210_0, hi210_0⟩ := at_L6 (Kd.N_reads' HO_11.out).2.2 (ji27) p210 q210
                                obtain rfl : ad198 = ad210 := (by injection e210)
                                obtain ⟨ce210, hce210, hMe210, hcc210⟩ := Kd.N_get HO_11.out [] (ji27) p210 (by first | exact q210 | exact of_decide_eq_true (by assumption) | (have e_ := (Kd.N_reads' HO_11.out).1; omega))
                                obtain ⟨ua210_0, uc210_0, rfl, ul210_0, ge210_0⟩ := Kd.FK_slice_open hMe210
                                have hv210_0 := hcc210 0 _ rfl
                                rw [Nat.add_zero, show ((Kd.slice 30 (Kd.slice 2 (Kd.int .i64)))).sz = 1 from rfl, Nat.mul_one] at hv210_0
                                replace hv210_0 := Option.some.inj (hv210_0.symm.trans hx210_0)
                                injection hv210_0 with hva_ hvn_ hvc_
                                rw [hva_] at ge210_0
                                rw [hvc_] at ul210_0
                                have HL210_0 := As0.mk (show Kd.V (Kd.slice 2 (Kd.int .i64)) 30 _ w.heap.size _ _ (rd_L6 t195 (ji27)) from Kd.V_mk ul210_0 ge210_0)
                                clear hva_ hvn_ hvc_ ge210_0 ul210_0
                                clear hcc210 hce210
                                have HR210_0 := As0.mk hi210_0
                                have HC210_0 := As0.mk hl210_0
                                clear hi210_0 hl210_0
                                replace p210 := eq_true p210
                                replace q210 := eq_true q210
                                have p211 : 0 ≤ ((ji30) : Int) := of_decide_eq_true (by assumption)
                                have q211 : (ji30) < ((rd_L6 t195 (ji27)).length : Int) := of_decide_eq_true (by assumption)
                                obtain ⟨ad211, A211_0, c211_0, e211, hx211_0, hl211_0, hi211_0⟩ := at_L5 (by repeat (first | (with_reducible exact HR210_0.out) | (with_reducible refine Kd.C_alloc ?_ _) | (with_reducible refine Kd.C_drewN ?_ _) | (with_reducible refine Kd.C_drew ?_) | exact HR210_0.out)) (ji30) p211 q211
                                cases e211
                                obtain ⟨ce211, hce211, hMe211, hcc211⟩ := Kd.V_get HL210_0.out [] (ji30) p211 (by first | exact q211 | exact of_decide_eq_true (by assumption) | (have e_ := (Kd.V_reads' HL210_0.out).1; omega))
                                obtain ⟨ua211_0, uc211_0, rfl, ul211_0, ge211_0⟩ := Kd.FK_slice_open hMe211
                                have hv211_0 := hcc211 0 _ rfl
                                rw [Nat.add_zero, show ((Kd.slice 2 (Kd.int .i64))).sz = 1 from rfl, Nat.mul_one] at hv211_0
                                replace hv211_0 := Option.some.inj (hv211_0.symm.trans hx211_0)
                                injection hv211_0 with hva_ hvn_ hvc_
                                rw [hva_] at ge211_0
                                rw [hvc_] at ul211_0
                                have HL211_0 := As0.mk (show Kd.V (Kd.int .i64) 2 _ w.heap.size _ _ (rd_L5 (rd_L6 t195 (ji27)) (ji30)) from Kd.V_mk ul211_0 ge211_0)
                                clear hva_ hvn_ hvc_ ge211_0 ul211_0
                                clear hcc211 hce211
                                have HR211_0 := As0.mk hi211_0
                                have HC211_0 := As0.mk hl211_0
                                clear hi211_0 hl211_0
                                replace p211 := eq_true p211
                                replace q211 := eq_true q211
                                have p212 : 0 ≤ (x14_1 : Int) := of_decide_eq_true (by assumption)
                                have q212 : x14_1 < (l0.length : Int) := of_decide_eq_true (by assumption)
                                obtain ⟨ad212, e212, hx212_0, hx212_1, hx212_2, hx212_3⟩ := at_T46 HR0.out x14_1 p212 q212
                                cases e212
                                replace hx212_0 := (HB.out.cell (blt w _ hx212_0)).trans hx212_0
                                replace hx212_1 := (HB.out.cell (blt w _ hx212_1)).trans hx212_1
                                replace hx212_2 := (HB.out.cell (blt w _ hx212_2)).trans hx212_2
                                replace hx212_3 := (HB.out.cell (blt w _ hx212_3)).trans hx212_3
                                replace p212 := eq_true p212
                                replace q212 := eq_true q212
                                have p213 : 0 ≤ ((ji35) : Int) := of_decide_eq_true (by assumption)
                                have q213 : (ji35) < ((rd_L5 (rd_L6 t195 (ji27)) (ji30)).length : Int) := of_decide_eq_true (by assumption)
                                obtain ⟨ad213, e213, hx213_0⟩ := Kd.at_int (by repeat (first | (with_reducible exact HR211_0.out) | (with_reducible refine Kd.C_alloc ?_ _) | (with_reducible refine Kd.C_drewN ?_ _) | (with_reducible refine Kd.C_drew ?_) | exact HR211_0.out)) (ji35) p213 q213
                                cases e213
                                replace p213 := eq_true p213
                                replace q213 := eq_true q213
                                have p214 : 0 ≤ (x14_1 : Int) := of_decide_eq_true (by assumption)
                                have q214 : x14_1 < (l0.length : Int) := of_decide_eq_true (by assumption)
                                obtain ⟨ad214, e214, hx214_0, hx214_1, hx214_2, hx214_3⟩ := at_T46 HR0.out x14_1 p214 q214
                                obtain rfl : ad212 = ad214 := (by injection e214)
                                replace hx214_0 := (HB.out.cell (blt w _ hx214_0)).trans hx214_0
                                replace hx214_1 := (HB.out.cell (blt w _ hx214_1)).trans hx214_1
                                replace hx214_2 := (HB.out.cell (blt w _ hx214_2)).trans hx214_2
                                replace hx214_3 := (HB.out.cell (blt w _ hx214_3)).trans hx214_3
                                replace p214 := eq_true p214
                                replace q214 := eq_true q214
                                have p215 : 0 ≤ (x14_1 : Int) := of_decide_eq_true (by assumption)
                                have q215 : x14_1 < (t195.length : Int) := of_decide_eq_true (by assumption)
                                obtain ⟨ad215, A215_0, c215_0, e215, hx215_0, hl215_0, hi215_0⟩ := at_L6 (Kd.N_reads' HO_11.out).2.2 x14_1 p215 q215
                                obtain rfl : ad198 = ad215 := (by injection e215)
                                obtain ⟨ce215, hce215, hMe215, hcc215⟩ := Kd.N_get HO_11.out [] x14_1 p215 (by first | exact q215 | exact of_decide_eq_true (by assumption) | (have e_ := (Kd.N_reads' HO_11.out).1; omega))
                                obtain ⟨ua215_0, uc215_0, rfl, ul215_0, ge215_0⟩ := Kd.FK_slice_open hMe215
                                have hv215_0 := hcc215 0 _ rfl
                                rw [Nat.add_zero, show ((Kd.slice 30 (Kd.slice 2 (Kd.int .i64)))).sz = 1 from rfl, Nat.mul_one] at hv215_0
                                replace hv215_0 := Option.some.inj (hv215_0.symm.trans hx215_0)
                                injection hv215_0 with hva_ hvn_ hvc_
                                rw [hva_] at ge215_0
                                rw [hvc_] at ul215_0
                                have HL215_0 := As0.mk (show Kd.V (Kd.slice 2 (Kd.int .i64)) 30 _ w.heap.size _ _ (rd_L6 t195 x14_1) from Kd.V_mk ul215_0 ge215_0)
                                clear hva_ hvn_ hvc_ ge215_0 ul215_0
                                clear hcc215 hce215
                                have HR215_0 := As0.mk hi215_0
                                have HC215_0 := As0.mk hl215_0
                                clear hi215_0 hl215_0
                                replace p215 := eq_true p215
                                replace q215 := eq_true q215
                                have p216 : 0 ≤ (x13_2 : Int) := of_decide_eq_true (by assumption)
                                have q216 : x13_2 < ((rd_L6 t195 x14_1).length : Int) := of_decide_eq_true (by assumption)
                                obtain ⟨ad216, A216_0, c216_0, e216, hx216_0, hl216_0, hi216_0⟩ := at_L5 (by repeat (first | (with_reducible exact HR215_0.out) | (with_reducible refine Kd.C_alloc ?_ _) | (with_reducible refine Kd.C_drewN ?_ _) | (with_reducible refine Kd.C_drew ?_) | exact HR215_0.out)) x13_2 p216 q216
                                cases e216
                                obtain ⟨ce216, hce216, hMe216, hcc216⟩ := Kd.V_get HL215_0.out [] x13_2 p216 (by first | exact q216 | exact of_decide_eq_true (by assumption) | (have e_ := (Kd.V_reads' HL215_0.out).1; omega))
                                obtain ⟨ua216_0, uc216_0, rfl, ul216_0, ge216_0⟩ := Kd.FK_slice_open hMe216
                                have hv216_0 := hcc216 0 _ rfl
                                rw [Nat.add_zero, show ((Kd.slice 2 (Kd.int .i64))).sz = 1 from rfl, Nat.mul_one] at hv216_0
                                replace hv216_0 := Option.some.inj (hv216_0.symm.trans hx216_0)
                                injection hv216_0 with hva_ hvn_ hvc_
                                rw [hva_] at ge216_0
                                rw [hvc_] at ul216_0
                                have HL216_0 := As0.mk (show Kd.V (Kd.int .i64) 2 _ w.heap.size _ _ (rd_L5 (rd_L6 t195 x14_1) x13_2) from Kd.V_mk ul216_0 ge216_0)
                                clear hva_ hvn_ hvc_ ge216_0 ul216_0
                                clear hcc216 hce216
                                have HR216_0 := As0.mk hi216_0
                                have HC216_0 := As0.mk hl216_0
                                clear hi216_0 hl216_0
                                replace p216 := eq_true p216
                                replace q216 := eq_true q216
                                have p217 : 0 ≤ (x10_2 : Int) := of_decide_eq_true (by assumption)
                                have q217 : x10_2 < ((rd_L5 (rd_L6 t195 x14_1) x13_2).length : Int) := of_decide_eq_true (by assumption)
                                obtain ⟨ad217, e217, hx217_0⟩ := Kd.at_int (by repeat (first | (with_reducible exact HR216_0.out) | (with_reducible refine Kd.C_alloc ?_ _) | (with_reducible refine Kd.C_drewN ?_ _) | (with_reducible refine Kd.C_drew ?_) | exact HR216_0.out)) x10_2 p217 q217
                                cases e217
                                replace p217 := eq_true p217
                                replace q217 := eq_true q217
                                iterate 4 ((try go_wp2_with (first | ((with_reducible refine gbu (b := .append) (xs := #[.tmp 118, .tmp 120]) rfl ?_); at_builtin; refine Kd.R_append (Kd.int .i64) (w0 := w) w.heap.size rfl (.tmp 118) (.tmp 120) 30 2 (.int .i64 0) 8 rfl Try.underlying30 info2 rfl (by decide) (by omega) u12 x12_2 x15_2 [.int .i64 x15_2] (fun _ => True) (fun _ => False) rfl rfl ?aP (fun _ hk => hk.elim) ?aF ?aO ?aB ?aS ?aL ?_; (case aP => exact rfl); (case aB => exact (by repeat (with_reducible first | exact HB.out | apply bal | apply pbN | apply bdw))); (case aF => exact (fun _ _ => trivial)); (case aO => exact (by (with_reducible repeat (first | apply Kd.R_alloc | apply Kd.R_drewN | apply Kd.R_drew)); exact HO_12.out)); (case aS => exact (bsz (by repeat (with_reducible first | exact HB.out | apply bal | apply pbN | apply bdw)))); (case aL => have := LMc45.out; omega); intro v219 w46 ho hb hg hat; rw [← Ny218.out] at ho; have n0_ := As0.mk (Kd.N_afterv (ok := (fun _ => True)) (by (with_reducible repeat (first | apply Kd.N_alloc | apply Kd.N_drewN | apply Kd.N_drew)); exact Kd.N_mono HO_11.out (fun _ hk => ⟨trivial, hk⟩)) hg hat); have n1_ := As0.mk (Kd.V_afterv (ok := (fun k_ => some k_ ≠ (.slice (some ad198) t195.length co17 : Value).ownBlock)) (by (with_reducible repeat (first | apply Kd.V_alloc | apply Kd.V_drewN | apply Kd.V_drew)); exact Kd.V_mono HL210_0.out (fun _ hk => ⟨hk.2, hk.1⟩)) hg hat); have n2_ := As0.mk (Kd.V_afterv (ok := (fun k_ => some k_ ≠ (.slice (some ad198) t195.length co17 : Value).ownBlock)) (by (with_reducible repeat (first | apply Kd.V_alloc | apply Kd.V_drewN | apply Kd.V_drew)); exact Kd.V_mono HL211_0.out (fun _ hk => ⟨hk.2, hk.1⟩)) hg hat); have n3_ := As0.mk (Kd.V_afterv (ok := (fun k_ => some k_ ≠ (.slice (some ad198) t195.length co17 : Value).ownBlock)) (by (with_reducible repeat (first | apply Kd.V_alloc | apply Kd.V_drewN | apply Kd.V_drew)); exact Kd.V_mono HL215_0.out (fun _ hk => ⟨hk.2, hk.1⟩)) hg hat); have n4_ := As0.mk (Kd.V_afterv (ok := (fun k_ => some k_ ≠ (.slice (some ad198) t195.length co17 : Value).ownBlock)) (by (with_reducible repeat (first | apply Kd.V_alloc | apply Kd.V_drewN | apply Kd.V_drew)); exact Kd.V_mono HL216_0.out (fun _ hk => ⟨hk.2, hk.1⟩)) hg hat); have n5_ := As0.mk (hb); have n6_ := As0.mk (ho); clear HO_11; clear HL210_0; clear HL211_0; clear HL215_0; clear HL216_0; clear HB; clear HO_12; have HO_11 := n0_; have HL210_0 := n1_; have HL211_0 := n2_; have HL215_0 := n3_; have HL216_0 := n4_; have HB := n5_; have HO220 := n6_; clear n0_ n1_ n2_ n3_ n4_ n5_ n6_; clear ho hb hg hat; have p221 : 0 ≤ (x14_1 : Int) := of_decide_eq_true (by assumption); have q221 : x14_1 < (l0.length : Int) := of_decide_eq_true (by assumption); obtain ⟨ad221, e221, hx221_0, hx221_1, hx221_2, hx221_3⟩ := at_T46 HR0.out x14_1 p221 q221; obtain rfl : ad212 = ad221 := (by injection e221); replace hx221_0 := (HB.out.cell (blt w _ hx221_0)).trans hx221_0; replace hx221_1 := (HB.out.cell (blt w _ hx221_1)).trans hx221_1; replace hx221_2 := (HB.out.cell (blt w _ hx221_2)).trans hx221_2; replace hx221_3 := (HB.out.cell (blt w _ hx221_3)).trans hx221_3; replace p221 := eq_true p221; replace q221 := eq_true q221))); (try go_quiet (fail)))
                                go_roundg kj20
                                case measure => have := HK1.out; have := HK2.out; have := HJ20.out; omega
                                case rel => exact ⟨(ji35), (y218), (ji30), (ji27), (by first | rfl | (simp; done) | (simp only [← hji35] <;> (first | rfl | simp)) | (simp [*]; done)), (by first | rfl | (simp; done) | (simp only [← hji30] <;> (first | rfl | simp)) | (simp [*]; done)), (by first | rfl | (simp; done) | (simp only [← hji27] <;> (first | rfl | simp)) | (simp [*]; done)), H', ⟨by have := HK1.out; have := HK2.out; have := HJ20.out; omega⟩, ⟨by (with_reducible repeat (first | apply Kd.N_alloc | apply Kd.N_drewN | apply Kd.N_drew)); exact Kd.N_mono HO_11.out (fun _ hk => hk.2)⟩, ⟨by (with_reducible repeat (first | apply Kd.R_alloc | apply Kd.R_drewN | apply Kd.R_drew)); exact HO220.out⟩, ⟨by repeat (with_reducible first | exact HB.out | apply bal | apply pbN | apply bdw)⟩⟩
                               ·rw [if_neg c45] at H
                                exact absurd H (by simp)
                              ·as_aux_lemma =>
                               rw [if_neg c44] at H
                               have c44b0 : ((wrap64 ((rd (rd_L5 (rd_L6 t195 (ji27)) (ji30)) (ji35)) + (wrap64 (x15_2 * ((rd_T46 l0 x14_1).f2))))) == (rd (rd_L5 (rd_L6 t195 x14_1) x13_2) x10_2)) = false := beq_eq_false_iff_ne.mpr c44
                               have c44b1 : ((wrap64 ((rd (rd_L5 (rd_L6 t195 (ji27)) (ji30)) (ji35)) + (wrap64 (x15_2 * ((rd_T46 l0 x14_1).f2))))) != (rd (rd_L5 (rd_L6 t195 x14_1) x13_2) x10_2)) = true := bne_iff_ne.mpr c44
                               have H' := As0.mk H
                               clear H
                               have p210 : 0 ≤ ((ji27) : Int) := of_decide_eq_true (by assumption)
                               have q210 : (ji27) < (t195.length : Int) := of_decide_eq_true (by assumption)
                               obtain ⟨ad210, A210_0, c210_0, e210, hx210_0, hl210_0, hi210_0⟩ := at_L6 (Kd.N_reads' HO_11.out).2.2 (ji27) p210 q210
                               obtain rfl : ad198 = ad210 := (by injection e210)
                               obtain ⟨ce210, hce210, hMe210, hcc210⟩ := Kd.N_get HO_11.out [] (ji27) p210 (by first | exact q210 | exact of_decide_eq_true (by assumption) | (have e_ := (Kd.N_reads' HO_11.out).1; omega))
                               obtain ⟨ua210_0, uc210_0, rfl, ul210_0, ge210_0⟩ := Kd.FK_slice_open hMe210
                               have hv210_0 := hcc210 0 _ rfl
                               rw [Nat.add_zero, show ((Kd.slice 30 (Kd.slice 2 (Kd.int .i64)))).sz = 1 from rfl, Nat.mul_one] at hv210_0
                               replace hv210_0 := Option.some.inj (hv210_0.symm.trans hx210_0)
                               injection hv210_0 with hva_ hvn_ hvc_
                               rw [hva_] at ge210_0
                               rw [hvc_] at ul210_0
                               have HL210_0 := As0.mk (show Kd.V (Kd.slice 2 (Kd.int .i64)) 30 _ w.heap.size _ _ (rd_L6 t195 (ji27)) from Kd.V_mk ul210_0 ge210_0)
                               clear hva_ hvn_ hvc_ ge210_0 ul210_0
                               clear hcc210 hce210
                               have HR210_0 := As0.mk hi210_0
                               have HC210_0 := As0.mk hl210_0
                               clear hi210_0 hl210_0
                               replace p210 := eq_true p210
                               replace q210 := eq_true q210
                               have p211 : 0 ≤ ((ji30) : Int) := of_decide_eq_true (by assumption)
                               have q211 : (ji30) < ((rd_L6 t195 (ji27)).length : Int) := of_decide_eq_true (by assumption)
                               obtain ⟨ad211, A211_0, c211_0, e211, hx211_0, hl211_0, hi211_0⟩ := at_L5 (by repeat (first | (with_reducible exact HR210_0.out) | (with_reducible refine Kd.C_alloc ?_ _) | (with_reducible refine Kd.C_drewN ?_ _) | (with_reducible refine Kd.C_drew ?_) | exact HR210_0.out)) (ji30) p211 q211
                               cases e211
                               obtain ⟨ce211, hce211, hMe211, hcc211⟩ := Kd.V_get HL210_0.out [] (ji30) p211 (by first | exact q211 | exact of_decide_eq_true (by assumption) | (have e_ := (Kd.V_reads' HL210_0.out).1; omega))
                               obtain ⟨ua211_0, uc211_0, rfl, ul211_0, ge211_0⟩ := Kd.FK_slice_open hMe211
                               have hv211_0 := hcc211 0 _ rfl
                               rw [Nat.add_zero, show ((Kd.slice 2 (Kd.int .i64))).sz = 1 from rfl, Nat.mul_one] at hv211_0
                               replace hv211_0 := Option.some.inj (hv211_0.symm.trans hx211_0)
                               injection hv211_0 with hva_ hvn_ hvc_
                               rw [hva_] at ge211_0
                               rw [hvc_] at ul211_0
                               have HL211_0 := As0.mk (show Kd.V (Kd.int .i64) 2 _ w.heap.size _ _ (rd_L5 (rd_L6 t195 (ji27)) (ji30)) from Kd.V_mk ul211_0 ge211_0)
                               clear hva_ hvn_ hvc_ ge211_0 ul211_0
                               clear hcc211 hce211
                               have HR211_0 := As0.mk hi211_0
                               have HC211_0 := As0.mk hl211_0
                               clear hi211_0 hl211_0
                               replace p211 := eq_true p211
                               replace q211 := eq_true q211
                               have p212 : 0 ≤ (x14_1 : Int) := of_decide_eq_true (by assumption)
                               have q212 : x14_1 < (l0.length : Int) := of_decide_eq_true (by assumption)
                               obtain ⟨ad212, e212, hx212_0, hx212_1, hx212_2, hx212_3⟩ := at_T46 HR0.out x14_1 p212 q212
                               cases e212
                               replace hx212_0 := (HB.out.cell (blt w _ hx212_0)).trans hx212_0
                               replace hx212_1 := (HB.out.cell (blt w _ hx212_1)).trans hx212_1
                               replace hx212_2 := (HB.out.cell (blt w _ hx212_2)).trans hx212_2
                               replace hx212_3 := (HB.out.cell (blt w _ hx212_3)).trans hx212_3
                               replace p212 := eq_true p212
                               replace q212 := eq_true q212
                               have p213 : 0 ≤ ((ji35) : Int) := of_decide_eq_true (by assumption)
                               have q213 : (ji35) < ((rd_L5 (rd_L6 t195 (ji27)) (ji30)).length : Int) := of_decide_eq_true (by assumption)
                               obtain ⟨ad213, e213, hx213_0⟩ := Kd.at_int (by repeat (first | (with_reducible exact HR211_0.out) | (with_reducible refine Kd.C_alloc ?_ _) | (with_reducible refine Kd.C_drewN ?_ _) | (with_reducible refine Kd.C_drew ?_) | exact HR211_0.out)) (ji35) p213 q213
                               cases e213
                               replace p213 := eq_true p213
                               replace q213 := eq_true q213
                               have p214 : 0 ≤ (x14_1 : Int) := of_decide_eq_true (by assumption)
                               have q214 : x14_1 < (l0.length : Int) := of_decide_eq_true (by assumption)
                               obtain ⟨ad214, e214, hx214_0, hx214_1, hx214_2, hx214_3⟩ := at_T46 HR0.out x14_1 p214 q214
                               obtain rfl : ad212 = ad214 := (by injection e214)
                               replace hx214_0 := (HB.out.cell (blt w _ hx214_0)).trans hx214_0
                               replace hx214_1 := (HB.out.cell (blt w _ hx214_1)).trans hx214_1
                               replace hx214_2 := (HB.out.cell (blt w _ hx214_2)).trans hx214_2
                               replace hx214_3 := (HB.out.cell (blt w _ hx214_3)).trans hx214_3
                               replace p214 := eq_true p214
                               replace q214 := eq_true q214
                               have p215 : 0 ≤ (x14_1 : Int) := of_decide_eq_true (by assumption)
                               have q215 : x14_1 < (t195.length : Int) := of_decide_eq_true (by assumption)
                               obtain ⟨ad215, A215_0, c215_0, e215, hx215_0, hl215_0, hi215_0⟩ := at_L6 (Kd.N_reads' HO_11.out).2.2 x14_1 p215 q215
                               obtain rfl : ad198 = ad215 := (by injection e215)
                               obtain ⟨ce215, hce215, hMe215, hcc215⟩ := Kd.N_get HO_11.out [] x14_1 p215 (by first | exact q215 | exact of_decide_eq_true (by assumption) | (have e_ := (Kd.N_reads' HO_11.out).1; omega))
                               obtain ⟨ua215_0, uc215_0, rfl, ul215_0, ge215_0⟩ := Kd.FK_slice_open hMe215
                               have hv215_0 := hcc215 0 _ rfl
                               rw [Nat.add_zero, show ((Kd.slice 30 (Kd.slice 2 (Kd.int .i64)))).sz = 1 from rfl, Nat.mul_one] at hv215_0
                               replace hv215_0 := Option.some.inj (hv215_0.symm.trans hx215_0)
                               injection hv215_0 with hva_ hvn_ hvc_
                               rw [hva_] at ge215_0
                               rw [hvc_] at ul215_0
                               have HL215_0 := As0.mk (show Kd.V (Kd.slice 2 (Kd.int .i64)) 30 _ w.heap.size _ _ (rd_L6 t195 x14_1) from Kd.V_mk ul215_0 ge215_0)
                               clear hva_ hvn_ hvc_ ge215_0 ul215_0
                               clear hcc215 hce215
                               have HR215_0 := As0.mk hi215_0
                               have HC215_0 := As0.mk hl215_0
                               clear hi215_0 hl215_0
                               replace p215 := eq_true p215
                               replace q215 := eq_true q215
                               have p216 : 0 ≤ (x13_2 : Int) := of_decide_eq_true (by assumption)
                               have q216 : x13_2 < ((rd_L6 t195 x14_1).length : Int) := of_decide_eq_true (by assumption)
                               obtain ⟨ad216, A216_0, c216_0, e216, hx216_0, hl216_0, hi216_0⟩ := at_L5 (by repeat (first | (with_reducible exact HR215_0.out) | (with_reducible refine Kd.C_alloc ?_ _) | (with_reducible refine Kd.C_drewN ?_ _) | (with_reducible refine Kd.C_drew ?_) | exact HR215_0.out)) x13_2 p216 q216
                               cases e216
                               obtain ⟨ce216, hce216, hMe216, hcc216⟩ := Kd.V_get HL215_0.out [] x13_2 p216 (by first | exact q216 | exact of_decide_eq_true (by assumption) | (have e_ := (Kd.V_reads' HL215_0.out).1; omega))
                               obtain ⟨ua216_0, uc216_0, rfl, ul216_0, ge216_0⟩ := Kd.FK_slice_open hMe216
                               have hv216_0 := hcc216 0 _ rfl
                               rw [Nat.add_zero, show ((Kd.slice 2 (Kd.int .i64))).sz = 1 from rfl, Nat.mul_one] at hv216_0
                               replace hv216_0 := Option.some.inj (hv216_0.symm.trans hx216_0)
                               injection hv216_0 with hva_ hvn_ hvc_
                               rw [hva_] at ge216_0
                               rw [hvc_] at ul216_0
                               have HL216_0 := As0.mk (show Kd.V (Kd.int .i64) 2 _ w.heap.size _ _ (rd_L5 (rd_L6 t195 x14_1) x13_2) from Kd.V_mk ul216_0 ge216_0)
                               clear hva_ hvn_ hvc_ ge216_0 ul216_0
                               clear hcc216 hce216
                               have HR216_0 := As0.mk hi216_0
                               have HC216_0 := As0.mk hl216_0
                               clear hi216_0 hl216_0
                               replace p216 := eq_true p216
                               replace q216 := eq_true q216
                               have p217 : 0 ≤ (x10_2 : Int) := of_decide_eq_true (by assumption)
                               have q217 : x10_2 < ((rd_L5 (rd_L6 t195 x14_1) x13_2).length : Int) := of_decide_eq_true (by assumption)
                               obtain ⟨ad217, e217, hx217_0⟩ := Kd.at_int (by repeat (first | (with_reducible exact HR216_0.out) | (with_reducible refine Kd.C_alloc ?_ _) | (with_reducible refine Kd.C_drewN ?_ _) | (with_reducible refine Kd.C_drew ?_) | exact HR216_0.out)) x10_2 p217 q217
                               cases e217
                               replace p217 := eq_true p217
                               replace q217 := eq_true q217
                               go_wp2
                               repeat (go_quiet (fail); try go_wp2)
                               go_roundg kj20
                               case measure => have := HK1.out; have := HK2.out; have := HJ20.out; omega
                               case rel => exact ⟨(x10_2), (x12_2), (x13_2), (wrap64 (x15_2 + 1)), (by first | rfl | (simp; done) | (simp [*]; done)), (by first | rfl | (simp; done) | (simp [*]; done)), (by first | rfl | (simp; done) | (simp [*]; done)), H', ⟨by have := HK1.out; have := HK2.out; have := HJ20.out; omega⟩, ⟨by (with_reducible repeat (first | apply Kd.N_alloc | apply Kd.N_drewN | apply Kd.N_drew)); exact HO_11.out⟩, ⟨by (with_reducible repeat (first | apply Kd.R_alloc | apply Kd.R_drewN | apply Kd.R_drew)); exact HO_12.out⟩, ⟨by repeat (with_reducible first | exact HB.out | apply bal | apply pbN | apply bdw)⟩⟩
                             ·rw [if_neg c43] at H
                              exact absurd H (by simp)
                            ·rw [if_neg c42] at H
                             exact absurd H (by simp)
                           ·rw [if_neg c41] at H
                            exact absurd H (by simp)
                          ·rw [if_neg c40] at H
                           exact absurd H (by simp)
                         ·rw [if_neg c39] at H
                          exact absurd H (by simp)
                        ·as_aux_lemma =>
                         rw [if_neg c38] at H
                         have c38b0 : decide (0 ≤ (rd (rd_L5 (rd_L6 t195 (ji27)) (ji30)) (ji35))) = false := decide_eq_false c38
                         clear c38
                         have H' := As0.mk H
                         clear H
                         have p210 : 0 ≤ ((ji27) : Int) := of_decide_eq_true (by assumption)
                         have q210 : (ji27) < (t195.length : Int) := of_decide_eq_true (by assumption)
                         obtain ⟨ad210, A210_0, c210_0, e210, hx210_0, hl210_0, hi210_0⟩ := at_L6 (Kd.N_reads' HO_11.out).2.2 (ji27) p210 q210
                         obtain rfl : ad198 = ad210 := (by injection e210)
                         obtain ⟨ce210, hce210, hMe210, hcc210⟩ := Kd.N_get HO_11.out [] (ji27) p210 (by first | exact q210 | exact of_decide_eq_true (by assumption) | (have e_ := (Kd.N_reads' HO_11.out).1; omega))
                         obtain ⟨ua210_0, uc210_0, rfl, ul210_0, ge210_0⟩ := Kd.FK_slice_open hMe210
                         have hv210_0 := hcc210 0 _ rfl
                         rw [Nat.add_zero, show ((Kd.slice 30 (Kd.slice 2 (Kd.int .i64)))).sz = 1 from rfl, Nat.mul_one] at hv210_0
                         replace hv210_0 := Option.some.inj (hv210_0.symm.trans hx210_0)
                         injection hv210_0 with hva_ hvn_ hvc_
                         rw [hva_] at ge210_0
                         rw [hvc_] at ul210_0
                         have HL210_0 := As0.mk (show Kd.V (Kd.slice 2 (Kd.int .i64)) 30 _ w.heap.size _ _ (rd_L6 t195 (ji27)) from Kd.V_mk ul210_0 ge210_0)
                         clear hva_ hvn_ hvc_ ge210_0 ul210_0
                         clear hcc210 hce210
                         have HR210_0 := As0.mk hi210_0
                         have HC210_0 := As0.mk hl210_0
                         clear hi210_0 hl210_0
                         replace p210 := eq_true p210
                         replace q210 := eq_true q210
                         have p211 : 0 ≤ ((ji30) : Int) := of_decide_eq_true (by assumption)
                         have q211 : (ji30) < ((rd_L6 t195 (ji27)).length : Int) := of_decide_eq_true (by assumption)
                         obtain ⟨ad211, A211_0, c211_0, e211, hx211_0, hl211_0, hi211_0⟩ := at_L5 (by repeat (first | (with_reducible exact HR210_0.out) | (with_reducible refine Kd.C_alloc ?_ _) | (with_reducible refine Kd.C_drewN ?_ _) | (with_reducible refine Kd.C_drew ?_) | exact HR210_0.out)) (ji30) p211 q211
                         cases e211
                         obtain ⟨ce211, hce211, hMe211, hcc211⟩ := Kd.V_get HL210_0.out [] (ji30) p211 (by first | exact q211 | exact of_decide_eq_true (by assumption) | (have e_ := (Kd.V_reads' HL210_0.out).1; omega))
                         obtain ⟨ua211_0, uc211_0, rfl, ul211_0, ge211_0⟩ := Kd.FK_slice_open hMe211
                         have hv211_0 := hcc211 0 _ rfl
                         rw [Nat.add_zero, show ((Kd.slice 2 (Kd.int .i64))).sz = 1 from rfl, Nat.mul_one] at hv211_0
                         replace hv211_0 := Option.some.inj (hv211_0.symm.trans hx211_0)
                         injection hv211_0 with hva_ hvn_ hvc_
                         rw [hva_] at ge211_0
                         rw [hvc_] at ul211_0
                         have HL211_0 := As0.mk (show Kd.V (Kd.int .i64) 2 _ w.heap.size _ _ (rd_L5 (rd_L6 t195 (ji27)) (ji30)) from Kd.V_mk ul211_0 ge211_0)
                         clear hva_ hvn_ hvc_ ge211_0 ul211_0
                         clear hcc211 hce211
                         have HR211_0 := As0.mk hi211_0
                         have HC211_0 := As0.mk hl211_0
                         clear hi211_0 hl211_0
                         replace p211 := eq_true p211
                         replace q211 := eq_true q211
                         have p212 : 0 ≤ (x14_1 : Int) := of_decide_eq_true (by assumption)
                         have q212 : x14_1 < (l0.length : Int) := of_decide_eq_true (by assumption)
                         obtain ⟨ad212, e212, hx212_0, hx212_1, hx212_2, hx212_3⟩ := at_T46 HR0.out x14_1 p212 q212
                         cases e212
                         replace hx212_0 := (HB.out.cell (blt w _ hx212_0)).trans hx212_0
                         replace hx212_1 := (HB.out.cell (blt w _ hx212_1)).trans hx212_1
                         replace hx212_2 := (HB.out.cell (blt w _ hx212_2)).trans hx212_2
                         replace hx212_3 := (HB.out.cell (blt w _ hx212_3)).trans hx212_3
                         replace p212 := eq_true p212
                         replace q212 := eq_true q212
                         have p213 : 0 ≤ ((ji35) : Int) := of_decide_eq_true (by assumption)
                         have q213 : (ji35) < ((rd_L5 (rd_L6 t195 (ji27)) (ji30)).length : Int) := of_decide_eq_true (by assumption)
                         obtain ⟨ad213, e213, hx213_0⟩ := Kd.at_int (by repeat (first | (with_reducible exact HR211_0.out) | (with_reducible refine Kd.C_alloc ?_ _) | (with_reducible refine Kd.C_drewN ?_ _) | (with_reducible refine Kd.C_drew ?_) | exact HR211_0.out)) (ji35) p213 q213
                         cases e213
                         replace p213 := eq_true p213
                         replace q213 := eq_true q213
                         go_wp2
                         repeat (go_quiet (fail); try go_wp2)
                         go_roundg kj20
                         case measure => have := HK1.out; have := HK2.out; have := HJ20.out; omega
                         case rel => exact ⟨(x10_2), (x12_2), (x13_2), (wrap64 (x15_2 + 1)), (by first | rfl | (simp; done) | (simp [*]; done)), (by first | rfl | (simp; done) | (simp [*]; done)), (by first | rfl | (simp; done) | (simp [*]; done)), H', ⟨by have := HK1.out; have := HK2.out; have := HJ20.out; omega⟩, ⟨by (with_reducible repeat (first | apply Kd.N_alloc | apply Kd.N_drewN | apply Kd.N_drew)); exact HO_11.out⟩, ⟨by (with_reducible repeat (first | apply Kd.R_alloc | apply Kd.R_drewN | apply Kd.R_drew)); exact HO_12.out⟩, ⟨by repeat (with_reducible first | exact HB.out | apply bal | apply pbN | apply bdw)⟩⟩
                       ·rw [if_neg c37] at H
                        exact absurd H (by simp)
                      ·rw [if_neg c36] at H
                       exact absurd H (by simp)
                     ·rw [if_neg c34] at H
                      exact absurd H (by simp)
                    ·rw [if_neg c33] at H
                     exact absurd H (by simp)
                   ·rw [if_neg c32] at H
                    exact absurd H (by simp)
                  ·rw [if_neg c31] at H
                   exact absurd H (by simp)
                 ·rw [if_neg c29] at H
                  exact absurd H (by simp)
                ·rw [if_neg c28] at H
                 exact absurd H (by simp)
               ·replace c26 := Bool.eq_false_iff.mpr c26
                subst c26
                have H1 : (spec_CheapestMix.l0 kj20 l0 a1 a2 x10_2 t195 x12_2 x13_2 (wrap64 (x14_1 + 1))) = some (r1, r2, r3) := by rw [if_neg (show ¬ (false = true) by decide)] at H; exact H
                clear H
                have H := H1
                clear H1
                have H' := As0.mk H
                clear H
                go_wp2
                repeat (go_quiet (fail); try go_wp2)
                go_roundg kj20
                case measure => have := HK1.out; have := HK2.out; have := HJ20.out; omega
                case rel => exact ⟨(x10_2), (x12_2), (x13_2), (wrap64 (x14_1 + 1)), (by first | rfl | (simp; done) | (simp [*]; done)), (by first | rfl | (simp; done) | (simp [*]; done)), (by first | rfl | (simp; done) | (simp [*]; done)), H', ⟨by have := HK1.out; have := HK2.out; have := HJ20.out; omega⟩, ⟨by (with_reducible repeat (first | apply Kd.N_alloc | apply Kd.N_drewN | apply Kd.N_drew)); exact HO_11.out⟩, ⟨by (with_reducible repeat (first | apply Kd.R_alloc | apply Kd.R_drewN | apply Kd.R_drew)); exact HO_12.out⟩, ⟨by repeat (with_reducible first | exact HB.out | apply bal | apply pbN | apply bdw)⟩⟩
          ·as_aux_lemma =>
           rw [if_neg c20] at H
           have c20b0 : decide (x14_1 < (l0.length : Int)) = false := decide_eq_false c20
           clear c20
           by_cases c47 : 0 < (t195.length : Int)
           ·as_aux_lemma =>
            rw [if_pos c47] at H
            have c47b0 : decide (0 < (t195.length : Int)) = true := decide_eq_true c47
            have c47b1 : decide (0 < t195.length) = true := decide_eq_true (by omega)
            clear c47
            by_cases c48 : 0 ≤ a1
            ·as_aux_lemma =>
             rw [if_pos c48] at H
             have c48b0 : decide (0 ≤ a1) = true := decide_eq_true c48
             clear c48
             by_cases c49 : a1 < ((rd_L6 t195 0).length : Int)
             ·as_aux_lemma =>
              rw [if_pos c49] at H
              have c49b0 : decide (a1 < ((rd_L6 t195 0).length : Int)) = true := decide_eq_true c49
              clear c49
              replace H := Option.bind_eq_some_iff.mp H
              obtain ⟨t206, A500, H⟩ := H
              replace H : (if 0 ≤ t206 then (if t206 < ((rd_L5 (rd_L6 t195 0) a1).length : Int) then (some (x12_1, rd (rd_L5 (rd_L6 t195 0) a1) t206, 0)) else (none)) else (none)) = some (r1, r2, r3) := H
              have A50 := As0.mk A500
              clear A500
              by_cases c51 : 0 ≤ t206
              ·as_aux_lemma =>
               rw [if_pos c51] at H
               have c51b0 : decide (0 ≤ t206) = true := decide_eq_true c51
               clear c51
               by_cases c52 : t206 < ((rd_L5 (rd_L6 t195 0) a1).length : Int)
               ·rw [if_pos c52] at H
                have c52b0 : decide (t206 < ((rd_L5 (rd_L6 t195 0) a1).length : Int)) = true := decide_eq_true c52
                clear c52
                simp only [Option.some.injEq, Prod.mk.injEq] at H
                obtain ⟨rfl, rfl, rfl⟩ := H
                have p204 : 0 ≤ (0 : Int) := (by omega)
                have q204 : 0 < (t195.length : Int) := of_decide_eq_true (by assumption)
                obtain ⟨ad204, A204_0, c204_0, e204, hx204_0, hl204_0, hi204_0⟩ := at_L6 (Kd.N_reads' HO_11.out).2.2 0 p204 q204
                obtain rfl : ad198 = ad204 := (by injection e204)
                obtain ⟨ce204, hce204, hMe204, hcc204⟩ := Kd.N_get HO_11.out [] 0 p204 (by first | exact q204 | exact of_decide_eq_true (by assumption) | (have e_ := (Kd.N_reads' HO_11.out).1; omega))
                obtain ⟨ua204_0, uc204_0, rfl, ul204_0, ge204_0⟩ := Kd.FK_slice_open hMe204
                have hv204_0 := hcc204 0 _ rfl
                rw [Nat.add_zero, show ((Kd.slice 30 (Kd.slice 2 (Kd.int .i64)))).sz = 1 from rfl, Nat.mul_one] at hv204_0
                replace hv204_0 := Option.some.inj (hv204_0.symm.trans hx204_0)
                injection hv204_0 with hva_ hvn_ hvc_
                rw [hva_] at ge204_0
                rw [hvc_] at ul204_0
                have HL204_0 := As0.mk (show Kd.V (Kd.slice 2 (Kd.int .i64)) 30 _ w.heap.size _ _ (rd_L6 t195 0) from Kd.V_mk ul204_0 ge204_0)
                clear hva_ hvn_ hvc_ ge204_0 ul204_0
                clear hcc204 hce204
                have qi204 : (0 < t195.length) = True := eq_true (by omega)
                (try rw [show ((0 : Int)).toNat = 0 from rfl] at hx204_0)
                (try rw [Addr.add_zero'] at hx204_0)
                have HR204_0 := As0.mk hi204_0
                have HC204_0 := As0.mk hl204_0
                clear hi204_0 hl204_0
                replace p204 := eq_true p204
                replace q204 := eq_true q204
                have p205 : 0 ≤ (a1 : Int) := of_decide_eq_true (by assumption)
                have q205 : a1 < ((rd_L6 t195 0).length : Int) := of_decide_eq_true (by assumption)
                obtain ⟨ad205, A205_0, c205_0, e205, hx205_0, hl205_0, hi205_0⟩ := at_L5 (by repeat (first | (with_reducible exact HR204_0.out) | (with_reducible refine Kd.C_alloc ?_ _) | (with_reducible refine Kd.C_drewN ?_ _) | (with_reducible refine Kd.C_drew ?_) | exact HR204_0.out)) a1 p205 q205
                cases e205
                obtain ⟨ce205, hce205, hMe205, hcc205⟩ := Kd.V_get HL204_0.out [] a1 p205 (by first | exact q205 | exact of_decide_eq_true (by assumption) | (have e_ := (Kd.V_reads' HL204_0.out).1; omega))
                obtain ⟨ua205_0, uc205_0, rfl, ul205_0, ge205_0⟩ := Kd.FK_slice_open hMe205
                have hv205_0 := hcc205 0 _ rfl
                rw [Nat.add_zero, show ((Kd.slice 2 (Kd.int .i64))).sz = 1 from rfl, Nat.mul_one] at hv205_0
                replace hv205_0 := Option.some.inj (hv205_0.symm.trans hx205_0)
                injection hv205_0 with hva_ hvn_ hvc_
                rw [hva_] at ge205_0
                rw [hvc_] at ul205_0
                have HL205_0 := As0.mk (show Kd.V (Kd.int .i64) 2 _ w.heap.size _ _ (rd_L5 (rd_L6 t195 0) a1) from Kd.V_mk ul205_0 ge205_0)
                clear hva_ hvn_ hvc_ ge205_0 ul205_0
                clear hcc205 hce205
                have HR205_0 := As0.mk hi205_0
                have HC205_0 := As0.mk hl205_0
                clear hi205_0 hl205_0
                replace p205 := eq_true p205
                replace q205 := eq_true q205
                have p207 : 0 ≤ (t206 : Int) := of_decide_eq_true (by assumption)
                have q207 : t206 < ((rd_L5 (rd_L6 t195 0) a1).length : Int) := of_decide_eq_true (by assumption)
                obtain ⟨ad207, e207, hx207_0⟩ := Kd.at_int (by repeat (first | (with_reducible exact HR205_0.out) | (with_reducible refine Kd.C_alloc ?_ _) | (with_reducible refine Kd.C_drewN ?_ _) | (with_reducible refine Kd.C_drew ?_) | exact HR205_0.out)) t206 p207 q207
                cases e207
                replace p207 := eq_true p207
                replace q207 := eq_true q207
                go_wp2_with (first | (go_at_call 21; (first | (with_reducible refine (spec_l16Limit.calls a2 t206 _ A50.out).mono ?_) | ((try simp only [Go.IntWalk.i64_left]); (with_reducible refine (spec_l16Limit.calls a2 t206 _ A50.out).mono ?_))); rintro e w' ⟨rfl, ⟨nd, rfl⟩⟩; (try first | exact ⟨rfl, _, World.drewN_drewN _ _ _⟩ | exact ⟨rfl, _, Eq.trans (World.drewN_drewN _ _ _) (congrArg (World.drewN _) (Nat.add_assoc _ _ _))⟩)))
                repeat (go_quiet (first | (go_at_call 21; (first | (with_reducible refine (spec_l16Limit.calls a2 t206 _ A50.out).mono ?_) | ((try simp only [Go.IntWalk.i64_left]); (with_reducible refine (spec_l16Limit.calls a2 t206 _ A50.out).mono ?_))); rintro e w' ⟨rfl, ⟨nd, rfl⟩⟩; (try first | exact ⟨rfl, _, World.drewN_drewN _ _ _⟩ | exact ⟨rfl, _, Eq.trans (World.drewN_drewN _ _ _) (congrArg (World.drewN _) (Nat.add_assoc _ _ _))⟩))); try go_wp2_with (first | (go_at_call 21; (first | (with_reducible refine (spec_l16Limit.calls a2 t206 _ A50.out).mono ?_) | ((try simp only [Go.IntWalk.i64_left]); (with_reducible refine (spec_l16Limit.calls a2 t206 _ A50.out).mono ?_))); rintro e w' ⟨rfl, ⟨nd, rfl⟩⟩; (try first | exact ⟨rfl, _, World.drewN_drewN _ _ _⟩ | exact ⟨rfl, _, Eq.trans (World.drewN_drewN _ _ _) (congrArg (World.drewN _) (Nat.add_assoc _ _ _))⟩))))
                go_ret3
                exact ⟨_, by first | rfl | (simp [eWn, eWs] <;> rfl) | (simp [*, eWn, eWs] <;> rfl), by (with_reducible repeat (first | apply Kd.R_alloc | apply Kd.R_drewN | apply Kd.R_drew)); exact HO_12.out, by repeat (with_reducible first | exact HB.out | apply bal | apply pbN | apply bdw)⟩
               ·rw [if_neg c52] at H
                exact absurd H (by simp)
              ·rw [if_neg c51] at H
               exact absurd H (by simp)
             ·rw [if_neg c49] at H
              exact absurd H (by simp)
            ·rw [if_neg c48] at H
             exact absurd H (by simp)
           ·rw [if_neg c47] at H
            exact absurd H (by simp)
      ·rw [if_neg c12] at H
       exact absurd H (by simp)
     ·rw [if_neg c11] at H
      exact absurd H (by simp)
    ·rw [if_neg c10] at H
     exact absurd H (by simp)
   ·rw [if_neg c9] at H
    exact absurd H (by simp)
  ·rw [if_neg c8] at H
   exact absurd H (by simp)
 ·rw [if_neg c5] at H
  have c5b0 : (t193 == 0) = false := beq_eq_false_iff_ne.mpr c5
  have c5b1 : (t193 != 0) = true := bne_iff_ne.mpr c5
  simp only [Option.some.injEq, Prod.mk.injEq] at H
  obtain ⟨rfl, rfl, rfl⟩ := H
  go_enter Try.func17, Try.ntmps17
  go_wp2_with (first | (go_at_call 20; (first | (with_reducible refine (spec_l16Query.calls k _ _ l0 a1 a2 t193 _ ?side1 ?side2 A4.out).mono ?_) | ((try simp only [Go.IntWalk.i64_left]); (with_reducible refine (spec_l16Query.calls k _ _ l0 a1 a2 t193 _ ?side1 ?side2 A4.out).mono ?_))); (case side1 => repeat (first | exact HR0.out | (with_reducible refine Kd.C_alloc ?_ _) | (with_reducible refine Kd.C_drewN ?_ _) | (with_reducible refine Kd.C_drew ?_))); (case side2 => exact HC0.out); rintro e w' ⟨rfl, ⟨nd, rfl⟩⟩; (try first | exact ⟨rfl, _, World.drewN_drewN _ _ _⟩ | exact ⟨rfl, _, Eq.trans (World.drewN_drewN _ _ _) (congrArg (World.drewN _) (Nat.add_assoc _ _ _))⟩)))
  repeat (go_quiet (first | (go_at_call 20; (first | (with_reducible refine (spec_l16Query.calls k _ _ l0 a1 a2 t193 _ ?side1 ?side2 A4.out).mono ?_) | ((try simp only [Go.IntWalk.i64_left]); (with_reducible refine (spec_l16Query.calls k _ _ l0 a1 a2 t193 _ ?side1 ?side2 A4.out).mono ?_))); (case side1 => repeat (first | exact HR0.out | (with_reducible refine Kd.C_alloc ?_ _) | (with_reducible refine Kd.C_drewN ?_ _) | (with_reducible refine Kd.C_drew ?_))); (case side2 => exact HC0.out); rintro e w' ⟨rfl, ⟨nd, rfl⟩⟩; (try first | exact ⟨rfl, _, World.drewN_drewN _ _ _⟩ | exact ⟨rfl, _, Eq.trans (World.drewN_drewN _ _ _) (congrArg (World.drewN _) (Nat.add_assoc _ _ _))⟩))); try go_wp2_with (first | (go_at_call 20; (first | (with_reducible refine (spec_l16Query.calls k _ _ l0 a1 a2 t193 _ ?side1 ?side2 A4.out).mono ?_) | ((try simp only [Go.IntWalk.i64_left]); (with_reducible refine (spec_l16Query.calls k _ _ l0 a1 a2 t193 _ ?side1 ?side2 A4.out).mono ?_))); (case side1 => repeat (first | exact HR0.out | (with_reducible refine Kd.C_alloc ?_ _) | (with_reducible refine Kd.C_drewN ?_ _) | (with_reducible refine Kd.C_drew ?_))); (case side2 => exact HC0.out); rintro e w' ⟨rfl, ⟨nd, rfl⟩⟩; (try first | exact ⟨rfl, _, World.drewN_drewN _ _ _⟩ | exact ⟨rfl, _, Eq.trans (World.drewN_drewN _ _ _) (congrArg (World.drewN _) (Nat.add_assoc _ _ _))⟩))))
  go_ret3
  exact ⟨_, by first | rfl | (simp [eWn, eWs] <;> rfl) | (simp [*, eWn, eWs] <;> rfl), by first | exact Kd.R_nil _ _ _ _ _ | exact Kd.N_nil _ _ _ _ _ | exact Kd.V_nil _ _ _ _ _ | exact Kd.Q_nil _ _ _ _ _ | exact Kd.S_nil _ _ _ _ _, by repeat (with_reducible first | exact HB.out | apply bal | apply pbN | apply bdw)⟩

end Go.Proofs.Ytnhkamfccoppbaa.QCheapestMix
