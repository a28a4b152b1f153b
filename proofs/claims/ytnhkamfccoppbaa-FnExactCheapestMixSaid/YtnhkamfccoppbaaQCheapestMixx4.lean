-- Written by press.py, a program of this session, round the kit's print.py (functions and contracts; Lean checks them).
import Derived.Test.YtnhkamfccoppbaaQCheapestMixx0
namespace Go.Proofs.Ytnhkamfccoppbaa.QCheapestMix
open Go.Proofs.Ytnhkamfccoppbaa.QWords
attribute [local go_sem high] binOp_string_geq_q binOp_string_leq_q binOp_string_gtr_q
open Go.RowKit Go.Proofs.YtnhkamfccoppbaaW.PrintWords Go.Proofs.YtnhkamfccoppbaaW.PrintLast Go.Proofs.YtnhkamfccoppbaaW.PrintMore
attribute [local go_sem] max2_int min2_int max_two min_two max_three min_three max_four min_four   -- for this text's walks alone
set_option linter.unusedVariables false
set_option linter.unusedSimpArgs false

/-! ### spec_l16Costs: function 22 -/
mutual
def spec_l16Costs.l0 : Nat → List (S46) → Int → Int → List (List Int) → Int → Option ((List (List (List Int))))
 | 0, _, _, _, _, _ => none
 | k + 1, x0, x1, x2, x7, x8 => if x8 ≤ x1 then (spec_l16Costs.l1 k x0 x1 x2 x7 x8 (([] : List Int)) 0) else (spec_l16Costs.l2 k x0 x1 x2 (([x7] : List (List (List Int)))) (wrap64 ((x0.length : Int) - 1)))
def spec_l16Costs.l1 : Nat → List (S46) → Int → Int → List (List Int) → Int → List Int → Int → Option ((List (List (List Int))))
 | 0, _, _, _, _, _, _, _ => none
 | k + 1, x0, x1, x2, x7, x8, x9, x10 => if x10 ≤ x2 then (if x8 = 0 then (if x9.length < 17592186044416 then (spec_l16Costs.l1 k x0 x1 x2 x7 x8 (x9 ++ [0]) (wrap64 (x10 + 1))) else (none)) else (if x9.length < 17592186044416 then (spec_l16Costs.l1 k x0 x1 x2 x7 x8 (x9 ++ [(-1)]) (wrap64 (x10 + 1))) else (none))) else (if x7.length < 5864062014805 then (spec_l16Costs.l0 k x0 x1 x2 (x7 ++ [x9]) (wrap64 (x8 + 1))) else (none))
def spec_l16Costs.l2 : Nat → List (S46) → Int → Int → List (List (List Int)) → Int → Option ((List (List (List Int))))
 | 0, _, _, _, _, _ => none
 | k + 1, x0, x1, x2, x11, x12 => if x12 ≥ 0 then (spec_l16Costs.l3 k x0 x1 x2 x11 x12 (([] : List (List Int))) 0) else (some x11)
def spec_l16Costs.l3 : Nat → List (S46) → Int → Int → List (List (List Int)) → Int → List (List Int) → Int → Option ((List (List (List Int))))
 | 0, _, _, _, _, _, _, _ => none
 | k + 1, x0, x1, x2, x11, x12, x13, x14 => if x14 ≤ x1 then (spec_l16Costs.l4 k x0 x1 x2 x11 x12 x13 x14 (([] : List Int)) 0) else ((some (([x13] : List (List (List Int))) : List (List (List Int)))).bind fun y169 => (if y169.length + x11.length < 5864062014805 then (spec_l16Costs.l2 k x0 x1 x2 (y169 ++ x11) (wrap64 (x12 - 1))) else (none)))
def spec_l16Costs.l4 : Nat → List (S46) → Int → Int → List (List (List Int)) → Int → List (List Int) → Int → List Int → Int → Option ((List (List (List Int))))
 | 0, _, _, _, _, _, _, _, _, _ => none
 | k + 1, x0, x1, x2, x11, x12, x13, x14, x15, x16 => if x16 ≤ x2 then (spec_l16Costs.l5 k x0 x1 x2 x11 x12 x13 x14 x15 x16 (-1) 0) else (if x13.length < 5864062014805 then (spec_l16Costs.l3 k x0 x1 x2 x11 x12 (x13 ++ [x15]) (wrap64 (x14 + 1))) else (none))
def spec_l16Costs.l5 : Nat → List (S46) → Int → Int → List (List (List Int)) → Int → List (List Int) → Int → List Int → Int → Int → Int → Option ((List (List (List Int))))
 | 0, _, _, _, _, _, _, _, _, _, _, _ => none
 | k + 1, x0, x1, x2, x11, x12, x13, x14, x15, x16, x17, x18 => if 0 ≤ x12 then (if x12 < (x0.length : Int) then (if x18 ≤ ((rd_T46 x0 x12).f3) then (if x18 ≤ x14 then (spec_l16Costs.j6 k x0 x1 x2 x11 x12 x13 x14 x15 x16 x17 x18 (decide ((wrap64 (x18 * ((rd_T46 x0 x12).f1))) ≤ x16))) else (spec_l16Costs.j6 k x0 x1 x2 x11 x12 x13 x14 x15 x16 x17 x18 false)) else (spec_l16Costs.j6 k x0 x1 x2 x11 x12 x13 x14 x15 x16 x17 x18 false)) else (none)) else (none)
def spec_l16Costs.j6 : Nat → List (S46) → Int → Int → List (List (List Int)) → Int → List (List Int) → Int → List Int → Int → Int → Int → Bool → Option ((List (List (List Int))))
 | 0, _, _, _, _, _, _, _, _, _, _, _, _ => none
 | k + 1, x0, x1, x2, x11, x12, x13, x14, x15, x16, x17, x18, x87 => if x87 = true then (if 0 < (x11.length : Int) then (if 0 ≤ (wrap64 (x14 - x18)) then (if (wrap64 (x14 - x18)) < ((rd_L6 x11 0).length : Int) then (if 0 ≤ x12 then (if x12 < (x0.length : Int) then (if 0 ≤ (wrap64 (x16 - (wrap64 (x18 * ((rd_T46 x0 x12).f1))))) then (if (wrap64 (x16 - (wrap64 (x18 * ((rd_T46 x0 x12).f1))))) < ((rd_L5 (rd_L6 x11 0) (wrap64 (x14 - x18))).length : Int) then (if (rd (rd_L5 (rd_L6 x11 0) (wrap64 (x14 - x18))) (wrap64 (x16 - (wrap64 (x18 * ((rd_T46 x0 x12).f1)))))) ≥ 0 then (if x17 < 0 then (spec_l16Costs.l5 k x0 x1 x2 x11 x12 x13 x14 x15 x16 (wrap64 ((rd (rd_L5 (rd_L6 x11 0) (wrap64 (x14 - x18))) (wrap64 (x16 - (wrap64 (x18 * ((rd_T46 x0 x12).f1)))))) + (wrap64 (x18 * ((rd_T46 x0 x12).f2))))) (wrap64 (x18 + 1))) else (if (wrap64 ((rd (rd_L5 (rd_L6 x11 0) (wrap64 (x14 - x18))) (wrap64 (x16 - (wrap64 (x18 * ((rd_T46 x0 x12).f1)))))) + (wrap64 (x18 * ((rd_T46 x0 x12).f2))))) < x17 then (spec_l16Costs.l5 k x0 x1 x2 x11 x12 x13 x14 x15 x16 (wrap64 ((rd (rd_L5 (rd_L6 x11 0) (wrap64 (x14 - x18))) (wrap64 (x16 - (wrap64 (x18 * ((rd_T46 x0 x12).f1)))))) + (wrap64 (x18 * ((rd_T46 x0 x12).f2))))) (wrap64 (x18 + 1))) else (spec_l16Costs.l5 k x0 x1 x2 x11 x12 x13 x14 x15 x16 x17 (wrap64 (x18 + 1))))) else (spec_l16Costs.l5 k x0 x1 x2 x11 x12 x13 x14 x15 x16 x17 (wrap64 (x18 + 1)))) else (none)) else (none)) else (none)) else (none)) else (none)) else (none)) else (none)) else (if x15.length < 17592186044416 then (spec_l16Costs.l4 k x0 x1 x2 x11 x12 x13 x14 (x15 ++ [x17]) (wrap64 (x16 + 1))) else (none))
end
def spec_l16Costs.f (k : Nat) (l0 : List (S46)) (a1 : Int) (a2 : Int) : Option ((List (List (List Int)))) := spec_l16Costs.l0 k l0 a1 a2 (([] : List (List Int))) 0
theorem spec_l16Costs.mono_l : ∀ k, (∀ y0 y1 y2 y3 y4, LeO (spec_l16Costs.l0 k y0 y1 y2 y3 y4) (spec_l16Costs.l0 (k + 1) y0 y1 y2 y3 y4)) ∧ (∀ y0 y1 y2 y3 y4 y5 y6, LeO (spec_l16Costs.l1 k y0 y1 y2 y3 y4 y5 y6) (spec_l16Costs.l1 (k + 1) y0 y1 y2 y3 y4 y5 y6)) ∧ (∀ y0 y1 y2 y3 y4, LeO (spec_l16Costs.l2 k y0 y1 y2 y3 y4) (spec_l16Costs.l2 (k + 1) y0 y1 y2 y3 y4)) ∧ (∀ y0 y1 y2 y3 y4 y5 y6, LeO (spec_l16Costs.l3 k y0 y1 y2 y3 y4 y5 y6) (spec_l16Costs.l3 (k + 1) y0 y1 y2 y3 y4 y5 y6)) ∧ (∀ y0 y1 y2 y3 y4 y5 y6 y7 y8, LeO (spec_l16Costs.l4 k y0 y1 y2 y3 y4 y5 y6 y7 y8) (spec_l16Costs.l4 (k + 1) y0 y1 y2 y3 y4 y5 y6 y7 y8)) ∧ (∀ y0 y1 y2 y3 y4 y5 y6 y7 y8 y9 y10, LeO (spec_l16Costs.l5 k y0 y1 y2 y3 y4 y5 y6 y7 y8 y9 y10) (spec_l16Costs.l5 (k + 1) y0 y1 y2 y3 y4 y5 y6 y7 y8 y9 y10)) ∧ (∀ y0 y1 y2 y3 y4 y5 y6 y7 y8 y9 y10 y11, LeO (spec_l16Costs.j6 k y0 y1 y2 y3 y4 y5 y6 y7 y8 y9 y10 y11) (spec_l16Costs.j6 (k + 1) y0 y1 y2 y3 y4 y5 y6 y7 y8 y9 y10 y11))
 | 0 => ⟨fun _ _ _ _ _ r h => by simp [spec_l16Costs.l0] at h, fun _ _ _ _ _ _ _ r h => by simp [spec_l16Costs.l1] at h, fun _ _ _ _ _ r h => by simp [spec_l16Costs.l2] at h, fun _ _ _ _ _ _ _ r h => by simp [spec_l16Costs.l3] at h, fun _ _ _ _ _ _ _ _ _ r h => by simp [spec_l16Costs.l4] at h, fun _ _ _ _ _ _ _ _ _ _ _ r h => by simp [spec_l16Costs.l5] at h, fun _ _ _ _ _ _ _ _ _ _ _ _ r h => by simp [spec_l16Costs.j6] at h⟩
 | k + 1 => by
  obtain ⟨ih0, ih1, ih2, ih3, ih4, ih5, ih6⟩ := spec_l16Costs.mono_l k
  refine ⟨?_, ?_, ?_, ?_, ?_, ?_, ?_⟩
  ·intro y0 y1 y2 y3 y4
   unfold spec_l16Costs.l0
   repeat' first
   | (with_reducible exact ih0 _ _ _ _ _)
   | (with_reducible exact ih1 _ _ _ _ _ _ _)
   | (with_reducible exact ih2 _ _ _ _ _)
   | (with_reducible exact ih3 _ _ _ _ _ _ _)
   | (with_reducible exact ih4 _ _ _ _ _ _ _ _ _)
   | (with_reducible exact ih5 _ _ _ _ _ _ _ _ _ _ _)
   | (with_reducible exact ih6 _ _ _ _ _ _ _ _ _ _ _ _)
   | (with_reducible exact LeO.refl _)
   | (with_reducible exact LeO.none _)
   | (with_reducible refine LeO.ite ?_ ?_)
   | (with_reducible refine LeO.bind ?_ (fun _ => ?_))
   | exact ih0 _ _ _ _ _
   | exact ih1 _ _ _ _ _ _ _
   | exact ih2 _ _ _ _ _
   | exact ih3 _ _ _ _ _ _ _
   | exact ih4 _ _ _ _ _ _ _ _ _
   | exact ih5 _ _ _ _ _ _ _ _ _ _ _
   | exact ih6 _ _ _ _ _ _ _ _ _ _ _ _
   | exact LeO.none _
   | refine LeO.ite ?_ ?_
   | refine LeO.bind ?_ (fun _ => ?_)
  ·intro y0 y1 y2 y3 y4 y5 y6
   unfold spec_l16Costs.l1
   repeat' first
   | (with_reducible exact ih0 _ _ _ _ _)
   | (with_reducible exact ih1 _ _ _ _ _ _ _)
   | (with_reducible exact ih2 _ _ _ _ _)
   | (with_reducible exact ih3 _ _ _ _ _ _ _)
   | (with_reducible exact ih4 _ _ _ _ _ _ _ _ _)
   | (with_reducible exact ih5 _ _ _ _ _ _ _ _ _ _ _)
   | (with_reducible exact ih6 _ _ _ _ _ _ _ _ _ _ _ _)
   | (with_reducible exact LeO.refl _)
   | (with_reducible exact LeO.none _)
   | (with_reducible refine LeO.ite ?_ ?_)
   | (with_reducible refine LeO.bind ?_ (fun _ => ?_))
   | exact ih0 _ _ _ _ _
   | exact ih1 _ _ _ _ _ _ _
   | exact ih2 _ _ _ _ _
   | exact ih3 _ _ _ _ _ _ _
   | exact ih4 _ _ _ _ _ _ _ _ _
   | exact ih5 _ _ _ _ _ _ _ _ _ _ _
   | exact ih6 _ _ _ _ _ _ _ _ _ _ _ _
   | exact LeO.none _
   | refine LeO.ite ?_ ?_
   | refine LeO.bind ?_ (fun _ => ?_)
  ·intro y0 y1 y2 y3 y4
   unfold spec_l16Costs.l2
   repeat' first
   | (with_reducible exact ih0 _ _ _ _ _)
   | (with_reducible exact ih1 _ _ _ _ _ _ _)
   | (with_reducible exact ih2 _ _ _ _ _)
   | (with_reducible exact ih3 _ _ _ _ _ _ _)
   | (with_reducible exact ih4 _ _ _ _ _ _ _ _ _)
   | (with_reducible exact ih5 _ _ _ _ _ _ _ _ _ _ _)
   | (with_reducible exact ih6 _ _ _ _ _ _ _ _ _ _ _ _)
   | (with_reducible exact LeO.refl _)
   | (with_reducible exact LeO.none _)
   | (with_reducible refine LeO.ite ?_ ?_)
   | (with_reducible refine LeO.bind ?_ (fun _ => ?_))
   | exact ih0 _ _ _ _ _
   | exact ih1 _ _ _ _ _ _ _
   | exact ih2 _ _ _ _ _
   | exact ih3 _ _ _ _ _ _ _
   | exact ih4 _ _ _ _ _ _ _ _ _
   | exact ih5 _ _ _ _ _ _ _ _ _ _ _
   | exact ih6 _ _ _ _ _ _ _ _ _ _ _ _
   | exact LeO.none _
   | refine LeO.ite ?_ ?_
   | refine LeO.bind ?_ (fun _ => ?_)
  ·intro y0 y1 y2 y3 y4 y5 y6
   unfold spec_l16Costs.l3
   repeat' first
   | (with_reducible exact ih0 _ _ _ _ _)
   | (with_reducible exact ih1 _ _ _ _ _ _ _)
   | (with_reducible exact ih2 _ _ _ _ _)
   | (with_reducible exact ih3 _ _ _ _ _ _ _)
   | (with_reducible exact ih4 _ _ _ _ _ _ _ _ _)
   | (with_reducible exact ih5 _ _ _ _ _ _ _ _ _ _ _)
   | (with_reducible exact ih6 _ _ _ _ _ _ _ _ _ _ _ _)
   | (with_reducible exact LeO.refl _)
   | (with_reducible exact LeO.none _)
   | (with_reducible refine LeO.ite ?_ ?_)
   | (with_reducible refine LeO.bind ?_ (fun _ => ?_))
   | exact ih0 _ _ _ _ _
   | exact ih1 _ _ _ _ _ _ _
   | exact ih2 _ _ _ _ _
   | exact ih3 _ _ _ _ _ _ _
   | exact ih4 _ _ _ _ _ _ _ _ _
   | exact ih5 _ _ _ _ _ _ _ _ _ _ _
   | exact ih6 _ _ _ _ _ _ _ _ _ _ _ _
   | exact LeO.none _
   | refine LeO.ite ?_ ?_
   | refine LeO.bind ?_ (fun _ => ?_)
  ·intro y0 y1 y2 y3 y4 y5 y6 y7 y8
   unfold spec_l16Costs.l4
   repeat' first
   | (with_reducible exact ih0 _ _ _ _ _)
   | (with_reducible exact ih1 _ _ _ _ _ _ _)
   | (with_reducible exact ih2 _ _ _ _ _)
   | (with_reducible exact ih3 _ _ _ _ _ _ _)
   | (with_reducible exact ih4 _ _ _ _ _ _ _ _ _)
   | (with_reducible exact ih5 _ _ _ _ _ _ _ _ _ _ _)
   | (with_reducible exact ih6 _ _ _ _ _ _ _ _ _ _ _ _)
   | (with_reducible exact LeO.refl _)
   | (with_reducible exact LeO.none _)
   | (with_reducible refine LeO.ite ?_ ?_)
   | (with_reducible refine LeO.bind ?_ (fun _ => ?_))
   | exact ih0 _ _ _ _ _
   | exact ih1 _ _ _ _ _ _ _
   | exact ih2 _ _ _ _ _
   | exact ih3 _ _ _ _ _ _ _
   | exact ih4 _ _ _ _ _ _ _ _ _
   | exact ih5 _ _ _ _ _ _ _ _ _ _ _
   | exact ih6 _ _ _ _ _ _ _ _ _ _ _ _
   | exact LeO.none _
   | refine LeO.ite ?_ ?_
   | refine LeO.bind ?_ (fun _ => ?_)
  ·intro y0 y1 y2 y3 y4 y5 y6 y7 y8 y9 y10
   unfold spec_l16Costs.l5
   repeat' first
   | (with_reducible exact ih0 _ _ _ _ _)
   | (with_reducible exact ih1 _ _ _ _ _ _ _)
   | (with_reducible exact ih2 _ _ _ _ _)
   | (with_reducible exact ih3 _ _ _ _ _ _ _)
   | (with_reducible exact ih4 _ _ _ _ _ _ _ _ _)
   | (with_reducible exact ih5 _ _ _ _ _ _ _ _ _ _ _)
   | (with_reducible exact ih6 _ _ _ _ _ _ _ _ _ _ _ _)
   | (with_reducible exact LeO.refl _)
   | (with_reducible exact LeO.none _)
   | (with_reducible refine LeO.ite ?_ ?_)
   | (with_reducible refine LeO.bind ?_ (fun _ => ?_))
   | exact ih0 _ _ _ _ _
   | exact ih1 _ _ _ _ _ _ _
   | exact ih2 _ _ _ _ _
   | exact ih3 _ _ _ _ _ _ _
   | exact ih4 _ _ _ _ _ _ _ _ _
   | exact ih5 _ _ _ _ _ _ _ _ _ _ _
   | exact ih6 _ _ _ _ _ _ _ _ _ _ _ _
   | exact LeO.none _
   | refine LeO.ite ?_ ?_
   | refine LeO.bind ?_ (fun _ => ?_)
  ·intro y0 y1 y2 y3 y4 y5 y6 y7 y8 y9 y10 y11
   unfold spec_l16Costs.j6
   repeat' first
   | (with_reducible exact ih0 _ _ _ _ _)
   | (with_reducible exact ih1 _ _ _ _ _ _ _)
   | (with_reducible exact ih2 _ _ _ _ _)
   | (with_reducible exact ih3 _ _ _ _ _ _ _)
   | (with_reducible exact ih4 _ _ _ _ _ _ _ _ _)
   | (with_reducible exact ih5 _ _ _ _ _ _ _ _ _ _ _)
   | (with_reducible exact ih6 _ _ _ _ _ _ _ _ _ _ _ _)
   | (with_reducible exact LeO.refl _)
   | (with_reducible exact LeO.none _)
   | (with_reducible refine LeO.ite ?_ ?_)
   | (with_reducible refine LeO.bind ?_ (fun _ => ?_))
   | exact ih0 _ _ _ _ _
   | exact ih1 _ _ _ _ _ _ _
   | exact ih2 _ _ _ _ _
   | exact ih3 _ _ _ _ _ _ _
   | exact ih4 _ _ _ _ _ _ _ _ _
   | exact ih5 _ _ _ _ _ _ _ _ _ _ _
   | exact ih6 _ _ _ _ _ _ _ _ _ _ _ _
   | exact LeO.none _
   | refine LeO.ite ?_ ?_
   | refine LeO.bind ?_ (fun _ => ?_)
theorem spec_l16Costs.mono : ∀ a0 a1 a2 k, LeO (spec_l16Costs.f k a0 a1 a2) (spec_l16Costs.f (k + 1) a0 a1 a2) := by
 intro a0 a1 a2 k
 obtain ⟨ih0, ih1, ih2, ih3, ih4, ih5, ih6⟩ := spec_l16Costs.mono_l k
 unfold spec_l16Costs.f
 repeat' first
   | (with_reducible exact ih0 _ _ _ _ _)
   | (with_reducible exact ih1 _ _ _ _ _ _ _)
   | (with_reducible exact ih2 _ _ _ _ _)
   | (with_reducible exact ih3 _ _ _ _ _ _ _)
   | (with_reducible exact ih4 _ _ _ _ _ _ _ _ _)
   | (with_reducible exact ih5 _ _ _ _ _ _ _ _ _ _ _)
   | (with_reducible exact ih6 _ _ _ _ _ _ _ _ _ _ _ _)
   | (with_reducible exact LeO.refl _)
   | (with_reducible exact LeO.none _)
   | (with_reducible refine LeO.ite ?_ ?_)
   | (with_reducible refine LeO.bind ?_ (fun _ => ?_))
   | exact ih0 _ _ _ _ _
   | exact ih1 _ _ _ _ _ _ _
   | exact ih2 _ _ _ _ _
   | exact ih3 _ _ _ _ _ _ _
   | exact ih4 _ _ _ _ _ _ _ _ _
   | exact ih5 _ _ _ _ _ _ _ _ _ _ _
   | exact ih6 _ _ _ _ _ _ _ _ _ _ _ _
   | exact LeO.none _
   | refine LeO.ite ?_ ?_
   | refine LeO.bind ?_ (fun _ => ?_)
set_option maxHeartbeats 8000000 in
set_option maxRecDepth 100000 in
theorem spec_l16Costs.calls (k : Nat) (A0 : Option Addr) (c0 : Nat) (l0 : List (S46)) (a1 : Int) (a2 : Int) (r : List (List (List Int))) (w : World) (hr0 : Kd.C k46 w A0 l0.length l0) (hc0 : l0.length ≤ c0) (h : spec_l16Costs.f k l0 a1 a2 = some r) :
  Calls Try.prog 22 #[.slice A0 l0.length c0, .int .i64 a1, .int .i64 a2] w fun e w' => ∃ v0_ : Value, e = .returned (v0_) ∧ Kd.N (Kd.slice 30 (Kd.slice 2 (Kd.int .i64))) 45 w' w.heap.size (fun k_ => (w.heap.size ≤ k_)) v0_ r ∧ Below w.heap.size w w' := by
 have HR0 := As0.mk hr0
 have HC0 := As0.mk hc0
 clear hr0 hc0
 have HB := As0.mk (Below.refl w.heap.size w)
 have H : (spec_l16Costs.l0 k l0 a1 a2 (([] : List (List Int))) 0) = some r := h
 clear h
 obtain ⟨y148, hy148⟩ : ∃ y_ : List (List Int), y_ = (([] : List (List Int))) := ⟨_, rfl⟩
 replace H : (spec_l16Costs.l0 k l0 a1 a2 y148 0) = some r := by first | (rw [hy148]; with_reducible exact H) | (have H2_ := (Option.bind_some _ _).symm.trans H; rw [hy148]; with_reducible exact H2_) | (have H2_ := (Option.bind_some _ _).symm.trans H; with_reducible exact H2_) | with_reducible exact H | (rw [hy148]; exact H) | exact H
 have Ny148 := As0.mk hy148
 clear hy148
 have H' := As0.mk H
 clear H
 go_enter Try.func22, Try.ntmps22
 go_wp2_with (first | ((with_reducible refine gate_dst (N := 20) rfl ?_); refine Kd.N_lit (Kd.slice 2 (Kd.int .i64)) _ 30 ?hg (N' := 20) ?hd (xs := ([] : List (List Int))) (inner := []) (ok := (fun k_ => (w.heap.size ≤ k_))) (okp := (fun k_ => (w.heap.size ≤ k_))) ?hr ?hp (fun _ hk => hk) ((show ∀ k_, w.heap.size ≤ k_ → (fun k_ => (w.heap.size ≤ k_)) k_ from fun k_ hk => (Nat.le_trans (bsz (by repeat (with_reducible first | exact HB.out | apply bal | apply pbN | apply bdw))) hk)) _ (Nat.le_refl _)) (Below.refl _ _) (Nat.le_refl _) (by simp) ?_; (case hd => rfl); (case hg => rfl); (case hr => first | (go_simp; done) | (go_simp; rfl)); (case hp => exact (Reps.none _ _)); intro v149 w4 ho5 hb hg_ hnew_; clear hg_ hnew_; (first | rw [← Ny148.out] at ho5 | (simp only [Int.reduceToNat] at ho5; rw [← Ny148.out] at ho5)); have n0_ := As0.mk (Kd.N_lower ho5 (bsz (by repeat (with_reducible first | exact HB.out | apply bal | apply pbN | apply bdw)))); have n1_ := As0.mk (bsp (by repeat (with_reducible first | exact HB.out | apply bal | apply pbN | apply bdw)) hb); clear HB; have HO150 := n0_; have HB := n1_; clear n0_ n1_; clear hb ho5))
 repeat (go_quiet (first | ((with_reducible refine gate_dst (N := 20) rfl ?_); refine Kd.N_lit (Kd.slice 2 (Kd.int .i64)) _ 30 ?hg (N' := 20) ?hd (xs := ([] : List (List Int))) (inner := []) (ok := (fun k_ => (w.heap.size ≤ k_))) (okp := (fun k_ => (w.heap.size ≤ k_))) ?hr ?hp (fun _ hk => hk) ((show ∀ k_, w.heap.size ≤ k_ → (fun k_ => (w.heap.size ≤ k_)) k_ from fun k_ hk => (Nat.le_trans (bsz (by repeat (with_reducible first | exact HB.out | apply bal | apply pbN | apply bdw))) hk)) _ (Nat.le_refl _)) (Below.refl _ _) (Nat.le_refl _) (by simp) ?_; (case hd => rfl); (case hg => rfl); (case hr => first | (go_simp; done) | (go_simp; rfl)); (case hp => exact (Reps.none _ _)); intro v149 w4 ho5 hb hg_ hnew_; clear hg_ hnew_; (first | rw [← Ny148.out] at ho5 | (simp only [Int.reduceToNat] at ho5; rw [← Ny148.out] at ho5)); have n0_ := As0.mk (Kd.N_lower ho5 (bsz (by repeat (with_reducible first | exact HB.out | apply bal | apply pbN | apply bdw)))); have n1_ := As0.mk (bsp (by repeat (with_reducible first | exact HB.out | apply bal | apply pbN | apply bdw)) hb); clear HB; have HO150 := n0_; have HB := n1_; clear n0_ n1_; clear hb ho5)); try go_wp2_with (first | ((with_reducible refine gate_dst (N := 20) rfl ?_); refine Kd.N_lit (Kd.slice 2 (Kd.int .i64)) _ 30 ?hg (N' := 20) ?hd (xs := ([] : List (List Int))) (inner := []) (ok := (fun k_ => (w.heap.size ≤ k_))) (okp := (fun k_ => (w.heap.size ≤ k_))) ?hr ?hp (fun _ hk => hk) ((show ∀ k_, w.heap.size ≤ k_ → (fun k_ => (w.heap.size ≤ k_)) k_ from fun k_ hk => (Nat.le_trans (bsz (by repeat (with_reducible first | exact HB.out | apply bal | apply pbN | apply bdw))) hk)) _ (Nat.le_refl _)) (Below.refl _ _) (Nat.le_refl _) (by simp) ?_; (case hd => rfl); (case hg => rfl); (case hr => first | (go_simp; done) | (go_simp; rfl)); (case hp => exact (Reps.none _ _)); intro v149 w4 ho5 hb hg_ hnew_; clear hg_ hnew_; (first | rw [← Ny148.out] at ho5 | (simp only [Int.reduceToNat] at ho5; rw [← Ny148.out] at ho5)); have n0_ := As0.mk (Kd.N_lower ho5 (bsz (by repeat (with_reducible first | exact HB.out | apply bal | apply pbN | apply bdw)))); have n1_ := As0.mk (bsp (by repeat (with_reducible first | exact HB.out | apply bal | apply pbN | apply bdw)) hb); clear HB; have HO150 := n0_; have HB := n1_; clear n0_ n1_; clear hb ho5)))
 go_loopg [7, 8] k (fun kq v7 v8 w' => ∃ (x7_1 : List (List Int)) (x8_1 : Int), v8 = .int .i64 x8_1 ∧ As0 (spec_l16Costs.l0 kq l0 a1 a2 x7_1 x8_1 = some r) ∧ As0 (kq ≤ k) ∧ As0 (Kd.N (Kd.slice 2 (Kd.int .i64)) 30 w' w.heap.size (fun k_ => (w.heap.size ≤ k_)) v7 x7_1) ∧ As0 (Below w.heap.size w w'))
 case atStart => exact ⟨(y148), (0), (by first | rfl | (simp; done) | (simp [*]; done)), H', ⟨Nat.le_refl _⟩, ⟨by (with_reducible repeat (first | apply Kd.N_alloc | apply Kd.N_drewN | apply Kd.N_drew)); exact HO150.out⟩, ⟨by repeat (with_reducible first | exact HB.out | apply bal | apply pbN | apply bdw)⟩⟩
 case round =>
  clear H'
  try clear c2
  try clear p2
  obtain ⟨x7_1, x8_1, rfl, HA, HK1, HO_7, HB⟩ := hrel
  cases gk with
  | zero => exact absurd HA.out (by simp [spec_l16Costs.l0])
  | succ k1 =>
   have H := HA.out
   clear HA
   simp only [spec_l16Costs.l0] at H
   by_cases c6 : x8_1 ≤ a1
   ·as_aux_lemma =>
    rw [if_pos c6] at H
    have c6b0 : decide (x8_1 ≤ a1) = true := decide_eq_true c6
    clear c6
    obtain ⟨y151, hy151⟩ : ∃ y_ : List Int, y_ = (([] : List Int)) := ⟨_, rfl⟩
    replace H : (spec_l16Costs.l1 k1 l0 a1 a2 x7_1 x8_1 y151 0) = some r := by first | (rw [hy151]; with_reducible exact H) | (have H2_ := (Option.bind_some _ _).symm.trans H; rw [hy151]; with_reducible exact H2_) | (have H2_ := (Option.bind_some _ _).symm.trans H; with_reducible exact H2_) | with_reducible exact H | (rw [hy151]; exact H) | exact H
    have Ny151 := As0.mk hy151
    clear hy151
    have H' := As0.mk H
    clear H
    go_wp2_with (first | ((with_reducible refine gate_dst (N := 26) rfl ?_); refine Kd.R_lit (Kd.int .i64) _ 2 ?hg (N := 26) ?hd (xs := ([] : List Int)) (inner := []) (ok := fun _ => True) (okp := fun _ => True) ?hr ?hp (fun _ hk => hk) trivial (Below.refl _ _) (Nat.le_refl _) (by simp) ?_; (case hd => rfl); (case hg => rfl); (case hr => first | (go_simp; done) | (go_simp; rfl)); (case hp => exact (Reps.none _ _)); intro v152 w7 ho8 hb hg_ hnew_; clear hg_ hnew_; (first | rw [← Ny151.out] at ho8 | (simp only [Int.reduceToNat] at ho8; rw [← Ny151.out] at ho8)); have n0_ := As0.mk (Kd.N_elder' (by (with_reducible repeat (first | apply Kd.N_alloc | apply Kd.N_drewN | apply Kd.N_drew)); exact HO_7.out) (Kd.R_base ho8) hb); have n1_ := As0.mk (Kd.R_lower (Kd.R_newM (M := fun k_ => (w.heap.size ≤ k_)) ho8 (bsz (by repeat (with_reducible first | exact HB.out | apply bal | apply pbN | apply bdw))) (fun k_ h_ => h_)) (bsz (by repeat (with_reducible first | exact HB.out | apply bal | apply pbN | apply bdw)))); have n2_ := As0.mk (bsp (by repeat (with_reducible first | exact HB.out | apply bal | apply pbN | apply bdw)) hb); clear HO_7; clear HB; have HO_7 := n0_; have HO153 := n1_; have HB := n2_; clear n0_ n1_ n2_; clear hb ho8))
    repeat (go_quiet (first | ((with_reducible refine gate_dst (N := 26) rfl ?_); refine Kd.R_lit (Kd.int .i64) _ 2 ?hg (N := 26) ?hd (xs := ([] : List Int)) (inner := []) (ok := fun _ => True) (okp := fun _ => True) ?hr ?hp (fun _ hk => hk) trivial (Below.refl _ _) (Nat.le_refl _) (by simp) ?_; (case hd => rfl); (case hg => rfl); (case hr => first | (go_simp; done) | (go_simp; rfl)); (case hp => exact (Reps.none _ _)); intro v152 w7 ho8 hb hg_ hnew_; clear hg_ hnew_; (first | rw [← Ny151.out] at ho8 | (simp only [Int.reduceToNat] at ho8; rw [← Ny151.out] at ho8)); have n0_ := As0.mk (Kd.N_elder' (by (with_reducible repeat (first | apply Kd.N_alloc | apply Kd.N_drewN | apply Kd.N_drew)); exact HO_7.out) (Kd.R_base ho8) hb); have n1_ := As0.mk (Kd.R_lower (Kd.R_newM (M := fun k_ => (w.heap.size ≤ k_)) ho8 (bsz (by repeat (with_reducible first | exact HB.out | apply bal | apply pbN | apply bdw))) (fun k_ h_ => h_)) (bsz (by repeat (with_reducible first | exact HB.out | apply bal | apply pbN | apply bdw)))); have n2_ := As0.mk (bsp (by repeat (with_reducible first | exact HB.out | apply bal | apply pbN | apply bdw)) hb); clear HO_7; clear HB; have HO_7 := n0_; have HO153 := n1_; have HB := n2_; clear n0_ n1_ n2_; clear hb ho8)); try go_wp2_with (first | ((with_reducible refine gate_dst (N := 26) rfl ?_); refine Kd.R_lit (Kd.int .i64) _ 2 ?hg (N := 26) ?hd (xs := ([] : List Int)) (inner := []) (ok := fun _ => True) (okp := fun _ => True) ?hr ?hp (fun _ hk => hk) trivial (Below.refl _ _) (Nat.le_refl _) (by simp) ?_; (case hd => rfl); (case hg => rfl); (case hr => first | (go_simp; done) | (go_simp; rfl)); (case hp => exact (Reps.none _ _)); intro v152 w7 ho8 hb hg_ hnew_; clear hg_ hnew_; (first | rw [← Ny151.out] at ho8 | (simp only [Int.reduceToNat] at ho8; rw [← Ny151.out] at ho8)); have n0_ := As0.mk (Kd.N_elder' (by (with_reducible repeat (first | apply Kd.N_alloc | apply Kd.N_drewN | apply Kd.N_drew)); exact HO_7.out) (Kd.R_base ho8) hb); have n1_ := As0.mk (Kd.R_lower (Kd.R_newM (M := fun k_ => (w.heap.size ≤ k_)) ho8 (bsz (by repeat (with_reducible first | exact HB.out | apply bal | apply pbN | apply bdw))) (fun k_ h_ => h_)) (bsz (by repeat (with_reducible first | exact HB.out | apply bal | apply pbN | apply bdw)))); have n2_ := As0.mk (bsp (by repeat (with_reducible first | exact HB.out | apply bal | apply pbN | apply bdw)) hb); clear HO_7; clear HB; have HO_7 := n0_; have HO153 := n1_; have HB := n2_; clear n0_ n1_ n2_; clear hb ho8)))
    go_loopg [9, 10] k1 (fun kq v9 v10 w' => ∃ (x9_2 : List Int) (x10_2 : Int), v10 = .int .i64 x10_2 ∧ As0 (spec_l16Costs.l1 kq l0 a1 a2 x7_1 x8_1 x9_2 x10_2 = some r) ∧ As0 (kq ≤ k1) ∧ As0 (Kd.N (Kd.slice 2 (Kd.int .i64)) 30 w' w.heap.size (fun k_ => (w.heap.size ≤ k_) ∧ some k_ ≠ (v9 : Value).ownBlock) u7 x7_1) ∧ As0 (Kd.R (Kd.int .i64) 2 w' w.heap.size (fun k_ => (w.heap.size ≤ k_)) v9 x9_2) ∧ As0 (Below w.heap.size w w'))
    case atStart => exact ⟨(y151), (0), (by first | rfl | (simp; done) | (simp [*]; done)), H', ⟨Nat.le_refl _⟩, ⟨by (with_reducible repeat (first | apply Kd.N_alloc | apply Kd.N_drewN | apply Kd.N_drew)); exact HO_7.out⟩, ⟨by (with_reducible repeat (first | apply Kd.R_alloc | apply Kd.R_drewN | apply Kd.R_drew)); exact Kd.R_mono HO153.out (fun _ hk => hk.1)⟩, ⟨by repeat (with_reducible first | exact HB.out | apply bal | apply pbN | apply bdw)⟩⟩
    case round =>
     clear H'
     try clear c2
     try clear p2
     try clear c6
     try clear c6b0
     try clear p2
     obtain ⟨x9_2, x10_2, rfl, HA, HK2, HO_7, HO_9, HB⟩ := hrel
     cases gk with
     | zero => exact absurd HA.out (by simp [spec_l16Costs.l1])
     | succ k2 =>
      have H := HA.out
      clear HA
      simp only [spec_l16Costs.l1] at H
      by_cases c9 : x10_2 ≤ a2
      ·rw [if_pos c9] at H
       have c9b0 : decide (x10_2 ≤ a2) = true := decide_eq_true c9
       clear c9
       by_cases c10 : x8_1 = 0
       ·rw [if_pos c10] at H
        have c10b0 : (x8_1 == 0) = true := beq_iff_eq.mpr c10
        have c10b1 : (x8_1 != 0) = false := bne_eq_false_iff_eq.mpr c10
        clear c10
        by_cases c11 : x9_2.length < 17592186044416
        ·rw [if_pos c11] at H
         have LMc11 := As0.mk c11
         clear c11
         obtain ⟨y154, hy154⟩ : ∃ y_ : List Int, y_ = (x9_2 ++ [0]) := ⟨_, rfl⟩
         replace H : (spec_l16Costs.l1 k2 l0 a1 a2 x7_1 x8_1 y154 (wrap64 (x10_2 + 1))) = some r := by first | (rw [hy154]; with_reducible exact H) | (have H2_ := (Option.bind_some _ _).symm.trans H; rw [hy154]; with_reducible exact H2_) | (have H2_ := (Option.bind_some _ _).symm.trans H; with_reducible exact H2_) | with_reducible exact H | (rw [hy154]; exact H) | exact H
         have Ny154 := As0.mk hy154
         clear hy154
         have H' := As0.mk H
         clear H
         go_wp2_with (first | ((with_reducible refine gbu (b := .append) (xs := #[.tmp 34, .tmp 35]) rfl ?_); at_builtin; refine Kd.R_append (Kd.int .i64) (w0 := w) w.heap.size rfl (.tmp 34) (.tmp 35) 30 2 (.int .i64 0) 8 rfl Try.underlying30 info2 rfl (by decide) (by omega) u9 x9_2 0 [.int .i64 0] (fun k_ => (w.heap.size ≤ k_)) (fun _ => False) rfl rfl ?aP (fun _ hk => hk.elim) ?aF ?aO ?aB ?aS ?aL ?_; (case aP => exact rfl); (case aB => exact (by repeat (with_reducible first | exact HB.out | apply bal | apply pbN | apply bdw))); (case aF => exact (fun k_ hk => (Nat.le_trans (bsz (by repeat (with_reducible first | exact HB.out | apply bal | apply pbN | apply bdw))) hk))); (case aO => exact (by (with_reducible repeat (first | apply Kd.R_alloc | apply Kd.R_drewN | apply Kd.R_drew)); exact HO_9.out)); (case aS => exact (bsz (by repeat (with_reducible first | exact HB.out | apply bal | apply pbN | apply bdw)))); (case aL => have := LMc11.out; omega); intro v155 w12 ho hb hg hat; rw [← Ny154.out] at ho; have n0_ := As0.mk (Kd.N_afterv (ok := (fun k_ => (w.heap.size ≤ k_))) (by (with_reducible repeat (first | apply Kd.N_alloc | apply Kd.N_drewN | apply Kd.N_drew)); exact HO_7.out) hg hat); have n1_ := As0.mk (hb); have n2_ := As0.mk (ho); clear HO_7; clear HB; clear HO_9; have HO_7 := n0_; have HB := n1_; have HO156 := n2_; clear n0_ n1_ n2_; clear ho hb hg hat))
         repeat (go_quiet (first | ((with_reducible refine gbu (b := .append) (xs := #[.tmp 34, .tmp 35]) rfl ?_); at_builtin; refine Kd.R_append (Kd.int .i64) (w0 := w) w.heap.size rfl (.tmp 34) (.tmp 35) 30 2 (.int .i64 0) 8 rfl Try.underlying30 info2 rfl (by decide) (by omega) u9 x9_2 0 [.int .i64 0] (fun k_ => (w.heap.size ≤ k_)) (fun _ => False) rfl rfl ?aP (fun _ hk => hk.elim) ?aF ?aO ?aB ?aS ?aL ?_; (case aP => exact rfl); (case aB => exact (by repeat (with_reducible first | exact HB.out | apply bal | apply pbN | apply bdw))); (case aF => exact (fun k_ hk => (Nat.le_trans (bsz (by repeat (with_reducible first | exact HB.out | apply bal | apply pbN | apply bdw))) hk))); (case aO => exact (by (with_reducible repeat (first | apply Kd.R_alloc | apply Kd.R_drewN | apply Kd.R_drew)); exact HO_9.out)); (case aS => exact (bsz (by repeat (with_reducible first | exact HB.out | apply bal | apply pbN | apply bdw)))); (case aL => have := LMc11.out; omega); intro v155 w12 ho hb hg hat; rw [← Ny154.out] at ho; have n0_ := As0.mk (Kd.N_afterv (ok := (fun k_ => (w.heap.size ≤ k_))) (by (with_reducible repeat (first | apply Kd.N_alloc | apply Kd.N_drewN | apply Kd.N_drew)); exact HO_7.out) hg hat); have n1_ := As0.mk (hb); have n2_ := As0.mk (ho); clear HO_7; clear HB; clear HO_9; have HO_7 := n0_; have HB := n1_; have HO156 := n2_; clear n0_ n1_ n2_; clear ho hb hg hat)); try go_wp2_with (first | ((with_reducible refine gbu (b := .append) (xs := #[.tmp 34, .tmp 35]) rfl ?_); at_builtin; refine Kd.R_append (Kd.int .i64) (w0 := w) w.heap.size rfl (.tmp 34) (.tmp 35) 30 2 (.int .i64 0) 8 rfl Try.underlying30 info2 rfl (by decide) (by omega) u9 x9_2 0 [.int .i64 0] (fun k_ => (w.heap.size ≤ k_)) (fun _ => False) rfl rfl ?aP (fun _ hk => hk.elim) ?aF ?aO ?aB ?aS ?aL ?_; (case aP => exact rfl); (case aB => exact (by repeat (with_reducible first | exact HB.out | apply bal | apply pbN | apply bdw))); (case aF => exact (fun k_ hk => (Nat.le_trans (bsz (by repeat (with_reducible first | exact HB.out | apply bal | apply pbN | apply bdw))) hk))); (case aO => exact (by (with_reducible repeat (first | apply Kd.R_alloc | apply Kd.R_drewN | apply Kd.R_drew)); exact HO_9.out)); (case aS => exact (bsz (by repeat (with_reducible first | exact HB.out | apply bal | apply pbN | apply bdw)))); (case aL => have := LMc11.out; omega); intro v155 w12 ho hb hg hat; rw [← Ny154.out] at ho; have n0_ := As0.mk (Kd.N_afterv (ok := (fun k_ => (w.heap.size ≤ k_))) (by (with_reducible repeat (first | apply Kd.N_alloc | apply Kd.N_drewN | apply Kd.N_drew)); exact HO_7.out) hg hat); have n1_ := As0.mk (hb); have n2_ := As0.mk (ho); clear HO_7; clear HB; clear HO_9; have HO_7 := n0_; have HB := n1_; have HO156 := n2_; clear n0_ n1_ n2_; clear ho hb hg hat)))
         go_roundg k2
         case measure => have := HK1.out; have := HK2.out; omega
         case rel => exact ⟨(y154), (wrap64 (x10_2 + 1)), (by first | rfl | (simp; done) | (simp [*]; done)), H', ⟨by have := HK1.out; have := HK2.out; omega⟩, ⟨by (with_reducible repeat (first | apply Kd.N_alloc | apply Kd.N_drewN | apply Kd.N_drew)); exact HO_7.out⟩, ⟨by (with_reducible repeat (first | apply Kd.R_alloc | apply Kd.R_drewN | apply Kd.R_drew)); exact HO156.out⟩, ⟨by repeat (with_reducible first | exact HB.out | apply bal | apply pbN | apply bdw)⟩⟩
        ·rw [if_neg c11] at H
         exact absurd H (by simp)
       ·rw [if_neg c10] at H
        have c10b0 : (x8_1 == 0) = false := beq_eq_false_iff_ne.mpr c10
        have c10b1 : (x8_1 != 0) = true := bne_iff_ne.mpr c10
        by_cases c13 : x9_2.length < 17592186044416
        ·rw [if_pos c13] at H
         have LMc13 := As0.mk c13
         clear c13
         obtain ⟨y157, hy157⟩ : ∃ y_ : List Int, y_ = (x9_2 ++ [(-1)]) := ⟨_, rfl⟩
         replace H : (spec_l16Costs.l1 k2 l0 a1 a2 x7_1 x8_1 y157 (wrap64 (x10_2 + 1))) = some r := by first | (rw [hy157]; with_reducible exact H) | (have H2_ := (Option.bind_some _ _).symm.trans H; rw [hy157]; with_reducible exact H2_) | (have H2_ := (Option.bind_some _ _).symm.trans H; with_reducible exact H2_) | with_reducible exact H | (rw [hy157]; exact H) | exact H
         have Ny157 := As0.mk hy157
         clear hy157
         have H' := As0.mk H
         clear H
         go_wp2_with (first | ((with_reducible refine gbu (b := .append) (xs := #[.tmp 37, .tmp 38]) rfl ?_); at_builtin; refine Kd.R_append (Kd.int .i64) (w0 := w) w.heap.size rfl (.tmp 37) (.tmp 38) 30 2 (.int .i64 0) 8 rfl Try.underlying30 info2 rfl (by decide) (by omega) u9 x9_2 (-1) [.int .i64 (-1)] (fun k_ => (w.heap.size ≤ k_)) (fun _ => False) rfl rfl ?aP (fun _ hk => hk.elim) ?aF ?aO ?aB ?aS ?aL ?_; (case aP => exact rfl); (case aB => exact (by repeat (with_reducible first | exact HB.out | apply bal | apply pbN | apply bdw))); (case aF => exact (fun k_ hk => (Nat.le_trans (bsz (by repeat (with_reducible first | exact HB.out | apply bal | apply pbN | apply bdw))) hk))); (case aO => exact (by (with_reducible repeat (first | apply Kd.R_alloc | apply Kd.R_drewN | apply Kd.R_drew)); exact HO_9.out)); (case aS => exact (bsz (by repeat (with_reducible first | exact HB.out | apply bal | apply pbN | apply bdw)))); (case aL => have := LMc13.out; omega); intro v158 w14 ho hb hg hat; rw [← Ny157.out] at ho; have n0_ := As0.mk (Kd.N_afterv (ok := (fun k_ => (w.heap.size ≤ k_))) (by (with_reducible repeat (first | apply Kd.N_alloc | apply Kd.N_drewN | apply Kd.N_drew)); exact HO_7.out) hg hat); have n1_ := As0.mk (hb); have n2_ := As0.mk (ho); clear HO_7; clear HB; clear HO_9; have HO_7 := n0_; have HB := n1_; have HO159 := n2_; clear n0_ n1_ n2_; clear ho hb hg hat))
         repeat (go_quiet (first | ((with_reducible refine gbu (b := .append) (xs := #[.tmp 37, .tmp 38]) rfl ?_); at_builtin; refine Kd.R_append (Kd.int .i64) (w0 := w) w.heap.size rfl (.tmp 37) (.tmp 38) 30 2 (.int .i64 0) 8 rfl Try.underlying30 info2 rfl (by decide) (by omega) u9 x9_2 (-1) [.int .i64 (-1)] (fun k_ => (w.heap.size ≤ k_)) (fun _ => False) rfl rfl ?aP (fun _ hk => hk.elim) ?aF ?aO ?aB ?aS ?aL ?_; (case aP => exact rfl); (case aB => exact (by repeat (with_reducible first | exact HB.out | apply bal | apply pbN | apply bdw))); (case aF => exact (fun k_ hk => (Nat.le_trans (bsz (by repeat (with_reducible first | exact HB.out | apply bal | apply pbN | apply bdw))) hk))); (case aO => exact (by (with_reducible repeat (first | apply Kd.R_alloc | apply Kd.R_drewN | apply Kd.R_drew)); exact HO_9.out)); (case aS => exact (bsz (by repeat (with_reducible first | exact HB.out | apply bal | apply pbN | apply bdw)))); (case aL => have := LMc13.out; omega); intro v158 w14 ho hb hg hat; rw [← Ny157.out] at ho; have n0_ := As0.mk (Kd.N_afterv (ok := (fun k_ => (w.heap.size ≤ k_))) (by (with_reducible repeat (first | apply Kd.N_alloc | apply Kd.N_drewN | apply Kd.N_drew)); exact HO_7.out) hg hat); have n1_ := As0.mk (hb); have n2_ := As0.mk (ho); clear HO_7; clear HB; clear HO_9; have HO_7 := n0_; have HB := n1_; have HO159 := n2_; clear n0_ n1_ n2_; clear ho hb hg hat)); try go_wp2_with (first | ((with_reducible refine gbu (b := .append) (xs := #[.tmp 37, .tmp 38]) rfl ?_); at_builtin; refine Kd.R_append (Kd.int .i64) (w0 := w) w.heap.size rfl (.tmp 37) (.tmp 38) 30 2 (.int .i64 0) 8 rfl Try.underlying30 info2 rfl (by decide) (by omega) u9 x9_2 (-1) [.int .i64 (-1)] (fun k_ => (w.heap.size ≤ k_)) (fun _ => False) rfl rfl ?aP (fun _ hk => hk.elim) ?aF ?aO ?aB ?aS ?aL ?_; (case aP => exact rfl); (case aB => exact (by repeat (with_reducible first | exact HB.out | apply bal | apply pbN | apply bdw))); (case aF => exact (fun k_ hk => (Nat.le_trans (bsz (by repeat (with_reducible first | exact HB.out | apply bal | apply pbN | apply bdw))) hk))); (case aO => exact (by (with_reducible repeat (first | apply Kd.R_alloc | apply Kd.R_drewN | apply Kd.R_drew)); exact HO_9.out)); (case aS => exact (bsz (by repeat (with_reducible first | exact HB.out | apply bal | apply pbN | apply bdw)))); (case aL => have := LMc13.out; omega); intro v158 w14 ho hb hg hat; rw [← Ny157.out] at ho; have n0_ := As0.mk (Kd.N_afterv (ok := (fun k_ => (w.heap.size ≤ k_))) (by (with_reducible repeat (first | apply Kd.N_alloc | apply Kd.N_drewN | apply Kd.N_drew)); exact HO_7.out) hg hat); have n1_ := As0.mk (hb); have n2_ := As0.mk (ho); clear HO_7; clear HB; clear HO_9; have HO_7 := n0_; have HB := n1_; have HO159 := n2_; clear n0_ n1_ n2_; clear ho hb hg hat)))
         go_roundg k2
         case measure => have := HK1.out; have := HK2.out; omega
         case rel => exact ⟨(y157), (wrap64 (x10_2 + 1)), (by first | rfl | (simp; done) | (simp [*]; done)), H', ⟨by have := HK1.out; have := HK2.out; omega⟩, ⟨by (with_reducible repeat (first | apply Kd.N_alloc | apply Kd.N_drewN | apply Kd.N_drew)); exact HO_7.out⟩, ⟨by (with_reducible repeat (first | apply Kd.R_alloc | apply Kd.R_drewN | apply Kd.R_drew)); exact HO159.out⟩, ⟨by repeat (with_reducible first | exact HB.out | apply bal | apply pbN | apply bdw)⟩⟩
        ·rw [if_neg c13] at H
         exact absurd H (by simp)
      ·rw [if_neg c9] at H
       have c9b0 : decide (x10_2 ≤ a2) = false := decide_eq_false c9
       clear c9
       by_cases c15 : x7_1.length < 5864062014805
       ·rw [if_pos c15] at H
        have LMc15 := As0.mk c15
        clear c15
        obtain ⟨y160, hy160⟩ : ∃ y_ : List (List Int), y_ = (x7_1 ++ [x9_2]) := ⟨_, rfl⟩
        replace H : (spec_l16Costs.l0 k2 l0 a1 a2 y160 (wrap64 (x8_1 + 1))) = some r := by first | (rw [hy160]; with_reducible exact H) | (have H2_ := (Option.bind_some _ _).symm.trans H; rw [hy160]; with_reducible exact H2_) | (have H2_ := (Option.bind_some _ _).symm.trans H; with_reducible exact H2_) | with_reducible exact H | (rw [hy160]; exact H) | exact H
        have Ny160 := As0.mk hy160
        clear hy160
        have H' := As0.mk H
        clear H
        obtain ⟨Ao17, co17, eo17⟩ := Kd.R_slice HO_9.out
        subst eo17
        go_wp2_with (first | ((with_reducible refine gbu (b := .append) (xs := #[.tmp 40, .tmp 42]) rfl ?_); at_builtin; refine Kd.N_append (Kd.slice 2 (Kd.int .i64)) (w0 := w) w.heap.size rfl (.tmp 40) (.tmp 42) 45 30 (.slice none 0 0) 24 rfl Try.underlying45 info30 rfl (by decide) (by omega) u7 x7_1 x9_2 [.slice Ao17 x9_2.length co17] (fun k_ => (w.heap.size ≤ k_)) (fun k_ => ((fun k_ => (w.heap.size ≤ k_))) k_ ∧ some k_ ≠ (u7 : Value).ownBlock) rfl rfl ?aP (fun _ hk => hk) ?aF ?aO ?aB ?aS ?aL ?_; (case aP => exact (Kd.FK_slice_mk (Kd.R_reads' (Kd.R_mono (ok' := (fun k_ => ((fun k_ => (w.heap.size ≤ k_))) k_ ∧ some k_ ≠ (u7 : Value).ownBlock)) (Kd.R_apart' (HO_9.out) (Kd.N_typed HO_7.out) (by decide)) (fun k_ hk => ⟨hk.1, hk.2⟩))).2.1 (Kd.R_F (Kd.R_mono (ok' := (fun k_ => ((fun k_ => (w.heap.size ≤ k_))) k_ ∧ some k_ ≠ (u7 : Value).ownBlock)) (Kd.R_apart' (HO_9.out) (Kd.N_typed HO_7.out) (by decide)) (fun k_ hk => ⟨hk.1, hk.2⟩))))); (case aB => exact (by repeat (with_reducible first | exact HB.out | apply bal | apply pbN | apply bdw))); (case aF => exact (fun k_ hk => (Nat.le_trans (bsz (by repeat (with_reducible first | exact HB.out | apply bal | apply pbN | apply bdw))) hk))); (case aO => exact (by (with_reducible repeat (first | apply Kd.N_alloc | apply Kd.N_drewN | apply Kd.N_drew)); exact Kd.N_mono HO_7.out (fun _ hk => hk.1))); (case aS => exact (bsz (by repeat (with_reducible first | exact HB.out | apply bal | apply pbN | apply bdw)))); (case aL => have := LMc15.out; omega); intro v161 w16 ho hb hg hat; rw [← Ny160.out] at ho; have n0_ := As0.mk (hb); have n1_ := As0.mk (ho); clear HB; clear HO_7; clear HO_9; have HB := n0_; have HO162 := n1_; clear n0_ n1_; clear ho hb hg hat))
        repeat (go_quiet (first | ((with_reducible refine gbu (b := .append) (xs := #[.tmp 40, .tmp 42]) rfl ?_); at_builtin; refine Kd.N_append (Kd.slice 2 (Kd.int .i64)) (w0 := w) w.heap.size rfl (.tmp 40) (.tmp 42) 45 30 (.slice none 0 0) 24 rfl Try.underlying45 info30 rfl (by decide) (by omega) u7 x7_1 x9_2 [.slice Ao17 x9_2.length co17] (fun k_ => (w.heap.size ≤ k_)) (fun k_ => ((fun k_ => (w.heap.size ≤ k_))) k_ ∧ some k_ ≠ (u7 : Value).ownBlock) rfl rfl ?aP (fun _ hk => hk) ?aF ?aO ?aB ?aS ?aL ?_; (case aP => exact (Kd.FK_slice_mk (Kd.R_reads' (Kd.R_mono (ok' := (fun k_ => ((fun k_ => (w.heap.size ≤ k_))) k_ ∧ some k_ ≠ (u7 : Value).ownBlock)) (Kd.R_apart' (HO_9.out) (Kd.N_typed HO_7.out) (by decide)) (fun k_ hk => ⟨hk.1, hk.2⟩))).2.1 (Kd.R_F (Kd.R_mono (ok' := (fun k_ => ((fun k_ => (w.heap.size ≤ k_))) k_ ∧ some k_ ≠ (u7 : Value).ownBlock)) (Kd.R_apart' (HO_9.out) (Kd.N_typed HO_7.out) (by decide)) (fun k_ hk => ⟨hk.1, hk.2⟩))))); (case aB => exact (by repeat (with_reducible first | exact HB.out | apply bal | apply pbN | apply bdw))); (case aF => exact (fun k_ hk => (Nat.le_trans (bsz (by repeat (with_reducible first | exact HB.out | apply bal | apply pbN | apply bdw))) hk))); (case aO => exact (by (with_reducible repeat (first | apply Kd.N_alloc | apply Kd.N_drewN | apply Kd.N_drew)); exact Kd.N_mono HO_7.out (fun _ hk => hk.1))); (case aS => exact (bsz (by repeat (with_reducible first | exact HB.out | apply bal | apply pbN | apply bdw)))); (case aL => have := LMc15.out; omega); intro v161 w16 ho hb hg hat; rw [← Ny160.out] at ho; have n0_ := As0.mk (hb); have n1_ := As0.mk (ho); clear HB; clear HO_7; clear HO_9; have HB := n0_; have HO162 := n1_; clear n0_ n1_; clear ho hb hg hat)); try go_wp2_with (first | ((with_reducible refine gbu (b := .append) (xs := #[.tmp 40, .tmp 42]) rfl ?_); at_builtin; refine Kd.N_append (Kd.slice 2 (Kd.int .i64)) (w0 := w) w.heap.size rfl (.tmp 40) (.tmp 42) 45 30 (.slice none 0 0) 24 rfl Try.underlying45 info30 rfl (by decide) (by omega) u7 x7_1 x9_2 [.slice Ao17 x9_2.length co17] (fun k_ => (w.heap.size ≤ k_)) (fun k_ => ((fun k_ => (w.heap.size ≤ k_))) k_ ∧ some k_ ≠ (u7 : Value).ownBlock) rfl rfl ?aP (fun _ hk => hk) ?aF ?aO ?aB ?aS ?aL ?_; (case aP => exact (Kd.FK_slice_mk (Kd.R_reads' (Kd.R_mono (ok' := (fun k_ => ((fun k_ => (w.heap.size ≤ k_))) k_ ∧ some k_ ≠ (u7 : Value).ownBlock)) (Kd.R_apart' (HO_9.out) (Kd.N_typed HO_7.out) (by decide)) (fun k_ hk => ⟨hk.1, hk.2⟩))).2.1 (Kd.R_F (Kd.R_mono (ok' := (fun k_ => ((fun k_ => (w.heap.size ≤ k_))) k_ ∧ some k_ ≠ (u7 : Value).ownBlock)) (Kd.R_apart' (HO_9.out) (Kd.N_typed HO_7.out) (by decide)) (fun k_ hk => ⟨hk.1, hk.2⟩))))); (case aB => exact (by repeat (with_reducible first | exact HB.out | apply bal | apply pbN | apply bdw))); (case aF => exact (fun k_ hk => (Nat.le_trans (bsz (by repeat (with_reducible first | exact HB.out | apply bal | apply pbN | apply bdw))) hk))); (case aO => exact (by (with_reducible repeat (first | apply Kd.N_alloc | apply Kd.N_drewN | apply Kd.N_drew)); exact Kd.N_mono HO_7.out (fun _ hk => hk.1))); (case aS => exact (bsz (by repeat (with_reducible first | exact HB.out | apply bal | apply pbN | apply bdw)))); (case aL => have := LMc15.out; omega); intro v161 w16 ho hb hg hat; rw [← Ny160.out] at ho; have n0_ := As0.mk (hb); have n1_ := As0.mk (ho); clear HB; clear HO_7; clear HO_9; have HB := n0_; have HO162 := n1_; clear n0_ n1_; clear ho hb hg hat)))
        go_roundg k2
        case measure => have := HK1.out; have := HK2.out; omega
        case rel => exact ⟨(y160), (wrap64 (x8_1 + 1)), (by first | rfl | (simp; done) | (simp [*]; done)), H', ⟨by have := HK1.out; have := HK2.out; omega⟩, ⟨by (with_reducible repeat (first | apply Kd.N_alloc | apply Kd.N_drewN | apply Kd.N_drew)); exact HO162.out⟩, ⟨by repeat (with_reducible first | exact HB.out | apply bal | apply pbN | apply bdw)⟩⟩
       ·rw [if_neg c15] at H
        exact absurd H (by simp)
   ·as_aux_lemma =>
    rw [if_neg c6] at H
    have c6b0 : decide (x8_1 ≤ a1) = false := decide_eq_false c6
    clear c6
    obtain ⟨y163, hy163⟩ : ∃ y_ : List (List (List Int)), y_ = (([x7_1] : List (List (List Int)))) := ⟨_, rfl⟩
    replace H : (spec_l16Costs.l2 k1 l0 a1 a2 y163 (wrap64 ((l0.length : Int) - 1))) = some r := by first | (rw [hy163]; with_reducible exact H) | (have H2_ := (Option.bind_some _ _).symm.trans H; rw [hy163]; with_reducible exact H2_) | (have H2_ := (Option.bind_some _ _).symm.trans H; with_reducible exact H2_) | with_reducible exact H | (rw [hy163]; exact H) | exact H
    have Ny163 := As0.mk hy163
    clear hy163
    have H' := As0.mk H
    clear H
    obtain ⟨Ao18, co18, eo18⟩ := Kd.N_slice HO_7.out
    subst eo18
    go_wp2_with (first | ((with_reducible refine gate_dst (N := 45) rfl ?_); refine Kd.N_lit (Kd.slice 30 (Kd.slice 2 (Kd.int .i64))) _ 45 ?hg (N' := 45) ?hd (xs := ([x7_1] : List (List (List Int)))) (inner := [.slice Ao18 x7_1.length co18]) (ok := (fun k_ => (w.heap.size ≤ k_))) (okp := (fun k_ => (w.heap.size ≤ k_))) ?hr ?hp (fun _ hk => hk) ((show ∀ k_, wr.heap.size ≤ k_ → (fun k_ => (w.heap.size ≤ k_)) k_ from fun k_ hk => (Nat.le_trans (bsz (by repeat (with_reducible first | exact HB.out | apply bal | apply pbN | apply bdw))) hk)) _ (Nat.le_refl _)) (Below.refl _ _) (Nat.le_refl _) (by simp) ?_; (case hd => rfl); (case hg => rfl); (case hr => first | (go_simp; done) | (go_simp; rfl)); (case hp => exact (Reps.one (show Kd.FK (Kd.slice 30 (Kd.slice 2 (Kd.int .i64))) _ _ x7_1 [.slice Ao18 x7_1.length co18] from (Kd.FK_slice_mk (Kd.N_reads' (Kd.N_mono (ok' := (fun k_ => (w.heap.size ≤ k_))) (HO_7.out) (fun k_ hk => hk))).2.1 (Kd.N_F (Kd.N_mono (ok' := (fun k_ => (w.heap.size ≤ k_))) (HO_7.out) (fun k_ hk => hk))))) (Reps.none _ _))); intro v164 w19 ho20 hb hg_ hnew_; clear hg_ hnew_; (first | rw [← Ny163.out] at ho20 | (simp only [Int.reduceToNat] at ho20; rw [← Ny163.out] at ho20)); have n0_ := As0.mk (Kd.N_lower ho20 (bsz (by repeat (with_reducible first | exact HB.out | apply bal | apply pbN | apply bdw)))); have n1_ := As0.mk (bsp (by repeat (with_reducible first | exact HB.out | apply bal | apply pbN | apply bdw)) hb); clear HB; clear HO_7; have HO165 := n0_; have HB := n1_; clear n0_ n1_; clear hb ho20))
    repeat (go_quiet (first | ((with_reducible refine gate_dst (N := 45) rfl ?_); refine Kd.N_lit (Kd.slice 30 (Kd.slice 2 (Kd.int .i64))) _ 45 ?hg (N' := 45) ?hd (xs := ([x7_1] : List (List (List Int)))) (inner := [.slice Ao18 x7_1.length co18]) (ok := (fun k_ => (w.heap.size ≤ k_))) (okp := (fun k_ => (w.heap.size ≤ k_))) ?hr ?hp (fun _ hk => hk) ((show ∀ k_, wr.heap.size ≤ k_ → (fun k_ => (w.heap.size ≤ k_)) k_ from fun k_ hk => (Nat.le_trans (bsz (by repeat (with_reducible first | exact HB.out | apply bal | apply pbN | apply bdw))) hk)) _ (Nat.le_refl _)) (Below.refl _ _) (Nat.le_refl _) (by simp) ?_; (case hd => rfl); (case hg => rfl); (case hr => first | (go_simp; done) | (go_simp; rfl)); (case hp => exact (Reps.one (show Kd.FK (Kd.slice 30 (Kd.slice 2 (Kd.int .i64))) _ _ x7_1 [.slice Ao18 x7_1.length co18] from (Kd.FK_slice_mk (Kd.N_reads' (Kd.N_mono (ok' := (fun k_ => (w.heap.size ≤ k_))) (HO_7.out) (fun k_ hk => hk))).2.1 (Kd.N_F (Kd.N_mono (ok' := (fun k_ => (w.heap.size ≤ k_))) (HO_7.out) (fun k_ hk => hk))))) (Reps.none _ _))); intro v164 w19 ho20 hb hg_ hnew_; clear hg_ hnew_; (first | rw [← Ny163.out] at ho20 | (simp only [Int.reduceToNat] at ho20; rw [← Ny163.out] at ho20)); have n0_ := As0.mk (Kd.N_lower ho20 (bsz (by repeat (with_reducible first | exact HB.out | apply bal | apply pbN | apply bdw)))); have n1_ := As0.mk (bsp (by repeat (with_reducible first | exact HB.out | apply bal | apply pbN | apply bdw)) hb); clear HB; clear HO_7; have HO165 := n0_; have HB := n1_; clear n0_ n1_; clear hb ho20)); try go_wp2_with (first | ((with_reducible refine gate_dst (N := 45) rfl ?_); refine Kd.N_lit (Kd.slice 30 (Kd.slice 2 (Kd.int .i64))) _ 45 ?hg (N' := 45) ?hd (xs := ([x7_1] : List (List (List Int)))) (inner := [.slice Ao18 x7_1.length co18]) (ok := (fun k_ => (w.heap.size ≤ k_))) (okp := (fun k_ => (w.heap.size ≤ k_))) ?hr ?hp (fun _ hk => hk) ((show ∀ k_, wr.heap.size ≤ k_ → (fun k_ => (w.heap.size ≤ k_)) k_ from fun k_ hk => (Nat.le_trans (bsz (by repeat (with_reducible first | exact HB.out | apply bal | apply pbN | apply bdw))) hk)) _ (Nat.le_refl _)) (Below.refl _ _) (Nat.le_refl _) (by simp) ?_; (case hd => rfl); (case hg => rfl); (case hr => first | (go_simp; done) | (go_simp; rfl)); (case hp => exact (Reps.one (show Kd.FK (Kd.slice 30 (Kd.slice 2 (Kd.int .i64))) _ _ x7_1 [.slice Ao18 x7_1.length co18] from (Kd.FK_slice_mk (Kd.N_reads' (Kd.N_mono (ok' := (fun k_ => (w.heap.size ≤ k_))) (HO_7.out) (fun k_ hk => hk))).2.1 (Kd.N_F (Kd.N_mono (ok' := (fun k_ => (w.heap.size ≤ k_))) (HO_7.out) (fun k_ hk => hk))))) (Reps.none _ _))); intro v164 w19 ho20 hb hg_ hnew_; clear hg_ hnew_; (first | rw [← Ny163.out] at ho20 | (simp only [Int.reduceToNat] at ho20; rw [← Ny163.out] at ho20)); have n0_ := As0.mk (Kd.N_lower ho20 (bsz (by repeat (with_reducible first | exact HB.out | apply bal | apply pbN | apply bdw)))); have n1_ := As0.mk (bsp (by repeat (with_reducible first | exact HB.out | apply bal | apply pbN | apply bdw)) hb); clear HB; clear HO_7; have HO165 := n0_; have HB := n1_; clear n0_ n1_; clear hb ho20)))
    go_loopg [11, 12] k1 (fun kq v11 v12 w' => ∃ (x11_2 : List (List (List Int))) (x12_2 : Int), v12 = .int .i64 x12_2 ∧ As0 (spec_l16Costs.l2 kq l0 a1 a2 x11_2 x12_2 = some r) ∧ As0 (kq ≤ k1) ∧ As0 (Kd.N (Kd.slice 30 (Kd.slice 2 (Kd.int .i64))) 45 w' w.heap.size (fun k_ => (w.heap.size ≤ k_)) v11 x11_2) ∧ As0 (Below w.heap.size w w'))
    case atStart => exact ⟨(y163), (wrap64 ((l0.length : Int) - 1)), (by first | rfl | (simp; done) | (simp [*]; done)), H', ⟨Nat.le_refl _⟩, ⟨by (with_reducible repeat (first | apply Kd.N_alloc | apply Kd.N_drewN | apply Kd.N_drew)); exact HO165.out⟩, ⟨by repeat (with_reducible first | exact HB.out | apply bal | apply pbN | apply bdw)⟩⟩
    case round =>
     clear H'
     try clear c1
     try clear c2
     try clear p2
     try clear c6
     try clear c6b0
     try clear p6
     try clear c9
     try clear c9b0
     try clear c10
     try clear c10b0
     try clear c10b1
     try clear c11
     try clear c13
     try clear c15
     try clear p2
     obtain ⟨x11_2, x12_2, rfl, HA, HK2, HO_11, HB⟩ := hrel
     cases gk with
     | zero => exact absurd HA.out (by simp [spec_l16Costs.l2])
     | succ k2 =>
      have H := HA.out
      clear HA
      simp only [spec_l16Costs.l2] at H
      by_cases c21 : x12_2 ≥ 0
      ·as_aux_lemma =>
       rw [if_pos c21] at H
       have c21b0 : decide (0 ≤ x12_2) = true := decide_eq_true c21
       clear c21
       obtain ⟨y166, hy166⟩ : ∃ y_ : List (List Int), y_ = (([] : List (List Int))) := ⟨_, rfl⟩
       replace H : (spec_l16Costs.l3 k2 l0 a1 a2 x11_2 x12_2 y166 0) = some r := by first | (rw [hy166]; with_reducible exact H) | (have H2_ := (Option.bind_some _ _).symm.trans H; rw [hy166]; with_reducible exact H2_) | (have H2_ := (Option.bind_some _ _).symm.trans H; with_reducible exact H2_) | with_reducible exact H | (rw [hy166]; exact H) | exact H
       have Ny166 := As0.mk hy166
       clear hy166
       have H' := As0.mk H
       clear H
       go_wp2_with (first | ((with_reducible refine gate_dst (N := 53) rfl ?_); refine Kd.N_lit (Kd.slice 2 (Kd.int .i64)) _ 30 ?hg (N' := 53) ?hd (xs := ([] : List (List Int))) (inner := []) (ok := (fun k_ => (w.heap.size ≤ k_) ∧ some k_ ≠ (u11 : Value).ownBlock)) (okp := (fun k_ => (w.heap.size ≤ k_) ∧ some k_ ≠ (u11 : Value).ownBlock)) ?hr ?hp (fun _ hk => hk) ((show ∀ k_, wr.heap.size ≤ k_ → (fun k_ => (w.heap.size ≤ k_) ∧ some k_ ≠ (u11 : Value).ownBlock) k_ from fun k_ hk => ⟨(Nat.le_trans (bsz (by repeat (with_reducible first | exact HB.out | apply bal | apply pbN | apply bdw))) hk), Kd.fresh' (Kd.N_lt (by (with_reducible repeat (first | apply Kd.N_alloc | apply Kd.N_drewN | apply Kd.N_drew)); exact HO_11.out)) k_ hk⟩) _ (Nat.le_refl _)) (Below.refl _ _) (Nat.le_refl _) (by simp) ?_; (case hd => rfl); (case hg => rfl); (case hr => first | (go_simp; done) | (go_simp; rfl)); (case hp => exact (Reps.none _ _)); intro v167 w22 ho23 hb hg_ hnew_; clear hg_ hnew_; (first | rw [← Ny166.out] at ho23 | (simp only [Int.reduceToNat] at ho23; rw [← Ny166.out] at ho23)); have n0_ := As0.mk (Kd.N_elder' (by (with_reducible repeat (first | apply Kd.N_alloc | apply Kd.N_drewN | apply Kd.N_drew)); exact HO_11.out) (Kd.N_base ho23) hb); have n1_ := As0.mk (Kd.N_lower ho23 (bsz (by repeat (with_reducible first | exact HB.out | apply bal | apply pbN | apply bdw)))); have n2_ := As0.mk (bsp (by repeat (with_reducible first | exact HB.out | apply bal | apply pbN | apply bdw)) hb); clear HO_11; clear HB; have HO_11 := n0_; have HO168 := n1_; have HB := n2_; clear n0_ n1_ n2_; clear hb ho23))
       repeat (go_quiet (first | ((with_reducible refine gate_dst (N := 53) rfl ?_); refine Kd.N_lit (Kd.slice 2 (Kd.int .i64)) _ 30 ?hg (N' := 53) ?hd (xs := ([] : List (List Int))) (inner := []) (ok := (fun k_ => (w.heap.size ≤ k_) ∧ some k_ ≠ (u11 : Value).ownBlock)) (okp := (fun k_ => (w.heap.size ≤ k_) ∧ some k_ ≠ (u11 : Value).ownBlock)) ?hr ?hp (fun _ hk => hk) ((show ∀ k_, wr.heap.size ≤ k_ → (fun k_ => (w.heap.size ≤ k_) ∧ some k_ ≠ (u11 : Value).ownBlock) k_ from fun k_ hk => ⟨(Nat.le_trans (bsz (by repeat (with_reducible first | exact HB.out | apply bal | apply pbN | apply bdw))) hk), Kd.fresh' (Kd.N_lt (by (with_reducible repeat (first | apply Kd.N_alloc | apply Kd.N_drewN | apply Kd.N_drew)); exact HO_11.out)) k_ hk⟩) _ (Nat.le_refl _)) (Below.refl _ _) (Nat.le_refl _) (by simp) ?_; (case hd => rfl); (case hg => rfl); (case hr => first | (go_simp; done) | (go_simp; rfl)); (case hp => exact (Reps.none _ _)); intro v167 w22 ho23 hb hg_ hnew_; clear hg_ hnew_; (first | rw [← Ny166.out] at ho23 | (simp only [Int.reduceToNat] at ho23; rw [← Ny166.out] at ho23)); have n0_ := As0.mk (Kd.N_elder' (by (with_reducible repeat (first | apply Kd.N_alloc | apply Kd.N_drewN | apply Kd.N_drew)); exact HO_11.out) (Kd.N_base ho23) hb); have n1_ := As0.mk (Kd.N_lower ho23 (bsz (by repeat (with_reducible first | exact HB.out | apply bal | apply pbN | apply bdw)))); have n2_ := As0.mk (bsp (by repeat (with_reducible first | exact HB.out | apply bal | apply pbN | apply bdw)) hb); clear HO_11; clear HB; have HO_11 := n0_; have HO168 := n1_; have HB := n2_; clear n0_ n1_ n2_; clear hb ho23)); try go_wp2_with (first | ((with_reducible refine gate_dst (N := 53) rfl ?_); refine Kd.N_lit (Kd.slice 2 (Kd.int .i64)) _ 30 ?hg (N' := 53) ?hd (xs := ([] : List (List Int))) (inner := []) (ok := (fun k_ => (w.heap.size ≤ k_) ∧ some k_ ≠ (u11 : Value).ownBlock)) (okp := (fun k_ => (w.heap.size ≤ k_) ∧ some k_ ≠ (u11 : Value).ownBlock)) ?hr ?hp (fun _ hk => hk) ((show ∀ k_, wr.heap.size ≤ k_ → (fun k_ => (w.heap.size ≤ k_) ∧ some k_ ≠ (u11 : Value).ownBlock) k_ from fun k_ hk => ⟨(Nat.le_trans (bsz (by repeat (with_reducible first | exact HB.out | apply bal | apply pbN | apply bdw))) hk), Kd.fresh' (Kd.N_lt (by (with_reducible repeat (first | apply Kd.N_alloc | apply Kd.N_drewN | apply Kd.N_drew)); exact HO_11.out)) k_ hk⟩) _ (Nat.le_refl _)) (Below.refl _ _) (Nat.le_refl _) (by simp) ?_; (case hd => rfl); (case hg => rfl); (case hr => first | (go_simp; done) | (go_simp; rfl)); (case hp => exact (Reps.none _ _)); intro v167 w22 ho23 hb hg_ hnew_; clear hg_ hnew_; (first | rw [← Ny166.out] at ho23 | (simp only [Int.reduceToNat] at ho23; rw [← Ny166.out] at ho23)); have n0_ := As0.mk (Kd.N_elder' (by (with_reducible repeat (first | apply Kd.N_alloc | apply Kd.N_drewN | apply Kd.N_drew)); exact HO_11.out) (Kd.N_base ho23) hb); have n1_ := As0.mk (Kd.N_lower ho23 (bsz (by repeat (with_reducible first | exact HB.out | apply bal | apply pbN | apply bdw)))); have n2_ := As0.mk (bsp (by repeat (with_reducible first | exact HB.out | apply bal | apply pbN | apply bdw)) hb); clear HO_11; clear HB; have HO_11 := n0_; have HO168 := n1_; have HB := n2_; clear n0_ n1_ n2_; clear hb ho23)))
       go_loopg [13, 14] k2 (fun kq v13 v14 w' => ∃ (x13_3 : List (List Int)) (x14_3 : Int), v14 = .int .i64 x14_3 ∧ As0 (spec_l16Costs.l3 kq l0 a1 a2 x11_2 x12_2 x13_3 x14_3 = some r) ∧ As0 (kq ≤ k2) ∧ As0 (Kd.N (Kd.slice 30 (Kd.slice 2 (Kd.int .i64))) 45 w' w.heap.size (fun k_ => (w.heap.size ≤ k_) ∧ some k_ ≠ (v13 : Value).ownBlock) u11 x11_2) ∧ As0 (Kd.N (Kd.slice 2 (Kd.int .i64)) 30 w' w.heap.size (fun k_ => (w.heap.size ≤ k_) ∧ some k_ ≠ (u11 : Value).ownBlock) v13 x13_3) ∧ As0 (Below w.heap.size w w'))
       case atStart => exact ⟨(y166), (0), (by first | rfl | (simp; done) | (simp [*]; done)), H', ⟨Nat.le_refl _⟩, ⟨by (with_reducible repeat (first | apply Kd.N_alloc | apply Kd.N_drewN | apply Kd.N_drew)); exact HO_11.out⟩, ⟨by (with_reducible repeat (first | apply Kd.N_alloc | apply Kd.N_drewN | apply Kd.N_drew)); exact HO168.out⟩, ⟨by repeat (with_reducible first | exact HB.out | apply bal | apply pbN | apply bdw)⟩⟩
       case round =>
        clear H'
        try clear c1
        try clear c2
        try clear p2
        try clear c6
        try clear c6b0
        try clear p6
        try clear c9
        try clear c9b0
        try clear c10
        try clear c10b0
        try clear c10b1
        try clear c11
        try clear c13
        try clear c15
        try clear c21
        try clear c21b0
        try clear c22
        try clear p2
        try clear p6
        obtain ⟨x13_3, x14_3, rfl, HA, HK3, HO_11, HO_13, HB⟩ := hrel
        cases gk with
        | zero => exact absurd HA.out (by simp [spec_l16Costs.l3])
        | succ k3 =>
         have H := HA.out
         clear HA
         simp only [spec_l16Costs.l3] at H
         by_cases c24 : x14_3 ≤ a1
         ·as_aux_lemma =>
          rw [if_pos c24] at H
          have c24b0 : decide (x14_3 ≤ a1) = true := decide_eq_true c24
          clear c24
          obtain ⟨y175, hy175⟩ : ∃ y_ : List Int, y_ = (([] : List Int)) := ⟨_, rfl⟩
          replace H : (spec_l16Costs.l4 k3 l0 a1 a2 x11_2 x12_2 x13_3 x14_3 y175 0) = some r := by first | (rw [hy175]; with_reducible exact H) | (have H2_ := (Option.bind_some _ _).symm.trans H; rw [hy175]; with_reducible exact H2_) | (have H2_ := (Option.bind_some _ _).symm.trans H; with_reducible exact H2_) | with_reducible exact H | (rw [hy175]; exact H) | exact H
          have Ny175 := As0.mk hy175
          clear hy175
          have H' := As0.mk H
          clear H
          go_wp2_with (first | ((with_reducible refine gate_dst (N := 59) rfl ?_); refine Kd.R_lit (Kd.int .i64) _ 2 ?hg (N := 59) ?hd (xs := ([] : List Int)) (inner := []) (ok := fun _ => True) (okp := fun _ => True) ?hr ?hp (fun _ hk => hk) trivial (Below.refl _ _) (Nat.le_refl _) (by simp) ?_; (case hd => rfl); (case hg => rfl); (case hr => first | (go_simp; done) | (go_simp; rfl)); (case hp => exact (Reps.none _ _)); intro v176 w25 ho26 hb hg_ hnew_; clear hg_ hnew_; (first | rw [← Ny175.out] at ho26 | (simp only [Int.reduceToNat] at ho26; rw [← Ny175.out] at ho26)); have n0_ := As0.mk (Kd.N_elder' (by (with_reducible repeat (first | apply Kd.N_alloc | apply Kd.N_drewN | apply Kd.N_drew)); exact HO_11.out) (Kd.R_base ho26) hb); have n1_ := As0.mk (Kd.N_elder' (by (with_reducible repeat (first | apply Kd.N_alloc | apply Kd.N_drewN | apply Kd.N_drew)); exact HO_13.out) (Kd.R_base ho26) hb); have n2_ := As0.mk (Kd.R_lower (Kd.R_newM (M := fun k_ => (w.heap.size ≤ k_)) ho26 (bsz (by repeat (with_reducible first | exact HB.out | apply bal | apply pbN | apply bdw))) (fun k_ h_ => h_)) (bsz (by repeat (with_reducible first | exact HB.out | apply bal | apply pbN | apply bdw)))); have n3_ := As0.mk (bsp (by repeat (with_reducible first | exact HB.out | apply bal | apply pbN | apply bdw)) hb); clear HO_11; clear HO_13; clear HB; have HO_11 := n0_; have HO_13 := n1_; have HO177 := n2_; have HB := n3_; clear n0_ n1_ n2_ n3_; clear hb ho26))
          repeat (go_quiet (first | ((with_reducible refine gate_dst (N := 59) rfl ?_); refine Kd.R_lit (Kd.int .i64) _ 2 ?hg (N := 59) ?hd (xs := ([] : List Int)) (inner := []) (ok := fun _ => True) (okp := fun _ => True) ?hr ?hp (fun _ hk => hk) trivial (Below.refl _ _) (Nat.le_refl _) (by simp) ?_; (case hd => rfl); (case hg => rfl); (case hr => first | (go_simp; done) | (go_simp; rfl)); (case hp => exact (Reps.none _ _)); intro v176 w25 ho26 hb hg_ hnew_; clear hg_ hnew_; (first | rw [← Ny175.out] at ho26 | (simp only [Int.reduceToNat] at ho26; rw [← Ny175.out] at ho26)); have n0_ := As0.mk (Kd.N_elder' (by (with_reducible repeat (first | apply Kd.N_alloc | apply Kd.N_drewN | apply Kd.N_drew)); exact HO_11.out) (Kd.R_base ho26) hb); have n1_ := As0.mk (Kd.N_elder' (by (with_reducible repeat (first | apply Kd.N_alloc | apply Kd.N_drewN | apply Kd.N_drew)); exact HO_13.out) (Kd.R_base ho26) hb); have n2_ := As0.mk (Kd.R_lower (Kd.R_newM (M := fun k_ => (w.heap.size ≤ k_)) ho26 (bsz (by repeat (with_reducible first | exact HB.out | apply bal | apply pbN | apply bdw))) (fun k_ h_ => h_)) (bsz (by repeat (with_reducible first | exact HB.out | apply bal | apply pbN | apply bdw)))); have n3_ := As0.mk (bsp (by repeat (with_reducible first | exact HB.out | apply bal | apply pbN | apply bdw)) hb); clear HO_11; clear HO_13; clear HB; have HO_11 := n0_; have HO_13 := n1_; have HO177 := n2_; have HB := n3_; clear n0_ n1_ n2_ n3_; clear hb ho26)); try go_wp2_with (first | ((with_reducible refine gate_dst (N := 59) rfl ?_); refine Kd.R_lit (Kd.int .i64) _ 2 ?hg (N := 59) ?hd (xs := ([] : List Int)) (inner := []) (ok := fun _ => True) (okp := fun _ => True) ?hr ?hp (fun _ hk => hk) trivial (Below.refl _ _) (Nat.le_refl _) (by simp) ?_; (case hd => rfl); (case hg => rfl); (case hr => first | (go_simp; done) | (go_simp; rfl)); (case hp => exact (Reps.none _ _)); intro v176 w25 ho26 hb hg_ hnew_; clear hg_ hnew_; (first | rw [← Ny175.out] at ho26 | (simp only [Int.reduceToNat] at ho26; rw [← Ny175.out] at ho26)); have n0_ := As0.mk (Kd.N_elder' (by (with_reducible repeat (first | apply Kd.N_alloc | apply Kd.N_drewN | apply Kd.N_drew)); exact HO_11.out) (Kd.R_base ho26) hb); have n1_ := As0.mk (Kd.N_elder' (by (with_reducible repeat (first | apply Kd.N_alloc | apply Kd.N_drewN | apply Kd.N_drew)); exact HO_13.out) (Kd.R_base ho26) hb); have n2_ := As0.mk (Kd.R_lower (Kd.R_newM (M := fun k_ => (w.heap.size ≤ k_)) ho26 (bsz (by repeat (with_reducible first | exact HB.out | apply bal | apply pbN | apply bdw))) (fun k_ h_ => h_)) (bsz (by repeat (with_reducible first | exact HB.out | apply bal | apply pbN | apply bdw)))); have n3_ := As0.mk (bsp (by repeat (with_reducible first | exact HB.out | apply bal | apply pbN | apply bdw)) hb); clear HO_11; clear HO_13; clear HB; have HO_11 := n0_; have HO_13 := n1_; have HO177 := n2_; have HB := n3_; clear n0_ n1_ n2_ n3_; clear hb ho26)))
          go_loopg [15, 16] k3 (fun kq v15 v16 w' => ∃ (x15_4 : List Int) (x16_4 : Int), v16 = .int .i64 x16_4 ∧ As0 (spec_l16Costs.l4 kq l0 a1 a2 x11_2 x12_2 x13_3 x14_3 x15_4 x16_4 = some r) ∧ As0 (kq ≤ k3) ∧ As0 (Kd.N (Kd.slice 30 (Kd.slice 2 (Kd.int .i64))) 45 w' w.heap.size (fun k_ => (w.heap.size ≤ k_) ∧ some k_ ≠ (u13 : Value).ownBlock ∧ some k_ ≠ (v15 : Value).ownBlock) u11 x11_2) ∧ As0 (Kd.N (Kd.slice 2 (Kd.int .i64)) 30 w' w.heap.size (fun k_ => (w.heap.size ≤ k_) ∧ some k_ ≠ (u11 : Value).ownBlock ∧ some k_ ≠ (v15 : Value).ownBlock) u13 x13_3) ∧ As0 (Kd.R (Kd.int .i64) 2 w' w.heap.size (fun k_ => (w.heap.size ≤ k_)) v15 x15_4) ∧ As0 (Below w.heap.size w w'))
          case atStart => exact ⟨(y175), (0), (by first | rfl | (simp; done) | (simp [*]; done)), H', ⟨Nat.le_refl _⟩, ⟨by (with_reducible repeat (first | apply Kd.N_alloc | apply Kd.N_drewN | apply Kd.N_drew)); exact Kd.N_mono HO_11.out (fun _ hk => ⟨hk.1.1, ⟨hk.1.2, hk.2⟩⟩)⟩, ⟨by (with_reducible repeat (first | apply Kd.N_alloc | apply Kd.N_drewN | apply Kd.N_drew)); exact Kd.N_mono HO_13.out (fun _ hk => ⟨hk.1.1, ⟨hk.1.2, hk.2⟩⟩)⟩, ⟨by (with_reducible repeat (first | apply Kd.R_alloc | apply Kd.R_drewN | apply Kd.R_drew)); exact Kd.R_mono HO177.out (fun _ hk => hk.1)⟩, ⟨by repeat (with_reducible first | exact HB.out | apply bal | apply pbN | apply bdw)⟩⟩
          case round =>
           clear H'
           try clear c1
           try clear c2
           try clear p2
           try clear c6
           try clear c6b0
           try clear p6
           try clear c9
           try clear c9b0
           try clear c10
           try clear c10b0
           try clear c10b1
           try clear c11
           try clear c13
           try clear c15
           try clear c21
           try clear c21b0
           try clear c22
           try clear c24
           try clear c24b0
           try clear p2
           try clear p6
           obtain ⟨x15_4, x16_4, rfl, HA, HK4, HO_11, HO_13, HO_15, HB⟩ := hrel
           cases gk with
           | zero => exact absurd HA.out (by simp [spec_l16Costs.l4])
           | succ k4 =>
            have H := HA.out
            clear HA
            simp only [spec_l16Costs.l4] at H
            by_cases c27 : x16_4 ≤ a2
            ·as_aux_lemma =>
             rw [if_pos c27] at H
             have c27b0 : decide (x16_4 ≤ a2) = true := decide_eq_true c27
             clear c27
             have H' := As0.mk H
             clear H
             go_wp2
             repeat (go_quiet (fail); try go_wp2)
             go_loopg [17, 18] k4 (fun kq v17 v18 w' => ∃ (x17_5 : Int) (x18_5 : Int), v17 = .int .i64 x17_5 ∧ v18 = .int .i64 x18_5 ∧ As0 (spec_l16Costs.l5 kq l0 a1 a2 x11_2 x12_2 x13_3 x14_3 x15_4 x16_4 x17_5 x18_5 = some r) ∧ As0 (kq ≤ k4) ∧ As0 (Kd.N (Kd.slice 30 (Kd.slice 2 (Kd.int .i64))) 45 w' w.heap.size (fun k_ => (w.heap.size ≤ k_) ∧ some k_ ≠ (u13 : Value).ownBlock ∧ some k_ ≠ (u15 : Value).ownBlock) u11 x11_2) ∧ As0 (Kd.N (Kd.slice 2 (Kd.int .i64)) 30 w' w.heap.size (fun k_ => (w.heap.size ≤ k_) ∧ some k_ ≠ (u11 : Value).ownBlock ∧ some k_ ≠ (u15 : Value).ownBlock) u13 x13_3) ∧ As0 (Kd.R (Kd.int .i64) 2 w' w.heap.size (fun k_ => (w.heap.size ≤ k_)) u15 x15_4) ∧ As0 (Below w.heap.size w w'))
             case atStart => exact ⟨((-1)), (0), (by first | rfl | (simp; done) | (simp [*]; done)), (by first | rfl | (simp; done) | (simp [*]; done)), H', ⟨Nat.le_refl _⟩, ⟨by (with_reducible repeat (first | apply Kd.N_alloc | apply Kd.N_drewN | apply Kd.N_drew)); exact HO_11.out⟩, ⟨by (with_reducible repeat (first | apply Kd.N_alloc | apply Kd.N_drewN | apply Kd.N_drew)); exact HO_13.out⟩, ⟨by (with_reducible repeat (first | apply Kd.R_alloc | apply Kd.R_drewN | apply Kd.R_drew)); exact HO_15.out⟩, ⟨by repeat (with_reducible first | exact HB.out | apply bal | apply pbN | apply bdw)⟩⟩
             case round =>
              clear H'
              try clear c1
              try clear c2
              try clear p2
              try clear c6
              try clear c6b0
              try clear p6
              try clear c9
              try clear c9b0
              try clear c10
              try clear c10b0
              try clear c10b1
              try clear c11
              try clear c13
              try clear c15
              try clear c21
              try clear c21b0
              try clear c22
              try clear c24
              try clear c24b0
              try clear c27
              try clear c27b0
              try clear p2
              try clear p6
              obtain ⟨x17_5, x18_5, rfl, rfl, HA, HK5, HO_11, HO_13, HO_15, HB⟩ := hrel
              cases gk with
              | zero => exact absurd HA.out (by simp [spec_l16Costs.l5])
              | succ k5 =>
               have H := HA.out
               clear HA
               simp only [spec_l16Costs.l5] at H
               have HC28 := As0.mk H
               clear H
               go_upto_region 27 with (fail)
               repeat (go_quiet (fail); go_upto_region 27 with (fail))
               go_cut [87] (fun v87 wc => ∃ (kq : Nat) (x87_27 : Bool), v87 = .bool x87_27 ∧ As0 (spec_l16Costs.j6 kq l0 a1 a2 x11_2 x12_2 x13_3 x14_3 x15_4 x16_4 x17_5 x18_5 x87_27 = some r) ∧ As0 (kq ≤ k5) ∧ As0 (Kd.N (Kd.slice 30 (Kd.slice 2 (Kd.int .i64))) 45 wc w.heap.size (fun k_ => (w.heap.size ≤ k_) ∧ some k_ ≠ (u13 : Value).ownBlock ∧ some k_ ≠ (u15 : Value).ownBlock) u11 x11_2) ∧ As0 (Kd.N (Kd.slice 2 (Kd.int .i64)) 30 wc w.heap.size (fun k_ => (w.heap.size ≤ k_) ∧ some k_ ≠ (u11 : Value).ownBlock ∧ some k_ ≠ (u15 : Value).ownBlock) u13 x13_3) ∧ As0 (Kd.R (Kd.int .i64) 2 wc w.heap.size (fun k_ => (w.heap.size ≤ k_)) u15 x15_4) ∧ As0 (Below w.heap.size w wc))
               case first =>
                have H := HC28.out
                clear HC28
                by_cases c29 : 0 ≤ x12_2
                ·as_aux_lemma =>
                 rw [if_pos c29] at H
                 have c29b0 : decide (0 ≤ x12_2) = true := decide_eq_true c29
                 clear c29
                 (first | rw [c29b0] | (simp only [i64_w, i32_w]; rw [c29b0]) | skip)
                 by_cases c30 : x12_2 < (l0.length : Int)
                 ·as_aux_lemma =>
                  rw [if_pos c30] at H
                  have c30b0 : decide (x12_2 < (l0.length : Int)) = true := decide_eq_true c30
                  clear c30
                  by_cases c31 : x18_5 ≤ ((rd_T46 l0 x12_2).f3)
                  ·rw [if_pos c31] at H
                   have c31b0 : decide (x18_5 ≤ ((rd_T46 l0 x12_2).f3)) = true := decide_eq_true c31
                   clear c31
                   by_cases c32 : x18_5 ≤ x14_3
                   ·rw [if_pos c32] at H
                    have c32b0 : decide (x18_5 ≤ x14_3) = true := decide_eq_true c32
                    clear c32
                    have H' := As0.mk H
                    clear H
                    have p181 : 0 ≤ (x12_2 : Int) := of_decide_eq_true (by assumption)
                    have q181 : x12_2 < (l0.length : Int) := of_decide_eq_true (by assumption)
                    obtain ⟨ad181, e181, hx181_0, hx181_1, hx181_2, hx181_3⟩ := at_T46 HR0.out x12_2 p181 q181
                    cases e181
                    replace hx181_0 := (HB.out.cell (blt w _ hx181_0)).trans hx181_0
                    replace hx181_1 := (HB.out.cell (blt w _ hx181_1)).trans hx181_1
                    replace hx181_2 := (HB.out.cell (blt w _ hx181_2)).trans hx181_2
                    replace hx181_3 := (HB.out.cell (blt w _ hx181_3)).trans hx181_3
                    replace p181 := eq_true p181
                    replace q181 := eq_true q181
                    have p182 : 0 ≤ (x12_2 : Int) := of_decide_eq_true (by assumption)
                    have q182 : x12_2 < (l0.length : Int) := of_decide_eq_true (by assumption)
                    obtain ⟨ad182, e182, hx182_0, hx182_1, hx182_2, hx182_3⟩ := at_T46 HR0.out x12_2 p182 q182
                    obtain rfl : ad181 = ad182 := (by injection e182)
                    replace hx182_0 := (HB.out.cell (blt w _ hx182_0)).trans hx182_0
                    replace hx182_1 := (HB.out.cell (blt w _ hx182_1)).trans hx182_1
                    replace hx182_2 := (HB.out.cell (blt w _ hx182_2)).trans hx182_2
                    replace hx182_3 := (HB.out.cell (blt w _ hx182_3)).trans hx182_3
                    replace p182 := eq_true p182
                    replace q182 := eq_true q182
                    go_wp2
                    repeat (go_quiet (fail); try go_wp2)
                    go_meet
                    case rel => exact ⟨_, (decide ((wrap64 (x18_5 * ((rd_T46 l0 x12_2).f1))) ≤ x16_4)), (by first | rfl | (simp; done) | (simp [*]; done)), H', ⟨by have := HK1.out; have := HK2.out; have := HK3.out; have := HK4.out; have := HK5.out; first | omega | exact Nat.le_refl _⟩, ⟨by (with_reducible repeat (first | apply Kd.N_alloc | apply Kd.N_drewN | apply Kd.N_drew)); exact HO_11.out⟩, ⟨by (with_reducible repeat (first | apply Kd.N_alloc | apply Kd.N_drewN | apply Kd.N_drew)); exact HO_13.out⟩, ⟨by (with_reducible repeat (first | apply Kd.R_alloc | apply Kd.R_drewN | apply Kd.R_drew)); exact HO_15.out⟩, ⟨by repeat (with_reducible first | exact HB.out | apply bal | apply pbN | apply bdw)⟩⟩
                   ·rw [if_neg c32] at H
                    have c32b0 : decide (x18_5 ≤ x14_3) = false := decide_eq_false c32
                    clear c32
                    have H' := As0.mk H
                    clear H
                    have p181 : 0 ≤ (x12_2 : Int) := of_decide_eq_true (by assumption)
                    have q181 : x12_2 < (l0.length : Int) := of_decide_eq_true (by assumption)
                    obtain ⟨ad181, e181, hx181_0, hx181_1, hx181_2, hx181_3⟩ := at_T46 HR0.out x12_2 p181 q181
                    cases e181
                    replace hx181_0 := (HB.out.cell (blt w _ hx181_0)).trans hx181_0
                    replace hx181_1 := (HB.out.cell (blt w _ hx181_1)).trans hx181_1
                    replace hx181_2 := (HB.out.cell (blt w _ hx181_2)).trans hx181_2
                    replace hx181_3 := (HB.out.cell (blt w _ hx181_3)).trans hx181_3
                    replace p181 := eq_true p181
                    replace q181 := eq_true q181
                    go_wp2
                    repeat (go_quiet (fail); try go_wp2)
                    go_meet
                    case rel => exact ⟨_, (false), (by first | rfl | (simp; done) | (simp [*]; done)), H', ⟨by have := HK1.out; have := HK2.out; have := HK3.out; have := HK4.out; have := HK5.out; first | omega | exact Nat.le_refl _⟩, ⟨by (with_reducible repeat (first | apply Kd.N_alloc | apply Kd.N_drewN | apply Kd.N_drew)); exact HO_11.out⟩, ⟨by (with_reducible repeat (first | apply Kd.N_alloc | apply Kd.N_drewN | apply Kd.N_drew)); exact HO_13.out⟩, ⟨by (with_reducible repeat (first | apply Kd.R_alloc | apply Kd.R_drewN | apply Kd.R_drew)); exact HO_15.out⟩, ⟨by repeat (with_reducible first | exact HB.out | apply bal | apply pbN | apply bdw)⟩⟩
                  ·rw [if_neg c31] at H
                   have c31b0 : decide (x18_5 ≤ ((rd_T46 l0 x12_2).f3)) = false := decide_eq_false c31
                   clear c31
                   have H' := As0.mk H
                   clear H
                   have p181 : 0 ≤ (x12_2 : Int) := of_decide_eq_true (by assumption)
                   have q181 : x12_2 < (l0.length : Int) := of_decide_eq_true (by assumption)
                   obtain ⟨ad181, e181, hx181_0, hx181_1, hx181_2, hx181_3⟩ := at_T46 HR0.out x12_2 p181 q181
                   cases e181
                   replace hx181_0 := (HB.out.cell (blt w _ hx181_0)).trans hx181_0
                   replace hx181_1 := (HB.out.cell (blt w _ hx181_1)).trans hx181_1
                   replace hx181_2 := (HB.out.cell (blt w _ hx181_2)).trans hx181_2
                   replace hx181_3 := (HB.out.cell (blt w _ hx181_3)).trans hx181_3
                   replace p181 := eq_true p181
                   replace q181 := eq_true q181
                   go_wp2
                   repeat (go_quiet (fail); try go_wp2)
                   go_meet
                   case rel => exact ⟨_, (false), (by first | rfl | (simp; done) | (simp [*]; done)), H', ⟨by have := HK1.out; have := HK2.out; have := HK3.out; have := HK4.out; have := HK5.out; first | omega | exact Nat.le_refl _⟩, ⟨by (with_reducible repeat (first | apply Kd.N_alloc | apply Kd.N_drewN | apply Kd.N_drew)); exact HO_11.out⟩, ⟨by (with_reducible repeat (first | apply Kd.N_alloc | apply Kd.N_drewN | apply Kd.N_drew)); exact HO_13.out⟩, ⟨by (with_reducible repeat (first | apply Kd.R_alloc | apply Kd.R_drewN | apply Kd.R_drew)); exact HO_15.out⟩, ⟨by repeat (with_reducible first | exact HB.out | apply bal | apply pbN | apply bdw)⟩⟩
                 ·rw [if_neg c30] at H
                  exact absurd H (by simp)
                ·rw [if_neg c29] at H
                 exact absurd H (by simp)
               case rest =>
                clear HC28
                try clear c1
                try clear p1
                try clear q1
                try clear hx1
                try clear c2
                try clear p2
                try clear c3
                try clear c6
                try clear c6b0
                try clear p6
                try clear c9
                try clear c9b0
                try clear c10
                try clear c10b0
                try clear c10b1
                try clear c11
                try clear c13
                try clear c15
                try clear p18
                try clear q18
                try clear hx18
                try clear c21
                try clear c21b0
                try clear c22
                try clear c24
                try clear c24b0
                try clear c27
                try clear c27b0
                try clear c29
                try clear c29b0
                try clear c30
                try clear c30b0
                try clear c31
                try clear c31b0
                try clear c32
                try clear c32b0
                try clear hx181_0
                try clear hx181_1
                try clear hx181_2
                try clear hx181_3
                try clear hx182_0
                try clear hx182_1
                try clear hx182_2
                try clear hx182_3
                try clear p181
                try clear p182
                try clear p2
                try clear p6
                try clear q181
                try clear q182
                obtain ⟨kq, x87_27, rfl, HA, HJ27, HO_11, HO_13, HO_15, HB⟩ := hcut
                cases kq with
                | zero => exact absurd HA.out (by simp [spec_l16Costs.j6])
                | succ kj27 =>
                 have H := HA.out
                 clear HA
                 simp only [spec_l16Costs.j6] at H
                 by_cases c33 : x87_27 = true
                 ·as_aux_lemma =>
                  subst c33
                  have H1 : (if 0 < (x11_2.length : Int) then (if 0 ≤ (wrap64 (x14_3 - x18_5)) then (if (wrap64 (x14_3 - x18_5)) < ((rd_L6 x11_2 0).length : Int) then (if 0 ≤ x12_2 then (if x12_2 < (l0.length : Int) then (if 0 ≤ (wrap64 (x16_4 - (wrap64 (x18_5 * ((rd_T46 l0 x12_2).f1))))) then (if (wrap64 (x16_4 - (wrap64 (x18_5 * ((rd_T46 l0 x12_2).f1))))) < ((rd_L5 (rd_L6 x11_2 0) (wrap64 (x14_3 - x18_5))).length : Int) then (if (rd (rd_L5 (rd_L6 x11_2 0) (wrap64 (x14_3 - x18_5))) (wrap64 (x16_4 - (wrap64 (x18_5 * ((rd_T46 l0 x12_2).f1)))))) ≥ 0 then (if x17_5 < 0 then (spec_l16Costs.l5 kj27 l0 a1 a2 x11_2 x12_2 x13_3 x14_3 x15_4 x16_4 (wrap64 ((rd (rd_L5 (rd_L6 x11_2 0) (wrap64 (x14_3 - x18_5))) (wrap64 (x16_4 - (wrap64 (x18_5 * ((rd_T46 l0 x12_2).f1)))))) + (wrap64 (x18_5 * ((rd_T46 l0 x12_2).f2))))) (wrap64 (x18_5 + 1))) else (if (wrap64 ((rd (rd_L5 (rd_L6 x11_2 0) (wrap64 (x14_3 - x18_5))) (wrap64 (x16_4 - (wrap64 (x18_5 * ((rd_T46 l0 x12_2).f1)))))) + (wrap64 (x18_5 * ((rd_T46 l0 x12_2).f2))))) < x17_5 then (spec_l16Costs.l5 kj27 l0 a1 a2 x11_2 x12_2 x13_3 x14_3 x15_4 x16_4 (wrap64 ((rd (rd_L5 (rd_L6 x11_2 0) (wrap64 (x14_3 - x18_5))) (wrap64 (x16_4 - (wrap64 (x18_5 * ((rd_T46 l0 x12_2).f1)))))) + (wrap64 (x18_5 * ((rd_T46 l0 x12_2).f2))))) (wrap64 (x18_5 + 1))) else (spec_l16Costs.l5 kj27 l0 a1 a2 x11_2 x12_2 x13_3 x14_3 x15_4 x16_4 x17_5 (wrap64 (x18_5 + 1))))) else (spec_l16Costs.l5 kj27 l0 a1 a2 x11_2 x12_2 x13_3 x14_3 x15_4 x16_4 x17_5 (wrap64 (x18_5 + 1)))) else (none)) else (none)) else (none)) else (none)) else (none)) else (none)) else (none)) = some r := by rw [if_pos rfl] at H; exact H
                  clear H
                  have H := H1
                  clear H1
                  by_cases c34 : 0 < (x11_2.length : Int)
                  ·as_aux_lemma =>
                   rw [if_pos c34] at H
                   have c34b0 : decide (0 < (x11_2.length : Int)) = true := decide_eq_true c34
                   have c34b1 : decide (0 < x11_2.length) = true := decide_eq_true (by omega)
                   clear c34
                   obtain ⟨ji35, hji35⟩ : ∃ j_ : Int, (wrap64 (x14_3 - x18_5)) = j_ := ⟨_, rfl⟩
                   replace H : (if 0 ≤ (ji35) then (if (ji35) < ((rd_L6 x11_2 0).length : Int) then (if 0 ≤ x12_2 then (if x12_2 < (l0.length : Int) then (if 0 ≤ (wrap64 (x16_4 - (wrap64 (x18_5 * ((rd_T46 l0 x12_2).f1))))) then (if (wrap64 (x16_4 - (wrap64 (x18_5 * ((rd_T46 l0 x12_2).f1))))) < ((rd_L5 (rd_L6 x11_2 0) (ji35)).length : Int) then (if (rd (rd_L5 (rd_L6 x11_2 0) (ji35)) (wrap64 (x16_4 - (wrap64 (x18_5 * ((rd_T46 l0 x12_2).f1)))))) ≥ 0 then (if x17_5 < 0 then (spec_l16Costs.l5 kj27 l0 a1 a2 x11_2 x12_2 x13_3 x14_3 x15_4 x16_4 (wrap64 ((rd (rd_L5 (rd_L6 x11_2 0) (ji35)) (wrap64 (x16_4 - (wrap64 (x18_5 * ((rd_T46 l0 x12_2).f1)))))) + (wrap64 (x18_5 * ((rd_T46 l0 x12_2).f2))))) (wrap64 (x18_5 + 1))) else (if (wrap64 ((rd (rd_L5 (rd_L6 x11_2 0) (ji35)) (wrap64 (x16_4 - (wrap64 (x18_5 * ((rd_T46 l0 x12_2).f1)))))) + (wrap64 (x18_5 * ((rd_T46 l0 x12_2).f2))))) < x17_5 then (spec_l16Costs.l5 kj27 l0 a1 a2 x11_2 x12_2 x13_3 x14_3 x15_4 x16_4 (wrap64 ((rd (rd_L5 (rd_L6 x11_2 0) (ji35)) (wrap64 (x16_4 - (wrap64 (x18_5 * ((rd_T46 l0 x12_2).f1)))))) + (wrap64 (x18_5 * ((rd_T46 l0 x12_2).f2))))) (wrap64 (x18_5 + 1))) else (spec_l16Costs.l5 kj27 l0 a1 a2 x11_2 x12_2 x13_3 x14_3 x15_4 x16_4 x17_5 (wrap64 (x18_5 + 1))))) else (spec_l16Costs.l5 kj27 l0 a1 a2 x11_2 x12_2 x13_3 x14_3 x15_4 x16_4 x17_5 (wrap64 (x18_5 + 1)))) else (none)) else (none)) else (none)) else (none)) else (none)) else (none)) = some r := by first | (rw [hji35] at H; exact H) | (simp only [hji35] at H ⊢; exact H)
                   have hji35w : (IntKind.i64.wrap (x14_3 - x18_5)) = ji35 := (i64_w _).trans hji35
                   by_cases c36 : 0 ≤ (ji35)
                   ·as_aux_lemma =>
                    rw [if_pos c36] at H
                    have c36b0 : decide (0 ≤ (ji35)) = true := decide_eq_true c36
                    clear c36
                    by_cases c37 : (ji35) < ((rd_L6 x11_2 0).length : Int)
                    ·as_aux_lemma =>
                     rw [if_pos c37] at H
                     have c37b0 : decide ((ji35) < ((rd_L6 x11_2 0).length : Int)) = true := decide_eq_true c37
                     clear c37
                     by_cases c38 : 0 ≤ x12_2
                     ·as_aux_lemma =>
                      rw [if_pos c38] at H
                      have c38b0 : decide (0 ≤ x12_2) = true := decide_eq_true c38
                      clear c38
                      by_cases c39 : x12_2 < (l0.length : Int)
                      ·as_aux_lemma =>
                       rw [if_pos c39] at H
                       have c39b0 : decide (x12_2 < (l0.length : Int)) = true := decide_eq_true c39
                       clear c39
                       obtain ⟨ji40, hji40⟩ : ∃ j_ : Int, (wrap64 (x16_4 - (wrap64 (x18_5 * ((rd_T46 l0 x12_2).f1))))) = j_ := ⟨_, rfl⟩
                       replace H : (if 0 ≤ (ji40) then (if (ji40) < ((rd_L5 (rd_L6 x11_2 0) (ji35)).length : Int) then (if (rd (rd_L5 (rd_L6 x11_2 0) (ji35)) (ji40)) ≥ 0 then (if x17_5 < 0 then (spec_l16Costs.l5 kj27 l0 a1 a2 x11_2 x12_2 x13_3 x14_3 x15_4 x16_4 (wrap64 ((rd (rd_L5 (rd_L6 x11_2 0) (ji35)) (ji40)) + (wrap64 (x18_5 * ((rd_T46 l0 x12_2).f2))))) (wrap64 (x18_5 + 1))) else (if (wrap64 ((rd (rd_L5 (rd_L6 x11_2 0) (ji35)) (ji40)) + (wrap64 (x18_5 * ((rd_T46 l0 x12_2).f2))))) < x17_5 then (spec_l16Costs.l5 kj27 l0 a1 a2 x11_2 x12_2 x13_3 x14_3 x15_4 x16_4 (wrap64 ((rd (rd_L5 (rd_L6 x11_2 0) (ji35)) (ji40)) + (wrap64 (x18_5 * ((rd_T46 l0 x12_2).f2))))) (wrap64 (x18_5 + 1))) else (spec_l16Costs.l5 kj27 l0 a1 a2 x11_2 x12_2 x13_3 x14_3 x15_4 x16_4 x17_5 (wrap64 (x18_5 + 1))))) else (spec_l16Costs.l5 kj27 l0 a1 a2 x11_2 x12_2 x13_3 x14_3 x15_4 x16_4 x17_5 (wrap64 (x18_5 + 1)))) else (none)) else (none)) = some r := by first | (rw [hji40] at H; exact H) | (simp only [hji40] at H ⊢; exact H)
                       have hji40w : (IntKind.i64.wrap (x16_4 - (wrap64 (x18_5 * ((rd_T46 l0 x12_2).f1))))) = ji40 := (i64_w _).trans hji40
                       by_cases c41 : 0 ≤ (ji40)
                       ·as_aux_lemma =>
                        rw [if_pos c41] at H
                        have c41b0 : decide (0 ≤ (ji40)) = true := decide_eq_true c41
                        clear c41
                        by_cases c42 : (ji40) < ((rd_L5 (rd_L6 x11_2 0) (ji35)).length : Int)
                        ·as_aux_lemma =>
                         rw [if_pos c42] at H
                         have c42b0 : decide ((ji40) < ((rd_L5 (rd_L6 x11_2 0) (ji35)).length : Int)) = true := decide_eq_true c42
                         clear c42
                         by_cases c43 : (rd (rd_L5 (rd_L6 x11_2 0) (ji35)) (ji40)) ≥ 0
                         ·as_aux_lemma =>
                          rw [if_pos c43] at H
                          have c43b0 : decide (0 ≤ (rd (rd_L5 (rd_L6 x11_2 0) (ji35)) (ji40))) = true := decide_eq_true c43
                          clear c43
                          by_cases c44 : x17_5 < 0
                          ·as_aux_lemma =>
                           rw [if_pos c44] at H
                           have c44b0 : decide (x17_5 < 0) = true := decide_eq_true c44
                           clear c44
                           have H' := As0.mk H
                           clear H
                           obtain ⟨Ao45, co45, eo45⟩ := Kd.N_slice HO_11.out
                           subst eo45
                           have p183 : 0 ≤ (0 : Int) := (by omega)
                           have q183 : 0 < (x11_2.length : Int) := of_decide_eq_true (by assumption)
                           obtain ⟨ad183, A183_0, c183_0, e183, hx183_0, hl183_0, hi183_0⟩ := at_L6 (Kd.N_reads' HO_11.out).2.2 0 p183 q183
                           cases e183
                           obtain ⟨ce183, hce183, hMe183, hcc183⟩ := Kd.N_get HO_11.out [] 0 p183 (by first | exact q183 | exact of_decide_eq_true (by assumption) | (have e_ := (Kd.N_reads' HO_11.out).1; omega))
                           obtain ⟨ua183_0, uc183_0, rfl, ul183_0, ge183_0⟩ := Kd.FK_slice_open hMe183
                           have hv183_0 := hcc183 0 _ rfl
                           rw [Nat.add_zero, show ((Kd.slice 30 (Kd.slice 2 (Kd.int .i64)))).sz = 1 from rfl, Nat.mul_one] at hv183_0
                           replace hv183_0 := Option.some.inj (hv183_0.symm.trans hx183_0)
                           injection hv183_0 with hva_ hvn_ hvc_
                           rw [hva_] at ge183_0
                           rw [hvc_] at ul183_0
                           have HL183_0 := As0.mk (show Kd.V (Kd.slice 2 (Kd.int .i64)) 30 _ w.heap.size _ _ (rd_L6 x11_2 0) from Kd.V_mk ul183_0 ge183_0)
                           clear hva_ hvn_ hvc_ ge183_0 ul183_0
                           clear hcc183 hce183
                           have qi183 : (0 < x11_2.length) = True := eq_true (by omega)
                           (try rw [show ((0 : Int)).toNat = 0 from rfl] at hx183_0)
                           (try rw [Addr.add_zero'] at hx183_0)
                           have HR183_0 := As0.mk hi183_0
                           have HC183_0 := As0.mk hl183_0
                           clear hi183_0 hl183_0
                           replace p183 := eq_true p183
                           replace q183 := eq_true q183
                           have p184 : 0 ≤ ((ji35) : Int) := of_decide_eq_true (by assumption)
                           have q184 : (ji35) < ((rd_L6 x11_2 0).length : Int) := of_decide_eq_true (by assumption)
                           obtain ⟨ad184, A184_0, c184_0, e184, hx184_0, hl184_0, hi184_0⟩ := at_L5 (by repeat (first | (with_reducible exact HR183_0.out) | (with_reducible refine Kd.C_alloc ?_ _) | (with_reducible refine Kd.C_drewN ?_ _) | (with_reducible refine Kd.C_drew ?_) | exact HR183_0.out)) (ji35) p184 q184
                           cases e184
                           obtain ⟨ce184, hce184, hMe184, hcc184⟩ := Kd.V_get HL183_0.out [] (ji35) p184 (by first | exact q184 | exact of_decide_eq_true (by assumption) | (have e_ := (Kd.V_reads' HL183_0.out).1; omega))
                           obtain ⟨ua184_0, uc184_0, rfl, ul184_0, ge184_0⟩ := Kd.FK_slice_open hMe184
                           have hv184_0 := hcc184 0 _ rfl
                           rw [Nat.add_zero, show ((Kd.slice 2 (Kd.int .i64))).sz = 1 from rfl, Nat.mul_one] at hv184_0
                           replace hv184_0 := Option.some.inj (hv184_0.symm.trans hx184_0)
                           injection hv184_0 with hva_ hvn_ hvc_
                           rw [hva_] at ge184_0
                           rw [hvc_] at ul184_0
                           have HL184_0 := As0.mk (show Kd.V (Kd.int .i64) 2 _ w.heap.size _ _ (rd_L5 (rd_L6 x11_2 0) (ji35)) from Kd.V_mk ul184_0 ge184_0)
                           clear hva_ hvn_ hvc_ ge184_0 ul184_0
                           clear hcc184 hce184
                           have HR184_0 := As0.mk hi184_0
                           have HC184_0 := As0.mk hl184_0
                           clear hi184_0 hl184_0
                           replace p184 := eq_true p184
                           replace q184 := eq_true q184
                           have p185 : 0 ≤ (x12_2 : Int) := of_decide_eq_true (by assumption)
                           have q185 : x12_2 < (l0.length : Int) := of_decide_eq_true (by assumption)
                           obtain ⟨ad185, e185, hx185_0, hx185_1, hx185_2, hx185_3⟩ := at_T46 HR0.out x12_2 p185 q185
                           cases e185
                           replace hx185_0 := (HB.out.cell (blt w _ hx185_0)).trans hx185_0
                           replace hx185_1 := (HB.out.cell (blt w _ hx185_1)).trans hx185_1
                           replace hx185_2 := (HB.out.cell (blt w _ hx185_2)).trans hx185_2
                           replace hx185_3 := (HB.out.cell (blt w _ hx185_3)).trans hx185_3
                           replace p185 := eq_true p185
                           replace q185 := eq_true q185
                           have p186 : 0 ≤ ((ji40) : Int) := of_decide_eq_true (by assumption)
                           have q186 : (ji40) < ((rd_L5 (rd_L6 x11_2 0) (ji35)).length : Int) := of_decide_eq_true (by assumption)
                           obtain ⟨ad186, e186, hx186_0⟩ := Kd.at_int (by repeat (first | (with_reducible exact HR184_0.out) | (with_reducible refine Kd.C_alloc ?_ _) | (with_reducible refine Kd.C_drewN ?_ _) | (with_reducible refine Kd.C_drew ?_) | exact HR184_0.out)) (ji40) p186 q186
                           cases e186
                           replace p186 := eq_true p186
                           replace q186 := eq_true q186
                           have p187 : 0 ≤ (x12_2 : Int) := of_decide_eq_true (by assumption)
                           have q187 : x12_2 < (l0.length : Int) := of_decide_eq_true (by assumption)
                           obtain ⟨ad187, e187, hx187_0, hx187_1, hx187_2, hx187_3⟩ := at_T46 HR0.out x12_2 p187 q187
                           obtain rfl : ad185 = ad187 := (by injection e187)
                           replace hx187_0 := (HB.out.cell (blt w _ hx187_0)).trans hx187_0
                           replace hx187_1 := (HB.out.cell (blt w _ hx187_1)).trans hx187_1
                           replace hx187_2 := (HB.out.cell (blt w _ hx187_2)).trans hx187_2
                           replace hx187_3 := (HB.out.cell (blt w _ hx187_3)).trans hx187_3
                           replace p187 := eq_true p187
                           replace q187 := eq_true q187
                           go_wp2
                           repeat (go_quiet (fail); try go_wp2)
                           go_roundg kj27
                           case measure => have := HK1.out; have := HK2.out; have := HK3.out; have := HK4.out; have := HK5.out; have := HJ27.out; omega
                           case rel => exact ⟨(wrap64 ((rd (rd_L5 (rd_L6 x11_2 0) (ji35)) (ji40)) + (wrap64 (x18_5 * ((rd_T46 l0 x12_2).f2))))), (wrap64 (x18_5 + 1)), (by first | rfl | (simp; done) | (simp only [← hji35, ← hji40] <;> (first | rfl | simp)) | (simp [*]; done)), (by first | rfl | (simp; done) | (simp [*]; done)), H', ⟨by have := HK1.out; have := HK2.out; have := HK3.out; have := HK4.out; have := HK5.out; have := HJ27.out; omega⟩, ⟨by (with_reducible repeat (first | apply Kd.N_alloc | apply Kd.N_drewN | apply Kd.N_drew)); exact HO_11.out⟩, ⟨by (with_reducible repeat (first | apply Kd.N_alloc | apply Kd.N_drewN | apply Kd.N_drew)); exact HO_13.out⟩, ⟨by (with_reducible repeat (first | apply Kd.R_alloc | apply Kd.R_drewN | apply Kd.R_drew)); exact HO_15.out⟩, ⟨by repeat (with_reducible first | exact HB.out | apply bal | apply pbN | apply bdw)⟩⟩
                          ·as_aux_lemma =>
                           rw [if_neg c44] at H
                           have c44b0 : decide (x17_5 < 0) = false := decide_eq_false c44
                           clear c44
                           by_cases c46 : (wrap64 ((rd (rd_L5 (rd_L6 x11_2 0) (ji35)) (ji40)) + (wrap64 (x18_5 * ((rd_T46 l0 x12_2).f2))))) < x17_5
                           ·as_aux_lemma =>
                            rw [if_pos c46] at H
                            have c46b0 : decide ((wrap64 ((rd (rd_L5 (rd_L6 x11_2 0) (ji35)) (ji40)) + (wrap64 (x18_5 * ((rd_T46 l0 x12_2).f2))))) < x17_5) = true := decide_eq_true c46
                            clear c46
                            have H' := As0.mk H
                            clear H
                            obtain ⟨Ao47, co47, eo47⟩ := Kd.N_slice HO_11.out
                            subst eo47
                            have p183 : 0 ≤ (0 : Int) := (by omega)
                            have q183 : 0 < (x11_2.length : Int) := of_decide_eq_true (by assumption)
                            obtain ⟨ad183, A183_0, c183_0, e183, hx183_0, hl183_0, hi183_0⟩ := at_L6 (Kd.N_reads' HO_11.out).2.2 0 p183 q183
                            cases e183
                            obtain ⟨ce183, hce183, hMe183, hcc183⟩ := Kd.N_get HO_11.out [] 0 p183 (by first | exact q183 | exact of_decide_eq_true (by assumption) | (have e_ := (Kd.N_reads' HO_11.out).1; omega))
                            obtain ⟨ua183_0, uc183_0, rfl, ul183_0, ge183_0⟩ := Kd.FK_slice_open hMe183
                            have hv183_0 := hcc183 0 _ rfl
                            rw [Nat.add_zero, show ((Kd.slice 30 (Kd.slice 2 (Kd.int .i64)))).sz = 1 from rfl, Nat.mul_one] at hv183_0
                            replace hv183_0 := Option.some.inj (hv183_0.symm.trans hx183_0)
                            injection hv183_0 with hva_ hvn_ hvc_
                            rw [hva_] at ge183_0
                            rw [hvc_] at ul183_0
                            have HL183_0 := As0.mk (show Kd.V (Kd.slice 2 (Kd.int .i64)) 30 _ w.heap.size _ _ (rd_L6 x11_2 0) from Kd.V_mk ul183_0 ge183_0)
                            clear hva_ hvn_ hvc_ ge183_0 ul183_0
                            clear hcc183 hce183
                            have qi183 : (0 < x11_2.length) = True := eq_true (by omega)
                            (try rw [show ((0 : Int)).toNat = 0 from rfl] at hx183_0)
                            (try rw [Addr.add_zero'] at hx183_0)
                            have HR183_0 := As0.mk hi183_0
                            have HC183_0 := As0.mk hl183_0
                            clear hi183_0 hl183_0
                            replace p183 := eq_true p183
                            replace q183 := eq_true q183
                            have p184 : 0 ≤ ((ji35) : Int) := of_decide_eq_true (by assumption)
                            have q184 : (ji35) < ((rd_L6 x11_2 0).length : Int) := of_decide_eq_true (by assumption)
                            obtain ⟨ad184, A184_0, c184_0, e184, hx184_0, hl184_0, hi184_0⟩ := at_L5 (by repeat (first | (with_reducible exact HR183_0.out) | (with_reducible refine Kd.C_alloc ?_ _) | (with_reducible refine Kd.C_drewN ?_ _) | (with_reducible refine Kd.C_drew ?_) | exact HR183_0.out)) (ji35) p184 q184
                            cases e184
                            obtain ⟨ce184, hce184, hMe184, hcc184⟩ := Kd.V_get HL183_0.out [] (ji35) p184 (by first | exact q184 | exact of_decide_eq_true (by assumption) | (have e_ := (Kd.V_reads' HL183_0.out).1; omega))
                            obtain ⟨ua184_0, uc184_0, rfl, ul184_0, ge184_0⟩ := Kd.FK_slice_open hMe184
                            have hv184_0 := hcc184 0 _ rfl
                            rw [Nat.add_zero, show ((Kd.slice 2 (Kd.int .i64))).sz = 1 from rfl, Nat.mul_one] at hv184_0
                            replace hv184_0 := Option.some.inj (hv184_0.symm.trans hx184_0)
                            injection hv184_0 with hva_ hvn_ hvc_
                            rw [hva_] at ge184_0
                            rw [hvc_] at ul184_0
                            have HL184_0 := As0.mk (show Kd.V (Kd.int .i64) 2 _ w.heap.size _ _ (rd_L5 (rd_L6 x11_2 0) (ji35)) from Kd.V_mk ul184_0 ge184_0)
                            clear hva_ hvn_ hvc_ ge184_0 ul184_0
                            clear hcc184 hce184
                            have HR184_0 := As0.mk hi184_0
                            have HC184_0 := As0.mk hl184_0
                            clear hi184_0 hl184_0
                            replace p184 := eq_true p184
                            replace q184 := eq_true q184
                            have p185 : 0 ≤ (x12_2 : Int) := of_decide_eq_true (by assumption)
                            have q185 : x12_2 < (l0.length : Int) := of_decide_eq_true (by assumption)
                            obtain ⟨ad185, e185, hx185_0, hx185_1, hx185_2, hx185_3⟩ := at_T46 HR0.out x12_2 p185 q185
                            cases e185
                            replace hx185_0 := (HB.out.cell (blt w _ hx185_0)).trans hx185_0
                            replace hx185_1 := (HB.out.cell (blt w _ hx185_1)).trans hx185_1
                            replace hx185_2 := (HB.out.cell (blt w _ hx185_2)).trans hx185_2
                            replace hx185_3 := (HB.out.cell (blt w _ hx185_3)).trans hx185_3
                            replace p185 := eq_true p185
                            replace q185 := eq_true q185
                            have p186 : 0 ≤ ((ji40) : Int) := of_decide_eq_true (by assumption)
                            have q186 : (ji40) < ((rd_L5 (rd_L6 x11_2 0) (ji35)).length : Int) := of_decide_eq_true (by assumption)
                            obtain ⟨ad186, e186, hx186_0⟩ := Kd.at_int (by repeat (first | (with_reducible exact HR184_0.out) | (with_reducible refine Kd.C_alloc ?_ _) | (with_reducible refine Kd.C_drewN ?_ _) | (with_reducible refine Kd.C_drew ?_) | exact HR184_0.out)) (ji40) p186 q186
                            cases e186
                            replace p186 := eq_true p186
                            replace q186 := eq_true q186
                            have p188 : 0 ≤ (x12_2 : Int) := of_decide_eq_true (by assumption)
                            have q188 : x12_2 < (l0.length : Int) := of_decide_eq_true (by assumption)
                            obtain ⟨ad188, e188, hx188_0, hx188_1, hx188_2, hx188_3⟩ := at_T46 HR0.out x12_2 p188 q188
                            obtain rfl : ad185 = ad188 := (by injection e188)
                            replace hx188_0 := (HB.out.cell (blt w _ hx188_0)).trans hx188_0
                            replace hx188_1 := (HB.out.cell (blt w _ hx188_1)).trans hx188_1
                            replace hx188_2 := (HB.out.cell (blt w _ hx188_2)).trans hx188_2
                            replace hx188_3 := (HB.out.cell (blt w _ hx188_3)).trans hx188_3
                            replace p188 := eq_true p188
                            replace q188 := eq_true q188
                            have p189 : 0 ≤ (x12_2 : Int) := of_decide_eq_true (by assumption)
                            have q189 : x12_2 < (l0.length : Int) := of_decide_eq_true (by assumption)
                            obtain ⟨ad189, e189, hx189_0, hx189_1, hx189_2, hx189_3⟩ := at_T46 HR0.out x12_2 p189 q189
                            obtain rfl : ad185 = ad189 := (by injection e189)
                            replace hx189_0 := (HB.out.cell (blt w _ hx189_0)).trans hx189_0
                            replace hx189_1 := (HB.out.cell (blt w _ hx189_1)).trans hx189_1
                            replace hx189_2 := (HB.out.cell (blt w _ hx189_2)).trans hx189_2
                            replace hx189_3 := (HB.out.cell (blt w _ hx189_3)).trans hx189_3
                            replace p189 := eq_true p189
                            replace q189 := eq_true q189
                            go_wp2
                            repeat (go_quiet (fail); try go_wp2)
                            go_roundg kj27
                            case measure => have := HK1.out; have := HK2.out; have := HK3.out; have := HK4.out; have := HK5.out; have := HJ27.out; omega
                            case rel => exact ⟨(wrap64 ((rd (rd_L5 (rd_L6 x11_2 0) (ji35)) (ji40)) + (wrap64 (x18_5 * ((rd_T46 l0 x12_2).f2))))), (wrap64 (x18_5 + 1)), (by first | rfl | (simp; done) | (simp only [← hji35, ← hji40] <;> (first | rfl | simp)) | (simp [*]; done)), (by first | rfl | (simp; done) | (simp [*]; done)), H', ⟨by have := HK1.out; have := HK2.out; have := HK3.out; have := HK4.out; have := HK5.out; have := HJ27.out; omega⟩, ⟨by (with_reducible repeat (first | apply Kd.N_alloc | apply Kd.N_drewN | apply Kd.N_drew)); exact HO_11.out⟩, ⟨by (with_reducible repeat (first | apply Kd.N_alloc | apply Kd.N_drewN | apply Kd.N_drew)); exact HO_13.out⟩, ⟨by (with_reducible repeat (first | apply Kd.R_alloc | apply Kd.R_drewN | apply Kd.R_drew)); exact HO_15.out⟩, ⟨by repeat (with_reducible first | exact HB.out | apply bal | apply pbN | apply bdw)⟩⟩
                           ·as_aux_lemma =>
                            rw [if_neg c46] at H
                            have c46b0 : decide ((wrap64 ((rd (rd_L5 (rd_L6 x11_2 0) (ji35)) (ji40)) + (wrap64 (x18_5 * ((rd_T46 l0 x12_2).f2))))) < x17_5) = false := decide_eq_false c46
                            clear c46
                            have H' := As0.mk H
                            clear H
                            obtain ⟨Ao48, co48, eo48⟩ := Kd.N_slice HO_11.out
                            subst eo48
                            have p183 : 0 ≤ (0 : Int) := (by omega)
                            have q183 : 0 < (x11_2.length : Int) := of_decide_eq_true (by assumption)
                            obtain ⟨ad183, A183_0, c183_0, e183, hx183_0, hl183_0, hi183_0⟩ := at_L6 (Kd.N_reads' HO_11.out).2.2 0 p183 q183
                            cases e183
                            obtain ⟨ce183, hce183, hMe183, hcc183⟩ := Kd.N_get HO_11.out [] 0 p183 (by first | exact q183 | exact of_decide_eq_true (by assumption) | (have e_ := (Kd.N_reads' HO_11.out).1; omega))
                            obtain ⟨ua183_0, uc183_0, rfl, ul183_0, ge183_0⟩ := Kd.FK_slice_open hMe183
                            have hv183_0 := hcc183 0 _ rfl
                            rw [Nat.add_zero, show ((Kd.slice 30 (Kd.slice 2 (Kd.int .i64)))).sz = 1 from rfl, Nat.mul_one] at hv183_0
                            replace hv183_0 := Option.some.inj (hv183_0.symm.trans hx183_0)
                            injection hv183_0 with hva_ hvn_ hvc_
                            rw [hva_] at ge183_0
                            rw [hvc_] at ul183_0
                            have HL183_0 := As0.mk (show Kd.V (Kd.slice 2 (Kd.int .i64)) 30 _ w.heap.size _ _ (rd_L6 x11_2 0) from Kd.V_mk ul183_0 ge183_0)
                            clear hva_ hvn_ hvc_ ge183_0 ul183_0
                            clear hcc183 hce183
                            have qi183 : (0 < x11_2.length) = True := eq_true (by omega)
                            (try rw [show ((0 : Int)).toNat = 0 from rfl] at hx183_0)
                            (try rw [Addr.add_zero'] at hx183_0)
                            have HR183_0 := As0.mk hi183_0
                            have HC183_0 := As0.mk hl183_0
                            clear hi183_0 hl183_0
                            replace p183 := eq_true p183
                            replace q183 := eq_true q183
                            have p184 : 0 ≤ ((ji35) : Int) := of_decide_eq_true (by assumption)
                            have q184 : (ji35) < ((rd_L6 x11_2 0).length : Int) := of_decide_eq_true (by assumption)
                            obtain ⟨ad184, A184_0, c184_0, e184, hx184_0, hl184_0, hi184_0⟩ := at_L5 (by repeat (first | (with_reducible exact HR183_0.out) | (with_reducible refine Kd.C_alloc ?_ _) | (with_reducible refine Kd.C_drewN ?_ _) | (with_reducible refine Kd.C_drew ?_) | exact HR183_0.out)) (ji35) p184 q184
                            cases e184
                            obtain ⟨ce184, hce184, hMe184, hcc184⟩ := Kd.V_get HL183_0.out [] (ji35) p184 (by first | exact q184 | exact of_decide_eq_true (by assumption) | (have e_ := (Kd.V_reads' HL183_0.out).1; omega))
                            obtain ⟨ua184_0, uc184_0, rfl, ul184_0, ge184_0⟩ := Kd.FK_slice_open hMe184
                            have hv184_0 := hcc184 0 _ rfl
                            rw [Nat.add_zero, show ((Kd.slice 2 (Kd.int .i64))).sz = 1 from rfl, Nat.mul_one] at hv184_0
                            replace hv184_0 := Option.some.inj (hv184_0.symm.trans hx184_0)
                            injection hv184_0 with hva_ hvn_ hvc_
                            rw [hva_] at ge184_0
                            rw [hvc_] at ul184_0
                            have HL184_0 := As0.mk (show Kd.V (Kd.int .i64) 2 _ w.heap.size _ _ (rd_L5 (rd_L6 x11_2 0) (ji35)) from Kd.V_mk ul184_0 ge184_0)
                            clear hva_ hvn_ hvc_ ge184_0 ul184_0
                            clear hcc184 hce184
                            have HR184_0 := As0.mk hi184_0
                            have HC184_0 := As0.mk hl184_0
                            clear hi184_0 hl184_0
                            replace p184 := eq_true p184
                            replace q184 := eq_true q184
                            have p185 : 0 ≤ (x12_2 : Int) := of_decide_eq_true (by assumption)
                            have q185 : x12_2 < (l0.length : Int) := of_decide_eq_true (by assumption)
                            obtain ⟨ad185, e185, hx185_0, hx185_1, hx185_2, hx185_3⟩ := at_T46 HR0.out x12_2 p185 q185
                            cases e185
                            replace hx185_0 := (HB.out.cell (blt w _ hx185_0)).trans hx185_0
                            replace hx185_1 := (HB.out.cell (blt w _ hx185_1)).trans hx185_1
                            replace hx185_2 := (HB.out.cell (blt w _ hx185_2)).trans hx185_2
                            replace hx185_3 := (HB.out.cell (blt w _ hx185_3)).trans hx185_3
                            replace p185 := eq_true p185
                            replace q185 := eq_true q185
                            have p186 : 0 ≤ ((ji40) : Int) := of_decide_eq_true (by assumption)
                            have q186 : (ji40) < ((rd_L5 (rd_L6 x11_2 0) (ji35)).length : Int) := of_decide_eq_true (by assumption)
                            obtain ⟨ad186, e186, hx186_0⟩ := Kd.at_int (by repeat (first | (with_reducible exact HR184_0.out) | (with_reducible refine Kd.C_alloc ?_ _) | (with_reducible refine Kd.C_drewN ?_ _) | (with_reducible refine Kd.C_drew ?_) | exact HR184_0.out)) (ji40) p186 q186
                            cases e186
                            replace p186 := eq_true p186
                            replace q186 := eq_true q186
                            have p188 : 0 ≤ (x12_2 : Int) := of_decide_eq_true (by assumption)
                            have q188 : x12_2 < (l0.length : Int) := of_decide_eq_true (by assumption)
                            obtain ⟨ad188, e188, hx188_0, hx188_1, hx188_2, hx188_3⟩ := at_T46 HR0.out x12_2 p188 q188
                            obtain rfl : ad185 = ad188 := (by injection e188)
                            replace hx188_0 := (HB.out.cell (blt w _ hx188_0)).trans hx188_0
                            replace hx188_1 := (HB.out.cell (blt w _ hx188_1)).trans hx188_1
                            replace hx188_2 := (HB.out.cell (blt w _ hx188_2)).trans hx188_2
                            replace hx188_3 := (HB.out.cell (blt w _ hx188_3)).trans hx188_3
                            replace p188 := eq_true p188
                            replace q188 := eq_true q188
                            go_wp2
                            repeat (go_quiet (fail); try go_wp2)
                            go_roundg kj27
                            case measure => have := HK1.out; have := HK2.out; have := HK3.out; have := HK4.out; have := HK5.out; have := HJ27.out; omega
                            case rel => exact ⟨(x17_5), (wrap64 (x18_5 + 1)), (by first | rfl | (simp; done) | (simp [*]; done)), (by first | rfl | (simp; done) | (simp [*]; done)), H', ⟨by have := HK1.out; have := HK2.out; have := HK3.out; have := HK4.out; have := HK5.out; have := HJ27.out; omega⟩, ⟨by (with_reducible repeat (first | apply Kd.N_alloc | apply Kd.N_drewN | apply Kd.N_drew)); exact HO_11.out⟩, ⟨by (with_reducible repeat (first | apply Kd.N_alloc | apply Kd.N_drewN | apply Kd.N_drew)); exact HO_13.out⟩, ⟨by (with_reducible repeat (first | apply Kd.R_alloc | apply Kd.R_drewN | apply Kd.R_drew)); exact HO_15.out⟩, ⟨by repeat (with_reducible first | exact HB.out | apply bal | apply pbN | apply bdw)⟩⟩
                         ·as_aux_lemma =>
                          rw [if_neg c43] at H
                          have c43b0 : decide (0 ≤ (rd (rd_L5 (rd_L6 x11_2 0) (ji35)) (ji40))) = false := decide_eq_false c43
                          clear c43
                          have H' := As0.mk H
                          clear H
                          obtain ⟨Ao49, co49, eo49⟩ := Kd.N_slice HO_11.out
                          subst eo49
                          have p183 : 0 ≤ (0 : Int) := (by omega)
                          have q183 : 0 < (x11_2.length : Int) := of_decide_eq_true (by assumption)
                          obtain ⟨ad183, A183_0, c183_0, e183, hx183_0, hl183_0, hi183_0⟩ := at_L6 (Kd.N_reads' HO_11.out).2.2 0 p183 q183
                          cases e183
                          obtain ⟨ce183, hce183, hMe183, hcc183⟩ := Kd.N_get HO_11.out [] 0 p183 (by first | exact q183 | exact of_decide_eq_true (by assumption) | (have e_ := (Kd.N_reads' HO_11.out).1; omega))
                          obtain ⟨ua183_0, uc183_0, rfl, ul183_0, ge183_0⟩ := Kd.FK_slice_open hMe183
                          have hv183_0 := hcc183 0 _ rfl
                          rw [Nat.add_zero, show ((Kd.slice 30 (Kd.slice 2 (Kd.int .i64)))).sz = 1 from rfl, Nat.mul_one] at hv183_0
                          replace hv183_0 := Option.some.inj (hv183_0.symm.trans hx183_0)
                          injection hv183_0 with hva_ hvn_ hvc_
                          rw [hva_] at ge183_0
                          rw [hvc_] at ul183_0
                          have HL183_0 := As0.mk (show Kd.V (Kd.slice 2 (Kd.int .i64)) 30 _ w.heap.size _ _ (rd_L6 x11_2 0) from Kd.V_mk ul183_0 ge183_0)
                          clear hva_ hvn_ hvc_ ge183_0 ul183_0
                          clear hcc183 hce183
                          have qi183 : (0 < x11_2.length) = True := eq_true (by omega)
                          (try rw [show ((0 : Int)).toNat = 0 from rfl] at hx183_0)
                          (try rw [Addr.add_zero'] at hx183_0)
                          have HR183_0 := As0.mk hi183_0
                          have HC183_0 := As0.mk hl183_0
                          clear hi183_0 hl183_0
                          replace p183 := eq_true p183
                          replace q183 := eq_true q183
                          have p184 : 0 ≤ ((ji35) : Int) := of_decide_eq_true (by assumption)
                          have q184 : (ji35) < ((rd_L6 x11_2 0).length : Int) := of_decide_eq_true (by assumption)
                          obtain ⟨ad184, A184_0, c184_0, e184, hx184_0, hl184_0, hi184_0⟩ := at_L5 (by repeat (first | (with_reducible exact HR183_0.out) | (with_reducible refine Kd.C_alloc ?_ _) | (with_reducible refine Kd.C_drewN ?_ _) | (with_reducible refine Kd.C_drew ?_) | exact HR183_0.out)) (ji35) p184 q184
                          cases e184
                          obtain ⟨ce184, hce184, hMe184, hcc184⟩ := Kd.V_get HL183_0.out [] (ji35) p184 (by first | exact q184 | exact of_decide_eq_true (by assumption) | (have e_ := (Kd.V_reads' HL183_0.out).1; omega))
                          obtain ⟨ua184_0, uc184_0, rfl, ul184_0, ge184_0⟩ := Kd.FK_slice_open hMe184
                          have hv184_0 := hcc184 0 _ rfl
                          rw [Nat.add_zero, show ((Kd.slice 2 (Kd.int .i64))).sz = 1 from rfl, Nat.mul_one] at hv184_0
                          replace hv184_0 := Option.some.inj (hv184_0.symm.trans hx184_0)
                          injection hv184_0 with hva_ hvn_ hvc_
                          rw [hva_] at ge184_0
                          rw [hvc_] at ul184_0
                          have HL184_0 := As0.mk (show Kd.V (Kd.int .i64) 2 _ w.heap.size _ _ (rd_L5 (rd_L6 x11_2 0) (ji35)) from Kd.V_mk ul184_0 ge184_0)
                          clear hva_ hvn_ hvc_ ge184_0 ul184_0
                          clear hcc184 hce184
                          have HR184_0 := As0.mk hi184_0
                          have HC184_0 := As0.mk hl184_0
                          clear hi184_0 hl184_0
                          replace p184 := eq_true p184
                          replace q184 := eq_true q184
                          have p185 : 0 ≤ (x12_2 : Int) := of_decide_eq_true (by assumption)
                          have q185 : x12_2 < (l0.length : Int) := of_decide_eq_true (by assumption)
                          obtain ⟨ad185, e185, hx185_0, hx185_1, hx185_2, hx185_3⟩ := at_T46 HR0.out x12_2 p185 q185
                          cases e185
                          replace hx185_0 := (HB.out.cell (blt w _ hx185_0)).trans hx185_0
                          replace hx185_1 := (HB.out.cell (blt w _ hx185_1)).trans hx185_1
                          replace hx185_2 := (HB.out.cell (blt w _ hx185_2)).trans hx185_2
                          replace hx185_3 := (HB.out.cell (blt w _ hx185_3)).trans hx185_3
                          replace p185 := eq_true p185
                          replace q185 := eq_true q185
                          have p186 : 0 ≤ ((ji40) : Int) := of_decide_eq_true (by assumption)
                          have q186 : (ji40) < ((rd_L5 (rd_L6 x11_2 0) (ji35)).length : Int) := of_decide_eq_true (by assumption)
                          obtain ⟨ad186, e186, hx186_0⟩ := Kd.at_int (by repeat (first | (with_reducible exact HR184_0.out) | (with_reducible refine Kd.C_alloc ?_ _) | (with_reducible refine Kd.C_drewN ?_ _) | (with_reducible refine Kd.C_drew ?_) | exact HR184_0.out)) (ji40) p186 q186
                          cases e186
                          replace p186 := eq_true p186
                          replace q186 := eq_true q186
                          go_wp2
                          repeat (go_quiet (fail); try go_wp2)
                          go_roundg kj27
                          case measure => have := HK1.out; have := HK2.out; have := HK3.out; have := HK4.out; have := HK5.out; have := HJ27.out; omega
                          case rel => exact ⟨(x17_5), (wrap64 (x18_5 + 1)), (by first | rfl | (simp; done) | (simp [*]; done)), (by first | rfl | (simp; done) | (simp [*]; done)), H', ⟨by have := HK1.out; have := HK2.out; have := HK3.out; have := HK4.out; have := HK5.out; have := HJ27.out; omega⟩, ⟨by (with_reducible repeat (first | apply Kd.N_alloc | apply Kd.N_drewN | apply Kd.N_drew)); exact HO_11.out⟩, ⟨by (with_reducible repeat (first | apply Kd.N_alloc | apply Kd.N_drewN | apply Kd.N_drew)); exact HO_13.out⟩, ⟨by (with_reducible repeat (first | apply Kd.R_alloc | apply Kd.R_drewN | apply Kd.R_drew)); exact HO_15.out⟩, ⟨by repeat (with_reducible first | exact HB.out | apply bal | apply pbN | apply bdw)⟩⟩
                        ·rw [if_neg c42] at H
                         exact absurd H (by simp)
                       ·rw [if_neg c41] at H
                        exact absurd H (by simp)
                      ·rw [if_neg c39] at H
                       exact absurd H (by simp)
                     ·rw [if_neg c38] at H
                      exact absurd H (by simp)
                    ·rw [if_neg c37] at H
                     exact absurd H (by simp)
                   ·rw [if_neg c36] at H
                    exact absurd H (by simp)
                  ·rw [if_neg c34] at H
                   exact absurd H (by simp)
                 ·replace c33 := Bool.eq_false_iff.mpr c33
                  subst c33
                  have H1 : (if x15_4.length < 17592186044416 then (spec_l16Costs.l4 kj27 l0 a1 a2 x11_2 x12_2 x13_3 x14_3 (x15_4 ++ [x17_5]) (wrap64 (x16_4 + 1))) else (none)) = some r := by rw [if_neg (show ¬ (false = true) by decide)] at H; exact H
                  clear H
                  have H := H1
                  clear H1
                  by_cases c50 : x15_4.length < 17592186044416
                  ·rw [if_pos c50] at H
                   have LMc50 := As0.mk c50
                   clear c50
                   obtain ⟨y190, hy190⟩ : ∃ y_ : List Int, y_ = (x15_4 ++ [x17_5]) := ⟨_, rfl⟩
                   replace H : (spec_l16Costs.l4 kj27 l0 a1 a2 x11_2 x12_2 x13_3 x14_3 y190 (wrap64 (x16_4 + 1))) = some r := by first | (rw [hy190]; with_reducible exact H) | (have H2_ := (Option.bind_some _ _).symm.trans H; rw [hy190]; with_reducible exact H2_) | (have H2_ := (Option.bind_some _ _).symm.trans H; with_reducible exact H2_) | with_reducible exact H | (rw [hy190]; exact H) | exact H
                   have Ny190 := As0.mk hy190
                   clear hy190
                   have H' := As0.mk H
                   clear H
                   go_wp2_with (first | ((with_reducible refine gbu (b := .append) (xs := #[.tmp 137, .tmp 139]) rfl ?_); at_builtin; refine Kd.R_append (Kd.int .i64) (w0 := w) w.heap.size rfl (.tmp 137) (.tmp 139) 30 2 (.int .i64 0) 8 rfl Try.underlying30 info2 rfl (by decide) (by omega) u15 x15_4 x17_5 [.int .i64 x17_5] (fun k_ => (w.heap.size ≤ k_)) (fun _ => False) rfl rfl ?aP (fun _ hk => hk.elim) ?aF ?aO ?aB ?aS ?aL ?_; (case aP => exact rfl); (case aB => exact (by repeat (with_reducible first | exact HB.out | apply bal | apply pbN | apply bdw))); (case aF => exact (fun k_ hk => (Nat.le_trans (bsz (by repeat (with_reducible first | exact HB.out | apply bal | apply pbN | apply bdw))) hk))); (case aO => exact (by (with_reducible repeat (first | apply Kd.R_alloc | apply Kd.R_drewN | apply Kd.R_drew)); exact HO_15.out)); (case aS => exact (bsz (by repeat (with_reducible first | exact HB.out | apply bal | apply pbN | apply bdw)))); (case aL => have := LMc50.out; omega); intro v191 w51 ho hb hg hat; rw [← Ny190.out] at ho; have n0_ := As0.mk (Kd.N_afterv (ok := (fun k_ => (w.heap.size ≤ k_) ∧ some k_ ≠ (u13 : Value).ownBlock)) (by (with_reducible repeat (first | apply Kd.N_alloc | apply Kd.N_drewN | apply Kd.N_drew)); exact Kd.N_mono HO_11.out (fun _ hk => ⟨⟨hk.1, hk.2.1⟩, hk.2.2⟩)) hg hat); have n1_ := As0.mk (Kd.N_afterv (ok := (fun k_ => (w.heap.size ≤ k_) ∧ some k_ ≠ (u11 : Value).ownBlock)) (by (with_reducible repeat (first | apply Kd.N_alloc | apply Kd.N_drewN | apply Kd.N_drew)); exact Kd.N_mono HO_13.out (fun _ hk => ⟨⟨hk.1, hk.2.1⟩, hk.2.2⟩)) hg hat); have n2_ := As0.mk (hb); have n3_ := As0.mk (ho); clear HO_11; clear HO_13; clear HB; clear HO_15; have HO_11 := n0_; have HO_13 := n1_; have HB := n2_; have HO192 := n3_; clear n0_ n1_ n2_ n3_; clear ho hb hg hat))
                   repeat (go_quiet (first | ((with_reducible refine gbu (b := .append) (xs := #[.tmp 137, .tmp 139]) rfl ?_); at_builtin; refine Kd.R_append (Kd.int .i64) (w0 := w) w.heap.size rfl (.tmp 137) (.tmp 139) 30 2 (.int .i64 0) 8 rfl Try.underlying30 info2 rfl (by decide) (by omega) u15 x15_4 x17_5 [.int .i64 x17_5] (fun k_ => (w.heap.size ≤ k_)) (fun _ => False) rfl rfl ?aP (fun _ hk => hk.elim) ?aF ?aO ?aB ?aS ?aL ?_; (case aP => exact rfl); (case aB => exact (by repeat (with_reducible first | exact HB.out | apply bal | apply pbN | apply bdw))); (case aF => exact (fun k_ hk => (Nat.le_trans (bsz (by repeat (with_reducible first | exact HB.out | apply bal | apply pbN | apply bdw))) hk))); (case aO => exact (by (with_reducible repeat (first | apply Kd.R_alloc | apply Kd.R_drewN | apply Kd.R_drew)); exact HO_15.out)); (case aS => exact (bsz (by repeat (with_reducible first | exact HB.out | apply bal | apply pbN | apply bdw)))); (case aL => have := LMc50.out; omega); intro v191 w51 ho hb hg hat; rw [← Ny190.out] at ho; have n0_ := As0.mk (Kd.N_afterv (ok := (fun k_ => (w.heap.size ≤ k_) ∧ some k_ ≠ (u13 : Value).ownBlock)) (by (with_reducible repeat (first | apply Kd.N_alloc | apply Kd.N_drewN | apply Kd.N_drew)); exact Kd.N_mono HO_11.out (fun _ hk => ⟨⟨hk.1, hk.2.1⟩, hk.2.2⟩)) hg hat); have n1_ := As0.mk (Kd.N_afterv (ok := (fun k_ => (w.heap.size ≤ k_) ∧ some k_ ≠ (u11 : Value).ownBlock)) (by (with_reducible repeat (first | apply Kd.N_alloc | apply Kd.N_drewN | apply Kd.N_drew)); exact Kd.N_mono HO_13.out (fun _ hk => ⟨⟨hk.1, hk.2.1⟩, hk.2.2⟩)) hg hat); have n2_ := As0.mk (hb); have n3_ := As0.mk (ho); clear HO_11; clear HO_13; clear HB; clear HO_15; have HO_11 := n0_; have HO_13 := n1_; have HB := n2_; have HO192 := n3_; clear n0_ n1_ n2_ n3_; clear ho hb hg hat)); try go_wp2_with (first | ((with_reducible refine gbu (b := .append) (xs := #[.tmp 137, .tmp 139]) rfl ?_); at_builtin; refine Kd.R_append (Kd.int .i64) (w0 := w) w.heap.size rfl (.tmp 137) (.tmp 139) 30 2 (.int .i64 0) 8 rfl Try.underlying30 info2 rfl (by decide) (by omega) u15 x15_4 x17_5 [.int .i64 x17_5] (fun k_ => (w.heap.size ≤ k_)) (fun _ => False) rfl rfl ?aP (fun _ hk => hk.elim) ?aF ?aO ?aB ?aS ?aL ?_; (case aP => exact rfl); (case aB => exact (by repeat (with_reducible first | exact HB.out | apply bal | apply pbN | apply bdw))); (case aF => exact (fun k_ hk => (Nat.le_trans (bsz (by repeat (with_reducible first | exact HB.out | apply bal | apply pbN | apply bdw))) hk))); (case aO => exact (by (with_reducible repeat (first | apply Kd.R_alloc | apply Kd.R_drewN | apply Kd.R_drew)); exact HO_15.out)); (case aS => exact (bsz (by repeat (with_reducible first | exact HB.out | apply bal | apply pbN | apply bdw)))); (case aL => have := LMc50.out; omega); intro v191 w51 ho hb hg hat; rw [← Ny190.out] at ho; have n0_ := As0.mk (Kd.N_afterv (ok := (fun k_ => (w.heap.size ≤ k_) ∧ some k_ ≠ (u13 : Value).ownBlock)) (by (with_reducible repeat (first | apply Kd.N_alloc | apply Kd.N_drewN | apply Kd.N_drew)); exact Kd.N_mono HO_11.out (fun _ hk => ⟨⟨hk.1, hk.2.1⟩, hk.2.2⟩)) hg hat); have n1_ := As0.mk (Kd.N_afterv (ok := (fun k_ => (w.heap.size ≤ k_) ∧ some k_ ≠ (u11 : Value).ownBlock)) (by (with_reducible repeat (first | apply Kd.N_alloc | apply Kd.N_drewN | apply Kd.N_drew)); exact Kd.N_mono HO_13.out (fun _ hk => ⟨⟨hk.1, hk.2.1⟩, hk.2.2⟩)) hg hat); have n2_ := As0.mk (hb); have n3_ := As0.mk (ho); clear HO_11; clear HO_13; clear HB; clear HO_15; have HO_11 := n0_; have HO_13 := n1_; have HB := n2_; have HO192 := n3_; clear n0_ n1_ n2_ n3_; clear ho hb hg hat)))
                   go_roundg kj27
                   case measure => have := HK1.out; have := HK2.out; have := HK3.out; have := HK4.out; have := HK5.out; have := HJ27.out; omega
                   case rel => exact ⟨(y190), (wrap64 (x16_4 + 1)), (by first | rfl | (simp; done) | (simp [*]; done)), H', ⟨by have := HK1.out; have := HK2.out; have := HK3.out; have := HK4.out; have := HK5.out; have := HJ27.out; omega⟩, ⟨by (with_reducible repeat (first | apply Kd.N_alloc | apply Kd.N_drewN | apply Kd.N_drew)); exact Kd.N_mono HO_11.out (fun _ hk => ⟨hk.1.1, ⟨hk.1.2, hk.2⟩⟩)⟩, ⟨by (with_reducible repeat (first | apply Kd.N_alloc | apply Kd.N_drewN | apply Kd.N_drew)); exact Kd.N_mono HO_13.out (fun _ hk => ⟨hk.1.1, ⟨hk.1.2, hk.2⟩⟩)⟩, ⟨by (with_reducible repeat (first | apply Kd.R_alloc | apply Kd.R_drewN | apply Kd.R_drew)); exact HO192.out⟩, ⟨by repeat (with_reducible first | exact HB.out | apply bal | apply pbN | apply bdw)⟩⟩
                  ·rw [if_neg c50] at H
                   exact absurd H (by simp)
            ·rw [if_neg c27] at H
             have c27b0 : decide (x16_4 ≤ a2) = false := decide_eq_false c27
             clear c27
             by_cases c52 : x13_3.length < 5864062014805
             ·rw [if_pos c52] at H
              have LMc52 := As0.mk c52
              clear c52
              obtain ⟨y178, hy178⟩ : ∃ y_ : List (List Int), y_ = (x13_3 ++ [x15_4]) := ⟨_, rfl⟩
              replace H : (spec_l16Costs.l3 k4 l0 a1 a2 x11_2 x12_2 y178 (wrap64 (x14_3 + 1))) = some r := by first | (rw [hy178]; with_reducible exact H) | (have H2_ := (Option.bind_some _ _).symm.trans H; rw [hy178]; with_reducible exact H2_) | (have H2_ := (Option.bind_some _ _).symm.trans H; with_reducible exact H2_) | with_reducible exact H | (rw [hy178]; exact H) | exact H
              have Ny178 := As0.mk hy178
              clear hy178
              have H' := As0.mk H
              clear H
              obtain ⟨Ao54, co54, eo54⟩ := Kd.R_slice HO_15.out
              subst eo54
              iterate 4 ((try go_wp2_with (first | ((with_reducible refine gbu (b := .append) (xs := #[.tmp 141, .tmp 143]) rfl ?_); at_builtin; refine Kd.N_append (Kd.slice 2 (Kd.int .i64)) (w0 := w) w.heap.size rfl (.tmp 141) (.tmp 143) 45 30 (.slice none 0 0) 24 rfl Try.underlying45 info30 rfl (by decide) (by omega) u13 x13_3 x15_4 [.slice Ao54 x15_4.length co54] (fun k_ => (w.heap.size ≤ k_) ∧ some k_ ≠ (u11 : Value).ownBlock) (fun k_ => ((fun k_ => (w.heap.size ≤ k_) ∧ some k_ ≠ (u11 : Value).ownBlock)) k_ ∧ some k_ ≠ (u13 : Value).ownBlock) rfl rfl ?aP (fun _ hk => hk) ?aF ?aO ?aB ?aS ?aL ?_; (case aP => exact (Kd.FK_slice_mk (Kd.R_reads' (Kd.R_mono (ok' := (fun k_ => ((fun k_ => (w.heap.size ≤ k_) ∧ some k_ ≠ (u11 : Value).ownBlock)) k_ ∧ some k_ ≠ (u13 : Value).ownBlock)) (Kd.R_apart' (Kd.R_apart' (HO_15.out) (Kd.N_typed HO_11.out) (by decide)) (Kd.N_typed HO_13.out) (by decide)) (fun k_ hk => ⟨⟨hk.1.1, hk.1.2⟩, hk.2⟩))).2.1 (Kd.R_F (Kd.R_mono (ok' := (fun k_ => ((fun k_ => (w.heap.size ≤ k_) ∧ some k_ ≠ (u11 : Value).ownBlock)) k_ ∧ some k_ ≠ (u13 : Value).ownBlock)) (Kd.R_apart' (Kd.R_apart' (HO_15.out) (Kd.N_typed HO_11.out) (by decide)) (Kd.N_typed HO_13.out) (by decide)) (fun k_ hk => ⟨⟨hk.1.1, hk.1.2⟩, hk.2⟩))))); (case aB => exact (by repeat (with_reducible first | exact HB.out | apply bal | apply pbN | apply bdw))); (case aF => exact (fun k_ hk => ⟨(Nat.le_trans (bsz (by repeat (with_reducible first | exact HB.out | apply bal | apply pbN | apply bdw))) hk), Kd.fresh' (Kd.N_lt (by (with_reducible repeat (first | apply Kd.N_alloc | apply Kd.N_drewN | apply Kd.N_drew)); exact HO_11.out)) k_ hk⟩)); (case aO => exact (by (with_reducible repeat (first | apply Kd.N_alloc | apply Kd.N_drewN | apply Kd.N_drew)); exact Kd.N_mono HO_13.out (fun _ hk => ⟨hk.1, hk.2.1⟩))); (case aS => exact (bsz (by repeat (with_reducible first | exact HB.out | apply bal | apply pbN | apply bdw)))); (case aL => have := LMc52.out; omega); intro v179 w53 ho hb hg hat; rw [← Ny178.out] at ho; have n0_ := As0.mk (Kd.N_afterv (ok := (fun k_ => (w.heap.size ≤ k_) ∧ some k_ ≠ (.slice Ao54 x15_4.length co54 : Value).ownBlock)) (by (with_reducible repeat (first | apply Kd.N_alloc | apply Kd.N_drewN | apply Kd.N_drew)); exact Kd.N_mono HO_11.out (fun _ hk => ⟨⟨hk.1, hk.2.2⟩, hk.2.1⟩)) hg hat); have n1_ := As0.mk (hb); have n2_ := As0.mk (ho); clear HO_11; clear HB; clear HO_13; clear HO_15; have HO_11 := n0_; have HB := n1_; have HO180 := n2_; clear n0_ n1_ n2_; clear ho hb hg hat))); (try go_quiet (fail)))
              go_roundg k4
              case measure => have := HK1.out; have := HK2.out; have := HK3.out; have := HK4.out; omega
              case rel => exact ⟨(y178), (wrap64 (x14_3 + 1)), (by first | rfl | (simp; done) | (simp [*]; done)), H', ⟨by have := HK1.out; have := HK2.out; have := HK3.out; have := HK4.out; omega⟩, ⟨by (with_reducible repeat (first | apply Kd.N_alloc | apply Kd.N_drewN | apply Kd.N_drew)); exact Kd.N_mono HO_11.out (fun _ hk => ⟨hk.1.1, hk.2⟩)⟩, ⟨by (with_reducible repeat (first | apply Kd.N_alloc | apply Kd.N_drewN | apply Kd.N_drew)); exact HO180.out⟩, ⟨by repeat (with_reducible first | exact HB.out | apply bal | apply pbN | apply bdw)⟩⟩
             ·rw [if_neg c52] at H
              exact absurd H (by simp)
         ·rw [if_neg c24] at H
          have c24b0 : decide (x14_3 ≤ a1) = false := decide_eq_false c24
          clear c24
          obtain ⟨y169, hy169⟩ : ∃ y_ : List (List (List Int)), y_ = (([x13_3] : List (List (List Int)))) := ⟨_, rfl⟩
          replace H : (if y169.length + x11_2.length < 5864062014805 then (spec_l16Costs.l2 k3 l0 a1 a2 (y169 ++ x11_2) (wrap64 (x12_2 - 1))) else (none)) = some r := by first | (rw [hy169]; with_reducible exact H) | (have H2_ := (Option.bind_some _ _).symm.trans H; rw [hy169]; with_reducible exact H2_) | (have H2_ := (Option.bind_some _ _).symm.trans H; with_reducible exact H2_) | with_reducible exact H | (rw [hy169]; exact H) | exact H
          have Ny169 := As0.mk hy169
          clear hy169
          by_cases c55 : y169.length + x11_2.length < 5864062014805
          ·rw [if_pos c55] at H
           have LMc55 := As0.mk c55
           clear c55
           obtain ⟨y172, hy172⟩ : ∃ y_ : List (List (List Int)), y_ = (y169 ++ x11_2) := ⟨_, rfl⟩
           replace H : (spec_l16Costs.l2 k3 l0 a1 a2 y172 (wrap64 (x12_2 - 1))) = some r := by first | (rw [hy172]; with_reducible exact H) | (have H2_ := (Option.bind_some _ _).symm.trans H; rw [hy172]; with_reducible exact H2_) | (have H2_ := (Option.bind_some _ _).symm.trans H; with_reducible exact H2_) | with_reducible exact H | (rw [hy172]; exact H) | exact H
           have Ny172 := As0.mk hy172
           clear hy172
           have H' := As0.mk H
           clear H
           obtain ⟨Ao56, co56, eo56⟩ := Kd.N_slice HO_13.out
           subst eo56
           iterate 4 ((try go_wp2_with (first | ((with_reducible refine gate_dst (N := 146) rfl ?_); refine Kd.N_lit (Kd.slice 30 (Kd.slice 2 (Kd.int .i64))) _ 45 ?hg (N' := 146) ?hd (xs := ([x13_3] : List (List (List Int)))) (inner := [.slice Ao56 x13_3.length co56]) (ok := (fun k_ => (w.heap.size ≤ k_) ∧ some k_ ≠ (u11 : Value).ownBlock)) (okp := (fun k_ => (w.heap.size ≤ k_) ∧ some k_ ≠ (u11 : Value).ownBlock)) ?hr ?hp (fun _ hk => hk) ((show ∀ k_, wr.heap.size ≤ k_ → (fun k_ => (w.heap.size ≤ k_) ∧ some k_ ≠ (u11 : Value).ownBlock) k_ from fun k_ hk => ⟨(Nat.le_trans (bsz (by repeat (with_reducible first | exact HB.out | apply bal | apply pbN | apply bdw))) hk), Kd.fresh' (Kd.N_lt (by (with_reducible repeat (first | apply Kd.N_alloc | apply Kd.N_drewN | apply Kd.N_drew)); exact HO_11.out)) k_ hk⟩) _ (Nat.le_refl _)) (Below.refl _ _) (Nat.le_refl _) (by simp) ?_; (case hd => rfl); (case hg => rfl); (case hr => first | (go_simp; done) | (go_simp; rfl)); (case hp => exact (Reps.one (show Kd.FK (Kd.slice 30 (Kd.slice 2 (Kd.int .i64))) _ _ x13_3 [.slice Ao56 x13_3.length co56] from (Kd.FK_slice_mk (Kd.N_reads' (Kd.N_mono (ok' := (fun k_ => (w.heap.size ≤ k_) ∧ some k_ ≠ (u11 : Value).ownBlock)) (HO_13.out) (fun k_ hk => ⟨hk.1, hk.2⟩))).2.1 (Kd.N_F (Kd.N_mono (ok' := (fun k_ => (w.heap.size ≤ k_) ∧ some k_ ≠ (u11 : Value).ownBlock)) (HO_13.out) (fun k_ hk => ⟨hk.1, hk.2⟩))))) (Reps.none _ _))); intro v170 w57 ho58 hb hg_ hnew_; clear hg_ hnew_; (first | rw [← Ny169.out] at ho58 | (simp only [Int.reduceToNat] at ho58; rw [← Ny169.out] at ho58)); have n0_ := As0.mk (Kd.N_elder' (by (with_reducible repeat (first | apply Kd.N_alloc | apply Kd.N_drewN | apply Kd.N_drew)); exact HO_11.out) (Kd.N_base ho58) hb); have n1_ := As0.mk (Kd.N_lower ho58 (bsz (by repeat (with_reducible first | exact HB.out | apply bal | apply pbN | apply bdw)))); have n2_ := As0.mk (bsp (by repeat (with_reducible first | exact HB.out | apply bal | apply pbN | apply bdw)) hb); clear HO_11; clear HB; clear HO_13; have HO_11 := n0_; have HO171 := n1_; have HB := n2_; clear n0_ n1_ n2_; clear hb ho58; obtain ⟨Ao60, co60, eo60⟩ := Kd.N_slice HO_11.out; subst eo60) | ((with_reducible refine gbu (b := .append) (xs := #[.tmp 146, .tmp 147]) rfl ?_); at_builtin; refine Kd.N_append_rows (Kd.slice 30 (Kd.slice 2 (Kd.int .i64))) (w0 := w) w.heap.size rfl (.tmp 146) (.tmp 147) 43 45 (.slice none 0 0) 24 rfl Try.underlying43 info45 rfl (by decide) (by omega) v170 y169 x11_2 _ _ _ (fun k_ => (w.heap.size ≤ k_)) (fun k_ => ((fun k_ => (w.heap.size ≤ k_))) k_ ∧ some k_ ≠ (v170 : Value).ownBlock) rfl rfl ?aO ?aR (fun _ hk => hk) ?aF ?aB ?aS ?aL ?_; (case aR => exact (by skip; exact Kd.N_F (Kd.N_mono (ok' := (fun k_ => ((fun k_ => (w.heap.size ≤ k_))) k_ ∧ some k_ ≠ (v170 : Value).ownBlock)) (HO_11.out) (fun k_ hk => ⟨hk.1.1, hk.2⟩)))); (case aB => exact (by repeat (with_reducible first | exact HB.out | apply bal | apply pbN | apply bdw))); (case aF => exact (fun k_ hk => (Nat.le_trans (bsz (by repeat (with_reducible first | exact HB.out | apply bal | apply pbN | apply bdw))) hk))); (case aO => exact (by (with_reducible repeat (first | apply Kd.N_alloc | apply Kd.N_drewN | apply Kd.N_drew)); exact Kd.N_mono HO171.out (fun _ hk => hk.1))); (case aS => exact (bsz (by repeat (with_reducible first | exact HB.out | apply bal | apply pbN | apply bdw)))); (case aL => have := LMc55.out; omega); intro v173 w59 ho hb hg hat; rw [← Ny172.out] at ho; have n0_ := As0.mk (Kd.N_afterv (ok := (fun k_ => (w.heap.size ≤ k_))) (by (with_reducible repeat (first | apply Kd.N_alloc | apply Kd.N_drewN | apply Kd.N_drew)); exact Kd.N_mono HO_11.out (fun _ hk => ⟨hk.1.1, hk.2⟩)) hg hat); have n1_ := As0.mk (hb); have n2_ := As0.mk (ho); clear HO_11; clear HB; clear HO171; have HO_11 := n0_; have HB := n1_; have HO174 := n2_; clear n0_ n1_ n2_; clear ho hb hg hat))); (try go_quiet (fail)))
           go_roundg k3
           case measure => have := HK1.out; have := HK2.out; have := HK3.out; omega
           case rel => exact ⟨(y172), (wrap64 (x12_2 - 1)), (by first | rfl | (simp; done) | (simp [*]; done)), H', ⟨by have := HK1.out; have := HK2.out; have := HK3.out; omega⟩, ⟨by (with_reducible repeat (first | apply Kd.N_alloc | apply Kd.N_drewN | apply Kd.N_drew)); exact HO174.out⟩, ⟨by repeat (with_reducible first | exact HB.out | apply bal | apply pbN | apply bdw)⟩⟩
          ·rw [if_neg c55] at H
           exact absurd H (by simp)
      ·rw [if_neg c21] at H
       have c21b0 : decide (0 ≤ x12_2) = false := decide_eq_false c21
       clear c21
       obtain rfl := Option.some.inj H
       go_wp2
       repeat (go_quiet (fail); try go_wp2)
       go_ret
       exact ⟨_, by first | rfl | (simp [eWn, eWs] <;> rfl) | (simp [*, eWn, eWs] <;> rfl), by (with_reducible repeat (first | apply Kd.N_alloc | apply Kd.N_drewN | apply Kd.N_drew)); exact HO_11.out, by repeat (with_reducible first | exact HB.out | apply bal | apply pbN | apply bdw)⟩

end Go.Proofs.Ytnhkamfccoppbaa.QCheapestMix
