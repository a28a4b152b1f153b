-- Written by press.py, a program of this session, round the kit's print.py (functions and contracts; Lean checks them).
import Derived.Test.YtnhkamfccoppbaaQPriceOfLimitx0
namespace Go.Proofs.Ytnhkamfccoppbaa.QPriceOfLimit
open Go.Proofs.Ytnhkamfccoppbaa.QWords
attribute [local go_sem high] binOp_string_geq_q binOp_string_leq_q binOp_string_gtr_q
open Go.RowKit Go.Proofs.YtnhkamfccoppbaaW.PrintWords Go.Proofs.YtnhkamfccoppbaaW.PrintLast Go.Proofs.YtnhkamfccoppbaaW.PrintMore
attribute [local go_sem] max2_int min2_int max_two min_two max_three min_three max_four min_four   -- for this text's walks alone
set_option linter.unusedVariables false
set_option linter.unusedSimpArgs false

/-! ### spec_l16Costs: function 22 -/
mutual
def spec_l16Costs.l0 : Nat → List (S46) → Int → Int → List (List Int) → Int → Option ((List (List (List Int))))
 | 0, _, _, _, _, _ => none
 | k + 1, x0, x1, x2, x7, x8 => if x8 ≤ x1 then (spec_l16Costs.l1 k x0 x1 x2 x7 x8 (([] : List Int)) 0) else (spec_l16Costs.l2 k x0 x1 x2 (([x7] : List (List (List Int)))) (wrap64 ((x0.length : Int) - 1)))
def spec_l16Costs.l1 : Nat → List (S46) → Int → Int → List (List Int) → Int → List Int → Int → Option ((List (List (List Int))))
 | 0, _, _, _, _, _, _, _ => none
 | k + 1, x0, x1, x2, x7, x8, x9, x10 => if x10 ≤ x2 then (if x8 = 0 then (if x9.length < 17592186044416 then (spec_l16Costs.l1 k x0 x1 x2 x7 x8 (x9 ++ [0]) (wrap64 (x10 + 1))) else (none)) else (if x9.length < 17592186044416 then (spec_l16Costs.l1 k x0 x1 x2 x7 x8 (x9 ++ [(-1)]) (wrap64 (x10 + 1))) else (none))) else (if x7.length < 5864062014805 then (spec_l16Costs.l0 k x0 x1 x2 (x7 ++ [x9]) (wrap64 (x8 + 1))) else (none))
def spec_l16Costs.l2 : Nat → List (S46) → Int → Int → List (List (List Int)) → Int → Option ((List (List (List Int))))
 | 0, _, _, _, _, _ => none
 | k + 1, x0, x1, x2, x11, x12 => if x12 ≥ 0 then (spec_l16Costs.l3 k x0 x1 x2 x11 x12 (([] : List (List Int))) 0) else (some x11)
def spec_l16Costs.l3 : Nat → List (S46) → Int → Int → List (List (List Int)) → Int → List (List Int) → Int → Option ((List (List (List Int))))
 | 0, _, _, _, _, _, _, _ => none
 | k + 1, x0, x1, x2, x11, x12, x13, x14 => if x14 ≤ x1 then (spec_l16Costs.l4 k x0 x1 x2 x11 x12 x13 x14 (([] : List Int)) 0) else ((some (([x13] : List (List (List Int))) : List (List (List Int)))).bind fun y140 => (if y140.length + x11.length < 5864062014805 then (spec_l16Costs.l2 k x0 x1 x2 (y140 ++ x11) (wrap64 (x12 - 1))) else (none)))
def spec_l16Costs.l4 : Nat → List (S46) → Int → Int → List (List (List Int)) → Int → List (List Int) → Int → List Int → Int → Option ((List (List (List Int))))
 | 0, _, _, _, _, _, _, _, _, _ => none
 | k + 1, x0, x1, x2, x11, x12, x13, x14, x15, x16 => if x16 ≤ x2 then (spec_l16Costs.l5 k x0 x1 x2 x11 x12 x13 x14 x15 x16 (-1) 0) else (if x13.length < 5864062014805 then (spec_l16Costs.l3 k x0 x1 x2 x11 x12 (x13 ++ [x15]) (wrap64 (x14 + 1))) else (none))
def spec_l16Costs.l5 : Nat → List (S46) → Int → Int → List (List (List Int)) → Int → List (List Int) → Int → List Int → Int → Int → Int → Option ((List (List (List Int))))
 | 0, _, _, _, _, _, _, _, _, _, _, _ => none
 | k + 1, x0, x1, x2, x11, x12, x13, x14, x15, x16, x17, x18 => if 0 ≤ x12 then (if x12 < (x0.length : Int) then (if x18 ≤ ((rd_T46 x0 x12).f3) then (if x18 ≤ x14 then (spec_l16Costs.j6 k x0 x1 x2 x11 x12 x13 x14 x15 x16 x17 x18 (decide ((wrap64 (x18 * ((rd_T46 x0 x12).f1))) ≤ x16))) else (spec_l16Costs.j6 k x0 x1 x2 x11 x12 x13 x14 x15 x16 x17 x18 false)) else (spec_l16Costs.j6 k x0 x1 x2 x11 x12 x13 x14 x15 x16 x17 x18 false)) else (none)) else (none)
def spec_l16Costs.j6 : Nat → List (S46) → Int → Int → List (List (List Int)) → Int → List (List Int) → Int → List Int → Int → Int → Int → Bool → Option ((List (List (List Int))))
 | 0, _, _, _, _, _, _, _, _, _, _, _, _ => none
 | k + 1, x0, x1, x2, x11, x12, x13, x14, x15, x16, x17, x18, x87 => if x87 = true then (if 0 < (x11.length : Int) then (if 0 ≤ (wrap64 (x14 - x18)) then (if (wrap64 (x14 - x18)) < ((rd_L5 x11 0).length : Int) then (if 0 ≤ x12 then (if x12 < (x0.length : Int) then (if 0 ≤ (wrap64 (x16 - (wrap64 (x18 * ((rd_T46 x0 x12).f1))))) then (if (wrap64 (x16 - (wrap64 (x18 * ((rd_T46 x0 x12).f1))))) < ((rd_L4 (rd_L5 x11 0) (wrap64 (x14 - x18))).length : Int) then (if (rd (rd_L4 (rd_L5 x11 0) (wrap64 (x14 - x18))) (wrap64 (x16 - (wrap64 (x18 * ((rd_T46 x0 x12).f1)))))) ≥ 0 then (if x17 < 0 then (spec_l16Costs.l5 k x0 x1 x2 x11 x12 x13 x14 x15 x16 (wrap64 ((rd (rd_L4 (rd_L5 x11 0) (wrap64 (x14 - x18))) (wrap64 (x16 - (wrap64 (x18 * ((rd_T46 x0 x12).f1)))))) + (wrap64 (x18 * ((rd_T46 x0 x12).f2))))) (wrap64 (x18 + 1))) else (if (wrap64 ((rd (rd_L4 (rd_L5 x11 0) (wrap64 (x14 - x18))) (wrap64 (x16 - (wrap64 (x18 * ((rd_T46 x0 x12).f1)))))) + (wrap64 (x18 * ((rd_T46 x0 x12).f2))))) < x17 then (spec_l16Costs.l5 k x0 x1 x2 x11 x12 x13 x14 x15 x16 (wrap64 ((rd (rd_L4 (rd_L5 x11 0) (wrap64 (x14 - x18))) (wrap64 (x16 - (wrap64 (x18 * ((rd_T46 x0 x12).f1)))))) + (wrap64 (x18 * ((rd_T46 x0 x12).f2))))) (wrap64 (x18 + 1))) else (spec_l16Costs.l5 k x0 x1 x2 x11 x12 x13 x14 x15 x16 x17 (wrap64 (x18 + 1))))) else (spec_l16Costs.l5 k x0 x1 x2 x11 x12 x13 x14 x15 x16 x17 (wrap64 (x18 + 1)))) else (none)) else (none)) else (none)) else (none)) else (none)) else (none)) else (none)) else (if x15.length < 17592186044416 then (spec_l16Costs.l4 k x0 x1 x2 x11 x12 x13 x14 (x15 ++ [x17]) (wrap64 (x16 + 1))) else (none))
end
def spec_l16Costs.f (k : Nat) (l0 : List (S46)) (a1 : Int) (a2 : Int) : Option ((List (List (List Int)))) := spec_l16Costs.l0 k l0 a1 a2 (([] : List (List Int))) 0
theorem spec_l16Costs.mono_l : ∀ k, (∀ y0 y1 y2 y3 y4, LeO (spec_l16Costs.l0 k y0 y1 y2 y3 y4) (spec_l16Costs.l0 (k + 1) y0 y1 y2 y3 y4)) ∧ (∀ y0 y1 y2 y3 y4 y5 y6, LeO (spec_l16Costs.l1 k y0 y1 y2 y3 y4 y5 y6) (spec_l16Costs.l1 (k + 1) y0 y1 y2 y3 y4 y5 y6)) ∧ (∀ y0 y1 y2 y3 y4, LeO (spec_l16Costs.l2 k y0 y1 y2 y3 y4) (spec_l16Costs.l2 (k + 1) y0 y1 y2 y3 y4)) ∧ (∀ y0 y1 y2 y3 y4 y5 y6, LeO (spec_l16Costs.l3 k y0 y1 y2 y3 y4 y5 y6) (spec_l16Costs.l3 (k + 1) y0 y1 y2 y3 y4 y5 y6)) ∧ (∀ y0 y1 y2 y3 y4 y5 y6 y7 y8, LeO (spec_l16Costs.l4 k y0 y1 y2 y3 y4 y5 y6 y7 y8) (spec_l16Costs.l4 (k + 1) y0 y1 y2 y3 y4 y5 y6 y7 y8)) ∧ (∀ y0 y1 y2 y3 y4 y5 y6 y7 y8 y9 y10, LeO (spec_l16Costs.l5 k y0 y1 y2 y3 y4 y5 y6 y7 y8 y9 y10) (spec_l16Costs.l5 (k + 1) y0 y1 y2 y3 y4 y5 y6 y7 y8 y9 y10)) ∧ (∀ y0 y1 y2 y3 y4 y5 y6 y7 y8 y9 y10 y11, LeO (spec_l16Costs.j6 k y0 y1 y2 y3 y4 y5 y6 y7 y8 y9 y10 y11) (spec_l16Costs.j6 (k + 1) y0 y1 y2 y3 y4 y5 y6 y7 y8 y9 y10 y11))
 | 0 => ⟨fun _ _ _ _ _ r h => by simp [spec_l16Costs.l0] at h, fun _ _ _ _ _ _ _ r h => by simp [spec_l16Costs.l1] at h, fun _ _ _ _ _ r h => by simp [spec_l16Costs.l2] at h, fun _ _ _ _ _ _ _ r h => by simp [spec_l16Costs.l3] at h, fun _ _ _ _ _ _ _ _ _ r h => by simp [spec_l16Costs.l4] at h, fun _ _ _ _ _ _ _ _ _ _ _ r h => by simp [spec_l16Costs.l5] at h, fun _ _ _ _ _ _ _ _ _ _ _ _ r h => by simp [spec_l16Costs.j6] at h⟩
 | k + 1 => by
  obtain ⟨ih0, ih1, ih2, ih3, ih4, ih5, ih6⟩ := spec_l16Costs.mono_l k
  refine ⟨?_, ?_, ?_, ?_, ?_, ?_, ?_⟩
  ·intro y0 y1 y2 y3 y4
   unfold spec_l16Costs.l0
   repeat' first
   | (with_reducible exact ih0 _ _ _ _ _)
   | (with_reducible exact ih1 _ _ _ _ _ _ _)
   | (with_reducible exact ih2 _ _ _ _ _)
   | (with_reducible exact ih3 _ _ _ _ _ _ _)
   | (with_reducible exact ih4 _ _ _ _ _ _ _ _ _)
   | (with_reducible exact ih5 _ _ _ _ _ _ _ _ _ _ _)
   | (with_reducible exact ih6 _ _ _ _ _ _ _ _ _ _ _ _)
   | (with_reducible exact LeO.refl _)
   | (with_reducible exact LeO.none _)
   | (with_reducible refine LeO.ite ?_ ?_)
   | (with_reducible refine LeO.bind ?_ (fun _ => ?_))
   | exact ih0 _ _ _ _ _
   | exact ih1 _ _ _ _ _ _ _
   | exact ih2 _ _ _ _ _
   | exact ih3 _ _ _ _ _ _ _
   | exact ih4 _ _ _ _ _ _ _ _ _
   | exact ih5 _ _ _ _ _ _ _ _ _ _ _
   | exact ih6 _ _ _ _ _ _ _ _ _ _ _ _
   | exact LeO.none _
   | refine LeO.ite ?_ ?_
   | refine LeO.bind ?_ (fun _ => ?_)
  ·intro y0 y1 y2 y3 y4 y5 y6
   unfold spec_l16Costs.l1
   repeat' first
   | (with_reducible exact ih0 _ _ _ _ _)
   | (with_reducible exact ih1 _ _ _ _ _ _ _)
   | (with_reducible exact ih2 _ _ _ _ _)
   | (with_reducible exact ih3 _ _ _ _ _ _ _)
   | (with_reducible exact ih4 _ _ _ _ _ _ _ _ _)
   | (with_reducible exact ih5 _ _ _ _ _ _ _ _ _ _ _)
   | (with_reducible exact ih6 _ _ _ _ _ _ _ _ _ _ _ _)
   | (with_reducible exact LeO.refl _)
   | (with_reducible exact LeO.none _)
   | (with_reducible refine LeO.ite ?_ ?_)
   | (with_reducible refine LeO.bind ?_ (fun _ => ?_))
   | exact ih0 _ _ _ _ _
   | exact ih1 _ _ _ _ _ _ _
   | exact ih2 _ _ _ _ _
   | exact ih3 _ _ _ _ _ _ _
   | exact ih4 _ _ _ _ _ _ _ _ _
   | exact ih5 _ _ _ _ _ _ _ _ _ _ _
   | exact ih6 _ _ _ _ _ _ _ _ _ _ _ _
   | exact LeO.none _
   | refine LeO.ite ?_ ?_
   | refine LeO.bind ?_ (fun _ => ?_)
  ·intro y0 y1 y2 y3 y4
   unfold spec_l16Costs.l2
   repeat' first
   | (with_reducible exact ih0 _ _ _ _ _)
   | (with_reducible exact ih1 _ _ _ _ _ _ _)
   | (with_reducible exact ih2 _ _ _ _ _)
   | (with_reducible exact ih3 _ _ _ _ _ _ _)
   | (with_reducible exact ih4 _ _ _ _ _ _ _ _ _)
   | (with_reducible exact ih5 _ _ _ _ _ _ _ _ _ _ _)
   | (with_reducible exact ih6 _ _ _ _ _ _ _ _ _ _ _ _)
   | (with_reducible exact LeO.refl _)
   | (with_reducible exact LeO.none _)
   | (with_reducible refine LeO.ite ?_ ?_)
   | (with_reducible refine LeO.bind ?_ (fun _ => ?_))
   | exact ih0 _ _ _ _ _
   | exact ih1 _ _ _ _ _ _ _
   | exact ih2 _ _ _ _ _
   | exact ih3 _ _ _ _ _ _ _
   | exact ih4 _ _ _ _ _ _ _ _ _
   | exact ih5 _ _ _ _ _ _ _ _ _ _ _
   | exact ih6 _ _ _ _ _ _ _ _ _ _ _ _
   | exact LeO.none _
   | refine LeO.ite ?_ ?_
   | refine LeO.bind ?_ (fun _ => ?_)
  ·intro y0 y1 y2 y3 y4 y5 y6
   unfold spec_l16Costs.l3
   repeat' first
   | (with_reducible exact ih0 _ _ _ _ _)
   | (with_reducible exact ih1 _ _ _ _ _ _ _)
   | (with_reducible exact ih2 _ _ _ _ _)
   | (with_reducible exact ih3 _ _ _ _ _ _ _)
   | (with_reducible exact ih4 _ _ _ _ _ _ _ _ _)
   | (with_reducible exact ih5 _ _ _ _ _ _ _ _ _ _ _)
   | (with_reducible exact ih6 _ _ _ _ _ _ _ _ _ _ _ _)
   | (with_reducible exact LeO.refl _)
   | (with_reducible exact LeO.none _)
   | (with_reducible refine LeO.ite ?_ ?_)
   | (with_reducible refine LeO.bind ?_ (fun _ => ?_))
   | exact ih0 _ _ _ _ _
   | exact ih1 _ _ _ _ _ _ _
   | exact ih2 _ _ _ _ _
   | exact ih3 _ _ _ _ _ _ _
   | exact ih4 _ _ _ _ _ _ _ _ _
   | exact ih5 _ _ _ _ _ _ _ _ _ _ _
   | exact ih6 _ _ _ _ _ _ _ _ _ _ _ _
   | exact LeO.none _
   | refine LeO.ite ?_ ?_
   | refine LeO.bind ?_ (fun _ => ?_)
  ·intro y0 y1 y2 y3 y4 y5 y6 y7 y8
   unfold spec_l16Costs.l4
   repeat' first
   | (with_reducible exact ih0 _ _ _ _ _)
   | (with_reducible exact ih1 _ _ _ _ _ _ _)
   | (with_reducible exact ih2 _ _ _ _ _)
   | (with_reducible exact ih3 _ _ _ _ _ _ _)
   | (with_reducible exact ih4 _ _ _ _ _ _ _ _ _)
   | (with_reducible exact ih5 _ _ _ _ _ _ _ _ _ _ _)
   | (with_reducible exact ih6 _ _ _ _ _ _ _ _ _ _ _ _)
   | (with_reducible exact LeO.refl _)
   | (with_reducible exact LeO.none _)
   | (with_reducible refine LeO.ite ?_ ?_)
   | (with_reducible refine LeO.bind ?_ (fun _ => ?_))
   | exact ih0 _ _ _ _ _
   | exact ih1 _ _ _ _ _ _ _
   | exact ih2 _ _ _ _ _
   | exact ih3 _ _ _ _ _ _ _
   | exact ih4 _ _ _ _ _ _ _ _ _
   | exact ih5 _ _ _ _ _ _ _ _ _ _ _
   | exact ih6 _ _ _ _ _ _ _ _ _ _ _ _
   | exact LeO.none _
   | refine LeO.ite ?_ ?_
   | refine LeO.bind ?_ (fun _ => ?_)
  ·intro y0 y1 y2 y3 y4 y5 y6 y7 y8 y9 y10
   unfold spec_l16Costs.l5
   repeat' first
   | (with_reducible exact ih0 _ _ _ _ _)
   | (with_reducible exact ih1 _ _ _ _ _ _ _)
   | (with_reducible exact ih2 _ _ _ _ _)
   | (with_reducible exact ih3 _ _ _ _ _ _ _)
   | (with_reducible exact ih4 _ _ _ _ _ _ _ _ _)
   | (with_reducible exact ih5 _ _ _ _ _ _ _ _ _ _ _)
   | (with_reducible exact ih6 _ _ _ _ _ _ _ _ _ _ _ _)
   | (with_reducible exact LeO.refl _)
   | (with_reducible exact LeO.none _)
   | (with_reducible refine LeO.ite ?_ ?_)
   | (with_reducible refine LeO.bind ?_ (fun _ => ?_))
   | exact ih0 _ _ _ _ _
   | exact ih1 _ _ _ _ _ _ _
   | exact ih2 _ _ _ _ _
   | exact ih3 _ _ _ _ _ _ _
   | exact ih4 _ _ _ _ _ _ _ _ _
   | exact ih5 _ _ _ _ _ _ _ _ _ _ _
   | exact ih6 _ _ _ _ _ _ _ _ _ _ _ _
   | exact LeO.none _
   | refine LeO.ite ?_ ?_
   | refine LeO.bind ?_ (fun _ => ?_)
  ·intro y0 y1 y2 y3 y4 y5 y6 y7 y8 y9 y10 y11
   unfold spec_l16Costs.j6
   repeat' first
   | (with_reducible exact ih0 _ _ _ _ _)
   | (with_reducible exact ih1 _ _ _ _ _ _ _)
   | (with_reducible exact ih2 _ _ _ _ _)
   | (with_reducible exact ih3 _ _ _ _ _ _ _)
   | (with_reducible exact ih4 _ _ _ _ _ _ _ _ _)
   | (with_reducible exact ih5 _ _ _ _ _ _ _ _ _ _ _)
   | (with_reducible exact ih6 _ _ _ _ _ _ _ _ _ _ _ _)
   | (with_reducible exact LeO.refl _)
   | (with_reducible exact LeO.none _)
   | (with_reducible refine LeO.ite ?_ ?_)
   | (with_reducible refine LeO.bind ?_ (fun _ => ?_))
   | exact ih0 _ _ _ _ _
   | exact ih1 _ _ _ _ _ _ _
   | exact ih2 _ _ _ _ _
   | exact ih3 _ _ _ _ _ _ _
   | exact ih4 _ _ _ _ _ _ _ _ _
   | exact ih5 _ _ _ _ _ _ _ _ _ _ _
   | exact ih6 _ _ _ _ _ _ _ _ _ _ _ _
   | exact LeO.none _
   | refine LeO.ite ?_ ?_
   | refine LeO.bind ?_ (fun _ => ?_)
theorem spec_l16Costs.mono : ∀ a0 a1 a2 k, LeO (spec_l16Costs.f k a0 a1 a2) (spec_l16Costs.f (k + 1) a0 a1 a2) := by
 intro a0 a1 a2 k
 obtain ⟨ih0, ih1, ih2, ih3, ih4, ih5, ih6⟩ := spec_l16Costs.mono_l k
 unfold spec_l16Costs.f
 repeat' first
   | (with_reducible exact ih0 _ _ _ _ _)
   | (with_reducible exact ih1 _ _ _ _ _ _ _)
   | (with_reducible exact ih2 _ _ _ _ _)
   | (with_reducible exact ih3 _ _ _ _ _ _ _)
   | (with_reducible exact ih4 _ _ _ _ _ _ _ _ _)
   | (with_reducible exact ih5 _ _ _ _ _ _ _ _ _ _ _)
   | (with_reducible exact ih6 _ _ _ _ _ _ _ _ _ _ _ _)
   | (with_reducible exact LeO.refl _)
   | (with_reducible exact LeO.none _)
   | (with_reducible refine LeO.ite ?_ ?_)
   | (with_reducible refine LeO.bind ?_ (fun _ => ?_))
   | exact ih0 _ _ _ _ _
   | exact ih1 _ _ _ _ _ _ _
   | exact ih2 _ _ _ _ _
   | exact ih3 _ _ _ _ _ _ _
   | exact ih4 _ _ _ _ _ _ _ _ _
   | exact ih5 _ _ _ _ _ _ _ _ _ _ _
   | exact ih6 _ _ _ _ _ _ _ _ _ _ _ _
   | exact LeO.none _
   | refine LeO.ite ?_ ?_
   | refine LeO.bind ?_ (fun _ => ?_)
set_option maxHeartbeats 8000000 in
set_option maxRecDepth 100000 in
theorem spec_l16Costs.calls (k : Nat) (A0 : Option Addr) (c0 : Nat) (l0 : List (S46)) (a1 : Int) (a2 : Int) (r : List (List (List Int))) (w : World) (hr0 : Kd.C k46 w A0 l0.length l0) (hc0 : l0.length ≤ c0) (h : spec_l16Costs.f k l0 a1 a2 = some r) :
  Calls Try.prog 22 #[.slice A0 l0.length c0, .int .i64 a1, .int .i64 a2] w fun e w' => ∃ v0_ : Value, e = .returned (v0_) ∧ Kd.N (Kd.slice 30 (Kd.slice 2 (Kd.int .i64))) 45 w' w.heap.size (fun k_ => (w.heap.size ≤ k_)) v0_ r ∧ Below w.heap.size w w' := by
 have HR0 := As0.mk hr0
 have HC0 := As0.mk hc0
 clear hr0 hc0
 have HB := As0.mk (Below.refl w.heap.size w)
 have H : (spec_l16Costs.l0 k l0 a1 a2 (([] : List (List Int))) 0) = some r := h
 clear h
 obtain ⟨y119, hy119⟩ : ∃ y_ : List (List Int), y_ = (([] : List (List Int))) := ⟨_, rfl⟩
 replace H : (spec_l16Costs.l0 k l0 a1 a2 y119 0) = some r := by first | (rw [hy119]; with_reducible exact H) | (have H2_ := (Option.bind_some _ _).symm.trans H; rw [hy119]; with_reducible exact H2_) | (have H2_ := (Option.bind_some _ _).symm.trans H; with_reducible exact H2_) | with_reducible exact H | (rw [hy119]; exact H) | exact H
 have Ny119 := As0.mk hy119
 clear hy119
 have H' := As0.mk H
 clear H
 go_enter Try.func22, Try.ntmps22
 go_wp2_with (first | ((with_reducible refine gate_dst (N := 20) rfl ?_); refine Kd.N_lit (Kd.slice 2 (Kd.int .i64)) _ 30 ?hg (N' := 20) ?hd (xs := ([] : List (List Int))) (inner := []) (ok := (fun k_ => (w.heap.size ≤ k_))) (okp := (fun k_ => (w.heap.size ≤ k_))) ?hr ?hp (fun _ hk => hk) ((show ∀ k_, w.heap.size ≤ k_ → (fun k_ => (w.heap.size ≤ k_)) k_ from fun k_ hk => (Nat.le_trans (bsz (by repeat (with_reducible first | exact HB.out | apply bal | apply pbN | apply bdw))) hk)) _ (Nat.le_refl _)) (Below.refl _ _) (Nat.le_refl _) (by simp) ?_; (case hd => rfl); (case hg => rfl); (case hr => first | (go_simp; done) | (go_simp; rfl)); (case hp => exact (Reps.none _ _)); intro v120 w4 ho5 hb hg_ hnew_; clear hg_ hnew_; (first | rw [← Ny119.out] at ho5 | (simp only [Int.reduceToNat] at ho5; rw [← Ny119.out] at ho5)); have n0_ := As0.mk (Kd.N_lower ho5 (bsz (by repeat (with_reducible first | exact HB.out | apply bal | apply pbN | apply bdw)))); have n1_ := As0.mk (bsp (by repeat (with_reducible first | exact HB.out | apply bal | apply pbN | apply bdw)) hb); clear HB; have HO121 := n0_; have HB := n1_; clear n0_ n1_; clear hb ho5))
 repeat (go_quiet (first | ((with_reducible refine gate_dst (N := 20) rfl ?_); refine Kd.N_lit (Kd.slice 2 (Kd.int .i64)) _ 30 ?hg (N' := 20) ?hd (xs := ([] : List (List Int))) (inner := []) (ok := (fun k_ => (w.heap.size ≤ k_))) (okp := (fun k_ => (w.heap.size ≤ k_))) ?hr ?hp (fun _ hk => hk) ((show ∀ k_, w.heap.size ≤ k_ → (fun k_ => (w.heap.size ≤ k_)) k_ from fun k_ hk => (Nat.le_trans (bsz (by repeat (with_reducible first | exact HB.out | apply bal | apply pbN | apply bdw))) hk)) _ (Nat.le_refl _)) (Below.refl _ _) (Nat.le_refl _) (by simp) ?_; (case hd => rfl); (case hg => rfl); (case hr => first | (go_simp; done) | (go_simp; rfl)); (case hp => exact (Reps.none _ _)); intro v120 w4 ho5 hb hg_ hnew_; clear hg_ hnew_; (first | rw [← Ny119.out] at ho5 | (simp only [Int.reduceToNat] at ho5; rw [← Ny119.out] at ho5)); have n0_ := As0.mk (Kd.N_lower ho5 (bsz (by repeat (with_reducible first | exact HB.out | apply bal | apply pbN | apply bdw)))); have n1_ := As0.mk (bsp (by repeat (with_reducible first | exact HB.out | apply bal | apply pbN | apply bdw)) hb); clear HB; have HO121 := n0_; have HB := n1_; clear n0_ n1_; clear hb ho5)); try go_wp2_with (first | ((with_reducible refine gate_dst (N := 20) rfl ?_); refine Kd.N_lit (Kd.slice 2 (Kd.int .i64)) _ 30 ?hg (N' := 20) ?hd (xs := ([] : List (List Int))) (inner := []) (ok := (fun k_ => (w.heap.size ≤ k_))) (okp := (fun k_ => (w.heap.size ≤ k_))) ?hr ?hp (fun _ hk => hk) ((show ∀ k_, w.heap.size ≤ k_ → (fun k_ => (w.heap.size ≤ k_)) k_ from fun k_ hk => (Nat.le_trans (bsz (by repeat (with_reducible first | exact HB.out | apply bal | apply pbN | apply bdw))) hk)) _ (Nat.le_refl _)) (Below.refl _ _) (Nat.le_refl _) (by simp) ?_; (case hd => rfl); (case hg => rfl); (case hr => first | (go_simp; done) | (go_simp; rfl)); (case hp => exact (Reps.none _ _)); intro v120 w4 ho5 hb hg_ hnew_; clear hg_ hnew_; (first | rw [← Ny119.out] at ho5 | (simp only [Int.reduceToNat] at ho5; rw [← Ny119.out] at ho5)); have n0_ := As0.mk (Kd.N_lower ho5 (bsz (by repeat (with_reducible first | exact HB.out | apply bal | apply pbN | apply bdw)))); have n1_ := As0.mk (bsp (by repeat (with_reducible first | exact HB.out | apply bal | apply pbN | apply bdw)) hb); clear HB; have HO121 := n0_; have HB := n1_; clear n0_ n1_; clear hb ho5)))
 go_loopg [7, 8] k (fun kq v7 v8 w' => ∃ (x7_1 : List (List Int)) (x8_1 : Int), v8 = .int .i64 x8_1 ∧ As0 (spec_l16Costs.l0 kq l0 a1 a2 x7_1 x8_1 = some r) ∧ As0 (kq ≤ k) ∧ As0 (Kd.N (Kd.slice 2 (Kd.int .i64)) 30 w' w.heap.size (fun k_ => (w.heap.size ≤ k_)) v7 x7_1) ∧ As0 (Below w.heap.size w w'))
 case atStart => exact ⟨(y119), (0), (by first | rfl | (simp; done) | (simp [*]; done)), H', ⟨Nat.le_refl _⟩, ⟨by (with_reducible repeat (first | apply Kd.N_alloc | apply Kd.N_drewN | apply Kd.N_drew)); exact HO121.out⟩, ⟨by repeat (with_reducible first | exact HB.out | apply bal | apply pbN | apply bdw)⟩⟩
 case round =>
  clear H'
  try clear c2
  try clear p2
  obtain ⟨x7_1, x8_1, rfl, HA, HK1, HO_7, HB⟩ := hrel
  cases gk with
  | zero => exact absurd HA.out (by simp [spec_l16Costs.l0])
  | succ k1 =>
   have H := HA.out
   clear HA
   simp only [spec_l16Costs.l0] at H
   by_cases c6 : x8_1 ≤ a1
   ·as_aux_lemma =>
    rw [if_pos c6] at H
    have c6b0 : decide (x8_1 ≤ a1) = true := decide_eq_true c6
    clear c6
    obtain ⟨y122, hy122⟩ : ∃ y_ : List Int, y_ = (([] : List Int)) := ⟨_, rfl⟩
    replace H : (spec_l16Costs.l1 k1 l0 a1 a2 x7_1 x8_1 y122 0) = some r := by first | (rw [hy122]; with_reducible exact H) | (have H2_ := (Option.bind_some _ _).symm.trans H; rw [hy122]; with_reducible exact H2_) | (have H2_ := (Option.bind_some _ _).symm.trans H; with_reducible exact H2_) | with_reducible exact H | (rw [hy122]; exact H) | exact H
    have Ny122 := As0.mk hy122
    clear hy122
    have H' := As0.mk H
    clear H
    go_wp2_with (first | ((with_reducible refine gate_dst (N := 26) rfl ?_); refine Kd.R_lit (Kd.int .i64) _ 2 ?hg (N := 26) ?hd (xs := ([] : List Int)) (inner := []) (ok := fun _ => True) (okp := fun _ => True) ?hr ?hp (fun _ hk => hk) trivial (Below.refl _ _) (Nat.le_refl _) (by simp) ?_; (case hd => rfl); (case hg => rfl); (case hr => first | (go_simp; done) | (go_simp; rfl)); (case hp => exact (Reps.none _ _)); intro v123 w7 ho8 hb hg_ hnew_; clear hg_ hnew_; (first | rw [← Ny122.out] at ho8 | (simp only [Int.reduceToNat] at ho8; rw [← Ny122.out] at ho8)); have n0_ := As0.mk (Kd.N_elder' (by (with_reducible repeat (first | apply Kd.N_alloc | apply Kd.N_drewN | apply Kd.N_drew)); exact HO_7.out) (Kd.R_base ho8) hb); have n1_ := As0.mk (Kd.R_lower (Kd.R_newM (M := fun k_ => (w.heap.size ≤ k_)) ho8 (bsz (by repeat (with_reducible first | exact HB.out | apply bal | apply pbN | apply bdw))) (fun k_ h_ => h_)) (bsz (by repeat (with_reducible first | exact HB.out | apply bal | apply pbN | apply bdw)))); have n2_ := As0.mk (bsp (by repeat (with_reducible first | exact HB.out | apply bal | apply pbN | apply bdw)) hb); clear HO_7; clear HB; have HO_7 := n0_; have HO124 := n1_; have HB := n2_; clear n0_ n1_ n2_; clear hb ho8))
    repeat (go_quiet (first | ((with_reducible refine gate_dst (N := 26) rfl ?_); refine Kd.R_lit (Kd.int .i64) _ 2 ?hg (N := 26) ?hd (xs := ([] : List Int)) (inner := []) (ok := fun _ => True) (okp := fun _ => True) ?hr ?hp (fun _ hk => hk) trivial (Below.refl _ _) (Nat.le_refl _) (by simp) ?_; (case hd => rfl); (case hg => rfl); (case hr => first | (go_simp; done) | (go_simp; rfl)); (case hp => exact (Reps.none _ _)); intro v123 w7 ho8 hb hg_ hnew_; clear hg_ hnew_; (first | rw [← Ny122.out] at ho8 | (simp only [Int.reduceToNat] at ho8; rw [← Ny122.out] at ho8)); have n0_ := As0.mk (Kd.N_elder' (by (with_reducible repeat (first | apply Kd.N_alloc | apply Kd.N_drewN | apply Kd.N_drew)); exact HO_7.out) (Kd.R_base ho8) hb); have n1_ := As0.mk (Kd.R_lower (Kd.R_newM (M := fun k_ => (w.heap.size ≤ k_)) ho8 (bsz (by repeat (with_reducible first | exact HB.out | apply bal | apply pbN | apply bdw))) (fun k_ h_ => h_)) (bsz (by repeat (with_reducible first | exact HB.out | apply bal | apply pbN | apply bdw)))); have n2_ := As0.mk (bsp (by repeat (with_reducible first | exact HB.out | apply bal | apply pbN | apply bdw)) hb); clear HO_7; clear HB; have HO_7 := n0_; have HO124 := n1_; have HB := n2_; clear n0_ n1_ n2_; clear hb ho8)); try go_wp2_with (first | ((with_reducible refine gate_dst (N := 26) rfl ?_); refine Kd.R_lit (Kd.int .i64) _ 2 ?hg (N := 26) ?hd (xs := ([] : List Int)) (inner := []) (ok := fun _ => True) (okp := fun _ => True) ?hr ?hp (fun _ hk => hk) trivial (Below.refl _ _) (Nat.le_refl _) (by simp) ?_; (case hd => rfl); (case hg => rfl); (case hr => first | (go_simp; done) | (go_simp; rfl)); (case hp => exact (Reps.none _ _)); intro v123 w7 ho8 hb hg_ hnew_; clear hg_ hnew_; (first | rw [← Ny122.out] at ho8 | (simp only [Int.reduceToNat] at ho8; rw [← Ny122.out] at ho8)); have n0_ := As0.mk (Kd.N_elder' (by (with_reducible repeat (first | apply Kd.N_alloc | apply Kd.N_drewN | apply Kd.N_drew)); exact HO_7.out) (Kd.R_base ho8) hb); have n1_ := As0.mk (Kd.R_lower (Kd.R_newM (M := fun k_ => (w.heap.size ≤ k_)) ho8 (bsz (by repeat (with_reducible first | exact HB.out | apply bal | apply pbN | apply bdw))) (fun k_ h_ => h_)) (bsz (by repeat (with_reducible first | exact HB.out | apply bal | apply pbN | apply bdw)))); have n2_ := As0.mk (bsp (by repeat (with_reducible first | exact HB.out | apply bal | apply pbN | apply bdw)) hb); clear HO_7; clear HB; have HO_7 := n0_; have HO124 := n1_; have HB := n2_; clear n0_ n1_ n2_; clear hb ho8)))
    go_loopg [9, 10] k1 (fun kq v9 v10 w' => ∃ (x9_2 : List Int) (x10_2 : Int), v10 = .int .i64 x10_2 ∧ As0 (spec_l16Costs.l1 kq l0 a1 a2 x7_1 x8_1 x9_2 x10_2 = some r) ∧ As0 (kq ≤ k1) ∧ As0 (Kd.N (Kd.slice 2 (Kd.int .i64)) 30 w' w.heap.size (fun k_ => (w.heap.size ≤ k_) ∧ some k_ ≠ (v9 : Value).ownBlock) u7 x7_1) ∧ As0 (Kd.R (Kd.int .i64) 2 w' w.heap.size (fun k_ => (w.heap.size ≤ k_)) v9 x9_2) ∧ As0 (Below w.heap.size w w'))
    case atStart => exact ⟨(y122), (0), (by first | rfl | (simp; done) | (simp [*]; done)), H', ⟨Nat.le_refl _⟩, ⟨by (with_reducible repeat (first | apply Kd.N_alloc | apply Kd.N_drewN | apply Kd.N_drew)); exact HO_7.out⟩, ⟨by (with_reducible repeat (first | apply Kd.R_alloc | apply Kd.R_drewN | apply Kd.R_drew)); exact Kd.R_mono HO124.out (fun _ hk => hk.1)⟩, ⟨by repeat (with_reducible first | exact HB.out | apply bal | apply pbN | apply bdw)⟩⟩
    case round =>
     clear H'
     try clear c2
     try clear p2
     try clear c6
     try clear c6b0
     try clear p2
     obtain ⟨x9_2, x10_2, rfl, HA, HK2, HO_7, HO_9, HB⟩ := hrel
     cases gk with
     | zero => exact absurd HA.out (by simp [spec_l16Costs.l1])
     | succ k2 =>
      have H := HA.out
      clear HA
      simp only [spec_l16Costs.l1] at H
      by_cases c9 : x10_2 ≤ a2
      ·rw [if_pos c9] at H
       have c9b0 : decide (x10_2 ≤ a2) = true := decide_eq_true c9
       clear c9
       by_cases c10 : x8_1 = 0
       ·rw [if_pos c10] at H
        have c10b0 : (x8_1 == 0) = true := beq_iff_eq.mpr c10
        have c10b1 : (x8_1 != 0) = false := bne_eq_false_iff_eq.mpr c10
        clear c10
        by_cases c11 : x9_2.length < 17592186044416
        ·rw [if_pos c11] at H
         have LMc11 := As0.mk c11
         clear c11
         obtain ⟨y125, hy125⟩ : ∃ y_ : List Int, y_ = (x9_2 ++ [0]) := ⟨_, rfl⟩
         replace H : (spec_l16Costs.l1 k2 l0 a1 a2 x7_1 x8_1 y125 (wrap64 (x10_2 + 1))) = some r := by first | (rw [hy125]; with_reducible exact H) | (have H2_ := (Option.bind_some _ _).symm.trans H; rw [hy125]; with_reducible exact H2_) | (have H2_ := (Option.bind_some _ _).symm.trans H; with_reducible exact H2_) | with_reducible exact H | (rw [hy125]; exact H) | exact H
         have Ny125 := As0.mk hy125
         clear hy125
         have H' := As0.mk H
         clear H
         go_wp2_with (first | ((with_reducible refine gbu (b := .append) (xs := #[.tmp 34, .tmp 35]) rfl ?_); at_builtin; refine Kd.R_append (Kd.int .i64) (w0 := w) w.heap.size rfl (.tmp 34) (.tmp 35) 30 2 (.int .i64 0) 8 rfl Try.underlying30 info2 rfl (by decide) (by omega) u9 x9_2 0 [.int .i64 0] (fun k_ => (w.heap.size ≤ k_)) (fun _ => False) rfl rfl ?aP (fun _ hk => hk.elim) ?aF ?aO ?aB ?aS ?aL ?_; (case aP => exact rfl); (case aB => exact (by repeat (with_reducible first | exact HB.out | apply bal | apply pbN | apply bdw))); (case aF => exact (fun k_ hk => (Nat.le_trans (bsz (by repeat (with_reducible first | exact HB.out | apply bal | apply pbN | apply bdw))) hk))); (case aO => exact (by (with_reducible repeat (first | apply Kd.R_alloc | apply Kd.R_drewN | apply Kd.R_drew)); exact HO_9.out)); (case aS => exact (bsz (by repeat (with_reducible first | exact HB.out | apply bal | apply pbN | apply bdw)))); (case aL => have := LMc11.out; omega); intro v126 w12 ho hb hg hat; rw [← Ny125.out] at ho; have n0_ := As0.mk (Kd.N_afterv (ok := (fun k_ => (w.heap.size ≤ k_))) (by (with_reducible repeat (first | apply Kd.N_alloc | apply Kd.N_drewN | apply Kd.N_drew)); exact HO_7.out) hg hat); have n1_ := As0.mk (hb); have n2_ := As0.mk (ho); clear HO_7; clear HB; clear HO_9; have HO_7 := n0_; have HB := n1_; have HO127 := n2_; clear n0_ n1_ n2_; clear ho hb hg hat))
         repeat (go_quiet (first | ((with_reducible refine gbu (b := .append) (xs := #[.tmp 34, .tmp 35]) rfl ?_); at_builtin; refine Kd.R_append (Kd.int .i64) (w0 := w) w.heap.size rfl (.tmp 34) (.tmp 35) 30 2 (.int .i64 0) 8 rfl Try.underlying30 info2 rfl (by decide) (by omega) u9 x9_2 0 [.int .i64 0] (fun k_ => (w.heap.size ≤ k_)) (fun _ => False) rfl rfl ?aP (fun _ hk => hk.elim) ?aF ?aO ?aB ?aS ?aL ?_; (case aP => exact rfl); (case aB => exact (by repeat (with_reducible first | exact HB.out | apply bal | apply pbN | apply bdw))); (case aF => exact (fun k_ hk => (Nat.le_trans (bsz (by repeat (with_reducible first | exact HB.out | apply bal | apply pbN | apply bdw))) hk))); (case aO => exact (by (with_reducible repeat (first | apply Kd.R_alloc | apply Kd.R_drewN | apply Kd.R_drew)); exact HO_9.out)); (case aS => exact (bsz (by repeat (with_reducible first | exact HB.out | apply bal | apply pbN | apply bdw)))); (case aL => have := LMc11.out; omega); intro v126 w12 ho hb hg hat; rw [← Ny125.out] at ho; have n0_ := As0.mk (Kd.N_afterv (ok := (fun k_ => (w.heap.size ≤ k_))) (by (with_reducible repeat (first | apply Kd.N_alloc | apply Kd.N_drewN | apply Kd.N_drew)); exact HO_7.out) hg hat); have n1_ := As0.mk (hb); have n2_ := As0.mk (ho); clear HO_7; clear HB; clear HO_9; have HO_7 := n0_; have HB := n1_; have HO127 := n2_; clear n0_ n1_ n2_; clear ho hb hg hat)); try go_wp2_with (first | ((with_reducible refine gbu (b := .append) (xs := #[.tmp 34, .tmp 35]) rfl ?_); at_builtin; refine Kd.R_append (Kd.int .i64) (w0 := w) w.heap.size rfl (.tmp 34) (.tmp 35) 30 2 (.int .i64 0) 8 rfl Try.underlying30 info2 rfl (by decide) (by omega) u9 x9_2 0 [.int .i64 0] (fun k_ => (w.heap.size ≤ k_)) (fun _ => False) rfl rfl ?aP (fun _ hk => hk.elim) ?aF ?aO ?aB ?aS ?aL ?_; (case aP => exact rfl); (case aB => exact (by repeat (with_reducible first | exact HB.out | apply bal | apply pbN | apply bdw))); (case aF => exact (fun k_ hk => (Nat.le_trans (bsz (by repeat (with_reducible first | exact HB.out | apply bal | apply pbN | apply bdw))) hk))); (case aO => exact (by (with_reducible repeat (first | apply Kd.R_alloc | apply Kd.R_drewN | apply Kd.R_drew)); exact HO_9.out)); (case aS => exact (bsz (by repeat (with_reducible first | exact HB.out | apply bal | apply pbN | apply bdw)))); (case aL => have := LMc11.out; omega); intro v126 w12 ho hb hg hat; rw [← Ny125.out] at ho; have n0_ := As0.mk (Kd.N_afterv (ok := (fun k_ => (w.heap.size ≤ k_))) (by (with_reducible repeat (first | apply Kd.N_alloc | apply Kd.N_drewN | apply Kd.N_drew)); exact HO_7.out) hg hat); have n1_ := As0.mk (hb); have n2_ := As0.mk (ho); clear HO_7; clear HB; clear HO_9; have HO_7 := n0_; have HB := n1_; have HO127 := n2_; clear n0_ n1_ n2_; clear ho hb hg hat)))
         go_roundg k2
         case measure => have := HK1.out; have := HK2.out; omega
         case rel => exact ⟨(y125), (wrap64 (x10_2 + 1)), (by first | rfl | (simp; done) | (simp [*]; done)), H', ⟨by have := HK1.out; have := HK2.out; omega⟩, ⟨by (with_reducible repeat (first | apply Kd.N_alloc | apply Kd.N_drewN | apply Kd.N_drew)); exact HO_7.out⟩, ⟨by (with_reducible repeat (first | apply Kd.R_alloc | apply Kd.R_drewN | apply Kd.R_drew)); exact HO127.out⟩, ⟨by repeat (with_reducible first | exact HB.out | apply bal | apply pbN | apply bdw)⟩⟩
        ·rw [if_neg c11] at H
         exact absurd H (by simp)
       ·rw [if_neg c10] at H
        have c10b0 : (x8_1 == 0) = false := beq_eq_false_iff_ne.mpr c10
        have c10b1 : (x8_1 != 0) = true := bne_iff_ne.mpr c10
        by_cases c13 : x9_2.length < 17592186044416
        ·rw [if_pos c13] at H
         have LMc13 := As0.mk c13
         clear c13
         obtain ⟨y128, hy128⟩ : ∃ y_ : List Int, y_ = (x9_2 ++ [(-1)]) := ⟨_, rfl⟩
         replace H : (spec_l16Costs.l1 k2 l0 a1 a2 x7_1 x8_1 y128 (wrap64 (x10_2 + 1))) = some r := by first | (rw [hy128]; with_reducible exact H) | (have H2_ := (Option.bind_some _ _).symm.trans H; rw [hy128]; with_reducible exact H2_) | (have H2_ := (Option.bind_some _ _).symm.trans H; with_reducible exact H2_) | with_reducible exact H | (rw [hy128]; exact H) | exact H
         have Ny128 := As0.mk hy128
         clear hy128
         have H' := As0.mk H
         clear H
         go_wp2_with (first | ((with_reducible refine gbu (b := .append) (xs := #[.tmp 37, .tmp 38]) rfl ?_); at_builtin; refine Kd.R_append (Kd.int .i64) (w0 := w) w.heap.size rfl (.tmp 37) (.tmp 38) 30 2 (.int .i64 0) 8 rfl Try.underlying30 info2 rfl (by decide) (by omega) u9 x9_2 (-1) [.int .i64 (-1)] (fun k_ => (w.heap.size ≤ k_)) (fun _ => False) rfl rfl ?aP (fun _ hk => hk.elim) ?aF ?aO ?aB ?aS ?aL ?_; (case aP => exact rfl); (case aB => exact (by repeat (with_reducible first | exact HB.out | apply bal | apply pbN | apply bdw))); (case aF => exact (fun k_ hk => (Nat.le_trans (bsz (by repeat (with_reducible first | exact HB.out | apply bal | apply pbN | apply bdw))) hk))); (case aO => exact (by (with_reducible repeat (first | apply Kd.R_alloc | apply Kd.R_drewN | apply Kd.R_drew)); exact HO_9.out)); (case aS => exact (bsz (by repeat (with_reducible first | exact HB.out | apply bal | apply pbN | apply bdw)))); (case aL => have := LMc13.out; omega); intro v129 w14 ho hb hg hat; rw [← Ny128.out] at ho; have n0_ := As0.mk (Kd.N_afterv (ok := (fun k_ => (w.heap.size ≤ k_))) (by (with_reducible repeat (first | apply Kd.N_alloc | apply Kd.N_drewN | apply Kd.N_drew)); exact HO_7.out) hg hat); have n1_ := As0.mk (hb); have n2_ := As0.mk (ho); clear HO_7; clear HB; clear HO_9; have HO_7 := n0_; have HB := n1_; have HO130 := n2_; clear n0_ n1_ n2_; clear ho hb hg hat))
         repeat (go_quiet (first | ((with_reducible refine gbu (b := .append) (xs := #[.tmp 37, .tmp 38]) rfl ?_); at_builtin; refine Kd.R_append (Kd.int .i64) (w0 := w) w.heap.size rfl (.tmp 37) (.tmp 38) 30 2 (.int .i64 0) 8 rfl Try.underlying30 info2 rfl (by decide) (by omega) u9 x9_2 (-1) [.int .i64 (-1)] (fun k_ => (w.heap.size ≤ k_)) (fun _ => False) rfl rfl ?aP (fun _ hk => hk.elim) ?aF ?aO ?aB ?aS ?aL ?_; (case aP => exact rfl); (case aB => exact (by repeat (with_reducible first | exact HB.out | apply bal | apply pbN | apply bdw))); (case aF => exact (fun k_ hk => (Nat.le_trans (bsz (by repeat (with_reducible first | exact HB.out | apply bal | apply pbN | apply bdw))) hk))); (case aO => exact (by (with_reducible repeat (first | apply Kd.R_alloc | apply Kd.R_drewN | apply Kd.R_drew)); exact HO_9.out)); (case aS => exact (bsz (by repeat (with_reducible first | exact HB.out | apply bal | apply pbN | apply bdw)))); (case aL => have := LMc13.out; omega); intro v129 w14 ho hb hg hat; rw [← Ny128.out] at ho; have n0_ := As0.mk (Kd.N_afterv (ok := (fun k_ => (w.heap.size ≤ k_))) (by (with_reducible repeat (first | apply Kd.N_alloc | apply Kd.N_drewN | apply Kd.N_drew)); exact HO_7.out) hg hat); have n1_ := As0.mk (hb); have n2_ := As0.mk (ho); clear HO_7; clear HB; clear HO_9; have HO_7 := n0_; have HB := n1_; have HO130 := n2_; clear n0_ n1_ n2_; clear ho hb hg hat)); try go_wp2_with (first | ((with_reducible refine gbu (b := .append) (xs := #[.tmp 37, .tmp 38]) rfl ?_); at_builtin; refine Kd.R_append (Kd.int .i64) (w0 := w) w.heap.size rfl (.tmp 37) (.tmp 38) 30 2 (.int .i64 0) 8 rfl Try.underlying30 info2 rfl (by decide) (by omega) u9 x9_2 (-1) [.int .i64 (-1)] (fun k_ => (w.heap.size ≤ k_)) (fun _ => False) rfl rfl ?aP (fun _ hk => hk.elim) ?aF ?aO ?aB ?aS ?aL ?_; (case aP => exact rfl); (case aB => exact (by repeat (with_reducible first | exact HB.out | apply bal | apply pbN | apply bdw))); (case aF => exact (fun k_ hk => (Nat.le_trans (bsz (by repeat (with_reducible first | exact HB.out | apply bal | apply pbN | apply bdw))) hk))); (case aO => exact (by (with_reducible repeat (first | apply Kd.R_alloc | apply Kd.R_drewN | apply Kd.R_drew)); exact HO_9.out)); (case aS => exact (bsz (by repeat (with_reducible first | exact HB.out | apply bal | apply pbN | apply bdw)))); (case aL => have := LMc13.out; omega); intro v129 w14 ho hb hg hat; rw [← Ny128.out] at ho; have n0_ := As0.mk (Kd.N_afterv (ok := (fun k_ => (w.heap.size ≤ k_))) (by (with_reducible repeat (first | apply Kd.N_alloc | apply Kd.N_drewN | apply Kd.N_drew)); exact HO_7.out) hg hat); have n1_ := As0.mk (hb); have n2_ := As0.mk (ho); clear HO_7; clear HB; clear HO_9; have HO_7 := n0_; have HB := n1_; have HO130 := n2_; clear n0_ n1_ n2_; clear ho hb hg hat)))
         go_roundg k2
         case measure => have := HK1.out; have := HK2.out; omega
         case rel => exact ⟨(y128), (wrap64 (x10_2 + 1)), (by first | rfl | (simp; done) | (simp [*]; done)), H', ⟨by have := HK1.out; have := HK2.out; omega⟩, ⟨by (with_reducible repeat (first | apply Kd.N_alloc | apply Kd.N_drewN | apply Kd.N_drew)); exact HO_7.out⟩, ⟨by (with_reducible repeat (first | apply Kd.R_alloc | apply Kd.R_drewN | apply Kd.R_drew)); exact HO130.out⟩, ⟨by repeat (with_reducible first | exact HB.out | apply bal | apply pbN | apply bdw)⟩⟩
        ·rw [if_neg c13] at H
         exact absurd H (by simp)
      ·rw [if_neg c9] at H
       have c9b0 : decide (x10_2 ≤ a2) = false := decide_eq_false c9
       clear c9
       by_cases c15 : x7_1.length < 5864062014805
       ·rw [if_pos c15] at H
        have LMc15 := As0.mk c15
        clear c15
        obtain ⟨y131, hy131⟩ : ∃ y_ : List (List Int), y_ = (x7_1 ++ [x9_2]) := ⟨_, rfl⟩
        replace H : (spec_l16Costs.l0 k2 l0 a1 a2 y131 (wrap64 (x8_1 + 1))) = some r := by first | (rw [hy131]; with_reducible exact H) | (have H2_ := (Option.bind_some _ _).symm.trans H; rw [hy131]; with_reducible exact H2_) | (have H2_ := (Option.bind_some _ _).symm.trans H; with_reducible exact H2_) | with_reducible exact H | (rw [hy131]; exact H) | exact H
        have Ny131 := As0.mk hy131
        clear hy131
        have H' := As0.mk H
        clear H
        obtain ⟨Ao17, co17, eo17⟩ := Kd.R_slice HO_9.out
        subst eo17
        go_wp2_with (first | ((with_reducible refine gbu (b := .append) (xs := #[.tmp 40, .tmp 42]) rfl ?_); at_builtin; refine Kd.N_append (Kd.slice 2 (Kd.int .i64)) (w0 := w) w.heap.size rfl (.tmp 40) (.tmp 42) 45 30 (.slice none 0 0) 24 rfl Try.underlying45 info30 rfl (by decide) (by omega) u7 x7_1 x9_2 [.slice Ao17 x9_2.length co17] (fun k_ => (w.heap.size ≤ k_)) (fun k_ => ((fun k_ => (w.heap.size ≤ k_))) k_ ∧ some k_ ≠ (u7 : Value).ownBlock) rfl rfl ?aP (fun _ hk => hk) ?aF ?aO ?aB ?aS ?aL ?_; (case aP => exact (Kd.FK_slice_mk (Kd.R_reads' (Kd.R_mono (ok' := (fun k_ => ((fun k_ => (w.heap.size ≤ k_))) k_ ∧ some k_ ≠ (u7 : Value).ownBlock)) (Kd.R_apart' (HO_9.out) (Kd.N_typed HO_7.out) (by decide)) (fun k_ hk => ⟨hk.1, hk.2⟩))).2.1 (Kd.R_F (Kd.R_mono (ok' := (fun k_ => ((fun k_ => (w.heap.size ≤ k_))) k_ ∧ some k_ ≠ (u7 : Value).ownBlock)) (Kd.R_apart' (HO_9.out) (Kd.N_typed HO_7.out) (by decide)) (fun k_ hk => ⟨hk.1, hk.2⟩))))); (case aB => exact (by repeat (with_reducible first | exact HB.out | apply bal | apply pbN | apply bdw))); (case aF => exact (fun k_ hk => (Nat.le_trans (bsz (by repeat (with_reducible first | exact HB.out | apply bal | apply pbN | apply bdw))) hk))); (case aO => exact (by (with_reducible repeat (first | apply Kd.N_alloc | apply Kd.N_drewN | apply Kd.N_drew)); exact Kd.N_mono HO_7.out (fun _ hk => hk.1))); (case aS => exact (bsz (by repeat (with_reducible first | exact HB.out | apply bal | apply pbN | apply bdw)))); (case aL => have := LMc15.out; omega); intro v132 w16 ho hb hg hat; rw [← Ny131.out] at ho; have n0_ := As0.mk (hb); have n1_ := As0.mk (ho); clear HB; clear HO_7; clear HO_9; have HB := n0_; have HO133 := n1_; clear n0_ n1_; clear ho hb hg hat))
        repeat (go_quiet (first | ((with_reducible refine gbu (b := .append) (xs := #[.tmp 40, .tmp 42]) rfl ?_); at_builtin; refine Kd.N_append (Kd.slice 2 (Kd.int .i64)) (w0 := w) w.heap.size rfl (.tmp 40) (.tmp 42) 45 30 (.slice none 0 0) 24 rfl Try.underlying45 info30 rfl (by decide) (by omega) u7 x7_1 x9_2 [.slice Ao17 x9_2.length co17] (fun k_ => (w.heap.size ≤ k_)) (fun k_ => ((fun k_ => (w.heap.size ≤ k_))) k_ ∧ some k_ ≠ (u7 : Value).ownBlock) rfl rfl ?aP (fun _ hk => hk) ?aF ?aO ?aB ?aS ?aL ?_; (case aP => exact (Kd.FK_slice_mk (Kd.R_reads' (Kd.R_mono (ok' := (fun k_ => ((fun k_ => (w.heap.size ≤ k_))) k_ ∧ some k_ ≠ (u7 : Value).ownBlock)) (Kd.R_apart' (HO_9.out) (Kd.N_typed HO_7.out) (by decide)) (fun k_ hk => ⟨hk.1, hk.2⟩))).2.1 (Kd.R_F (Kd.R_mono (ok' := (fun k_ => ((fun k_ => (w.heap.size ≤ k_))) k_ ∧ some k_ ≠ (u7 : Value).ownBlock)) (Kd.R_apart' (HO_9.out) (Kd.N_typed HO_7.out) (by decide)) (fun k_ hk => ⟨hk.1, hk.2⟩))))); (case aB => exact (by repeat (with_reducible first | exact HB.out | apply bal | apply pbN | apply bdw))); (case aF => exact (fun k_ hk => (Nat.le_trans (bsz (by repeat (with_reducible first | exact HB.out | apply bal | apply pbN | apply bdw))) hk))); (case aO => exact (by (with_reducible repeat (first | apply Kd.N_alloc | apply Kd.N_drewN | apply Kd.N_drew)); exact Kd.N_mono HO_7.out (fun _ hk => hk.1))); (case aS => exact (bsz (by repeat (with_reducible first | exact HB.out | apply bal | apply pbN | apply bdw)))); (case aL => have := LMc15.out; omega); intro v132 w16 ho hb hg hat; rw [← Ny131.out] at ho; have n0_ := As0.mk (hb); have n1_ := As0.mk (ho); clear HB; clear HO_7; clear HO_9; have HB := n0_; have HO133 := n1_; clear n0_ n1_; clear ho hb hg hat)); try go_wp2_with (first | ((with_reducible refine gbu (b := .append) (xs := #[.tmp 40, .tmp 42]) rfl ?_); at_builtin; refine Kd.N_append (Kd.slice 2 (Kd.int .i64)) (w0 := w) w.heap.size rfl (.tmp 40) (.tmp 42) 45 30 (.slice none 0 0) 24 rfl Try.underlying45 info30 rfl (by decide) (by omega) u7 x7_1 x9_2 [.slice Ao17 x9_2.length co17] (fun k_ => (w.heap.size ≤ k_)) (fun k_ => ((fun k_ => (w.heap.size ≤ k_))) k_ ∧ some k_ ≠ (u7 : Value).ownBlock) rfl rfl ?aP (fun _ hk => hk) ?aF ?aO ?aB ?aS ?aL ?_; (case aP => exact (Kd.FK_slice_mk (Kd.R_reads' (Kd.R_mono (ok' := (fun k_ => ((fun k_ => (w.heap.size ≤ k_))) k_ ∧ some k_ ≠ (u7 : Value).ownBlock)) (Kd.R_apart' (HO_9.out) (Kd.N_typed HO_7.out) (by decide)) (fun k_ hk => ⟨hk.1, hk.2⟩))).2.1 (Kd.R_F (Kd.R_mono (ok' := (fun k_ => ((fun k_ => (w.heap.size ≤ k_))) k_ ∧ some k_ ≠ (u7 : Value).ownBlock)) (Kd.R_apart' (HO_9.out) (Kd.N_typed HO_7.out) (by decide)) (fun k_ hk => ⟨hk.1, hk.2⟩))))); (case aB => exact (by repeat (with_reducible first | exact HB.out | apply bal | apply pbN | apply bdw))); (case aF => exact (fun k_ hk => (Nat.le_trans (bsz (by repeat (with_reducible first | exact HB.out | apply bal | apply pbN | apply bdw))) hk))); (case aO => exact (by (with_reducible repeat (first | apply Kd.N_alloc | apply Kd.N_drewN | apply Kd.N_drew)); exact Kd.N_mono HO_7.out (fun _ hk => hk.1))); (case aS => exact (bsz (by repeat (with_reducible first | exact HB.out | apply bal | apply pbN | apply bdw)))); (case aL => have := LMc15.out; omega); intro v132 w16 ho hb hg hat; rw [← Ny131.out] at ho; have n0_ := As0.mk (hb); have n1_ := As0.mk (ho); clear HB; clear HO_7; clear HO_9; have HB := n0_; have HO133 := n1_; clear n0_ n1_; clear ho hb hg hat)))
        go_roundg k2
        case measure => have := HK1.out; have := HK2.out; omega
        case rel => exact ⟨(y131), (wrap64 (x8_1 + 1)), (by first | rfl | (simp; done) | (simp [*]; done)), H', ⟨by have := HK1.out; have := HK2.out; omega⟩, ⟨by (with_reducible repeat (first | apply Kd.N_alloc | apply Kd.N_drewN | apply Kd.N_drew)); exact HO133.out⟩, ⟨by repeat (with_reducible first | exact HB.out | apply bal | apply pbN | apply bdw)⟩⟩
       ·rw [if_neg c15] at H
        exact absurd H (by simp)
   ·as_aux_lemma =>
    rw [if_neg c6] at H
    have c6b0 : decide (x8_1 ≤ a1) = false := decide_eq_false c6
    clear c6
    obtain ⟨y134, hy134⟩ : ∃ y_ : List (List (List Int)), y_ = (([x7_1] : List (List (List Int)))) := ⟨_, rfl⟩
    replace H : (spec_l16Costs.l2 k1 l0 a1 a2 y134 (wrap64 ((l0.length : Int) - 1))) = some r := by first | (rw [hy134]; with_reducible exact H) | (have H2_ := (Option.bind_some _ _).symm.trans H; rw [hy134]; with_reducible exact H2_) | (have H2_ := (Option.bind_some _ _).symm.trans H; with_reducible exact H2_) | with_reducible exact H | (rw [hy134]; exact H) | exact H
    have Ny134 := As0.mk hy134
    clear hy134
    have H' := As0.mk H
    clear H
    obtain ⟨Ao18, co18, eo18⟩ := Kd.N_slice HO_7.out
    subst eo18
    go_wp2_with (first | ((with_reducible refine gate_dst (N := 45) rfl ?_); refine Kd.N_lit (Kd.slice 30 (Kd.slice 2 (Kd.int .i64))) _ 45 ?hg (N' := 45) ?hd (xs := ([x7_1] : List (List (List Int)))) (inner := [.slice Ao18 x7_1.length co18]) (ok := (fun k_ => (w.heap.size ≤ k_))) (okp := (fun k_ => (w.heap.size ≤ k_))) ?hr ?hp (fun _ hk => hk) ((show ∀ k_, wr.heap.size ≤ k_ → (fun k_ => (w.heap.size ≤ k_)) k_ from fun k_ hk => (Nat.le_trans (bsz (by repeat (with_reducible first | exact HB.out | apply bal | apply pbN | apply bdw))) hk)) _ (Nat.le_refl _)) (Below.refl _ _) (Nat.le_refl _) (by simp) ?_; (case hd => rfl); (case hg => rfl); (case hr => first | (go_simp; done) | (go_simp; rfl)); (case hp => exact (Reps.one (show Kd.FK (Kd.slice 30 (Kd.slice 2 (Kd.int .i64))) _ _ x7_1 [.slice Ao18 x7_1.length co18] from (Kd.FK_slice_mk (Kd.N_reads' (Kd.N_mono (ok' := (fun k_ => (w.heap.size ≤ k_))) (HO_7.out) (fun k_ hk => hk))).2.1 (Kd.N_F (Kd.N_mono (ok' := (fun k_ => (w.heap.size ≤ k_))) (HO_7.out) (fun k_ hk => hk))))) (Reps.none _ _))); intro v135 w19 ho20 hb hg_ hnew_; clear hg_ hnew_; (first | rw [← Ny134.out] at ho20 | (simp only [Int.reduceToNat] at ho20; rw [← Ny134.out] at ho20)); have n0_ := As0.mk (Kd.N_lower ho20 (bsz (by repeat (with_reducible first | exact HB.out | apply bal | apply pbN | apply bdw)))); have n1_ := As0.mk (bsp (by repeat (with_reducible first | exact HB.out | apply bal | apply pbN | apply bdw)) hb); clear HB; clear HO_7; have HO136 := n0_; have HB := n1_; clear n0_ n1_; clear hb ho20))
    repeat (go_quiet (first | ((with_reducible refine gate_dst (N := 45) rfl ?_); refine Kd.N_lit (Kd.slice 30 (Kd.slice 2 (Kd.int .i64))) _ 45 ?hg (N' := 45) ?hd (xs := ([x7_1] : List (List (List Int)))) (inner := [.slice Ao18 x7_1.length co18]) (ok := (fun k_ => (w.heap.size ≤ k_))) (okp := (fun k_ => (w.heap.size ≤ k_))) ?hr ?hp (fun _ hk => hk) ((show ∀ k_, wr.heap.size ≤ k_ → (fun k_ => (w.heap.size ≤ k_)) k_ from fun k_ hk => (Nat.le_trans (bsz (by repeat (with_reducible first | exact HB.out | apply bal | apply pbN | apply bdw))) hk)) _ (Nat.le_refl _)) (Below.refl _ _) (Nat.le_refl _) (by simp) ?_; (case hd => rfl); (case hg => rfl); (case hr => first | (go_simp; done) | (go_simp; rfl)); (case hp => exact (Reps.one (show Kd.FK (Kd.slice 30 (Kd.slice 2 (Kd.int .i64))) _ _ x7_1 [.slice Ao18 x7_1.length co18] from (Kd.FK_slice_mk (Kd.N_reads' (Kd.N_mono (ok' := (fun k_ => (w.heap.size ≤ k_))) (HO_7.out) (fun k_ hk => hk))).2.1 (Kd.N_F (Kd.N_mono (ok' := (fun k_ => (w.heap.size ≤ k_))) (HO_7.out) (fun k_ hk => hk))))) (Reps.none _ _))); intro v135 w19 ho20 hb hg_ hnew_; clear hg_ hnew_; (first | rw [← Ny134.out] at ho20 | (simp only [Int.reduceToNat] at ho20; rw [← Ny134.out] at ho20)); have n0_ := As0.mk (Kd.N_lower ho20 (bsz (by repeat (with_reducible first | exact HB.out | apply bal | apply pbN | apply bdw)))); have n1_ := As0.mk (bsp (by repeat (with_reducible first | exact HB.out | apply bal | apply pbN | apply bdw)) hb); clear HB; clear HO_7; have HO136 := n0_; have HB := n1_; clear n0_ n1_; clear hb ho20)); try go_wp2_with (first | ((with_reducible refine gate_dst (N := 45) rfl ?_); refine Kd.N_lit (Kd.slice 30 (Kd.slice 2 (Kd.int .i64))) _ 45 ?hg (N' := 45) ?hd (xs := ([x7_1] : List (List (List Int)))) (inner := [.slice Ao18 x7_1.length co18]) (ok := (fun k_ => (w.heap.size ≤ k_))) (okp := (fun k_ => (w.heap.size ≤ k_))) ?hr ?hp (fun _ hk => hk) ((show ∀ k_, wr.heap.size ≤ k_ → (fun k_ => (w.heap.size ≤ k_)) k_ from fun k_ hk => (Nat.le_trans (bsz (by repeat (with_reducible first | exact HB.out | apply bal | apply pbN | apply bdw))) hk)) _ (Nat.le_refl _)) (Below.refl _ _) (Nat.le_refl _) (by simp) ?_; (case hd => rfl); (case hg => rfl); (case hr => first | (go_simp; done) | (go_simp; rfl)); (case hp => exact (Reps.one (show Kd.FK (Kd.slice 30 (Kd.slice 2 (Kd.int .i64))) _ _ x7_1 [.slice Ao18 x7_1.length co18] from (Kd.FK_slice_mk (Kd.N_reads' (Kd.N_mono (ok' := (fun k_ => (w.heap.size ≤ k_))) (HO_7.out) (fun k_ hk => hk))).2.1 (Kd.N_F (Kd.N_mono (ok' := (fun k_ => (w.heap.size ≤ k_))) (HO_7.out) (fun k_ hk => hk))))) (Reps.none _ _))); intro v135 w19 ho20 hb hg_ hnew_; clear hg_ hnew_; (first | rw [← Ny134.out] at ho20 | (simp only [Int.reduceToNat] at ho20; rw [← Ny134.out] at ho20)); have n0_ := As0.mk (Kd.N_lower ho20 (bsz (by repeat (with_reducible first | exact HB.out | apply bal | apply pbN | apply bdw)))); have n1_ := As0.mk (bsp (by repeat (with_reducible first | exact HB.out | apply bal | apply pbN | apply bdw)) hb); clear HB; clear HO_7; have HO136 := n0_; have HB := n1_; clear n0_ n1_; clear hb ho20)))
    go_loopg [11, 12] k1 (fun kq v11 v12 w' => ∃ (x11_2 : List (List (List Int))) (x12_2 : Int), v12 = .int .i64 x12_2 ∧ As0 (spec_l16Costs.l2 kq l0 a1 a2 x11_2 x12_2 = some r) ∧ As0 (kq ≤ k1) ∧ As0 (Kd.N (Kd.slice 30 (Kd.slice 2 (Kd.int .i64))) 45 w' w.heap.size (fun k_ => (w.heap.size ≤ k_)) v11 x11_2) ∧ As0 (Below w.heap.size w w'))
    case atStart => exact ⟨(y134), (wrap64 ((l0.length : Int) - 1)), (by first | rfl | (simp; done) | (simp [*]; done)), H', ⟨Nat.le_refl _⟩, ⟨by (with_reducible repeat (first | apply Kd.N_alloc | apply Kd.N_drewN | apply Kd.N_drew)); exact HO136.out⟩, ⟨by repeat (with_reducible first | exact HB.out | apply bal | apply pbN | apply bdw)⟩⟩
    case round =>
     clear H'
     try clear c1
     try clear c2
     try clear p2
     try clear c6
     try clear c6b0
     try clear p6
     try clear c9
     try clear c9b0
     try clear c10
     try clear c10b0
     try clear c10b1
     try clear c11
     try clear c13
     try clear c15
     try clear p2
     obtain ⟨x11_2, x12_2, rfl, HA, HK2, HO_11, HB⟩ := hrel
     cases gk with
     | zero => exact absurd HA.out (by simp [spec_l16Costs.l2])
     | succ k2 =>
      have H := HA.out
      clear HA
      simp only [spec_l16Costs.l2] at H
      by_cases c21 : x12_2 ≥ 0
      ·as_aux_lemma =>
       rw [if_pos c21] at H
       have c21b0 : decide (0 ≤ x12_2) = true := decide_eq_true c21
       clear c21
       obtain ⟨y137, hy137⟩ : ∃ y_ : List (List Int), y_ = (([] : List (List Int))) := ⟨_, rfl⟩
       replace H : (spec_l16Costs.l3 k2 l0 a1 a2 x11_2 x12_2 y137 0) = some r := by first | (rw [hy137]; with_reducible exact H) | (have H2_ := (Option.bind_some _ _).symm.trans H; rw [hy137]; with_reducible exact H2_) | (have H2_ := (Option.bind_some _ _).symm.trans H; with_reducible exact H2_) | with_reducible exact H | (rw [hy137]; exact H) | exact H
       have Ny137 := As0.mk hy137
       clear hy137
       have H' := As0.mk H
       clear H
       go_wp2_with (first | ((with_reducible refine gate_dst (N := 53) rfl ?_); refine Kd.N_lit (Kd.slice 2 (Kd.int .i64)) _ 30 ?hg (N' := 53) ?hd (xs := ([] : List (List Int))) (inner := []) (ok := (fun k_ => (w.heap.size ≤ k_) ∧ some k_ ≠ (u11 : Value).ownBlock)) (okp := (fun k_ => (w.heap.size ≤ k_) ∧ some k_ ≠ (u11 : Value).ownBlock)) ?hr ?hp (fun _ hk => hk) ((show ∀ k_, wr.heap.size ≤ k_ → (fun k_ => (w.heap.size ≤ k_) ∧ some k_ ≠ (u11 : Value).ownBlock) k_ from fun k_ hk => ⟨(Nat.le_trans (bsz (by repeat (with_reducible first | exact HB.out | apply bal | apply pbN | apply bdw))) hk), Kd.fresh' (Kd.N_lt (by (with_reducible repeat (first | apply Kd.N_alloc | apply Kd.N_drewN | apply Kd.N_drew)); exact HO_11.out)) k_ hk⟩) _ (Nat.le_refl _)) (Below.refl _ _) (Nat.le_refl _) (by simp) ?_; (case hd => rfl); (case hg => rfl); (case hr => first | (go_simp; done) | (go_simp; rfl)); (case hp => exact (Reps.none _ _)); intro v138 w22 ho23 hb hg_ hnew_; clear hg_ hnew_; (first | rw [← Ny137.out] at ho23 | (simp only [Int.reduceToNat] at ho23; rw [← Ny137.out] at ho23)); have n0_ := As0.mk (Kd.N_elder' (by (with_reducible repeat (first | apply Kd.N_alloc | apply Kd.N_drewN | apply Kd.N_drew)); exact HO_11.out) (Kd.N_base ho23) hb); have n1_ := As0.mk (Kd.N_lower ho23 (bsz (by repeat (with_reducible first | exact HB.out | apply bal | apply pbN | apply bdw)))); have n2_ := As0.mk (bsp (by repeat (with_reducible first | exact HB.out | apply bal | apply pbN | apply bdw)) hb); clear HO_11; clear HB; have HO_11 := n0_; have HO139 := n1_; have HB := n2_; clear n0_ n1_ n2_; clear hb ho23))
       repeat (go_quiet (first | ((with_reducible refine gate_dst (N := 53) rfl ?_); refine Kd.N_lit (Kd.slice 2 (Kd.int .i64)) _ 30 ?hg (N' := 53) ?hd (xs := ([] : List (List Int))) (inner := []) (ok := (fun k_ => (w.heap.size ≤ k_) ∧ some k_ ≠ (u11 : Value).ownBlock)) (okp := (fun k_ => (w.heap.size ≤ k_) ∧ some k_ ≠ (u11 : Value).ownBlock)) ?hr ?hp (fun _ hk => hk) ((show ∀ k_, wr.heap.size ≤ k_ → (fun k_ => (w.heap.size ≤ k_) ∧ some k_ ≠ (u11 : Value).ownBlock) k_ from fun k_ hk => ⟨(Nat.le_trans (bsz (by repeat (with_reducible first | exact HB.out | apply bal | apply pbN | apply bdw))) hk), Kd.fresh' (Kd.N_lt (by (with_reducible repeat (first | apply Kd.N_alloc | apply Kd.N_drewN | apply Kd.N_drew)); exact HO_11.out)) k_ hk⟩) _ (Nat.le_refl _)) (Below.refl _ _) (Nat.le_refl _) (by simp) ?_; (case hd => rfl); (case hg => rfl); (case hr => first | (go_simp; done) | (go_simp; rfl)); (case hp => exact (Reps.none _ _)); intro v138 w22 ho23 hb hg_ hnew_; clear hg_ hnew_; (first | rw [← Ny137.out] at ho23 | (simp only [Int.reduceToNat] at ho23; rw [← Ny137.out] at ho23)); have n0_ := As0.mk (Kd.N_elder' (by (with_reducible repeat (first | apply Kd.N_alloc | apply Kd.N_drewN | apply Kd.N_drew)); exact HO_11.out) (Kd.N_base ho23) hb); have n1_ := As0.mk (Kd.N_lower ho23 (bsz (by repeat (with_reducible first | exact HB.out | apply bal | apply pbN | apply bdw)))); have n2_ := As0.mk (bsp (by repeat (with_reducible first | exact HB.out | apply bal | apply pbN | apply bdw)) hb); clear HO_11; clear HB; have HO_11 := n0_; have HO139 := n1_; have HB := n2_; clear n0_ n1_ n2_; clear hb ho23)); try go_wp2_with (first | ((with_reducible refine gate_dst (N := 53) rfl ?_); refine Kd.N_lit (Kd.slice 2 (Kd.int .i64)) _ 30 ?hg (N' := 53) ?hd (xs := ([] : List (List Int))) (inner := []) (ok := (fun k_ => (w.heap.size ≤ k_) ∧ some k_ ≠ (u11 : Value).ownBlock)) (okp := (fun k_ => (w.heap.size ≤ k_) ∧ some k_ ≠ (u11 : Value).ownBlock)) ?hr ?hp (fun _ hk => hk) ((show ∀ k_, wr.heap.size ≤ k_ → (fun k_ => (w.heap.size ≤ k_) ∧ some k_ ≠ (u11 : Value).ownBlock) k_ from fun k_ hk => ⟨(Nat.le_trans (bsz (by repeat (with_reducible first | exact HB.out | apply bal | apply pbN | apply bdw))) hk), Kd.fresh' (Kd.N_lt (by (with_reducible repeat (first | apply Kd.N_alloc | apply Kd.N_drewN | apply Kd.N_drew)); exact HO_11.out)) k_ hk⟩) _ (Nat.le_refl _)) (Below.refl _ _) (Nat.le_refl _) (by simp) ?_; (case hd => rfl); (case hg => rfl); (case hr => first | (go_simp; done) | (go_simp; rfl)); (case hp => exact (Reps.none _ _)); intro v138 w22 ho23 hb hg_ hnew_; clear hg_ hnew_; (first | rw [← Ny137.out] at ho23 | (simp only [Int.reduceToNat] at ho23; rw [← Ny137.out] at ho23)); have n0_ := As0.mk (Kd.N_elder' (by (with_reducible repeat (first | apply Kd.N_alloc | apply Kd.N_drewN | apply Kd.N_drew)); exact HO_11.out) (Kd.N_base ho23) hb); have n1_ := As0.mk (Kd.N_lower ho23 (bsz (by repeat (with_reducible first | exact HB.out | apply bal | apply pbN | apply bdw)))); have n2_ := As0.mk (bsp (by repeat (with_reducible first | exact HB.out | apply bal | apply pbN | apply bdw)) hb); clear HO_11; clear HB; have HO_11 := n0_; have HO139 := n1_; have HB := n2_; clear n0_ n1_ n2_; clear hb ho23)))
       go_loopg [13, 14] k2 (fun kq v13 v14 w' => ∃ (x13_3 : List (List Int)) (x14_3 : Int), v14 = .int .i64 x14_3 ∧ As0 (spec_l16Costs.l3 kq l0 a1 a2 x11_2 x12_2 x13_3 x14_3 = some r) ∧ As0 (kq ≤ k2) ∧ As0 (Kd.N (Kd.slice 30 (Kd.slice 2 (Kd.int .i64))) 45 w' w.heap.size (fun k_ => (w.heap.size ≤ k_) ∧ some k_ ≠ (v13 : Value).ownBlock) u11 x11_2) ∧ As0 (Kd.N (Kd.slice 2 (Kd.int .i64)) 30 w' w.heap.size (fun k_ => (w.heap.size ≤ k_) ∧ some k_ ≠ (u11 : Value).ownBlock) v13 x13_3) ∧ As0 (Below w.heap.size w w'))
       case atStart => exact ⟨(y137), (0), (by first | rfl | (simp; done) | (simp [*]; done)), H', ⟨Nat.le_refl _⟩, ⟨by (with_reducible repeat (first | apply Kd.N_alloc | apply Kd.N_drewN | apply Kd.N_drew)); exact HO_11.out⟩, ⟨by (with_reducible repeat (first | apply Kd.N_alloc | apply Kd.N_drewN | apply Kd.N_drew)); exact HO139.out⟩, ⟨by repeat (with_reducible first | exact HB.out | apply bal | apply pbN | apply bdw)⟩⟩
       case round =>
        clear H'
        try clear c1
        try clear c2
        try clear p2
        try clear c6
        try clear c6b0
        try clear p6
        try clear c9
        try clear c9b0
        try clear c10
        try clear c10b0
        try clear c10b1
        try clear c11
        try clear c13
        try clear c15
        try clear c21
        try clear c21b0
        try clear c22
        try clear p2
        try clear p6
        obtain ⟨x13_3, x14_3, rfl, HA, HK3, HO_11, HO_13, HB⟩ := hrel
        cases gk with
        | zero => exact absurd HA.out (by simp [spec_l16Costs.l3])
        | succ k3 =>
         have H := HA.out
         clear HA
         simp only [spec_l16Costs.l3] at H
         by_cases c24 : x14_3 ≤ a1
         ·as_aux_lemma =>
          rw [if_pos c24] at H
          have c24b0 : decide (x14_3 ≤ a1) = true := decide_eq_true c24
          clear c24
          obtain ⟨y146, hy146⟩ : ∃ y_ : List Int, y_ = (([] : List Int)) := ⟨_, rfl⟩
          replace H : (spec_l16Costs.l4 k3 l0 a1 a2 x11_2 x12_2 x13_3 x14_3 y146 0) = some r := by first | (rw [hy146]; with_reducible exact H) | (have H2_ := (Option.bind_some _ _).symm.trans H; rw [hy146]; with_reducible exact H2_) | (have H2_ := (Option.bind_some _ _).symm.trans H; with_reducible exact H2_) | with_reducible exact H | (rw [hy146]; exact H) | exact H
          have Ny146 := As0.mk hy146
          clear hy146
          have H' := As0.mk H
          clear H
          go_wp2_with (first | ((with_reducible refine gate_dst (N := 59) rfl ?_); refine Kd.R_lit (Kd.int .i64) _ 2 ?hg (N := 59) ?hd (xs := ([] : List Int)) (inner := []) (ok := fun _ => True) (okp := fun _ => True) ?hr ?hp (fun _ hk => hk) trivial (Below.refl _ _) (Nat.le_refl _) (by simp) ?_; (case hd => rfl); (case hg => rfl); (case hr => first | (go_simp; done) | (go_simp; rfl)); (case hp => exact (Reps.none _ _)); intro v147 w25 ho26 hb hg_ hnew_; clear hg_ hnew_; (first | rw [← Ny146.out] at ho26 | (simp only [Int.reduceToNat] at ho26; rw [← Ny146.out] at ho26)); have n0_ := As0.mk (Kd.N_elder' (by (with_reducible repeat (first | apply Kd.N_alloc | apply Kd.N_drewN | apply Kd.N_drew)); exact HO_11.out) (Kd.R_base ho26) hb); have n1_ := As0.mk (Kd.N_elder' (by (with_reducible repeat (first | apply Kd.N_alloc | apply Kd.N_drewN | apply Kd.N_drew)); exact HO_13.out) (Kd.R_base ho26) hb); have n2_ := As0.mk (Kd.R_lower (Kd.R_newM (M := fun k_ => (w.heap.size ≤ k_)) ho26 (bsz (by repeat (with_reducible first | exact HB.out | apply bal | apply pbN | apply bdw))) (fun k_ h_ => h_)) (bsz (by repeat (with_reducible first | exact HB.out | apply bal | apply pbN | apply bdw)))); have n3_ := As0.mk (bsp (by repeat (with_reducible first | exact HB.out | apply bal | apply pbN | apply bdw)) hb); clear HO_11; clear HO_13; clear HB; have HO_11 := n0_; have HO_13 := n1_; have HO148 := n2_; have HB := n3_; clear n0_ n1_ n2_ n3_; clear hb ho26))
          repeat (go_quiet (first | ((with_reducible refine gate_dst (N := 59) rfl ?_); refine Kd.R_lit (Kd.int .i64) _ 2 ?hg (N := 59) ?hd (xs := ([] : List Int)) (inner := []) (ok := fun _ => True) (okp := fun _ => True) ?hr ?hp (fun _ hk => hk) trivial (Below.refl _ _) (Nat.le_refl _) (by simp) ?_; (case hd => rfl); (case hg => rfl); (case hr => first | (go_simp; done) | (go_simp; rfl)); (case hp => exact (Reps.none _ _)); intro v147 w25 ho26 hb hg_ hnew_; clear hg_ hnew_; (first | rw [← Ny146.out] at ho26 | (simp only [Int.reduceToNat] at ho26; rw [← Ny146.out] at ho26)); have n0_ := As0.mk (Kd.N_elder' (by (with_reducible repeat (first | apply Kd.N_alloc | apply Kd.N_drewN | apply Kd.N_drew)); exact HO_11.out) (Kd.R_base ho26) hb); have n1_ := As0.mk (Kd.N_elder' (by (with_reducible repeat (first | apply Kd.N_alloc | apply Kd.N_drewN | apply Kd.N_drew)); exact HO_13.out) (Kd.R_base ho26) hb); have n2_ := As0.mk (Kd.R_lower (Kd.R_newM (M := fun k_ => (w.heap.size ≤ k_)) ho26 (bsz (by repeat (with_reducible first | exact HB.out | apply bal | apply pbN | apply bdw))) (fun k_ h_ => h_)) (bsz (by repeat (with_reducible first | exact HB.out | apply bal | apply pbN | apply bdw)))); have n3_ := As0.mk (bsp (by repeat (with_reducible first | exact HB.out | apply bal | apply pbN | apply bdw)) hb); clear HO_11; clear HO_13; clear HB; have HO_11 := n0_; have HO_13 := n1_; have HO148 := n2_; have HB := n3_; clear n0_ n1_ n2_ n3_; clear hb ho26)); try go_wp2_with (first | ((with_reducible refine gate_dst (N := 59) rfl ?_); refine Kd.R_lit (Kd.int .i64) _ 2 ?hg (N := 59) ?hd (xs := ([] : List Int)) (inner := []) (ok := fun _ => True) (okp := fun _ => True) ?hr ?hp (fun _ hk => hk) trivial (Below.refl _ _) (Nat.le_refl _) (by simp) ?_; (case hd => rfl); (case hg => rfl); (case hr => first | (go_simp; done) | (go_simp; rfl)); (case hp => exact (Reps.none _ _)); intro v147 w25 ho26 hb hg_ hnew_; clear hg_ hnew_; (first | rw [← Ny146.out] at ho26 | (simp only [Int.reduceToNat] at ho26; rw [← Ny146.out] at ho26)); have n0_ := As0.mk (Kd.N_elder' (by (with_reducible repeat (first | apply Kd.N_alloc | apply Kd.N_drewN | apply Kd.N_drew)); exact HO_11.out) (Kd.R_base ho26) hb); have n1_ := As0.mk (Kd.N_elder' (by (with_reducible repeat (first | apply Kd.N_alloc | apply Kd.N_drewN | apply Kd.N_drew)); exact HO_13.out) (Kd.R_base ho26) hb); have n2_ := As0.mk (Kd.R_lower (Kd.R_newM (M := fun k_ => (w.heap.size ≤ k_)) ho26 (bsz (by repeat (with_reducible first | exact HB.out | apply bal | apply pbN | apply bdw))) (fun k_ h_ => h_)) (bsz (by repeat (with_reducible first | exact HB.out | apply bal | apply pbN | apply bdw)))); have n3_ := As0.mk (bsp (by repeat (with_reducible first | exact HB.out | apply bal | apply pbN | apply bdw)) hb); clear HO_11; clear HO_13; clear HB; have HO_11 := n0_; have HO_13 := n1_; have HO148 := n2_; have HB := n3_; clear n0_ n1_ n2_ n3_; clear hb ho26)))
          go_loopg [15, 16] k3 (fun kq v15 v16 w' => ∃ (x15_4 : List Int) (x16_4 : Int), v16 = .int .i64 x16_4 ∧ As0 (spec_l16Costs.l4 kq l0 a1 a2 x11_2 x12_2 x13_3 x14_3 x15_4 x16_4 = some r) ∧ As0 (kq ≤ k3) ∧ As0 (Kd.N (Kd.slice 30 (Kd.slice 2 (Kd.int .i64))) 45 w' w.heap.size (fun k_ => (w.heap.size ≤ k_) ∧ some k_ ≠ (u13 : Value).ownBlock ∧ some k_ ≠ (v15 : Value).ownBlock) u11 x11_2) ∧ As0 (Kd.N (Kd.slice 2 (Kd.int .i64)) 30 w' w.heap.size (fun k_ => (w.heap.size ≤ k_) ∧ some k_ ≠ (u11 : Value).ownBlock ∧ some k_ ≠ (v15 : Value).ownBlock) u13 x13_3) ∧ As0 (Kd.R (Kd.int .i64) 2 w' w.heap.size (fun k_ => (w.heap.size ≤ k_)) v15 x15_4) ∧ As0 (Below w.heap.size w w'))
          case atStart => exact ⟨(y146), (0), (by first | rfl | (simp; done) | (simp [*]; done)), H', ⟨Nat.le_refl _⟩, ⟨by (with_reducible repeat (first | apply Kd.N_alloc | apply Kd.N_drewN | apply Kd.N_drew)); exact Kd.N_mono HO_11.out (fun _ hk => ⟨hk.1.1, ⟨hk.1.2, hk.2⟩⟩)⟩, ⟨by (with_reducible repeat (first | apply Kd.N_alloc | apply Kd.N_drewN | apply Kd.N_drew)); exact Kd.N_mono HO_13.out (fun _ hk => ⟨hk.1.1, ⟨hk.1.2, hk.2⟩⟩)⟩, ⟨by (with_reducible repeat (first | apply Kd.R_alloc | apply Kd.R_drewN | apply Kd.R_drew)); exact Kd.R_mono HO148.out (fun _ hk => hk.1)⟩, ⟨by repeat (with_reducible first | exact HB.out | apply bal | apply pbN | apply bdw)⟩⟩
          case round =>
           clear H'
           try clear c1
           try clear c2
           try clear p2
           try clear c6
           try clear c6b0
           try clear p6
           try clear c9
           try clear c9b0
           try clear c10
           try clear c10b0
           try clear c10b1
           try clear c11
           try clear c13
           try clear c15
           try clear c21
           try clear c21b0
           try clear c22
           try clear c24
           try clear c24b0
           try clear p2
           try clear p6
           obtain ⟨x15_4, x16_4, rfl, HA, HK4, HO_11, HO_13, HO_15, HB⟩ := hrel
           cases gk with
           | zero => exact absurd HA.out (by simp [spec_l16Costs.l4])
           | succ k4 =>
            have H := HA.out
            clear HA
            simp only [spec_l16Costs.l4] at H
            by_cases c27 : x16_4 ≤ a2
            ·as_aux_lemma =>
             rw [if_pos c27] at H
             have c27b0 : decide (x16_4 ≤ a2) = true := decide_eq_true c27
             clear c27
             have H' := As0.mk H
             clear H
             go_wp2
             repeat (go_quiet (fail); try go_wp2)
             go_loopg [17, 18] k4 (fun kq v17 v18 w' => ∃ (x17_5 : Int) (x18_5 : Int), v17 = .int .i64 x17_5 ∧ v18 = .int .i64 x18_5 ∧ As0 (spec_l16Costs.l5 kq l0 a1 a2 x11_2 x12_2 x13_3 x14_3 x15_4 x16_4 x17_5 x18_5 = some r) ∧ As0 (kq ≤ k4) ∧ As0 (Kd.N (Kd.slice 30 (Kd.slice 2 (Kd.int .i64))) 45 w' w.heap.size (fun k_ => (w.heap.size ≤ k_) ∧ some k_ ≠ (u13 : Value).ownBlock ∧ some k_ ≠ (u15 : Value).ownBlock) u11 x11_2) ∧ As0 (Kd.N (Kd.slice 2 (Kd.int .i64)) 30 w' w.heap.size (fun k_ => (w.heap.size ≤ k_) ∧ some k_ ≠ (u11 : Value).ownBlock ∧ some k_ ≠ (u15 : Value).ownBlock) u13 x13_3) ∧ As0 (Kd.R (Kd.int .i64) 2 w' w.heap.size (fun k_ => (w.heap.size ≤ k_)) u15 x15_4) ∧ As0 (Below w.heap.size w w'))
             case atStart => exact ⟨((-1)), (0), (by first | rfl | (simp; done) | (simp [*]; done)), (by first | rfl | (simp; done) | (simp [*]; done)), H', ⟨Nat.le_refl _⟩, ⟨by (with_reducible repeat (first | apply Kd.N_alloc | apply Kd.N_drewN | apply Kd.N_drew)); exact HO_11.out⟩, ⟨by (with_reducible repeat (first | apply Kd.N_alloc | apply Kd.N_drewN | apply Kd.N_drew)); exact HO_13.out⟩, ⟨by (with_reducible repeat (first | apply Kd.R_alloc | apply Kd.R_drewN | apply Kd.R_drew)); exact HO_15.out⟩, ⟨by repeat (with_reducible first | exact HB.out | apply bal | apply pbN | apply bdw)⟩⟩
             case round =>
              clear H'
              try clear c1
              try clear c2
              try clear p2
              try clear c6
              try clear c6b0
              try clear p6
              try clear c9
              try clear c9b0
              try clear c10
              try clear c10b0
              try clear c10b1
              try clear c11
              try clear c13
              try clear c15
              try clear c21
              try clear c21b0
              try clear c22
              try clear c24
              try clear c24b0
              try clear c27
              try clear c27b0
              try clear p2
              try clear p6
              obtain ⟨x17_5, x18_5, rfl, rfl, HA, HK5, HO_11, HO_13, HO_15, HB⟩ := hrel
              cases gk with
              | zero => exact absurd HA.out (by simp [spec_l16Costs.l5])
              | succ k5 =>
               have H := HA.out
               clear HA
               simp only [spec_l16Costs.l5] at H
               have HC28 := As0.mk H
               clear H
               go_upto_region 27 with (fail)
               repeat (go_quiet (fail); go_upto_region 27 with (fail))
               go_cut [87] (fun v87 wc => ∃ (kq : Nat) (x87_27 : Bool), v87 = .bool x87_27 ∧ As0 (spec_l16Costs.j6 kq l0 a1 a2 x11_2 x12_2 x13_3 x14_3 x15_4 x16_4 x17_5 x18_5 x87_27 = some r) ∧ As0 (kq ≤ k5) ∧ As0 (Kd.N (Kd.slice 30 (Kd.slice 2 (Kd.int .i64))) 45 wc w.heap.size (fun k_ => (w.heap.size ≤ k_) ∧ some k_ ≠ (u13 : Value).ownBlock ∧ some k_ ≠ (u15 : Value).ownBlock) u11 x11_2) ∧ As0 (Kd.N (Kd.slice 2 (Kd.int .i64)) 30 wc w.heap.size (fun k_ => (w.heap.size ≤ k_) ∧ some k_ ≠ (u11 : Value).ownBlock ∧ some k_ ≠ (u15 : Value).ownBlock) u13 x13_3) ∧ As0 (Kd.R (Kd.int .i64) 2 wc w.heap.size (fun k_ => (w.heap.size ≤ k_)) u15 x15_4) ∧ As0 (Below w.heap.size w wc))
               case first =>
                have H := HC28.out
                clear HC28
                by_cases c29 : 0 ≤ x12_2
                ·as_aux_lemma =>
                 rw [if_pos c29] at H
                 have c29b0 : decide (0 ≤ x12_2) = true := decide_eq_true c29
                 clear c29
                 (first | rw [c29b0] | (simp only [i64_w, i32_w]; rw [c29b0]) | skip)
                 by_cases c30 : x12_2 < (l0.length : Int)
                 ·as_aux_lemma =>
                  rw [if_pos c30] at H
                  have c30b0 : decide (x12_2 < (l0.length : Int)) = true := decide_eq_true c30
                  clear c30
                  by_cases c31 : x18_5 ≤ ((rd_T46 l0 x12_2).f3)
                  ·rw [if_pos c31] at H
                   have c31b0 : decide (x18_5 ≤ ((rd_T46 l0 x12_2).f3)) = true := decide_eq_true c31
                   clear c31
                   by_cases c32 : x18_5 ≤ x14_3
                   ·rw [if_pos c32] at H
                    have c32b0 : decide (x18_5 ≤ x14_3) = true := decide_eq_true c32
                    clear c32
                    have H' := As0.mk H
                    clear H
                    have p152 : 0 ≤ (x12_2 : Int) := of_decide_eq_true (by assumption)
                    have q152 : x12_2 < (l0.length : Int) := of_decide_eq_true (by assumption)
                    obtain ⟨ad152, e152, hx152_0, hx152_1, hx152_2, hx152_3⟩ := at_T46 HR0.out x12_2 p152 q152
                    cases e152
                    replace hx152_0 := (HB.out.cell (blt w _ hx152_0)).trans hx152_0
                    replace hx152_1 := (HB.out.cell (blt w _ hx152_1)).trans hx152_1
                    replace hx152_2 := (HB.out.cell (blt w _ hx152_2)).trans hx152_2
                    replace hx152_3 := (HB.out.cell (blt w _ hx152_3)).trans hx152_3
                    replace p152 := eq_true p152
                    replace q152 := eq_true q152
                    have p153 : 0 ≤ (x12_2 : Int) := of_decide_eq_true (by assumption)
                    have q153 : x12_2 < (l0.length : Int) := of_decide_eq_true (by assumption)
                    obtain ⟨ad153, e153, hx153_0, hx153_1, hx153_2, hx153_3⟩ := at_T46 HR0.out x12_2 p153 q153
                    obtain rfl : ad152 = ad153 := (by injection e153)
                    replace hx153_0 := (HB.out.cell (blt w _ hx153_0)).trans hx153_0
                    replace hx153_1 := (HB.out.cell (blt w _ hx153_1)).trans hx153_1
                    replace hx153_2 := (HB.out.cell (blt w _ hx153_2)).trans hx153_2
                    replace hx153_3 := (HB.out.cell (blt w _ hx153_3)).trans hx153_3
                    replace p153 := eq_true p153
                    replace q153 := eq_true q153
                    go_wp2
                    repeat (go_quiet (fail); try go_wp2)
                    go_meet
                    case rel => exact ⟨_, (decide ((wrap64 (x18_5 * ((rd_T46 l0 x12_2).f1))) ≤ x16_4)), (by first | rfl | (simp; done) | (simp [*]; done)), H', ⟨by have := HK1.out; have := HK2.out; have := HK3.out; have := HK4.out; have := HK5.out; first | omega | exact Nat.le_refl _⟩, ⟨by (with_reducible repeat (first | apply Kd.N_alloc | apply Kd.N_drewN | apply Kd.N_drew)); exact HO_11.out⟩, ⟨by (with_reducible repeat (first | apply Kd.N_alloc | apply Kd.N_drewN | apply Kd.N_drew)); exact HO_13.out⟩, ⟨by (with_reducible repeat (first | apply Kd.R_alloc | apply Kd.R_drewN | apply Kd.R_drew)); exact HO_15.out⟩, ⟨by repeat (with_reducible first | exact HB.out | apply bal | apply pbN | apply bdw)⟩⟩
                   ·rw [if_neg c32] at H
                    have c32b0 : decide (x18_5 ≤ x14_3) = false := decide_eq_false c32
                    clear c32
                    have H' := As0.mk H
                    clear H
                    have p152 : 0 ≤ (x12_2 : Int) := of_decide_eq_true (by assumption)
                    have q152 : x12_2 < (l0.length : Int) := of_decide_eq_true (by assumption)
                    obtain ⟨ad152, e152, hx152_0, hx152_1, hx152_2, hx152_3⟩ := at_T46 HR0.out x12_2 p152 q152
                    cases e152
                    replace hx152_0 := (HB.out.cell (blt w _ hx152_0)).trans hx152_0
                    replace hx152_1 := (HB.out.cell (blt w _ hx152_1)).trans hx152_1
                    replace hx152_2 := (HB.out.cell (blt w _ hx152_2)).trans hx152_2
                    replace hx152_3 := (HB.out.cell (blt w _ hx152_3)).trans hx152_3
                    replace p152 := eq_true p152
                    replace q152 := eq_true q152
                    go_wp2
                    repeat (go_quiet (fail); try go_wp2)
                    go_meet
                    case rel => exact ⟨_, (false), (by first | rfl | (simp; done) | (simp [*]; done)), H', ⟨by have := HK1.out; have := HK2.out; have := HK3.out; have := HK4.out; have := HK5.out; first | omega | exact Nat.le_refl _⟩, ⟨by (with_reducible repeat (first | apply Kd.N_alloc | apply Kd.N_drewN | apply Kd.N_drew)); exact HO_11.out⟩, ⟨by (with_reducible repeat (first | apply Kd.N_alloc | apply Kd.N_drewN | apply Kd.N_drew)); exact HO_13.out⟩, ⟨by (with_reducible repeat (first | apply Kd.R_alloc | apply Kd.R_drewN | apply Kd.R_drew)); exact HO_15.out⟩, ⟨by repeat (with_reducible first | exact HB.out | apply bal | apply pbN | apply bdw)⟩⟩
                  ·rw [if_neg c31] at H
                   have c31b0 : decide (x18_5 ≤ ((rd_T46 l0 x12_2).f3)) = false := decide_eq_false c31
                   clear c31
                   have H' := As0.mk H
                   clear H
                   have p152 : 0 ≤ (x12_2 : Int) := of_decide_eq_true (by assumption)
                   have q152 : x12_2 < (l0.length : Int) := of_decide_eq_true (by assumption)
                   obtain ⟨ad152, e152, hx152_0, hx152_1, hx152_2, hx152_3⟩ := at_T46 HR0.out x12_2 p152 q152
                   cases e152
                   replace hx152_0 := (HB.out.cell (blt w _ hx152_0)).trans hx152_0
                   replace hx152_1 := (HB.out.cell (blt w _ hx152_1)).trans hx152_1
                   replace hx152_2 := (HB.out.cell (blt w _ hx152_2)).trans hx152_2
                   replace hx152_3 := (HB.out.cell (blt w _ hx152_3)).trans hx152_3
                   replace p152 := eq_true p152
                   replace q152 := eq_true q152
                   go_wp2
                   repeat (go_quiet (fail); try go_wp2)
                   go_meet
                   case rel => exact ⟨_, (false), (by first | rfl | (simp; done) | (simp [*]; done)), H', ⟨by have := HK1.out; have := HK2.out; have := HK3.out; have := HK4.out; have := HK5.out; first | omega | exact Nat.le_refl _⟩, ⟨by (with_reducible repeat (first | apply Kd.N_alloc | apply Kd.N_drewN | apply Kd.N_drew)); exact HO_11.out⟩, ⟨by (with_reducible repeat (first | apply Kd.N_alloc | apply Kd.N_drewN | apply Kd.N_drew)); exact HO_13.out⟩, ⟨by (with_reducible repeat (first | apply Kd.R_alloc | apply Kd.R_drewN | apply Kd.R_drew)); exact HO_15.out⟩, ⟨by repeat (with_reducible first | exact HB.out | apply bal | apply pbN | apply bdw)⟩⟩
                 ·rw [if_neg c30] at H
                  exact absurd H (by simp)
                ·rw [if_neg c29] at H
                 exact absurd H (by simp)
               case rest =>
                clear HC28
                try clear c1
                try clear p1
                try clear q1
                try clear hx1
                try clear c2
                try clear p2
                try clear c3
                try clear c6
                try clear c6b0
                try clear p6
                try clear c9
                try clear c9b0
                try clear c10
                try clear c10b0
                try clear c10b1
                try clear c11
                try clear c13
                try clear c15
                try clear p15
                try clear q15
                try clear hx15
                try clear c21
                try clear c21b0
                try clear c22
                try clear c24
                try clear c24b0
                try clear c27
                try clear c27b0
                try clear c29
                try clear c29b0
                try clear c30
                try clear c30b0
                try clear c31
                try clear c31b0
                try clear c32
                try clear c32b0
                try clear hx152_0
                try clear hx152_1
                try clear hx152_2
                try clear hx152_3
                try clear hx153_0
                try clear hx153_1
                try clear hx153_2
                try clear hx153_3
                try clear p152
                try clear p153
                try clear p2
                try clear p6
                try clear q152
                try clear q153
                obtain ⟨kq, x87_27, rfl, HA, HJ27, HO_11, HO_13, HO_15, HB⟩ := hcut
                cases kq with
                | zero => exact absurd HA.out (by simp [spec_l16Costs.j6])
                | succ kj27 =>
                 have H := HA.out
                 clear HA
                 simp only [spec_l16Costs.j6] at H
                 by_cases c33 : x87_27 = true
                 ·as_aux_lemma =>
                  subst c33
                  have H1 : (if 0 < (x11_2.length : Int) then (if 0 ≤ (wrap64 (x14_3 - x18_5)) then (if (wrap64 (x14_3 - x18_5)) < ((rd_L5 x11_2 0).length : Int) then (if 0 ≤ x12_2 then (if x12_2 < (l0.length : Int) then (if 0 ≤ (wrap64 (x16_4 - (wrap64 (x18_5 * ((rd_T46 l0 x12_2).f1))))) then (if (wrap64 (x16_4 - (wrap64 (x18_5 * ((rd_T46 l0 x12_2).f1))))) < ((rd_L4 (rd_L5 x11_2 0) (wrap64 (x14_3 - x18_5))).length : Int) then (if (rd (rd_L4 (rd_L5 x11_2 0) (wrap64 (x14_3 - x18_5))) (wrap64 (x16_4 - (wrap64 (x18_5 * ((rd_T46 l0 x12_2).f1)))))) ≥ 0 then (if x17_5 < 0 then (spec_l16Costs.l5 kj27 l0 a1 a2 x11_2 x12_2 x13_3 x14_3 x15_4 x16_4 (wrap64 ((rd (rd_L4 (rd_L5 x11_2 0) (wrap64 (x14_3 - x18_5))) (wrap64 (x16_4 - (wrap64 (x18_5 * ((rd_T46 l0 x12_2).f1)))))) + (wrap64 (x18_5 * ((rd_T46 l0 x12_2).f2))))) (wrap64 (x18_5 + 1))) else (if (wrap64 ((rd (rd_L4 (rd_L5 x11_2 0) (wrap64 (x14_3 - x18_5))) (wrap64 (x16_4 - (wrap64 (x18_5 * ((rd_T46 l0 x12_2).f1)))))) + (wrap64 (x18_5 * ((rd_T46 l0 x12_2).f2))))) < x17_5 then (spec_l16Costs.l5 kj27 l0 a1 a2 x11_2 x12_2 x13_3 x14_3 x15_4 x16_4 (wrap64 ((rd (rd_L4 (rd_L5 x11_2 0) (wrap64 (x14_3 - x18_5))) (wrap64 (x16_4 - (wrap64 (x18_5 * ((rd_T46 l0 x12_2).f1)))))) + (wrap64 (x18_5 * ((rd_T46 l0 x12_2).f2))))) (wrap64 (x18_5 + 1))) else (spec_l16Costs.l5 kj27 l0 a1 a2 x11_2 x12_2 x13_3 x14_3 x15_4 x16_4 x17_5 (wrap64 (x18_5 + 1))))) else (spec_l16Costs.l5 kj27 l0 a1 a2 x11_2 x12_2 x13_3 x14_3 x15_4 x16_4 x17_5 (wrap64 (x18_5 + 1)))) else (none)) else (none)) else (none)) else (none)) else (none)) else (none)) else (none)) = some r := by rw [if_pos rfl] at H; exact H
                  clear H
                  have H := H1
                  clear H1
                  by_cases c34 : 0 < (x11_2.length : Int)
                  ·as_aux_lemma =>
                   rw [if_pos c34] at H
                   have c34b0 : decide (0 < (x11_2.length : Int)) = true := decide_eq_true c34
                   have c34b1 : decide (0 < x11_2.length) = true := decide_eq_true (by omega)
                   clear c34
                   obtain ⟨ji35, hji35⟩ : ∃ j_ : Int, (wrap64 (x14_3 - x18_5)) = j_ := ⟨_, rfl⟩
                   replace H : (if 0 ≤ (ji35) then (if (ji35) < ((rd_L5 x11_2 0).length : Int) then (if 0 ≤ x12_2 then (if x12_2 < (l0.length : Int) then (if 0 ≤ (wrap64 (x16_4 - (wrap64 (x18_5 * ((rd_T46 l0 x12_2).f1))))) then (if (wrap64 (x16_4 - (wrap64 (x18_5 * ((rd_T46 l0 x12_2).f1))))) < ((rd_L4 (rd_L5 x11_2 0) (ji35)).length : Int) then (if (rd (rd_L4 (rd_L5 x11_2 0) (ji35)) (wrap64 (x16_4 - (wrap64 (x18_5 * ((rd_T46 l0 x12_2).f1)))))) ≥ 0 then (if x17_5 < 0 then (spec_l16Costs.l5 kj27 l0 a1 a2 x11_2 x12_2 x13_3 x14_3 x15_4 x16_4 (wrap64 ((rd (rd_L4 (rd_L5 x11_2 0) (ji35)) (wrap64 (x16_4 - (wrap64 (x18_5 * ((rd_T46 l0 x12_2).f1)))))) + (wrap64 (x18_5 * ((rd_T46 l0 x12_2).f2))))) (wrap64 (x18_5 + 1))) else (if (wrap64 ((rd (rd_L4 (rd_L5 x11_2 0) (ji35)) (wrap64 (x16_4 - (wrap64 (x18_5 * ((rd_T46 l0 x12_2).f1)))))) + (wrap64 (x18_5 * ((rd_T46 l0 x12_2).f2))))) < x17_5 then (spec_l16Costs.l5 kj27 l0 a1 a2 x11_2 x12_2 x13_3 x14_3 x15_4 x16_4 (wrap64 ((rd (rd_L4 (rd_L5 x11_2 0) (ji35)) (wrap64 (x16_4 - (wrap64 (x18_5 * ((rd_T46 l0 x12_2).f1)))))) + (wrap64 (x18_5 * ((rd_T46 l0 x12_2).f2))))) (wrap64 (x18_5 + 1))) else (spec_l16Costs.l5 kj27 l0 a1 a2 x11_2 x12_2 x13_3 x14_3 x15_4 x16_4 x17_5 (wrap64 (x18_5 + 1))))) else (spec_l16Costs.l5 kj27 l0 a1 a2 x11_2 x12_2 x13_3 x14_3 x15_4 x16_4 x17_5 (wrap64 (x18_5 + 1)))) else (none)) else (none)) else (none)) else (none)) else (none)) else (none)) = some r := by first | (rw [hji35] at H; exact H) | (simp only [hji35] at H ⊢; exact H)
                   have hji35w : (IntKind.i64.wrap (x14_3 - x18_5)) = ji35 := (i64_w _).trans hji35
                   by_cases c36 : 0 ≤ (ji35)
                   ·as_aux_lemma =>
                    rw [if_pos c36] at H
                    have c36b0 : decide (0 ≤ (ji35)) = true := decide_eq_true c36
                    clear c36
                    by_cases c37 : (ji35) < ((rd_L5 x11_2 0).length : Int)
                    ·as_aux_lemma =>
                     rw [if_pos c37] at H
                     have c37b0 : decide ((ji35) < ((rd_L5 x11_2 0).length : Int)) = true := decide_eq_true c37
                     clear c37
                     by_cases c38 : 0 ≤ x12_2
                     ·as_aux_lemma =>
                      rw [if_pos c38] at H
                      have c38b0 : decide (0 ≤ x12_2) = true := decide_eq_true c38
                      clear c38
                      by_cases c39 : x12_2 < (l0.length : Int)
                      ·as_aux_lemma =>
                       rw [if_pos c39] at H
                       have c39b0 : decide (x12_2 < (l0.length : Int)) = true := decide_eq_true c39
                       clear c39
                       obtain ⟨ji40, hji40⟩ : ∃ j_ : Int, (wrap64 (x16_4 - (wrap64 (x18_5 * ((rd_T46 l0 x12_2).f1))))) = j_ := ⟨_, rfl⟩
                       replace H : (if 0 ≤ (ji40) then (if (ji40) < ((rd_L4 (rd_L5 x11_2 0) (ji35)).length : Int) then (if (rd (rd_L4 (rd_L5 x11_2 0) (ji35)) (ji40)) ≥ 0 then (if x17_5 < 0 then (spec_l16Costs.l5 kj27 l0 a1 a2 x11_2 x12_2 x13_3 x14_3 x15_4 x16_4 (wrap64 ((rd (rd_L4 (rd_L5 x11_2 0) (ji35)) (ji40)) + (wrap64 (x18_5 * ((rd_T46 l0 x12_2).f2))))) (wrap64 (x18_5 + 1))) else (if (wrap64 ((rd (rd_L4 (rd_L5 x11_2 0) (ji35)) (ji40)) + (wrap64 (x18_5 * ((rd_T46 l0 x12_2).f2))))) < x17_5 then (spec_l16Costs.l5 kj27 l0 a1 a2 x11_2 x12_2 x13_3 x14_3 x15_4 x16_4 (wrap64 ((rd (rd_L4 (rd_L5 x11_2 0) (ji35)) (ji40)) + (wrap64 (x18_5 * ((rd_T46 l0 x12_2).f2))))) (wrap64 (x18_5 + 1))) else (spec_l16Costs.l5 kj27 l0 a1 a2 x11_2 x12_2 x13_3 x14_3 x15_4 x16_4 x17_5 (wrap64 (x18_5 + 1))))) else (spec_l16Costs.l5 kj27 l0 a1 a2 x11_2 x12_2 x13_3 x14_3 x15_4 x16_4 x17_5 (wrap64 (x18_5 + 1)))) else (none)) else (none)) = some r := by first | (rw [hji40] at H; exact H) | (simp only [hji40] at H ⊢; exact H)
                       have hji40w : (IntKind.i64.wrap (x16_4 - (wrap64 (x18_5 * ((rd_T46 l0 x12_2).f1))))) = ji40 := (i64_w _).trans hji40
                       by_cases c41 : 0 ≤ (ji40)
                       ·as_aux_lemma =>
                        rw [if_pos c41] at H
                        have c41b0 : decide (0 ≤ (ji40)) = true := decide_eq_true c41
                        clear c41
                        by_cases c42 : (ji40) < ((rd_L4 (rd_L5 x11_2 0) (ji35)).length : Int)
                        ·as_aux_lemma =>
                         rw [if_pos c42] at H
                         have c42b0 : decide ((ji40) < ((rd_L4 (rd_L5 x11_2 0) (ji35)).length : Int)) = true := decide_eq_true c42
                         clear c42
                         by_cases c43 : (rd (rd_L4 (rd_L5 x11_2 0) (ji35)) (ji40)) ≥ 0
                         ·as_aux_lemma =>
                          rw [if_pos c43] at H
                          have c43b0 : decide (0 ≤ (rd (rd_L4 (rd_L5 x11_2 0) (ji35)) (ji40))) = true := decide_eq_true c43
                          clear c43
                          by_cases c44 : x17_5 < 0
                          ·as_aux_lemma =>
                           rw [if_pos c44] at H
                           have c44b0 : decide (x17_5 < 0) = true := decide_eq_true c44
                           clear c44
                           have H' := As0.mk H
                           clear H
                           obtain ⟨Ao45, co45, eo45⟩ := Kd.N_slice HO_11.out
                           subst eo45
                           have p154 : 0 ≤ (0 : Int) := (by omega)
                           have q154 : 0 < (x11_2.length : Int) := of_decide_eq_true (by assumption)
                           obtain ⟨ad154, A154_0, c154_0, e154, hx154_0, hl154_0, hi154_0⟩ := at_L5 (Kd.N_reads' HO_11.out).2.2 0 p154 q154
                           cases e154
                           obtain ⟨ce154, hce154, hMe154, hcc154⟩ := Kd.N_get HO_11.out [] 0 p154 (by first | exact q154 | exact of_decide_eq_true (by assumption) | (have e_ := (Kd.N_reads' HO_11.out).1; omega))
                           obtain ⟨ua154_0, uc154_0, rfl, ul154_0, ge154_0⟩ := Kd.FK_slice_open hMe154
                           have hv154_0 := hcc154 0 _ rfl
                           rw [Nat.add_zero, show ((Kd.slice 30 (Kd.slice 2 (Kd.int .i64)))).sz = 1 from rfl, Nat.mul_one] at hv154_0
                           replace hv154_0 := Option.some.inj (hv154_0.symm.trans hx154_0)
                           injection hv154_0 with hva_ hvn_ hvc_
                           rw [hva_] at ge154_0
                           rw [hvc_] at ul154_0
                           have HL154_0 := As0.mk (show Kd.V (Kd.slice 2 (Kd.int .i64)) 30 _ w.heap.size _ _ (rd_L5 x11_2 0) from Kd.V_mk ul154_0 ge154_0)
                           clear hva_ hvn_ hvc_ ge154_0 ul154_0
                           clear hcc154 hce154
                           have qi154 : (0 < x11_2.length) = True := eq_true (by omega)
                           (try rw [show ((0 : Int)).toNat = 0 from rfl] at hx154_0)
                           (try rw [Addr.add_zero'] at hx154_0)
                           have HR154_0 := As0.mk hi154_0
                           have HC154_0 := As0.mk hl154_0
                           clear hi154_0 hl154_0
                           replace p154 := eq_true p154
                           replace q154 := eq_true q154
                           have p155 : 0 ≤ ((ji35) : Int) := of_decide_eq_true (by assumption)
                           have q155 : (ji35) < ((rd_L5 x11_2 0).length : Int) := of_decide_eq_true (by assumption)
                           obtain ⟨ad155, A155_0, c155_0, e155, hx155_0, hl155_0, hi155_0⟩ := at_L4 (by repeat (first | (with_reducible exact HR154_0.out) | (with_reducible refine Kd.C_alloc ?_ _) | (with_reducible refine Kd.C_drewN ?_ _) | (with_reducible refine Kd.C_drew ?_) | exact HR154_0.out)) (ji35) p155 q155
                           cases e155
                           obtain ⟨ce155, hce155, hMe155, hcc155⟩ := Kd.V_get HL154_0.out [] (ji35) p155 (by first | exact q155 | exact of_decide_eq_true (by assumption) | (have e_ := (Kd.V_reads' HL154_0.out).1; omega))
                           obtain ⟨ua155_0, uc155_0, rfl, ul155_0, ge155_0⟩ := Kd.FK_slice_open hMe155
                           have hv155_0 := hcc155 0 _ rfl
                           rw [Nat.add_zero, show ((Kd.slice 2 (Kd.int .i64))).sz = 1 from rfl, Nat.mul_one] at hv155_0
                           replace hv155_0 := Option.some.inj (hv155_0.symm.trans hx155_0)
                           injection hv155_0 with hva_ hvn_ hvc_
                           rw [hva_] at ge155_0
                           rw [hvc_] at ul155_0
                           have HL155_0 := As0.mk (show Kd.V (Kd.int .i64) 2 _ w.heap.size _ _ (rd_L4 (rd_L5 x11_2 0) (ji35)) from Kd.V_mk ul155_0 ge155_0)
                           clear hva_ hvn_ hvc_ ge155_0 ul155_0
                           clear hcc155 hce155
                           have HR155_0 := As0.mk hi155_0
                           have HC155_0 := As0.mk hl155_0
                           clear hi155_0 hl155_0
                           replace p155 := eq_true p155
                           replace q155 := eq_true q155
                           have p156 : 0 ≤ (x12_2 : Int) := of_decide_eq_true (by assumption)
                           have q156 : x12_2 < (l0.length : Int) := of_decide_eq_true (by assumption)
                           obtain ⟨ad156, e156, hx156_0, hx156_1, hx156_2, hx156_3⟩ := at_T46 HR0.out x12_2 p156 q156
                           cases e156
                           replace hx156_0 := (HB.out.cell (blt w _ hx156_0)).trans hx156_0
                           replace hx156_1 := (HB.out.cell (blt w _ hx156_1)).trans hx156_1
                           replace hx156_2 := (HB.out.cell (blt w _ hx156_2)).trans hx156_2
                           replace hx156_3 := (HB.out.cell (blt w _ hx156_3)).trans hx156_3
                           replace p156 := eq_true p156
                           replace q156 := eq_true q156
                           have p157 : 0 ≤ ((ji40) : Int) := of_decide_eq_true (by assumption)
                           have q157 : (ji40) < ((rd_L4 (rd_L5 x11_2 0) (ji35)).length : Int) := of_decide_eq_true (by assumption)
                           obtain ⟨ad157, e157, hx157_0⟩ := Kd.at_int (by repeat (first | (with_reducible exact HR155_0.out) | (with_reducible refine Kd.C_alloc ?_ _) | (with_reducible refine Kd.C_drewN ?_ _) | (with_reducible refine Kd.C_drew ?_) | exact HR155_0.out)) (ji40) p157 q157
                           cases e157
                           replace p157 := eq_true p157
                           replace q157 := eq_true q157
                           have p158 : 0 ≤ (x12_2 : Int) := of_decide_eq_true (by assumption)
                           have q158 : x12_2 < (l0.length : Int) := of_decide_eq_true (by assumption)
                           obtain ⟨ad158, e158, hx158_0, hx158_1, hx158_2, hx158_3⟩ := at_T46 HR0.out x12_2 p158 q158
                           obtain rfl : ad156 = ad158 := (by injection e158)
                           replace hx158_0 := (HB.out.cell (blt w _ hx158_0)).trans hx158_0
                           replace hx158_1 := (HB.out.cell (blt w _ hx158_1)).trans hx158_1
                           replace hx158_2 := (HB.out.cell (blt w _ hx158_2)).trans hx158_2
                           replace hx158_3 := (HB.out.cell (blt w _ hx158_3)).trans hx158_3
                           replace p158 := eq_true p158
                           replace q158 := eq_true q158
                           go_wp2
                           repeat (go_quiet (fail); try go_wp2)
                           go_roundg kj27
                           case measure => have := HK1.out; have := HK2.out; have := HK3.out; have := HK4.out; have := HK5.out; have := HJ27.out; omega
                           case rel => exact ⟨(wrap64 ((rd (rd_L4 (rd_L5 x11_2 0) (ji35)) (ji40)) + (wrap64 (x18_5 * ((rd_T46 l0 x12_2).f2))))), (wrap64 (x18_5 + 1)), (by first | rfl | (simp; done) | (simp only [← hji35, ← hji40] <;> (first | rfl | simp)) | (simp [*]; done)), (by first | rfl | (simp; done) | (simp [*]; done)), H', ⟨by have := HK1.out; have := HK2.out; have := HK3.out; have := HK4.out; have := HK5.out; have := HJ27.out; omega⟩, ⟨by (with_reducible repeat (first | apply Kd.N_alloc | apply Kd.N_drewN | apply Kd.N_drew)); exact HO_11.out⟩, ⟨by (with_reducible repeat (first | apply Kd.N_alloc | apply Kd.N_drewN | apply Kd.N_drew)); exact HO_13.out⟩, ⟨by (with_reducible repeat (first | apply Kd.R_alloc | apply Kd.R_drewN | apply Kd.R_drew)); exact HO_15.out⟩, ⟨by repeat (with_reducible first | exact HB.out | apply bal | apply pbN | apply bdw)⟩⟩
                          ·as_aux_lemma =>
                           rw [if_neg c44] at H
                           have c44b0 : decide (x17_5 < 0) = false := decide_eq_false c44
                           clear c44
                           by_cases c46 : (wrap64 ((rd (rd_L4 (rd_L5 x11_2 0) (ji35)) (ji40)) + (wrap64 (x18_5 * ((rd_T46 l0 x12_2).f2))))) < x17_5
                           ·as_aux_lemma =>
                            rw [if_pos c46] at H
                            have c46b0 : decide ((wrap64 ((rd (rd_L4 (rd_L5 x11_2 0) (ji35)) (ji40)) + (wrap64 (x18_5 * ((rd_T46 l0 x12_2).f2))))) < x17_5) = true := decide_eq_true c46
                            clear c46
                            have H' := As0.mk H
                            clear H
                            obtain ⟨Ao47, co47, eo47⟩ := Kd.N_slice HO_11.out
                            subst eo47
                            have p154 : 0 ≤ (0 : Int) := (by omega)
                            have q154 : 0 < (x11_2.length : Int) := of_decide_eq_true (by assumption)
                            obtain ⟨ad154, A154_0, c154_0, e154, hx154_0, hl154_0, hi154_0⟩ := at_L5 (Kd.N_reads' HO_11.out).2.2 0 p154 q154
                            cases e154
                            obtain ⟨ce154, hce154, hMe154, hcc154⟩ := Kd.N_get HO_11.out [] 0 p154 (by first | exact q154 | exact of_decide_eq_true (by assumption) | (have e_ := (Kd.N_reads' HO_11.out).1; omega))
                            obtain ⟨ua154_0, uc154_0, rfl, ul154_0, ge154_0⟩ := Kd.FK_slice_open hMe154
                            have hv154_0 := hcc154 0 _ rfl
                            rw [Nat.add_zero, show ((Kd.slice 30 (Kd.slice 2 (Kd.int .i64)))).sz = 1 from rfl, Nat.mul_one] at hv154_0
                            replace hv154_0 := Option.some.inj (hv154_0.symm.trans hx154_0)
                            injection hv154_0 with hva_ hvn_ hvc_
                            rw [hva_] at ge154_0
                            rw [hvc_] at ul154_0
                            have HL154_0 := As0.mk (show Kd.V (Kd.slice 2 (Kd.int .i64)) 30 _ w.heap.size _ _ (rd_L5 x11_2 0) from Kd.V_mk ul154_0 ge154_0)
                            clear hva_ hvn_ hvc_ ge154_0 ul154_0
                            clear hcc154 hce154
                            have qi154 : (0 < x11_2.length) = True := eq_true (by omega)
                            (try rw [show ((0 : Int)).toNat = 0 from rfl] at hx154_0)
                            (try rw [Addr.add_zero'] at hx154_0)
                            have HR154_0 := As0.mk hi154_0
                            have HC154_0 := As0.mk hl154_0
                            clear hi154_0 hl154_0
                            replace p154 := eq_true p154
                            replace q154 := eq_true q154
                            have p155 : 0 ≤ ((ji35) : Int) := of_decide_eq_true (by assumption)
                            have q155 : (ji35) < ((rd_L5 x11_2 0).length : Int) := of_decide_eq_true (by assumption)
                            obtain ⟨ad155, A155_0, c155_0, e155, hx155_0, hl155_0, hi155_0⟩ := at_L4 (by repeat (first | (with_reducible exact HR154_0.out) | (with_reducible refine Kd.C_alloc ?_ _) | (with_reducible refine Kd.C_drewN ?_ _) | (with_reducible refine Kd.C_drew ?_) | exact HR154_0.out)) (ji35) p155 q155
                            cases e155
                            obtain ⟨ce155, hce155, hMe155, hcc155⟩ := Kd.V_get HL154_0.out [] (ji35) p155 (by first | exact q155 | exact of_decide_eq_true (by assumption) | (have e_ := (Kd.V_reads' HL154_0.out).1; omega))
                            obtain ⟨ua155_0, uc155_0, rfl, ul155_0, ge155_0⟩ := Kd.FK_slice_open hMe155
                            have hv155_0 := hcc155 0 _ rfl
                            rw [Nat.add_zero, show ((Kd.slice 2 (Kd.int .i64))).sz = 1 from rfl, Nat.mul_one] at hv155_0
                            replace hv155_0 := Option.some.inj (hv155_0.symm.trans hx155_0)
                            injection hv155_0 with hva_ hvn_ hvc_
                            rw [hva_] at ge155_0
                            rw [hvc_] at ul155_0
                            have HL155_0 := As0.mk (show Kd.V (Kd.int .i64) 2 _ w.heap.size _ _ (rd_L4 (rd_L5 x11_2 0) (ji35)) from Kd.V_mk ul155_0 ge155_0)
                            clear hva_ hvn_ hvc_ ge155_0 ul155_0
                            clear hcc155 hce155
                            have HR155_0 := As0.mk hi155_0
                            have HC155_0 := As0.mk hl155_0
                            clear hi155_0 hl155_0
                            replace p155 := eq_true p155
                            replace q155 := eq_true q155
                            have p156 : 0 ≤ (x12_2 : Int) := of_decide_eq_true (by assumption)
                            have q156 : x12_2 < (l0.length : Int) := of_decide_eq_true (by assumption)
                            obtain ⟨ad156, e156, hx156_0, hx156_1, hx156_2, hx156_3⟩ := at_T46 HR0.out x12_2 p156 q156
                            cases e156
                            replace hx156_0 := (HB.out.cell (blt w _ hx156_0)).trans hx156_0
                            replace hx156_1 := (HB.out.cell (blt w _ hx156_1)).trans hx156_1
                            replace hx156_2 := (HB.out.cell (blt w _ hx156_2)).trans hx156_2
                            replace hx156_3 := (HB.out.cell (blt w _ hx156_3)).trans hx156_3
                            replace p156 := eq_true p156
                            replace q156 := eq_true q156
                            have p157 : 0 ≤ ((ji40) : Int) := of_decide_eq_true (by assumption)
                            have q157 : (ji40) < ((rd_L4 (rd_L5 x11_2 0) (ji35)).length : Int) := of_decide_eq_true (by assumption)
                            obtain ⟨ad157, e157, hx157_0⟩ := Kd.at_int (by repeat (first | (with_reducible exact HR155_0.out) | (with_reducible refine Kd.C_alloc ?_ _) | (with_reducible refine Kd.C_drewN ?_ _) | (with_reducible refine Kd.C_drew ?_) | exact HR155_0.out)) (ji40) p157 q157
                            cases e157
                            replace p157 := eq_true p157
                            replace q157 := eq_true q157
                            have p159 : 0 ≤ (x12_2 : Int) := of_decide_eq_true (by assumption)
                            have q159 : x12_2 < (l0.length : Int) := of_decide_eq_true (by assumption)
                            obtain ⟨ad159, e159, hx159_0, hx159_1, hx159_2, hx159_3⟩ := at_T46 HR0.out x12_2 p159 q159
                            obtain rfl : ad156 = ad159 := (by injection e159)
                            replace hx159_0 := (HB.out.cell (blt w _ hx159_0)).trans hx159_0
                            replace hx159_1 := (HB.out.cell (blt w _ hx159_1)).trans hx159_1
                            replace hx159_2 := (HB.out.cell (blt w _ hx159_2)).trans hx159_2
                            replace hx159_3 := (HB.out.cell (blt w _ hx159_3)).trans hx159_3
                            replace p159 := eq_true p159
                            replace q159 := eq_true q159
                            have p160 : 0 ≤ (x12_2 : Int) := of_decide_eq_true (by assumption)
                            have q160 : x12_2 < (l0.length : Int) := of_decide_eq_true (by assumption)
                            obtain ⟨ad160, e160, hx160_0, hx160_1, hx160_2, hx160_3⟩ := at_T46 HR0.out x12_2 p160 q160
                            obtain rfl : ad156 = ad160 := (by injection e160)
                            replace hx160_0 := (HB.out.cell (blt w _ hx160_0)).trans hx160_0
                            replace hx160_1 := (HB.out.cell (blt w _ hx160_1)).trans hx160_1
                            replace hx160_2 := (HB.out.cell (blt w _ hx160_2)).trans hx160_2
                            replace hx160_3 := (HB.out.cell (blt w _ hx160_3)).trans hx160_3
                            replace p160 := eq_true p160
                            replace q160 := eq_true q160
                            go_wp2
                            repeat (go_quiet (fail); try go_wp2)
                            go_roundg kj27
                            case measure => have := HK1.out; have := HK2.out; have := HK3.out; have := HK4.out; have := HK5.out; have := HJ27.out; omega
                            case rel => exact ⟨(wrap64 ((rd (rd_L4 (rd_L5 x11_2 0) (ji35)) (ji40)) + (wrap64 (x18_5 * ((rd_T46 l0 x12_2).f2))))), (wrap64 (x18_5 + 1)), (by first | rfl | (simp; done) | (simp only [← hji35, ← hji40] <;> (first | rfl | simp)) | (simp [*]; done)), (by first | rfl | (simp; done) | (simp [*]; done)), H', ⟨by have := HK1.out; have := HK2.out; have := HK3.out; have := HK4.out; have := HK5.out; have := HJ27.out; omega⟩, ⟨by (with_reducible repeat (first | apply Kd.N_alloc | apply Kd.N_drewN | apply Kd.N_drew)); exact HO_11.out⟩, ⟨by (with_reducible repeat (first | apply Kd.N_alloc | apply Kd.N_drewN | apply Kd.N_drew)); exact HO_13.out⟩, ⟨by (with_reducible repeat (first | apply Kd.R_alloc | apply Kd.R_drewN | apply Kd.R_drew)); exact HO_15.out⟩, ⟨by repeat (with_reducible first | exact HB.out | apply bal | apply pbN | apply bdw)⟩⟩
                           ·as_aux_lemma =>
                            rw [if_neg c46] at H
                            have c46b0 : decide ((wrap64 ((rd (rd_L4 (rd_L5 x11_2 0) (ji35)) (ji40)) + (wrap64 (x18_5 * ((rd_T46 l0 x12_2).f2))))) < x17_5) = false := decide_eq_false c46
                            clear c46
                            have H' := As0.mk H
                            clear H
                            obtain ⟨Ao48, co48, eo48⟩ := Kd.N_slice HO_11.out
                            subst eo48
                            have p154 : 0 ≤ (0 : Int) := (by omega)
                            have q154 : 0 < (x11_2.length : Int) := of_decide_eq_true (by assumption)
                            obtain ⟨ad154, A154_0, c154_0, e154, hx154_0, hl154_0, hi154_0⟩ := at_L5 (Kd.N_reads' HO_11.out).2.2 0 p154 q154
                            cases e154
                            obtain ⟨ce154, hce154, hMe154, hcc154⟩ := Kd.N_get HO_11.out [] 0 p154 (by first | exact q154 | exact of_decide_eq_true (by assumption) | (have e_ := (Kd.N_reads' HO_11.out).1; omega))
                            obtain ⟨ua154_0, uc154_0, rfl, ul154_0, ge154_0⟩ := Kd.FK_slice_open hMe154
                            have hv154_0 := hcc154 0 _ rfl
                            rw [Nat.add_zero, show ((Kd.slice 30 (Kd.slice 2 (Kd.int .i64)))).sz = 1 from rfl, Nat.mul_one] at hv154_0
                            replace hv154_0 := Option.some.inj (hv154_0.symm.trans hx154_0)
                            injection hv154_0 with hva_ hvn_ hvc_
                            rw [hva_] at ge154_0
                            rw [hvc_] at ul154_0
                            have HL154_0 := As0.mk (show Kd.V (Kd.slice 2 (Kd.int .i64)) 30 _ w.heap.size _ _ (rd_L5 x11_2 0) from Kd.V_mk ul154_0 ge154_0)
                            clear hva_ hvn_ hvc_ ge154_0 ul154_0
                            clear hcc154 hce154
                            have qi154 : (0 < x11_2.length) = True := eq_true (by omega)
                            (try rw [show ((0 : Int)).toNat = 0 from rfl] at hx154_0)
                            (try rw [Addr.add_zero'] at hx154_0)
                            have HR154_0 := As0.mk hi154_0
                            have HC154_0 := As0.mk hl154_0
                            clear hi154_0 hl154_0
                            replace p154 := eq_true p154
                            replace q154 := eq_true q154
                            have p155 : 0 ≤ ((ji35) : Int) := of_decide_eq_true (by assumption)
                            have q155 : (ji35) < ((rd_L5 x11_2 0).length : Int) := of_decide_eq_true (by assumption)
                            obtain ⟨ad155, A155_0, c155_0, e155, hx155_0, hl155_0, hi155_0⟩ := at_L4 (by repeat (first | (with_reducible exact HR154_0.out) | (with_reducible refine Kd.C_alloc ?_ _) | (with_reducible refine Kd.C_drewN ?_ _) | (with_reducible refine Kd.C_drew ?_) | exact HR154_0.out)) (ji35) p155 q155
                            cases e155
                            obtain ⟨ce155, hce155, hMe155, hcc155⟩ := Kd.V_get HL154_0.out [] (ji35) p155 (by first | exact q155 | exact of_decide_eq_true (by assumption) | (have e_ := (Kd.V_reads' HL154_0.out).1; omega))
                            obtain ⟨ua155_0, uc155_0, rfl, ul155_0, ge155_0⟩ := Kd.FK_slice_open hMe155
                            have hv155_0 := hcc155 0 _ rfl
                            rw [Nat.add_zero, show ((Kd.slice 2 (Kd.int .i64))).sz = 1 from rfl, Nat.mul_one] at hv155_0
                            replace hv155_0 := Option.some.inj (hv155_0.symm.trans hx155_0)
                            injection hv155_0 with hva_ hvn_ hvc_
                            rw [hva_] at ge155_0
                            rw [hvc_] at ul155_0
                            have HL155_0 := As0.mk (show Kd.V (Kd.int .i64) 2 _ w.heap.size _ _ (rd_L4 (rd_L5 x11_2 0) (ji35)) from Kd.V_mk ul155_0 ge155_0)
                            clear hva_ hvn_ hvc_ ge155_0 ul155_0
                            clear hcc155 hce155
                            have HR155_0 := As0.mk hi155_0
                            have HC155_0 := As0.mk hl155_0
                            clear hi155_0 hl155_0
                            replace p155 := eq_true p155
                            replace q155 := eq_true q155
                            have p156 : 0 ≤ (x12_2 : Int) := of_decide_eq_true (by assumption)
                            have q156 : x12_2 < (l0.length : Int) := of_decide_eq_true (by assumption)
                            obtain ⟨ad156, e156, hx156_0, hx156_1, hx156_2, hx156_3⟩ := at_T46 HR0.out x12_2 p156 q156
                            cases e156
                            replace hx156_0 := (HB.out.cell (blt w _ hx156_0)).trans hx156_0
                            replace hx156_1 := (HB.out.cell (blt w _ hx156_1)).trans hx156_1
                            replace hx156_2 := (HB.out.cell (blt w _ hx156_2)).trans hx156_2
                            replace hx156_3 := (HB.out.cell (blt w _ hx156_3)).trans hx156_3
                            replace p156 := eq_true p156
                            replace q156 := eq_true q156
                            have p157 : 0 ≤ ((ji40) : Int) := of_decide_eq_true (by assumption)
                            have q157 : (ji40) < ((rd_L4 (rd_L5 x11_2 0) (ji35)).length : Int) := of_decide_eq_true (by assumption)
                            obtain ⟨ad157, e157, hx157_0⟩ := Kd.at_int (by repeat (first | (with_reducible exact HR155_0.out) | (with_reducible refine Kd.C_alloc ?_ _) | (with_reducible refine Kd.C_drewN ?_ _) | (with_reducible refine Kd.C_drew ?_) | exact HR155_0.out)) (ji40) p157 q157
                            cases e157
                            replace p157 := eq_true p157
                            replace q157 := eq_true q157
                            have p159 : 0 ≤ (x12_2 : Int) := of_decide_eq_true (by assumption)
                            have q159 : x12_2 < (l0.length : Int) := of_decide_eq_true (by assumption)
                            obtain ⟨ad159, e159, hx159_0, hx159_1, hx159_2, hx159_3⟩ := at_T46 HR0.out x12_2 p159 q159
                            obtain rfl : ad156 = ad159 := (by injection e159)
                            replace hx159_0 := (HB.out.cell (blt w _ hx159_0)).trans hx159_0
                            replace hx159_1 := (HB.out.cell (blt w _ hx159_1)).trans hx159_1
                            replace hx159_2 := (HB.out.cell (blt w _ hx159_2)).trans hx159_2
                            replace hx159_3 := (HB.out.cell (blt w _ hx159_3)).trans hx159_3
                            replace p159 := eq_true p159
                            replace q159 := eq_true q159
                            go_wp2
                            repeat (go_quiet (fail); try go_wp2)
                            go_roundg kj27
                            case measure => have := HK1.out; have := HK2.out; have := HK3.out; have := HK4.out; have := HK5.out; have := HJ27.out; omega
                            case rel => exact ⟨(x17_5), (wrap64 (x18_5 + 1)), (by first | rfl | (simp; done) | (simp [*]; done)), (by first | rfl | (simp; done) | (simp [*]; done)), H', ⟨by have := HK1.out; have := HK2.out; have := HK3.out; have := HK4.out; have := HK5.out; have := HJ27.out; omega⟩, ⟨by (with_reducible repeat (first | apply Kd.N_alloc | apply Kd.N_drewN | apply Kd.N_drew)); exact HO_11.out⟩, ⟨by (with_reducible repeat (first | apply Kd.N_alloc | apply Kd.N_drewN | apply Kd.N_drew)); exact HO_13.out⟩, ⟨by (with_reducible repeat (first | apply Kd.R_alloc | apply Kd.R_drewN | apply Kd.R_drew)); exact HO_15.out⟩, ⟨by repeat (with_reducible first | exact HB.out | apply bal | apply pbN | apply bdw)⟩⟩
                         ·as_aux_lemma =>
                          rw [if_neg c43] at H
                          have c43b0 : decide (0 ≤ (rd (rd_L4 (rd_L5 x11_2 0) (ji35)) (ji40))) = false := decide_eq_false c43
                          clear c43
                          have H' := As0.mk H
                          clear H
                          obtain ⟨Ao49, co49, eo49⟩ := Kd.N_slice HO_11.out
                          subst eo49
                          have p154 : 0 ≤ (0 : Int) := (by omega)
                          have q154 : 0 < (x11_2.length : Int) := of_decide_eq_true (by assumption)
                          obtain ⟨ad154, A154_0, c154_0, e154, hx154_0, hl154_0, hi154_0⟩ := at_L5 (Kd.N_reads' HO_11.out).2.2 0 p154 q154
                          cases e154
                          obtain ⟨ce154, hce154, hMe154, hcc154⟩ := Kd.N_get HO_11.out [] 0 p154 (by first | exact q154 | exact of_decide_eq_true (by assumption) | (have e_ := (Kd.N_reads' HO_11.out).1; omega))
                          obtain ⟨ua154_0, uc154_0, rfl, ul154_0, ge154_0⟩ := Kd.FK_slice_open hMe154
                          have hv154_0 := hcc154 0 _ rfl
                          rw [Nat.add_zero, show ((Kd.slice 30 (Kd.slice 2 (Kd.int .i64)))).sz = 1 from rfl, Nat.mul_one] at hv154_0
                          replace hv154_0 := Option.some.inj (hv154_0.symm.trans hx154_0)
                          injection hv154_0 with hva_ hvn_ hvc_
                          rw [hva_] at ge154_0
                          rw [hvc_] at ul154_0
                          have HL154_0 := As0.mk (show Kd.V (Kd.slice 2 (Kd.int .i64)) 30 _ w.heap.size _ _ (rd_L5 x11_2 0) from Kd.V_mk ul154_0 ge154_0)
                          clear hva_ hvn_ hvc_ ge154_0 ul154_0
                          clear hcc154 hce154
                          have qi154 : (0 < x11_2.length) = True := eq_true (by omega)
                          (try rw [show ((0 : Int)).toNat = 0 from rfl] at hx154_0)
                          (try rw [Addr.add_zero'] at hx154_0)
                          have HR154_0 := As0.mk hi154_0
                          have HC154_0 := As0.mk hl154_0
                          clear hi154_0 hl154_0
                          replace p154 := eq_true p154
                          replace q154 := eq_true q154
                          have p155 : 0 ≤ ((ji35) : Int) := of_decide_eq_true (by assumption)
                          have q155 : (ji35) < ((rd_L5 x11_2 0).length : Int) := of_decide_eq_true (by assumption)
                          obtain ⟨ad155, A155_0, c155_0, e155, hx155_0, hl155_0, hi155_0⟩ := at_L4 (by repeat (first | (with_reducible exact HR154_0.out) | (with_reducible refine Kd.C_alloc ?_ _) | (with_reducible refine Kd.C_drewN ?_ _) | (with_reducible refine Kd.C_drew ?_) | exact HR154_0.out)) (ji35) p155 q155
                          cases e155
                          obtain ⟨ce155, hce155, hMe155, hcc155⟩ := Kd.V_get HL154_0.out [] (ji35) p155 (by first | exact q155 | exact of_decide_eq_true (by assumption) | (have e_ := (Kd.V_reads' HL154_0.out).1; omega))
                          obtain ⟨ua155_0, uc155_0, rfl, ul155_0, ge155_0⟩ := Kd.FK_slice_open hMe155
                          have hv155_0 := hcc155 0 _ rfl
                          rw [Nat.add_zero, show ((Kd.slice 2 (Kd.int .i64))).sz = 1 from rfl, Nat.mul_one] at hv155_0
                          replace hv155_0 := Option.some.inj (hv155_0.symm.trans hx155_0)
                          injection hv155_0 with hva_ hvn_ hvc_
                          rw [hva_] at ge155_0
                          rw [hvc_] at ul155_0
                          have HL155_0 := As0.mk (show Kd.V (Kd.int .i64) 2 _ w.heap.size _ _ (rd_L4 (rd_L5 x11_2 0) (ji35)) from Kd.V_mk ul155_0 ge155_0)
                          clear hva_ hvn_ hvc_ ge155_0 ul155_0
                          clear hcc155 hce155
                          have HR155_0 := As0.mk hi155_0
                          have HC155_0 := As0.mk hl155_0
                          clear hi155_0 hl155_0
                          replace p155 := eq_true p155
                          replace q155 := eq_true q155
                          have p156 : 0 ≤ (x12_2 : Int) := of_decide_eq_true (by assumption)
                          have q156 : x12_2 < (l0.length : Int) := of_decide_eq_true (by assumption)
                          obtain ⟨ad156, e156, hx156_0, hx156_1, hx156_2, hx156_3⟩ := at_T46 HR0.out x12_2 p156 q156
                          cases e156
                          replace hx156_0 := (HB.out.cell (blt w _ hx156_0)).trans hx156_0
                          replace hx156_1 := (HB.out.cell (blt w _ hx156_1)).trans hx156_1
                          replace hx156_2 := (HB.out.cell (blt w _ hx156_2)).trans hx156_2
                          replace hx156_3 := (HB.out.cell (blt w _ hx156_3)).trans hx156_3
                          replace p156 := eq_true p156
                          replace q156 := eq_true q156
                          have p157 : 0 ≤ ((ji40) : Int) := of_decide_eq_true (by assumption)
                          have q157 : (ji40) < ((rd_L4 (rd_L5 x11_2 0) (ji35)).length : Int) := of_decide_eq_true (by assumption)
                          obtain ⟨ad157, e157, hx157_0⟩ := Kd.at_int (by repeat (first | (with_reducible exact HR155_0.out) | (with_reducible refine Kd.C_alloc ?_ _) | (with_reducible refine Kd.C_drewN ?_ _) | (with_reducible refine Kd.C_drew ?_) | exact HR155_0.out)) (ji40) p157 q157
                          cases e157
                          replace p157 := eq_true p157
                          replace q157 := eq_true q157
                          go_wp2
                          repeat (go_quiet (fail); try go_wp2)
                          go_roundg kj27
                          case measure => have := HK1.out; have := HK2.out; have := HK3.out; have := HK4.out; have := HK5.out; have := HJ27.out; omega
                          case rel => exact ⟨(x17_5), (wrap64 (x18_5 + 1)), (by first | rfl | (simp; done) | (simp [*]; done)), (by first | rfl | (simp; done) | (simp [*]; done)), H', ⟨by have := HK1.out; have := HK2.out; have := HK3.out; have := HK4.out; have := HK5.out; have := HJ27.out; omega⟩, ⟨by (with_reducible repeat (first | apply Kd.N_alloc | apply Kd.N_drewN | apply Kd.N_drew)); exact HO_11.out⟩, ⟨by (with_reducible repeat (first | apply Kd.N_alloc | apply Kd.N_drewN | apply Kd.N_drew)); exact HO_13.out⟩, ⟨by (with_reducible repeat (first | apply Kd.R_alloc | apply Kd.R_drewN | apply Kd.R_drew)); exact HO_15.out⟩, ⟨by repeat (with_reducible first | exact HB.out | apply bal | apply pbN | apply bdw)⟩⟩
                        ·rw [if_neg c42] at H
                         exact absurd H (by simp)
                       ·rw [if_neg c41] at H
                        exact absurd H (by simp)
                      ·rw [if_neg c39] at H
                       exact absurd H (by simp)
                     ·rw [if_neg c38] at H
                      exact absurd H (by simp)
                    ·rw [if_neg c37] at H
                     exact absurd H (by simp)
                   ·rw [if_neg c36] at H
                    exact absurd H (by simp)
                  ·rw [if_neg c34] at H
                   exact absurd H (by simp)
                 ·replace c33 := Bool.eq_false_iff.mpr c33
                  subst c33
                  have H1 : (if x15_4.length < 17592186044416 then (spec_l16Costs.l4 kj27 l0 a1 a2 x11_2 x12_2 x13_3 x14_3 (x15_4 ++ [x17_5]) (wrap64 (x16_4 + 1))) else (none)) = some r := by rw [if_neg (show ¬ (false = true) by decide)] at H; exact H
                  clear H
                  have H := H1
                  clear H1
                  by_cases c50 : x15_4.length < 17592186044416
                  ·rw [if_pos c50] at H
                   have LMc50 := As0.mk c50
                   clear c50
                   obtain ⟨y161, hy161⟩ : ∃ y_ : List Int, y_ = (x15_4 ++ [x17_5]) := ⟨_, rfl⟩
                   replace H : (spec_l16Costs.l4 kj27 l0 a1 a2 x11_2 x12_2 x13_3 x14_3 y161 (wrap64 (x16_4 + 1))) = some r := by first | (rw [hy161]; with_reducible exact H) | (have H2_ := (Option.bind_some _ _).symm.trans H; rw [hy161]; with_reducible exact H2_) | (have H2_ := (Option.bind_some _ _).symm.trans H; with_reducible exact H2_) | with_reducible exact H | (rw [hy161]; exact H) | exact H
                   have Ny161 := As0.mk hy161
                   clear hy161
                   have H' := As0.mk H
                   clear H
                   go_wp2_with (first | ((with_reducible refine gbu (b := .append) (xs := #[.tmp 137, .tmp 139]) rfl ?_); at_builtin; refine Kd.R_append (Kd.int .i64) (w0 := w) w.heap.size rfl (.tmp 137) (.tmp 139) 30 2 (.int .i64 0) 8 rfl Try.underlying30 info2 rfl (by decide) (by omega) u15 x15_4 x17_5 [.int .i64 x17_5] (fun k_ => (w.heap.size ≤ k_)) (fun _ => False) rfl rfl ?aP (fun _ hk => hk.elim) ?aF ?aO ?aB ?aS ?aL ?_; (case aP => exact rfl); (case aB => exact (by repeat (with_reducible first | exact HB.out | apply bal | apply pbN | apply bdw))); (case aF => exact (fun k_ hk => (Nat.le_trans (bsz (by repeat (with_reducible first | exact HB.out | apply bal | apply pbN | apply bdw))) hk))); (case aO => exact (by (with_reducible repeat (first | apply Kd.R_alloc | apply Kd.R_drewN | apply Kd.R_drew)); exact HO_15.out)); (case aS => exact (bsz (by repeat (with_reducible first | exact HB.out | apply bal | apply pbN | apply bdw)))); (case aL => have := LMc50.out; omega); intro v162 w51 ho hb hg hat; rw [← Ny161.out] at ho; have n0_ := As0.mk (Kd.N_afterv (ok := (fun k_ => (w.heap.size ≤ k_) ∧ some k_ ≠ (u13 : Value).ownBlock)) (by (with_reducible repeat (first | apply Kd.N_alloc | apply Kd.N_drewN | apply Kd.N_drew)); exact Kd.N_mono HO_11.out (fun _ hk => ⟨⟨hk.1, hk.2.1⟩, hk.2.2⟩)) hg hat); have n1_ := As0.mk (Kd.N_afterv (ok := (fun k_ => (w.heap.size ≤ k_) ∧ some k_ ≠ (u11 : Value).ownBlock)) (by (with_reducible repeat (first | apply Kd.N_alloc | apply Kd.N_drewN | apply Kd.N_drew)); exact Kd.N_mono HO_13.out (fun _ hk => ⟨⟨hk.1, hk.2.1⟩, hk.2.2⟩)) hg hat); have n2_ := As0.mk (hb); have n3_ := As0.mk (ho); clear HO_11; clear HO_13; clear HB; clear HO_15; have HO_11 := n0_; have HO_13 := n1_; have HB := n2_; have HO163 := n3_; clear n0_ n1_ n2_ n3_; clear ho hb hg hat))
                   repeat (go_quiet (first | ((with_reducible refine gbu (b := .append) (xs := #[.tmp 137, .tmp 139]) rfl ?_); at_builtin; refine Kd.R_append (Kd.int .i64) (w0 := w) w.heap.size rfl (.tmp 137) (.tmp 139) 30 2 (.int .i64 0) 8 rfl Try.underlying30 info2 rfl (by decide) (by omega) u15 x15_4 x17_5 [.int .i64 x17_5] (fun k_ => (w.heap.size ≤ k_)) (fun _ => False) rfl rfl ?aP (fun _ hk => hk.elim) ?aF ?aO ?aB ?aS ?aL ?_; (case aP => exact rfl); (case aB => exact (by repeat (with_reducible first | exact HB.out | apply bal | apply pbN | apply bdw))); (case aF => exact (fun k_ hk => (Nat.le_trans (bsz (by repeat (with_reducible first | exact HB.out | apply bal | apply pbN | apply bdw))) hk))); (case aO => exact (by (with_reducible repeat (first | apply Kd.R_alloc | apply Kd.R_drewN | apply Kd.R_drew)); exact HO_15.out)); (case aS => exact (bsz (by repeat (with_reducible first | exact HB.out | apply bal | apply pbN | apply bdw)))); (case aL => have := LMc50.out; omega); intro v162 w51 ho hb hg hat; rw [← Ny161.out] at ho; have n0_ := As0.mk (Kd.N_afterv (ok := (fun k_ => (w.heap.size ≤ k_) ∧ some k_ ≠ (u13 : Value).ownBlock)) (by (with_reducible repeat (first | apply Kd.N_alloc | apply Kd.N_drewN | apply Kd.N_drew)); exact Kd.N_mono HO_11.out (fun _ hk => ⟨⟨hk.1, hk.2.1⟩, hk.2.2⟩)) hg hat); have n1_ := As0.mk (Kd.N_afterv (ok := (fun k_ => (w.heap.size ≤ k_) ∧ some k_ ≠ (u11 : Value).ownBlock)) (by (with_reducible repeat (first | apply Kd.N_alloc | apply Kd.N_drewN | apply Kd.N_drew)); exact Kd.N_mono HO_13.out (fun _ hk => ⟨⟨hk.1, hk.2.1⟩, hk.2.2⟩)) hg hat); have n2_ := As0.mk (hb); have n3_ := As0.mk (ho); clear HO_11; clear HO_13; clear HB; clear HO_15; have HO_11 := n0_; have HO_13 := n1_; have HB := n2_; have HO163 := n3_; clear n0_ n1_ n2_ n3_; clear ho hb hg hat)); try go_wp2_with (first | ((with_reducible refine gbu (b := .append) (xs := #[.tmp 137, .tmp 139]) rfl ?_); at_builtin; refine Kd.R_append (Kd.int .i64) (w0 := w) w.heap.size rfl (.tmp 137) (.tmp 139) 30 2 (.int .i64 0) 8 rfl Try.underlying30 info2 rfl (by decide) (by omega) u15 x15_4 x17_5 [.int .i64 x17_5] (fun k_ => (w.heap.size ≤ k_)) (fun _ => False) rfl rfl ?aP (fun _ hk => hk.elim) ?aF ?aO ?aB ?aS ?aL ?_; (case aP => exact rfl); (case aB => exact (by repeat (with_reducible first | exact HB.out | apply bal | apply pbN | apply bdw))); (case aF => exact (fun k_ hk => (Nat.le_trans (bsz (by repeat (with_reducible first | exact HB.out | apply bal | apply pbN | apply bdw))) hk))); (case aO => exact (by (with_reducible repeat (first | apply Kd.R_alloc | apply Kd.R_drewN | apply Kd.R_drew)); exact HO_15.out)); (case aS => exact (bsz (by repeat (with_reducible first | exact HB.out | apply bal | apply pbN | apply bdw)))); (case aL => have := LMc50.out; omega); intro v162 w51 ho hb hg hat; rw [← Ny161.out] at ho; have n0_ := As0.mk (Kd.N_afterv (ok := (fun k_ => (w.heap.size ≤ k_) ∧ some k_ ≠ (u13 : Value).ownBlock)) (by (with_reducible repeat (first | apply Kd.N_alloc | apply Kd.N_drewN | apply Kd.N_drew)); exact Kd.N_mono HO_11.out (fun _ hk => ⟨⟨hk.1, hk.2.1⟩, hk.2.2⟩)) hg hat); have n1_ := As0.mk (Kd.N_afterv (ok := (fun k_ => (w.heap.size ≤ k_) ∧ some k_ ≠ (u11 : Value).ownBlock)) (by (with_reducible repeat (first | apply Kd.N_alloc | apply Kd.N_drewN | apply Kd.N_drew)); exact Kd.N_mono HO_13.out (fun _ hk => ⟨⟨hk.1, hk.2.1⟩, hk.2.2⟩)) hg hat); have n2_ := As0.mk (hb); have n3_ := As0.mk (ho); clear HO_11; clear HO_13; clear HB; clear HO_15; have HO_11 := n0_; have HO_13 := n1_; have HB := n2_; have HO163 := n3_; clear n0_ n1_ n2_ n3_; clear ho hb hg hat)))
                   go_roundg kj27
                   case measure => have := HK1.out; have := HK2.out; have := HK3.out; have := HK4.out; have := HK5.out; have := HJ27.out; omega
                   case rel => exact ⟨(y161), (wrap64 (x16_4 + 1)), (by first | rfl | (simp; done) | (simp [*]; done)), H', ⟨by have := HK1.out; have := HK2.out; have := HK3.out; have := HK4.out; have := HK5.out; have := HJ27.out; omega⟩, ⟨by (with_reducible repeat (first | apply Kd.N_alloc | apply Kd.N_drewN | apply Kd.N_drew)); exact Kd.N_mono HO_11.out (fun _ hk => ⟨hk.1.1, ⟨hk.1.2, hk.2⟩⟩)⟩, ⟨by (with_reducible repeat (first | apply Kd.N_alloc | apply Kd.N_drewN | apply Kd.N_drew)); exact Kd.N_mono HO_13.out (fun _ hk => ⟨hk.1.1, ⟨hk.1.2, hk.2⟩⟩)⟩, ⟨by (with_reducible repeat (first | apply Kd.R_alloc | apply Kd.R_drewN | apply Kd.R_drew)); exact HO163.out⟩, ⟨by repeat (with_reducible first | exact HB.out | apply bal | apply pbN | apply bdw)⟩⟩
                  ·rw [if_neg c50] at H
                   exact absurd H (by simp)
            ·rw [if_neg c27] at H
             have c27b0 : decide (x16_4 ≤ a2) = false := decide_eq_false c27
             clear c27
             by_cases c52 : x13_3.length < 5864062014805
             ·rw [if_pos c52] at H
              have LMc52 := As0.mk c52
              clear c52
              obtain ⟨y149, hy149⟩ : ∃ y_ : List (List Int), y_ = (x13_3 ++ [x15_4]) := ⟨_, rfl⟩
              replace H : (spec_l16Costs.l3 k4 l0 a1 a2 x11_2 x12_2 y149 (wrap64 (x14_3 + 1))) = some r := by first | (rw [hy149]; with_reducible exact H) | (have H2_ := (Option.bind_some _ _).symm.trans H; rw [hy149]; with_reducible exact H2_) | (have H2_ := (Option.bind_some _ _).symm.trans H; with_reducible exact H2_) | with_reducible exact H | (rw [hy149]; exact H) | exact H
              have Ny149 := As0.mk hy149
              clear hy149
              have H' := As0.mk H
              clear H
              obtain ⟨Ao54, co54, eo54⟩ := Kd.R_slice HO_15.out
              subst eo54
              iterate 4 ((try go_wp2_with (first | ((with_reducible refine gbu (b := .append) (xs := #[.tmp 141, .tmp 143]) rfl ?_); at_builtin; refine Kd.N_append (Kd.slice 2 (Kd.int .i64)) (w0 := w) w.heap.size rfl (.tmp 141) (.tmp 143) 45 30 (.slice none 0 0) 24 rfl Try.underlying45 info30 rfl (by decide) (by omega) u13 x13_3 x15_4 [.slice Ao54 x15_4.length co54] (fun k_ => (w.heap.size ≤ k_) ∧ some k_ ≠ (u11 : Value).ownBlock) (fun k_ => ((fun k_ => (w.heap.size ≤ k_) ∧ some k_ ≠ (u11 : Value).ownBlock)) k_ ∧ some k_ ≠ (u13 : Value).ownBlock) rfl rfl ?aP (fun _ hk => hk) ?aF ?aO ?aB ?aS ?aL ?_; (case aP => exact (Kd.FK_slice_mk (Kd.R_reads' (Kd.R_mono (ok' := (fun k_ => ((fun k_ => (w.heap.size ≤ k_) ∧ some k_ ≠ (u11 : Value).ownBlock)) k_ ∧ some k_ ≠ (u13 : Value).ownBlock)) (Kd.R_apart' (Kd.R_apart' (HO_15.out) (Kd.N_typed HO_11.out) (by decide)) (Kd.N_typed HO_13.out) (by decide)) (fun k_ hk => ⟨⟨hk.1.1, hk.1.2⟩, hk.2⟩))).2.1 (Kd.R_F (Kd.R_mono (ok' := (fun k_ => ((fun k_ => (w.heap.size ≤ k_) ∧ some k_ ≠ (u11 : Value).ownBlock)) k_ ∧ some k_ ≠ (u13 : Value).ownBlock)) (Kd.R_apart' (Kd.R_apart' (HO_15.out) (Kd.N_typed HO_11.out) (by decide)) (Kd.N_typed HO_13.out) (by decide)) (fun k_ hk => ⟨⟨hk.1.1, hk.1.2⟩, hk.2⟩))))); (case aB => exact (by repeat (with_reducible first | exact HB.out | apply bal | apply pbN | apply bdw))); (case aF => exact (fun k_ hk => ⟨(Nat.le_trans (bsz (by repeat (with_reducible first | exact HB.out | apply bal | apply pbN | apply bdw))) hk), Kd.fresh' (Kd.N_lt (by (with_reducible repeat (first | apply Kd.N_alloc | apply Kd.N_drewN | apply Kd.N_drew)); exact HO_11.out)) k_ hk⟩)); (case aO => exact (by (with_reducible repeat (first | apply Kd.N_alloc | apply Kd.N_drewN | apply Kd.N_drew)); exact Kd.N_mono HO_13.out (fun _ hk => ⟨hk.1, hk.2.1⟩))); (case aS => exact (bsz (by repeat (with_reducible first | exact HB.out | apply bal | apply pbN | apply bdw)))); (case aL => have := LMc52.out; omega); intro v150 w53 ho hb hg hat; rw [← Ny149.out] at ho; have n0_ := As0.mk (Kd.N_afterv (ok := (fun k_ => (w.heap.size ≤ k_) ∧ some k_ ≠ (.slice Ao54 x15_4.length co54 : Value).ownBlock)) (by (with_reducible repeat (first | apply Kd.N_alloc | apply Kd.N_drewN | apply Kd.N_drew)); exact Kd.N_mono HO_11.out (fun _ hk => ⟨⟨hk.1, hk.2.2⟩, hk.2.1⟩)) hg hat); have n1_ := As0.mk (hb); have n2_ := As0.mk (ho); clear HO_11; clear HB; clear HO_13; clear HO_15; have HO_11 := n0_; have HB := n1_; have HO151 := n2_; clear n0_ n1_ n2_; clear ho hb hg hat))); (try go_quiet (fail)))
              go_roundg k4
              case measure => have := HK1.out; have := HK2.out; have := HK3.out; have := HK4.out; omega
              case rel => exact ⟨(y149), (wrap64 (x14_3 + 1)), (by first | rfl | (simp; done) | (simp [*]; done)), H', ⟨by have := HK1.out; have := HK2.out; have := HK3.out; have := HK4.out; omega⟩, ⟨by (with_reducible repeat (first | apply Kd.N_alloc | apply Kd.N_drewN | apply Kd.N_drew)); exact Kd.N_mono HO_11.out (fun _ hk => ⟨hk.1.1, hk.2⟩)⟩, ⟨by (with_reducible repeat (first | apply Kd.N_alloc | apply Kd.N_drewN | apply Kd.N_drew)); exact HO151.out⟩, ⟨by repeat (with_reducible first | exact HB.out | apply bal | apply pbN | apply bdw)⟩⟩
             ·rw [if_neg c52] at H
              exact absurd H (by simp)
         ·rw [if_neg c24] at H
          have c24b0 : decide (x14_3 ≤ a1) = false := decide_eq_false c24
          clear c24
          obtain ⟨y140, hy140⟩ : ∃ y_ : List (List (List Int)), y_ = (([x13_3] : List (List (List Int)))) := ⟨_, rfl⟩
          replace H : (if y140.length + x11_2.length < 5864062014805 then (spec_l16Costs.l2 k3 l0 a1 a2 (y140 ++ x11_2) (wrap64 (x12_2 - 1))) else (none)) = some r := by first | (rw [hy140]; with_reducible exact H) | (have H2_ := (Option.bind_some _ _).symm.trans H; rw [hy140]; with_reducible exact H2_) | (have H2_ := (Option.bind_some _ _).symm.trans H; with_reducible exact H2_) | with_reducible exact H | (rw [hy140]; exact H) | exact H
          have Ny140 := As0.mk hy140
          clear hy140
          by_cases c55 : y140.length + x11_2.length < 5864062014805
          ·rw [if_pos c55] at H
           have LMc55 := As0.mk c55
           clear c55
           obtain ⟨y143, hy143⟩ : ∃ y_ : List (List (List Int)), y_ = (y140 ++ x11_2) := ⟨_, rfl⟩
           replace H : (spec_l16Costs.l2 k3 l0 a1 a2 y143 (wrap64 (x12_2 - 1))) = some r := by first | (rw [hy143]; with_reducible exact H) | (have H2_ := (Option.bind_some _ _).symm.trans H; rw [hy143]; with_reducible exact H2_) | (have H2_ := (Option.bind_some _ _).symm.trans H; with_reducible exact H2_) | with_reducible exact H | (rw [hy143]; exact H) | exact H
           have Ny143 := As0.mk hy143
           clear hy143
           have H' := As0.mk H
           clear H
           obtain ⟨Ao56, co56, eo56⟩ := Kd.N_slice HO_13.out
           subst eo56
           iterate 4 ((try go_wp2_with (first | ((with_reducible refine gate_dst (N := 146) rfl ?_); refine Kd.N_lit (Kd.slice 30 (Kd.slice 2 (Kd.int .i64))) _ 45 ?hg (N' := 146) ?hd (xs := ([x13_3] : List (List (List Int)))) (inner := [.slice Ao56 x13_3.length co56]) (ok := (fun k_ => (w.heap.size ≤ k_) ∧ some k_ ≠ (u11 : Value).ownBlock)) (okp := (fun k_ => (w.heap.size ≤ k_) ∧ some k_ ≠ (u11 : Value).ownBlock)) ?hr ?hp (fun _ hk => hk) ((show ∀ k_, wr.heap.size ≤ k_ → (fun k_ => (w.heap.size ≤ k_) ∧ some k_ ≠ (u11 : Value).ownBlock) k_ from fun k_ hk => ⟨(Nat.le_trans (bsz (by repeat (with_reducible first | exact HB.out | apply bal | apply pbN | apply bdw))) hk), Kd.fresh' (Kd.N_lt (by (with_reducible repeat (first | apply Kd.N_alloc | apply Kd.N_drewN | apply Kd.N_drew)); exact HO_11.out)) k_ hk⟩) _ (Nat.le_refl _)) (Below.refl _ _) (Nat.le_refl _) (by simp) ?_; (case hd => rfl); (case hg => rfl); (case hr => first | (go_simp; done) | (go_simp; rfl)); (case hp => exact (Reps.one (show Kd.FK (Kd.slice 30 (Kd.slice 2 (Kd.int .i64))) _ _ x13_3 [.slice Ao56 x13_3.length co56] from (Kd.FK_slice_mk (Kd.N_reads' (Kd.N_mono (ok' := (fun k_ => (w.heap.size ≤ k_) ∧ some k_ ≠ (u11 : Value).ownBlock)) (HO_13.out) (fun k_ hk => ⟨hk.1, hk.2⟩))).2.1 (Kd.N_F (Kd.N_mono (ok' := (fun k_ => (w.heap.size ≤ k_) ∧ some k_ ≠ (u11 : Value).ownBlock)) (HO_13.out) (fun k_ hk => ⟨hk.1, hk.2⟩))))) (Reps.none _ _))); intro v141 w57 ho58 hb hg_ hnew_; clear hg_ hnew_; (first | rw [← Ny140.out] at ho58 | (simp only [Int.reduceToNat] at ho58; rw [← Ny140.out] at ho58)); have n0_ := As0.mk (Kd.N_elder' (by (with_reducible repeat (first | apply Kd.N_alloc | apply Kd.N_drewN | apply Kd.N_drew)); exact HO_11.out) (Kd.N_base ho58) hb); have n1_ := As0.mk (Kd.N_lower ho58 (bsz (by repeat (with_reducible first | exact HB.out | apply bal | apply pbN | apply bdw)))); have n2_ := As0.mk (bsp (by repeat (with_reducible first | exact HB.out | apply bal | apply pbN | apply bdw)) hb); clear HO_11; clear HB; clear HO_13; have HO_11 := n0_; have HO142 := n1_; have HB := n2_; clear n0_ n1_ n2_; clear hb ho58; obtain ⟨Ao60, co60, eo60⟩ := Kd.N_slice HO_11.out; subst eo60) | ((with_reducible refine gbu (b := .append) (xs := #[.tmp 146, .tmp 147]) rfl ?_); at_builtin; refine Kd.N_append_rows (Kd.slice 30 (Kd.slice 2 (Kd.int .i64))) (w0 := w) w.heap.size rfl (.tmp 146) (.tmp 147) 43 45 (.slice none 0 0) 24 rfl Try.underlying43 info45 rfl (by decide) (by omega) v141 y140 x11_2 _ _ _ (fun k_ => (w.heap.size ≤ k_)) (fun k_ => ((fun k_ => (w.heap.size ≤ k_))) k_ ∧ some k_ ≠ (v141 : Value).ownBlock) rfl rfl ?aO ?aR (fun _ hk => hk) ?aF ?aB ?aS ?aL ?_; (case aR => exact (by skip; exact Kd.N_F (Kd.N_mono (ok' := (fun k_ => ((fun k_ => (w.heap.size ≤ k_))) k_ ∧ some k_ ≠ (v141 : Value).ownBlock)) (HO_11.out) (fun k_ hk => ⟨hk.1.1, hk.2⟩)))); (case aB => exact (by repeat (with_reducible first | exact HB.out | apply bal | apply pbN | apply bdw))); (case aF => exact (fun k_ hk => (Nat.le_trans (bsz (by repeat (with_reducible first | exact HB.out | apply bal | apply pbN | apply bdw))) hk))); (case aO => exact (by (with_reducible repeat (first | apply Kd.N_alloc | apply Kd.N_drewN | apply Kd.N_drew)); exact Kd.N_mono HO142.out (fun _ hk => hk.1))); (case aS => exact (bsz (by repeat (with_reducible first | exact HB.out | apply bal | apply pbN | apply bdw)))); (case aL => have := LMc55.out; omega); intro v144 w59 ho hb hg hat; rw [← Ny143.out] at ho; have n0_ := As0.mk (Kd.N_afterv (ok := (fun k_ => (w.heap.size ≤ k_))) (by (with_reducible repeat (first | apply Kd.N_alloc | apply Kd.N_drewN | apply Kd.N_drew)); exact Kd.N_mono HO_11.out (fun _ hk => ⟨hk.1.1, hk.2⟩)) hg hat); have n1_ := As0.mk (hb); have n2_ := As0.mk (ho); clear HO_11; clear HB; clear HO142; have HO_11 := n0_; have HB := n1_; have HO145 := n2_; clear n0_ n1_ n2_; clear ho hb hg hat))); (try go_quiet (fail)))
           go_roundg k3
           case measure => have := HK1.out; have := HK2.out; have := HK3.out; omega
           case rel => exact ⟨(y143), (wrap64 (x12_2 - 1)), (by first | rfl | (simp; done) | (simp [*]; done)), H', ⟨by have := HK1.out; have := HK2.out; have := HK3.out; omega⟩, ⟨by (with_reducible repeat (first | apply Kd.N_alloc | apply Kd.N_drewN | apply Kd.N_drew)); exact HO145.out⟩, ⟨by repeat (with_reducible first | exact HB.out | apply bal | apply pbN | apply bdw)⟩⟩
          ·rw [if_neg c55] at H
           exact absurd H (by simp)
      ·rw [if_neg c21] at H
       have c21b0 : decide (0 ≤ x12_2) = false := decide_eq_false c21
       clear c21
       obtain rfl := Option.some.inj H
       go_wp2
       repeat (go_quiet (fail); try go_wp2)
       go_ret
       exact ⟨_, by first | rfl | (simp [eWn, eWs] <;> rfl) | (simp [*, eWn, eWs] <;> rfl), by (with_reducible repeat (first | apply Kd.N_alloc | apply Kd.N_drewN | apply Kd.N_drew)); exact HO_11.out, by repeat (with_reducible first | exact HB.out | apply bal | apply pbN | apply bdw)⟩

end Go.Proofs.Ytnhkamfccoppbaa.QPriceOfLimit
