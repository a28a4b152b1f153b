-- Written by press.py, a program of this session, round the kit's print.py (functions and contracts; Lean checks them).
import Derived.Test.YtnhkamfccoppbaaQCleanestMixx0
namespace Go.Proofs.Ytnhkamfccoppbaa.QCleanestMix
open Go.Proofs.Ytnhkamfccoppbaa.QWords
attribute [local go_sem high] binOp_string_geq_q binOp_string_leq_q binOp_string_gtr_q
open Go.RowKit Go.Proofs.YtnhkamfccoppbaaW.PrintWords Go.Proofs.YtnhkamfccoppbaaW.PrintLast Go.Proofs.YtnhkamfccoppbaaW.PrintMore
attribute [local go_sem] max2_int min2_int max_two min_two max_three min_three max_four min_four   -- for this text's walks alone
set_option linter.unusedVariables false
set_option linter.unusedSimpArgs false

/-! ### spec_l16Table: function 27 -/
mutual
def spec_l16Table.l0 : Nat → List (S46) → Int → List Int → Int → Option ((List (List Int)))
 | 0, _, _, _, _ => none
 | k + 1, x0, x1, x5, x6 => if x6 ≤ x1 then (if x5.length < 17592186044416 then (spec_l16Table.l0 k x0 x1 (x5 ++ [(-1)]) (wrap64 (x6 + 1))) else (none)) else (spec_l16Table.l1 k x0 x1 (([x5] : List (List Int))) (wrap64 ((x0.length : Int) - 1)))
def spec_l16Table.l1 : Nat → List (S46) → Int → List (List Int) → Int → Option ((List (List Int)))
 | 0, _, _, _, _ => none
 | k + 1, x0, x1, x7, x8 => if x8 ≥ 0 then (spec_l16Table.l2 k x0 x1 x7 x8 (([] : List Int)) 0) else (some x7)
def spec_l16Table.l2 : Nat → List (S46) → Int → List (List Int) → Int → List Int → Int → Option ((List (List Int)))
 | 0, _, _, _, _, _, _ => none
 | k + 1, x0, x1, x7, x8, x9, x10 => if x10 ≤ x1 then (spec_l16Table.l3 k x0 x1 x7 x8 x9 x10 (-1) 0) else ((some (([x9] : List (List Int)) : List (List Int))).bind fun y145 => (if y145.length + x7.length < 5864062014805 then (spec_l16Table.l1 k x0 x1 (y145 ++ x7) (wrap64 (x8 - 1))) else (none)))
def spec_l16Table.l3 : Nat → List (S46) → Int → List (List Int) → Int → List Int → Int → Int → Int → Option ((List (List Int)))
 | 0, _, _, _, _, _, _, _, _ => none
 | k + 1, x0, x1, x7, x8, x9, x10, x11, x12 => if 0 ≤ x8 then (if x8 < (x0.length : Int) then (if x12 ≤ ((rd_T46 x0 x8).f3) then (spec_l16Table.j4 k x0 x1 x7 x8 x9 x10 x11 x12 (decide (x12 ≤ x10))) else (spec_l16Table.j4 k x0 x1 x7 x8 x9 x10 x11 x12 false)) else (none)) else (none)
def spec_l16Table.j4 : Nat → List (S46) → Int → List (List Int) → Int → List Int → Int → Int → Int → Bool → Option ((List (List Int)))
 | 0, _, _, _, _, _, _, _, _, _ => none
 | k + 1, x0, x1, x7, x8, x9, x10, x11, x12, x49 => if x49 = true then (if 0 < (x7.length : Int) then (if 0 ≤ (wrap64 (x10 - x12)) then (if (wrap64 (x10 - x12)) < ((rd_L4 x7 0).length : Int) then (if (rd (rd_L4 x7 0) (wrap64 (x10 - x12))) ≥ 0 then (if x11 < 0 then (if 0 ≤ x8 then (if x8 < (x0.length : Int) then (spec_l16Table.l3 k x0 x1 x7 x8 x9 x10 (wrap64 ((rd (rd_L4 x7 0) (wrap64 (x10 - x12))) + (wrap64 (x12 * ((rd_T46 x0 x8).f1))))) (wrap64 (x12 + 1))) else (none)) else (none)) else (if 0 ≤ x8 then (if x8 < (x0.length : Int) then (if (wrap64 ((rd (rd_L4 x7 0) (wrap64 (x10 - x12))) + (wrap64 (x12 * ((rd_T46 x0 x8).f1))))) < x11 then (spec_l16Table.l3 k x0 x1 x7 x8 x9 x10 (wrap64 ((rd (rd_L4 x7 0) (wrap64 (x10 - x12))) + (wrap64 (x12 * ((rd_T46 x0 x8).f1))))) (wrap64 (x12 + 1))) else (spec_l16Table.l3 k x0 x1 x7 x8 x9 x10 x11 (wrap64 (x12 + 1)))) else (none)) else (none))) else (spec_l16Table.l3 k x0 x1 x7 x8 x9 x10 x11 (wrap64 (x12 + 1)))) else (none)) else (none)) else (none)) else (if x9.length < 17592186044416 then (spec_l16Table.l2 k x0 x1 x7 x8 (x9 ++ [x11]) (wrap64 (x10 + 1))) else (none))
end
def spec_l16Table.f (k : Nat) (l0 : List (S46)) (a1 : Int) : Option ((List (List Int))) := spec_l16Table.l0 k l0 a1 (([0] : List Int)) 1
theorem spec_l16Table.mono_l : ∀ k, (∀ y0 y1 y2 y3, LeO (spec_l16Table.l0 k y0 y1 y2 y3) (spec_l16Table.l0 (k + 1) y0 y1 y2 y3)) ∧ (∀ y0 y1 y2 y3, LeO (spec_l16Table.l1 k y0 y1 y2 y3) (spec_l16Table.l1 (k + 1) y0 y1 y2 y3)) ∧ (∀ y0 y1 y2 y3 y4 y5, LeO (spec_l16Table.l2 k y0 y1 y2 y3 y4 y5) (spec_l16Table.l2 (k + 1) y0 y1 y2 y3 y4 y5)) ∧ (∀ y0 y1 y2 y3 y4 y5 y6 y7, LeO (spec_l16Table.l3 k y0 y1 y2 y3 y4 y5 y6 y7) (spec_l16Table.l3 (k + 1) y0 y1 y2 y3 y4 y5 y6 y7)) ∧ (∀ y0 y1 y2 y3 y4 y5 y6 y7 y8, LeO (spec_l16Table.j4 k y0 y1 y2 y3 y4 y5 y6 y7 y8) (spec_l16Table.j4 (k + 1) y0 y1 y2 y3 y4 y5 y6 y7 y8))
 | 0 => ⟨fun _ _ _ _ r h => by simp [spec_l16Table.l0] at h, fun _ _ _ _ r h => by simp [spec_l16Table.l1] at h, fun _ _ _ _ _ _ r h => by simp [spec_l16Table.l2] at h, fun _ _ _ _ _ _ _ _ r h => by simp [spec_l16Table.l3] at h, fun _ _ _ _ _ _ _ _ _ r h => by simp [spec_l16Table.j4] at h⟩
 | k + 1 => by
  obtain ⟨ih0, ih1, ih2, ih3, ih4⟩ := spec_l16Table.mono_l k
  refine ⟨?_, ?_, ?_, ?_, ?_⟩
  ·intro y0 y1 y2 y3
   unfold spec_l16Table.l0
   repeat' first
   | (with_reducible exact ih0 _ _ _ _)
   | (with_reducible exact ih1 _ _ _ _)
   | (with_reducible exact ih2 _ _ _ _ _ _)
   | (with_reducible exact ih3 _ _ _ _ _ _ _ _)
   | (with_reducible exact ih4 _ _ _ _ _ _ _ _ _)
   | (with_reducible exact LeO.refl _)
   | (with_reducible exact LeO.none _)
   | (with_reducible refine LeO.ite ?_ ?_)
   | (with_reducible refine LeO.bind ?_ (fun _ => ?_))
   | exact ih0 _ _ _ _
   | exact ih1 _ _ _ _
   | exact ih2 _ _ _ _ _ _
   | exact ih3 _ _ _ _ _ _ _ _
   | exact ih4 _ _ _ _ _ _ _ _ _
   | exact LeO.none _
   | refine LeO.ite ?_ ?_
   | refine LeO.bind ?_ (fun _ => ?_)
  ·intro y0 y1 y2 y3
   unfold spec_l16Table.l1
   repeat' first
   | (with_reducible exact ih0 _ _ _ _)
   | (with_reducible exact ih1 _ _ _ _)
   | (with_reducible exact ih2 _ _ _ _ _ _)
   | (with_reducible exact ih3 _ _ _ _ _ _ _ _)
   | (with_reducible exact ih4 _ _ _ _ _ _ _ _ _)
   | (with_reducible exact LeO.refl _)
   | (with_reducible exact LeO.none _)
   | (with_reducible refine LeO.ite ?_ ?_)
   | (with_reducible refine LeO.bind ?_ (fun _ => ?_))
   | exact ih0 _ _ _ _
   | exact ih1 _ _ _ _
   | exact ih2 _ _ _ _ _ _
   | exact ih3 _ _ _ _ _ _ _ _
   | exact ih4 _ _ _ _ _ _ _ _ _
   | exact LeO.none _
   | refine LeO.ite ?_ ?_
   | refine LeO.bind ?_ (fun _ => ?_)
  ·intro y0 y1 y2 y3 y4 y5
   unfold spec_l16Table.l2
   repeat' first
   | (with_reducible exact ih0 _ _ _ _)
   | (with_reducible exact ih1 _ _ _ _)
   | (with_reducible exact ih2 _ _ _ _ _ _)
   | (with_reducible exact ih3 _ _ _ _ _ _ _ _)
   | (with_reducible exact ih4 _ _ _ _ _ _ _ _ _)
   | (with_reducible exact LeO.refl _)
   | (with_reducible exact LeO.none _)
   | (with_reducible refine LeO.ite ?_ ?_)
   | (with_reducible refine LeO.bind ?_ (fun _ => ?_))
   | exact ih0 _ _ _ _
   | exact ih1 _ _ _ _
   | exact ih2 _ _ _ _ _ _
   | exact ih3 _ _ _ _ _ _ _ _
   | exact ih4 _ _ _ _ _ _ _ _ _
   | exact LeO.none _
   | refine LeO.ite ?_ ?_
   | refine LeO.bind ?_ (fun _ => ?_)
  ·intro y0 y1 y2 y3 y4 y5 y6 y7
   unfold spec_l16Table.l3
   repeat' first
   | (with_reducible exact ih0 _ _ _ _)
   | (with_reducible exact ih1 _ _ _ _)
   | (with_reducible exact ih2 _ _ _ _ _ _)
   | (with_reducible exact ih3 _ _ _ _ _ _ _ _)
   | (with_reducible exact ih4 _ _ _ _ _ _ _ _ _)
   | (with_reducible exact LeO.refl _)
   | (with_reducible exact LeO.none _)
   | (with_reducible refine LeO.ite ?_ ?_)
   | (with_reducible refine LeO.bind ?_ (fun _ => ?_))
   | exact ih0 _ _ _ _
   | exact ih1 _ _ _ _
   | exact ih2 _ _ _ _ _ _
   | exact ih3 _ _ _ _ _ _ _ _
   | exact ih4 _ _ _ _ _ _ _ _ _
   | exact LeO.none _
   | refine LeO.ite ?_ ?_
   | refine LeO.bind ?_ (fun _ => ?_)
  ·intro y0 y1 y2 y3 y4 y5 y6 y7 y8
   unfold spec_l16Table.j4
   repeat' first
   | (with_reducible exact ih0 _ _ _ _)
   | (with_reducible exact ih1 _ _ _ _)
   | (with_reducible exact ih2 _ _ _ _ _ _)
   | (with_reducible exact ih3 _ _ _ _ _ _ _ _)
   | (with_reducible exact ih4 _ _ _ _ _ _ _ _ _)
   | (with_reducible exact LeO.refl _)
   | (with_reducible exact LeO.none _)
   | (with_reducible refine LeO.ite ?_ ?_)
   | (with_reducible refine LeO.bind ?_ (fun _ => ?_))
   | exact ih0 _ _ _ _
   | exact ih1 _ _ _ _
   | exact ih2 _ _ _ _ _ _
   | exact ih3 _ _ _ _ _ _ _ _
   | exact ih4 _ _ _ _ _ _ _ _ _
   | exact LeO.none _
   | refine LeO.ite ?_ ?_
   | refine LeO.bind ?_ (fun _ => ?_)
theorem spec_l16Table.mono : ∀ a0 a1 k, LeO (spec_l16Table.f k a0 a1) (spec_l16Table.f (k + 1) a0 a1) := by
 intro a0 a1 k
 obtain ⟨ih0, ih1, ih2, ih3, ih4⟩ := spec_l16Table.mono_l k
 unfold spec_l16Table.f
 repeat' first
   | (with_reducible exact ih0 _ _ _ _)
   | (with_reducible exact ih1 _ _ _ _)
   | (with_reducible exact ih2 _ _ _ _ _ _)
   | (with_reducible exact ih3 _ _ _ _ _ _ _ _)
   | (with_reducible exact ih4 _ _ _ _ _ _ _ _ _)
   | (with_reducible exact LeO.refl _)
   | (with_reducible exact LeO.none _)
   | (with_reducible refine LeO.ite ?_ ?_)
   | (with_reducible refine LeO.bind ?_ (fun _ => ?_))
   | exact ih0 _ _ _ _
   | exact ih1 _ _ _ _
   | exact ih2 _ _ _ _ _ _
   | exact ih3 _ _ _ _ _ _ _ _
   | exact ih4 _ _ _ _ _ _ _ _ _
   | exact LeO.none _
   | refine LeO.ite ?_ ?_
   | refine LeO.bind ?_ (fun _ => ?_)
set_option maxHeartbeats 8000000 in
set_option maxRecDepth 100000 in
theorem spec_l16Table.calls (k : Nat) (A0 : Option Addr) (c0 : Nat) (l0 : List (S46)) (a1 : Int) (r : List (List Int)) (w : World) (hr0 : Kd.C k46 w A0 l0.length l0) (hc0 : l0.length ≤ c0) (h : spec_l16Table.f k l0 a1 = some r) :
  Calls Try.prog 27 #[.slice A0 l0.length c0, .int .i64 a1] w fun e w' => ∃ v0_ : Value, e = .returned (v0_) ∧ Kd.N (Kd.slice 2 (Kd.int .i64)) 30 w' w.heap.size (fun k_ => (w.heap.size ≤ k_)) v0_ r ∧ Below w.heap.size w w' := by
 have HR0 := As0.mk hr0
 have HC0 := As0.mk hc0
 clear hr0 hc0
 have HB := As0.mk (Below.refl w.heap.size w)
 have H : (spec_l16Table.l0 k l0 a1 (([0] : List Int)) 1) = some r := h
 clear h
 obtain ⟨y133, hy133⟩ : ∃ y_ : List Int, y_ = (([0] : List Int)) := ⟨_, rfl⟩
 replace H : (spec_l16Table.l0 k l0 a1 y133 1) = some r := by first | (rw [hy133]; with_reducible exact H) | (have H2_ := (Option.bind_some _ _).symm.trans H; rw [hy133]; with_reducible exact H2_) | (have H2_ := (Option.bind_some _ _).symm.trans H; with_reducible exact H2_) | with_reducible exact H | (rw [hy133]; exact H) | exact H
 have Ny133 := As0.mk hy133
 clear hy133
 have H' := As0.mk H
 clear H
 go_enter Try.func27, Try.ntmps27
 go_wp2_with (first | ((with_reducible refine gate_dst (N := 14) rfl ?_); refine Kd.R_lit (Kd.int .i64) _ 2 ?hg (N := 14) ?hd (xs := ([0] : List Int)) (inner := [.int .i64 0]) (ok := fun _ => True) (okp := fun _ => True) ?hr ?hp (fun _ hk => hk) trivial (Below.refl _ _) (Nat.le_refl _) (by simp) ?_; (case hd => rfl); (case hg => rfl); (case hr => first | (go_simp; done) | (go_simp; rfl)); (case hp => exact (Reps.one (show Kd.M (Kd.int .i64) _ _ _ 0 [.int .i64 0] from rfl) (Reps.none _ _))); intro v134 w3 ho4 hb hg_ hnew_; clear hg_ hnew_; (first | rw [← Ny133.out] at ho4 | (simp only [Int.reduceToNat] at ho4; rw [← Ny133.out] at ho4)); have n0_ := As0.mk (Kd.R_lower (Kd.R_newM (M := fun k_ => (w.heap.size ≤ k_)) ho4 (bsz (by repeat (with_reducible first | exact HB.out | apply bal | apply pbN | apply bdw))) (fun k_ h_ => h_)) (bsz (by repeat (with_reducible first | exact HB.out | apply bal | apply pbN | apply bdw)))); have n1_ := As0.mk (bsp (by repeat (with_reducible first | exact HB.out | apply bal | apply pbN | apply bdw)) hb); clear HB; have HO135 := n0_; have HB := n1_; clear n0_ n1_; clear hb ho4))
 go_loopg [5, 6] k (fun kq v5 v6 w' => ∃ (x5_1 : List Int) (x6_1 : Int), v6 = .int .i64 x6_1 ∧ As0 (spec_l16Table.l0 kq l0 a1 x5_1 x6_1 = some r) ∧ As0 (kq ≤ k) ∧ As0 (Kd.R (Kd.int .i64) 2 w' w.heap.size (fun k_ => (w.heap.size ≤ k_)) v5 x5_1) ∧ As0 (Below w.heap.size w w'))
 case atStart => exact ⟨(y133), (1), (by first | rfl | (simp; done) | (simp [*]; done)), H', ⟨Nat.le_refl _⟩, ⟨by (with_reducible repeat (first | apply Kd.R_alloc | apply Kd.R_drewN | apply Kd.R_drew)); exact Kd.R_mono HO135.out (fun _ hk => hk.1)⟩, ⟨by repeat (with_reducible first | exact HB.out | apply bal | apply pbN | apply bdw)⟩⟩
 case round =>
  clear H'
  try clear c2
  try clear p2
  obtain ⟨x5_1, x6_1, rfl, HA, HK1, HO_5, HB⟩ := hrel
  cases gk with
  | zero => exact absurd HA.out (by simp [spec_l16Table.l0])
  | succ k1 =>
   have H := HA.out
   clear HA
   simp only [spec_l16Table.l0] at H
   by_cases c5 : x6_1 ≤ a1
   ·rw [if_pos c5] at H
    have c5b0 : decide (x6_1 ≤ a1) = true := decide_eq_true c5
    clear c5
    by_cases c6 : x5_1.length < 17592186044416
    ·rw [if_pos c6] at H
     have LMc6 := As0.mk c6
     clear c6
     obtain ⟨y136, hy136⟩ : ∃ y_ : List Int, y_ = (x5_1 ++ [(-1)]) := ⟨_, rfl⟩
     replace H : (spec_l16Table.l0 k1 l0 a1 y136 (wrap64 (x6_1 + 1))) = some r := by first | (rw [hy136]; with_reducible exact H) | (have H2_ := (Option.bind_some _ _).symm.trans H; rw [hy136]; with_reducible exact H2_) | (have H2_ := (Option.bind_some _ _).symm.trans H; with_reducible exact H2_) | with_reducible exact H | (rw [hy136]; exact H) | exact H
     have Ny136 := As0.mk hy136
     clear hy136
     have H' := As0.mk H
     clear H
     go_wp2_with (first | ((with_reducible refine gbu (b := .append) (xs := #[.tmp 20, .tmp 21]) rfl ?_); at_builtin; refine Kd.R_append (Kd.int .i64) (w0 := w) w.heap.size rfl (.tmp 20) (.tmp 21) 30 2 (.int .i64 0) 8 rfl Try.underlying30 info2 rfl (by decide) (by omega) u5 x5_1 (-1) [.int .i64 (-1)] (fun k_ => (w.heap.size ≤ k_)) (fun _ => False) rfl rfl ?aP (fun _ hk => hk.elim) ?aF ?aO ?aB ?aS ?aL ?_; (case aP => exact rfl); (case aB => exact (by repeat (with_reducible first | exact HB.out | apply bal | apply pbN | apply bdw))); (case aF => exact (fun k_ hk => (Nat.le_trans (bsz (by repeat (with_reducible first | exact HB.out | apply bal | apply pbN | apply bdw))) hk))); (case aO => exact (by (with_reducible repeat (first | apply Kd.R_alloc | apply Kd.R_drewN | apply Kd.R_drew)); exact HO_5.out)); (case aS => exact (bsz (by repeat (with_reducible first | exact HB.out | apply bal | apply pbN | apply bdw)))); (case aL => have := LMc6.out; omega); intro v137 w7 ho hb hg hat; rw [← Ny136.out] at ho; have n0_ := As0.mk (hb); have n1_ := As0.mk (ho); clear HB; clear HO_5; have HB := n0_; have HO138 := n1_; clear n0_ n1_; clear ho hb hg hat))
     go_roundg k1
     case measure => have := HK1.out; omega
     case rel => exact ⟨(y136), (wrap64 (x6_1 + 1)), (by first | rfl | (simp; done) | (simp [*]; done)), H', ⟨by have := HK1.out; omega⟩, ⟨by (with_reducible repeat (first | apply Kd.R_alloc | apply Kd.R_drewN | apply Kd.R_drew)); exact HO138.out⟩, ⟨by repeat (with_reducible first | exact HB.out | apply bal | apply pbN | apply bdw)⟩⟩
    ·rw [if_neg c6] at H
     exact absurd H (by simp)
   ·rw [if_neg c5] at H
    have c5b0 : decide (x6_1 ≤ a1) = false := decide_eq_false c5
    clear c5
    obtain ⟨y139, hy139⟩ : ∃ y_ : List (List Int), y_ = (([x5_1] : List (List Int))) := ⟨_, rfl⟩
    replace H : (spec_l16Table.l1 k1 l0 a1 y139 (wrap64 ((l0.length : Int) - 1))) = some r := by first | (rw [hy139]; with_reducible exact H) | (have H2_ := (Option.bind_some _ _).symm.trans H; rw [hy139]; with_reducible exact H2_) | (have H2_ := (Option.bind_some _ _).symm.trans H; with_reducible exact H2_) | with_reducible exact H | (rw [hy139]; exact H) | exact H
    have Ny139 := As0.mk hy139
    clear hy139
    have H' := As0.mk H
    clear H
    obtain ⟨Ao8, co8, eo8⟩ := Kd.R_slice HO_5.out
    subst eo8
    go_wp2_with (first | ((with_reducible refine gate_dst (N := 24) rfl ?_); refine Kd.N_lit (Kd.slice 2 (Kd.int .i64)) _ 30 ?hg (N' := 24) ?hd (xs := ([x5_1] : List (List Int))) (inner := [.slice Ao8 x5_1.length co8]) (ok := (fun k_ => (w.heap.size ≤ k_))) (okp := (fun k_ => (w.heap.size ≤ k_))) ?hr ?hp (fun _ hk => hk) ((show ∀ k_, wr.heap.size ≤ k_ → (fun k_ => (w.heap.size ≤ k_)) k_ from fun k_ hk => (Nat.le_trans (bsz (by repeat (with_reducible first | exact HB.out | apply bal | apply pbN | apply bdw))) hk)) _ (Nat.le_refl _)) (Below.refl _ _) (Nat.le_refl _) (by simp) ?_; (case hd => rfl); (case hg => rfl); (case hr => first | (go_simp; done) | (go_simp; rfl)); (case hp => exact (Reps.one (show Kd.FK (Kd.slice 2 (Kd.int .i64)) _ _ x5_1 [.slice Ao8 x5_1.length co8] from (Kd.FK_slice_mk (Kd.R_reads' (Kd.R_mono (ok' := (fun k_ => (w.heap.size ≤ k_))) (HO_5.out) (fun k_ hk => hk))).2.1 (Kd.R_F (Kd.R_mono (ok' := (fun k_ => (w.heap.size ≤ k_))) (HO_5.out) (fun k_ hk => hk))))) (Reps.none _ _))); intro v140 w9 ho10 hb hg_ hnew_; clear hg_ hnew_; (first | rw [← Ny139.out] at ho10 | (simp only [Int.reduceToNat] at ho10; rw [← Ny139.out] at ho10)); have n0_ := As0.mk (Kd.N_lower ho10 (bsz (by repeat (with_reducible first | exact HB.out | apply bal | apply pbN | apply bdw)))); have n1_ := As0.mk (bsp (by repeat (with_reducible first | exact HB.out | apply bal | apply pbN | apply bdw)) hb); clear HB; clear HO_5; have HO141 := n0_; have HB := n1_; clear n0_ n1_; clear hb ho10))
    go_loopg [7, 8] k1 (fun kq v7 v8 w' => ∃ (x7_2 : List (List Int)) (x8_2 : Int), v8 = .int .i64 x8_2 ∧ As0 (spec_l16Table.l1 kq l0 a1 x7_2 x8_2 = some r) ∧ As0 (kq ≤ k1) ∧ As0 (Kd.N (Kd.slice 2 (Kd.int .i64)) 30 w' w.heap.size (fun k_ => (w.heap.size ≤ k_)) v7 x7_2) ∧ As0 (Below w.heap.size w w'))
    case atStart => exact ⟨(y139), (wrap64 ((l0.length : Int) - 1)), (by first | rfl | (simp; done) | (simp [*]; done)), H', ⟨Nat.le_refl _⟩, ⟨by (with_reducible repeat (first | apply Kd.N_alloc | apply Kd.N_drewN | apply Kd.N_drew)); exact HO141.out⟩, ⟨by repeat (with_reducible first | exact HB.out | apply bal | apply pbN | apply bdw)⟩⟩
    case round =>
     clear H'
     try clear c2
     try clear p2
     try clear c5
     try clear c5b0
     try clear c6
     try clear p6
     try clear p2
     obtain ⟨x7_2, x8_2, rfl, HA, HK2, HO_7, HB⟩ := hrel
     cases gk with
     | zero => exact absurd HA.out (by simp [spec_l16Table.l1])
     | succ k2 =>
      have H := HA.out
      clear HA
      simp only [spec_l16Table.l1] at H
      by_cases c11 : x8_2 ≥ 0
      ·rw [if_pos c11] at H
       have c11b0 : decide (0 ≤ x8_2) = true := decide_eq_true c11
       clear c11
       obtain ⟨y142, hy142⟩ : ∃ y_ : List Int, y_ = (([] : List Int)) := ⟨_, rfl⟩
       replace H : (spec_l16Table.l2 k2 l0 a1 x7_2 x8_2 y142 0) = some r := by first | (rw [hy142]; with_reducible exact H) | (have H2_ := (Option.bind_some _ _).symm.trans H; rw [hy142]; with_reducible exact H2_) | (have H2_ := (Option.bind_some _ _).symm.trans H; with_reducible exact H2_) | with_reducible exact H | (rw [hy142]; exact H) | exact H
       have Ny142 := As0.mk hy142
       clear hy142
       have H' := As0.mk H
       clear H
       go_wp2_with (first | ((with_reducible refine gate_dst (N := 32) rfl ?_); refine Kd.R_lit (Kd.int .i64) _ 2 ?hg (N := 32) ?hd (xs := ([] : List Int)) (inner := []) (ok := fun _ => True) (okp := fun _ => True) ?hr ?hp (fun _ hk => hk) trivial (Below.refl _ _) (Nat.le_refl _) (by simp) ?_; (case hd => rfl); (case hg => rfl); (case hr => first | (go_simp; done) | (go_simp; rfl)); (case hp => exact (Reps.none _ _)); intro v143 w12 ho13 hb hg_ hnew_; clear hg_ hnew_; (first | rw [← Ny142.out] at ho13 | (simp only [Int.reduceToNat] at ho13; rw [← Ny142.out] at ho13)); have n0_ := As0.mk (Kd.N_elder' (by (with_reducible repeat (first | apply Kd.N_alloc | apply Kd.N_drewN | apply Kd.N_drew)); exact HO_7.out) (Kd.R_base ho13) hb); have n1_ := As0.mk (Kd.R_lower (Kd.R_newM (M := fun k_ => (w.heap.size ≤ k_)) ho13 (bsz (by repeat (with_reducible first | exact HB.out | apply bal | apply pbN | apply bdw))) (fun k_ h_ => h_)) (bsz (by repeat (with_reducible first | exact HB.out | apply bal | apply pbN | apply bdw)))); have n2_ := As0.mk (bsp (by repeat (with_reducible first | exact HB.out | apply bal | apply pbN | apply bdw)) hb); clear HO_7; clear HB; have HO_7 := n0_; have HO144 := n1_; have HB := n2_; clear n0_ n1_ n2_; clear hb ho13))
       go_loopg [9, 10] k2 (fun kq v9 v10 w' => ∃ (x9_3 : List Int) (x10_3 : Int), v10 = .int .i64 x10_3 ∧ As0 (spec_l16Table.l2 kq l0 a1 x7_2 x8_2 x9_3 x10_3 = some r) ∧ As0 (kq ≤ k2) ∧ As0 (Kd.N (Kd.slice 2 (Kd.int .i64)) 30 w' w.heap.size (fun k_ => (w.heap.size ≤ k_) ∧ some k_ ≠ (v9 : Value).ownBlock) u7 x7_2) ∧ As0 (Kd.R (Kd.int .i64) 2 w' w.heap.size (fun k_ => (w.heap.size ≤ k_)) v9 x9_3) ∧ As0 (Below w.heap.size w w'))
       case atStart => exact ⟨(y142), (0), (by first | rfl | (simp; done) | (simp [*]; done)), H', ⟨Nat.le_refl _⟩, ⟨by (with_reducible repeat (first | apply Kd.N_alloc | apply Kd.N_drewN | apply Kd.N_drew)); exact HO_7.out⟩, ⟨by (with_reducible repeat (first | apply Kd.R_alloc | apply Kd.R_drewN | apply Kd.R_drew)); exact Kd.R_mono HO144.out (fun _ hk => hk.1)⟩, ⟨by repeat (with_reducible first | exact HB.out | apply bal | apply pbN | apply bdw)⟩⟩
       case round =>
        clear H'
        try clear c1
        try clear c2
        try clear p2
        try clear c5
        try clear c5b0
        try clear c6
        try clear p6
        try clear c11
        try clear c11b0
        try clear p2
        try clear p6
        obtain ⟨x9_3, x10_3, rfl, HA, HK3, HO_7, HO_9, HB⟩ := hrel
        cases gk with
        | zero => exact absurd HA.out (by simp [spec_l16Table.l2])
        | succ k3 =>
         have H := HA.out
         clear HA
         simp only [spec_l16Table.l2] at H
         by_cases c14 : x10_3 ≤ a1
         ·rw [if_pos c14] at H
          have c14b0 : decide (x10_3 ≤ a1) = true := decide_eq_true c14
          clear c14
          have H' := As0.mk H
          clear H
          go_wp2
          go_loopg [11, 12] k3 (fun kq v11 v12 w' => ∃ (x11_4 : Int) (x12_4 : Int), v11 = .int .i64 x11_4 ∧ v12 = .int .i64 x12_4 ∧ As0 (spec_l16Table.l3 kq l0 a1 x7_2 x8_2 x9_3 x10_3 x11_4 x12_4 = some r) ∧ As0 (kq ≤ k3) ∧ As0 (Kd.N (Kd.slice 2 (Kd.int .i64)) 30 w' w.heap.size (fun k_ => (w.heap.size ≤ k_) ∧ some k_ ≠ (u9 : Value).ownBlock) u7 x7_2) ∧ As0 (Kd.R (Kd.int .i64) 2 w' w.heap.size (fun k_ => (w.heap.size ≤ k_)) u9 x9_3) ∧ As0 (Below w.heap.size w w'))
          case atStart => exact ⟨((-1)), (0), (by first | rfl | (simp; done) | (simp [*]; done)), (by first | rfl | (simp; done) | (simp [*]; done)), H', ⟨Nat.le_refl _⟩, ⟨by (with_reducible repeat (first | apply Kd.N_alloc | apply Kd.N_drewN | apply Kd.N_drew)); exact HO_7.out⟩, ⟨by (with_reducible repeat (first | apply Kd.R_alloc | apply Kd.R_drewN | apply Kd.R_drew)); exact HO_9.out⟩, ⟨by repeat (with_reducible first | exact HB.out | apply bal | apply pbN | apply bdw)⟩⟩
          case round =>
           clear H'
           try clear c1
           try clear c2
           try clear p2
           try clear c5
           try clear c5b0
           try clear c6
           try clear p6
           try clear c11
           try clear c11b0
           try clear c14
           try clear c14b0
           try clear p2
           try clear p6
           obtain ⟨x11_4, x12_4, rfl, rfl, HA, HK4, HO_7, HO_9, HB⟩ := hrel
           cases gk with
           | zero => exact absurd HA.out (by simp [spec_l16Table.l3])
           | succ k4 =>
            have H := HA.out
            clear HA
            simp only [spec_l16Table.l3] at H
            have HC15 := As0.mk H
            clear H
            go_upto_region 16 with (fail)
            go_cut [49] (fun v49 wc => ∃ (kq : Nat) (x49_14 : Bool), v49 = .bool x49_14 ∧ As0 (spec_l16Table.j4 kq l0 a1 x7_2 x8_2 x9_3 x10_3 x11_4 x12_4 x49_14 = some r) ∧ As0 (kq ≤ k4) ∧ As0 (Kd.N (Kd.slice 2 (Kd.int .i64)) 30 wc w.heap.size (fun k_ => (w.heap.size ≤ k_) ∧ some k_ ≠ (u9 : Value).ownBlock) u7 x7_2) ∧ As0 (Kd.R (Kd.int .i64) 2 wc w.heap.size (fun k_ => (w.heap.size ≤ k_)) u9 x9_3) ∧ As0 (Below w.heap.size w wc))
            case first =>
             have H := HC15.out
             clear HC15
             by_cases c16 : 0 ≤ x8_2
             ·rw [if_pos c16] at H
              have c16b0 : decide (0 ≤ x8_2) = true := decide_eq_true c16
              clear c16
              (first | rw [c16b0] | (simp only [i64_w, i32_w]; rw [c16b0]) | skip)
              by_cases c17 : x8_2 < (l0.length : Int)
              ·rw [if_pos c17] at H
               have c17b0 : decide (x8_2 < (l0.length : Int)) = true := decide_eq_true c17
               clear c17
               by_cases c18 : x12_4 ≤ ((rd_T46 l0 x8_2).f3)
               ·rw [if_pos c18] at H
                have c18b0 : decide (x12_4 ≤ ((rd_T46 l0 x8_2).f3)) = true := decide_eq_true c18
                clear c18
                have H' := As0.mk H
                clear H
                have p151 : 0 ≤ (x8_2 : Int) := of_decide_eq_true (by assumption)
                have q151 : x8_2 < (l0.length : Int) := of_decide_eq_true (by assumption)
                obtain ⟨ad151, e151, hx151_0, hx151_1, hx151_2, hx151_3⟩ := at_T46 HR0.out x8_2 p151 q151
                cases e151
                replace hx151_0 := (HB.out.cell (blt w _ hx151_0)).trans hx151_0
                replace hx151_1 := (HB.out.cell (blt w _ hx151_1)).trans hx151_1
                replace hx151_2 := (HB.out.cell (blt w _ hx151_2)).trans hx151_2
                replace hx151_3 := (HB.out.cell (blt w _ hx151_3)).trans hx151_3
                replace p151 := eq_true p151
                replace q151 := eq_true q151
                go_wp2
                go_meet
                case rel => exact ⟨_, (decide (x12_4 ≤ x10_3)), (by first | rfl | (simp; done) | (simp [*]; done)), H', ⟨by have := HK1.out; have := HK2.out; have := HK3.out; have := HK4.out; first | omega | exact Nat.le_refl _⟩, ⟨by (with_reducible repeat (first | apply Kd.N_alloc | apply Kd.N_drewN | apply Kd.N_drew)); exact HO_7.out⟩, ⟨by (with_reducible repeat (first | apply Kd.R_alloc | apply Kd.R_drewN | apply Kd.R_drew)); exact HO_9.out⟩, ⟨by repeat (with_reducible first | exact HB.out | apply bal | apply pbN | apply bdw)⟩⟩
               ·rw [if_neg c18] at H
                have c18b0 : decide (x12_4 ≤ ((rd_T46 l0 x8_2).f3)) = false := decide_eq_false c18
                clear c18
                have H' := As0.mk H
                clear H
                have p151 : 0 ≤ (x8_2 : Int) := of_decide_eq_true (by assumption)
                have q151 : x8_2 < (l0.length : Int) := of_decide_eq_true (by assumption)
                obtain ⟨ad151, e151, hx151_0, hx151_1, hx151_2, hx151_3⟩ := at_T46 HR0.out x8_2 p151 q151
                cases e151
                replace hx151_0 := (HB.out.cell (blt w _ hx151_0)).trans hx151_0
                replace hx151_1 := (HB.out.cell (blt w _ hx151_1)).trans hx151_1
                replace hx151_2 := (HB.out.cell (blt w _ hx151_2)).trans hx151_2
                replace hx151_3 := (HB.out.cell (blt w _ hx151_3)).trans hx151_3
                replace p151 := eq_true p151
                replace q151 := eq_true q151
                go_wp2
                go_meet
                case rel => exact ⟨_, (false), (by first | rfl | (simp; done) | (simp [*]; done)), H', ⟨by have := HK1.out; have := HK2.out; have := HK3.out; have := HK4.out; first | omega | exact Nat.le_refl _⟩, ⟨by (with_reducible repeat (first | apply Kd.N_alloc | apply Kd.N_drewN | apply Kd.N_drew)); exact HO_7.out⟩, ⟨by (with_reducible repeat (first | apply Kd.R_alloc | apply Kd.R_drewN | apply Kd.R_drew)); exact HO_9.out⟩, ⟨by repeat (with_reducible first | exact HB.out | apply bal | apply pbN | apply bdw)⟩⟩
              ·rw [if_neg c17] at H
               exact absurd H (by simp)
             ·rw [if_neg c16] at H
              exact absurd H (by simp)
            case rest =>
             clear HC15
             try clear c1
             try clear p1
             try clear q1
             try clear hx1
             try clear c2
             try clear p2
             try clear c5
             try clear c5b0
             try clear c6
             try clear p6
             try clear c11
             try clear c11b0
             try clear c14
             try clear c14b0
             try clear p15
             try clear q15
             try clear hx15
             try clear c16
             try clear c16b0
             try clear c17
             try clear c17b0
             try clear c18
             try clear c18b0
             try clear hx151_0
             try clear hx151_1
             try clear hx151_2
             try clear hx151_3
             try clear p151
             try clear p2
             try clear p6
             try clear q151
             obtain ⟨kq, x49_14, rfl, HA, HJ14, HO_7, HO_9, HB⟩ := hcut
             cases kq with
             | zero => exact absurd HA.out (by simp [spec_l16Table.j4])
             | succ kj14 =>
              have H := HA.out
              clear HA
              simp only [spec_l16Table.j4] at H
              by_cases c19 : x49_14 = true
              ·subst c19
               have H1 : (if 0 < (x7_2.length : Int) then (if 0 ≤ (wrap64 (x10_3 - x12_4)) then (if (wrap64 (x10_3 - x12_4)) < ((rd_L4 x7_2 0).length : Int) then (if (rd (rd_L4 x7_2 0) (wrap64 (x10_3 - x12_4))) ≥ 0 then (if x11_4 < 0 then (if 0 ≤ x8_2 then (if x8_2 < (l0.length : Int) then (spec_l16Table.l3 kj14 l0 a1 x7_2 x8_2 x9_3 x10_3 (wrap64 ((rd (rd_L4 x7_2 0) (wrap64 (x10_3 - x12_4))) + (wrap64 (x12_4 * ((rd_T46 l0 x8_2).f1))))) (wrap64 (x12_4 + 1))) else (none)) else (none)) else (if 0 ≤ x8_2 then (if x8_2 < (l0.length : Int) then (if (wrap64 ((rd (rd_L4 x7_2 0) (wrap64 (x10_3 - x12_4))) + (wrap64 (x12_4 * ((rd_T46 l0 x8_2).f1))))) < x11_4 then (spec_l16Table.l3 kj14 l0 a1 x7_2 x8_2 x9_3 x10_3 (wrap64 ((rd (rd_L4 x7_2 0) (wrap64 (x10_3 - x12_4))) + (wrap64 (x12_4 * ((rd_T46 l0 x8_2).f1))))) (wrap64 (x12_4 + 1))) else (spec_l16Table.l3 kj14 l0 a1 x7_2 x8_2 x9_3 x10_3 x11_4 (wrap64 (x12_4 + 1)))) else (none)) else (none))) else (spec_l16Table.l3 kj14 l0 a1 x7_2 x8_2 x9_3 x10_3 x11_4 (wrap64 (x12_4 + 1)))) else (none)) else (none)) else (none)) = some r := by rw [if_pos rfl] at H; exact H
               clear H
               have H := H1
               clear H1
               by_cases c20 : 0 < (x7_2.length : Int)
               ·rw [if_pos c20] at H
                have c20b0 : decide (0 < (x7_2.length : Int)) = true := decide_eq_true c20
                have c20b1 : decide (0 < x7_2.length) = true := decide_eq_true (by omega)
                clear c20
                obtain ⟨ji21, hji21⟩ : ∃ j_ : Int, (wrap64 (x10_3 - x12_4)) = j_ := ⟨_, rfl⟩
                replace H : (if 0 ≤ (ji21) then (if (ji21) < ((rd_L4 x7_2 0).length : Int) then (if (rd (rd_L4 x7_2 0) (ji21)) ≥ 0 then (if x11_4 < 0 then (if 0 ≤ x8_2 then (if x8_2 < (l0.length : Int) then (spec_l16Table.l3 kj14 l0 a1 x7_2 x8_2 x9_3 x10_3 (wrap64 ((rd (rd_L4 x7_2 0) (ji21)) + (wrap64 (x12_4 * ((rd_T46 l0 x8_2).f1))))) (wrap64 (x12_4 + 1))) else (none)) else (none)) else (if 0 ≤ x8_2 then (if x8_2 < (l0.length : Int) then (if (wrap64 ((rd (rd_L4 x7_2 0) (ji21)) + (wrap64 (x12_4 * ((rd_T46 l0 x8_2).f1))))) < x11_4 then (spec_l16Table.l3 kj14 l0 a1 x7_2 x8_2 x9_3 x10_3 (wrap64 ((rd (rd_L4 x7_2 0) (ji21)) + (wrap64 (x12_4 * ((rd_T46 l0 x8_2).f1))))) (wrap64 (x12_4 + 1))) else (spec_l16Table.l3 kj14 l0 a1 x7_2 x8_2 x9_3 x10_3 x11_4 (wrap64 (x12_4 + 1)))) else (none)) else (none))) else (spec_l16Table.l3 kj14 l0 a1 x7_2 x8_2 x9_3 x10_3 x11_4 (wrap64 (x12_4 + 1)))) else (none)) else (none)) = some r := by first | (rw [hji21] at H; exact H) | (simp only [hji21] at H ⊢; exact H)
                have hji21w : (IntKind.i64.wrap (x10_3 - x12_4)) = ji21 := (i64_w _).trans hji21
                by_cases c22 : 0 ≤ (ji21)
                ·rw [if_pos c22] at H
                 have c22b0 : decide (0 ≤ (ji21)) = true := decide_eq_true c22
                 clear c22
                 by_cases c23 : (ji21) < ((rd_L4 x7_2 0).length : Int)
                 ·rw [if_pos c23] at H
                  have c23b0 : decide ((ji21) < ((rd_L4 x7_2 0).length : Int)) = true := decide_eq_true c23
                  clear c23
                  by_cases c24 : (rd (rd_L4 x7_2 0) (ji21)) ≥ 0
                  ·rw [if_pos c24] at H
                   have c24b0 : decide (0 ≤ (rd (rd_L4 x7_2 0) (ji21))) = true := decide_eq_true c24
                   clear c24
                   by_cases c25 : x11_4 < 0
                   ·rw [if_pos c25] at H
                    have c25b0 : decide (x11_4 < 0) = true := decide_eq_true c25
                    clear c25
                    by_cases c26 : 0 ≤ x8_2
                    ·rw [if_pos c26] at H
                     have c26b0 : decide (0 ≤ x8_2) = true := decide_eq_true c26
                     clear c26
                     by_cases c27 : x8_2 < (l0.length : Int)
                     ·rw [if_pos c27] at H
                      have c27b0 : decide (x8_2 < (l0.length : Int)) = true := decide_eq_true c27
                      clear c27
                      have H' := As0.mk H
                      clear H
                      obtain ⟨Ao28, co28, eo28⟩ := Kd.N_slice HO_7.out
                      subst eo28
                      have p152 : 0 ≤ (0 : Int) := (by omega)
                      have q152 : 0 < (x7_2.length : Int) := of_decide_eq_true (by assumption)
                      obtain ⟨ad152, A152_0, c152_0, e152, hx152_0, hl152_0, hi152_0⟩ := at_L4 (Kd.N_reads' HO_7.out).2.2 0 p152 q152
                      cases e152
                      obtain ⟨ce152, hce152, hMe152, hcc152⟩ := Kd.N_get HO_7.out [] 0 p152 (by first | exact q152 | exact of_decide_eq_true (by assumption) | (have e_ := (Kd.N_reads' HO_7.out).1; omega))
                      obtain ⟨ua152_0, uc152_0, rfl, ul152_0, ge152_0⟩ := Kd.FK_slice_open hMe152
                      have hv152_0 := hcc152 0 _ rfl
                      rw [Nat.add_zero, show ((Kd.slice 2 (Kd.int .i64))).sz = 1 from rfl, Nat.mul_one] at hv152_0
                      replace hv152_0 := Option.some.inj (hv152_0.symm.trans hx152_0)
                      injection hv152_0 with hva_ hvn_ hvc_
                      rw [hva_] at ge152_0
                      rw [hvc_] at ul152_0
                      have HL152_0 := As0.mk (show Kd.V (Kd.int .i64) 2 _ w.heap.size _ _ (rd_L4 x7_2 0) from Kd.V_mk ul152_0 ge152_0)
                      clear hva_ hvn_ hvc_ ge152_0 ul152_0
                      clear hcc152 hce152
                      have qi152 : (0 < x7_2.length) = True := eq_true (by omega)
                      (try rw [show ((0 : Int)).toNat = 0 from rfl] at hx152_0)
                      (try rw [Addr.add_zero'] at hx152_0)
                      have HR152_0 := As0.mk hi152_0
                      have HC152_0 := As0.mk hl152_0
                      clear hi152_0 hl152_0
                      replace p152 := eq_true p152
                      replace q152 := eq_true q152
                      have p153 : 0 ≤ ((ji21) : Int) := of_decide_eq_true (by assumption)
                      have q153 : (ji21) < ((rd_L4 x7_2 0).length : Int) := of_decide_eq_true (by assumption)
                      obtain ⟨ad153, e153, hx153_0⟩ := Kd.at_int (by repeat (first | (with_reducible exact HR152_0.out) | (with_reducible refine Kd.C_alloc ?_ _) | (with_reducible refine Kd.C_drewN ?_ _) | (with_reducible refine Kd.C_drew ?_) | exact HR152_0.out)) (ji21) p153 q153
                      cases e153
                      replace p153 := eq_true p153
                      replace q153 := eq_true q153
                      have p154 : 0 ≤ (x8_2 : Int) := of_decide_eq_true (by assumption)
                      have q154 : x8_2 < (l0.length : Int) := of_decide_eq_true (by assumption)
                      obtain ⟨ad154, e154, hx154_0, hx154_1, hx154_2, hx154_3⟩ := at_T46 HR0.out x8_2 p154 q154
                      cases e154
                      replace hx154_0 := (HB.out.cell (blt w _ hx154_0)).trans hx154_0
                      replace hx154_1 := (HB.out.cell (blt w _ hx154_1)).trans hx154_1
                      replace hx154_2 := (HB.out.cell (blt w _ hx154_2)).trans hx154_2
                      replace hx154_3 := (HB.out.cell (blt w _ hx154_3)).trans hx154_3
                      replace p154 := eq_true p154
                      replace q154 := eq_true q154
                      go_wp2
                      go_roundg kj14
                      case measure => have := HK1.out; have := HK2.out; have := HK3.out; have := HK4.out; have := HJ14.out; omega
                      case rel => exact ⟨(wrap64 ((rd (rd_L4 x7_2 0) (ji21)) + (wrap64 (x12_4 * ((rd_T46 l0 x8_2).f1))))), (wrap64 (x12_4 + 1)), (by first | rfl | (simp; done) | (simp only [← hji21] <;> (first | rfl | simp)) | (simp [*]; done)), (by first | rfl | (simp; done) | (simp [*]; done)), H', ⟨by have := HK1.out; have := HK2.out; have := HK3.out; have := HK4.out; have := HJ14.out; omega⟩, ⟨by (with_reducible repeat (first | apply Kd.N_alloc | apply Kd.N_drewN | apply Kd.N_drew)); exact HO_7.out⟩, ⟨by (with_reducible repeat (first | apply Kd.R_alloc | apply Kd.R_drewN | apply Kd.R_drew)); exact HO_9.out⟩, ⟨by repeat (with_reducible first | exact HB.out | apply bal | apply pbN | apply bdw)⟩⟩
                     ·rw [if_neg c27] at H
                      exact absurd H (by simp)
                    ·rw [if_neg c26] at H
                     exact absurd H (by simp)
                   ·rw [if_neg c25] at H
                    have c25b0 : decide (x11_4 < 0) = false := decide_eq_false c25
                    clear c25
                    by_cases c29 : 0 ≤ x8_2
                    ·rw [if_pos c29] at H
                     have c29b0 : decide (0 ≤ x8_2) = true := decide_eq_true c29
                     clear c29
                     by_cases c30 : x8_2 < (l0.length : Int)
                     ·rw [if_pos c30] at H
                      have c30b0 : decide (x8_2 < (l0.length : Int)) = true := decide_eq_true c30
                      clear c30
                      by_cases c31 : (wrap64 ((rd (rd_L4 x7_2 0) (ji21)) + (wrap64 (x12_4 * ((rd_T46 l0 x8_2).f1))))) < x11_4
                      ·rw [if_pos c31] at H
                       have c31b0 : decide ((wrap64 ((rd (rd_L4 x7_2 0) (ji21)) + (wrap64 (x12_4 * ((rd_T46 l0 x8_2).f1))))) < x11_4) = true := decide_eq_true c31
                       clear c31
                       have H' := As0.mk H
                       clear H
                       obtain ⟨Ao32, co32, eo32⟩ := Kd.N_slice HO_7.out
                       subst eo32
                       have p152 : 0 ≤ (0 : Int) := (by omega)
                       have q152 : 0 < (x7_2.length : Int) := of_decide_eq_true (by assumption)
                       obtain ⟨ad152, A152_0, c152_0, e152, hx152_0, hl152_0, hi152_0⟩ := at_L4 (Kd.N_reads' HO_7.out).2.2 0 p152 q152
                       cases e152
                       obtain ⟨ce152, hce152, hMe152, hcc152⟩ := Kd.N_get HO_7.out [] 0 p152 (by first | exact q152 | exact of_decide_eq_true (by assumption) | (have e_ := (Kd.N_reads' HO_7.out).1; omega))
                       obtain ⟨ua152_0, uc152_0, rfl, ul152_0, ge152_0⟩ := Kd.FK_slice_open hMe152
                       have hv152_0 := hcc152 0 _ rfl
                       rw [Nat.add_zero, show ((Kd.slice 2 (Kd.int .i64))).sz = 1 from rfl, Nat.mul_one] at hv152_0
                       replace hv152_0 := Option.some.inj (hv152_0.symm.trans hx152_0)
                       injection hv152_0 with hva_ hvn_ hvc_
                       rw [hva_] at ge152_0
                       rw [hvc_] at ul152_0
                       have HL152_0 := As0.mk (show Kd.V (Kd.int .i64) 2 _ w.heap.size _ _ (rd_L4 x7_2 0) from Kd.V_mk ul152_0 ge152_0)
                       clear hva_ hvn_ hvc_ ge152_0 ul152_0
                       clear hcc152 hce152
                       have qi152 : (0 < x7_2.length) = True := eq_true (by omega)
                       (try rw [show ((0 : Int)).toNat = 0 from rfl] at hx152_0)
                       (try rw [Addr.add_zero'] at hx152_0)
                       have HR152_0 := As0.mk hi152_0
                       have HC152_0 := As0.mk hl152_0
                       clear hi152_0 hl152_0
                       replace p152 := eq_true p152
                       replace q152 := eq_true q152
                       have p153 : 0 ≤ ((ji21) : Int) := of_decide_eq_true (by assumption)
                       have q153 : (ji21) < ((rd_L4 x7_2 0).length : Int) := of_decide_eq_true (by assumption)
                       obtain ⟨ad153, e153, hx153_0⟩ := Kd.at_int (by repeat (first | (with_reducible exact HR152_0.out) | (with_reducible refine Kd.C_alloc ?_ _) | (with_reducible refine Kd.C_drewN ?_ _) | (with_reducible refine Kd.C_drew ?_) | exact HR152_0.out)) (ji21) p153 q153
                       cases e153
                       replace p153 := eq_true p153
                       replace q153 := eq_true q153
                       have p155 : 0 ≤ (x8_2 : Int) := of_decide_eq_true (by assumption)
                       have q155 : x8_2 < (l0.length : Int) := of_decide_eq_true (by assumption)
                       obtain ⟨ad155, e155, hx155_0, hx155_1, hx155_2, hx155_3⟩ := at_T46 HR0.out x8_2 p155 q155
                       cases e155
                       replace hx155_0 := (HB.out.cell (blt w _ hx155_0)).trans hx155_0
                       replace hx155_1 := (HB.out.cell (blt w _ hx155_1)).trans hx155_1
                       replace hx155_2 := (HB.out.cell (blt w _ hx155_2)).trans hx155_2
                       replace hx155_3 := (HB.out.cell (blt w _ hx155_3)).trans hx155_3
                       replace p155 := eq_true p155
                       replace q155 := eq_true q155
                       have p156 : 0 ≤ (x8_2 : Int) := of_decide_eq_true (by assumption)
                       have q156 : x8_2 < (l0.length : Int) := of_decide_eq_true (by assumption)
                       obtain ⟨ad156, e156, hx156_0, hx156_1, hx156_2, hx156_3⟩ := at_T46 HR0.out x8_2 p156 q156
                       obtain rfl : ad155 = ad156 := (by injection e156)
                       replace hx156_0 := (HB.out.cell (blt w _ hx156_0)).trans hx156_0
                       replace hx156_1 := (HB.out.cell (blt w _ hx156_1)).trans hx156_1
                       replace hx156_2 := (HB.out.cell (blt w _ hx156_2)).trans hx156_2
                       replace hx156_3 := (HB.out.cell (blt w _ hx156_3)).trans hx156_3
                       replace p156 := eq_true p156
                       replace q156 := eq_true q156
                       go_wp2
                       go_roundg kj14
                       case measure => have := HK1.out; have := HK2.out; have := HK3.out; have := HK4.out; have := HJ14.out; omega
                       case rel => exact ⟨(wrap64 ((rd (rd_L4 x7_2 0) (ji21)) + (wrap64 (x12_4 * ((rd_T46 l0 x8_2).f1))))), (wrap64 (x12_4 + 1)), (by first | rfl | (simp; done) | (simp only [← hji21] <;> (first | rfl | simp)) | (simp [*]; done)), (by first | rfl | (simp; done) | (simp [*]; done)), H', ⟨by have := HK1.out; have := HK2.out; have := HK3.out; have := HK4.out; have := HJ14.out; omega⟩, ⟨by (with_reducible repeat (first | apply Kd.N_alloc | apply Kd.N_drewN | apply Kd.N_drew)); exact HO_7.out⟩, ⟨by (with_reducible repeat (first | apply Kd.R_alloc | apply Kd.R_drewN | apply Kd.R_drew)); exact HO_9.out⟩, ⟨by repeat (with_reducible first | exact HB.out | apply bal | apply pbN | apply bdw)⟩⟩
                      ·rw [if_neg c31] at H
                       have c31b0 : decide ((wrap64 ((rd (rd_L4 x7_2 0) (ji21)) + (wrap64 (x12_4 * ((rd_T46 l0 x8_2).f1))))) < x11_4) = false := decide_eq_false c31
                       clear c31
                       have H' := As0.mk H
                       clear H
                       obtain ⟨Ao33, co33, eo33⟩ := Kd.N_slice HO_7.out
                       subst eo33
                       have p152 : 0 ≤ (0 : Int) := (by omega)
                       have q152 : 0 < (x7_2.length : Int) := of_decide_eq_true (by assumption)
                       obtain ⟨ad152, A152_0, c152_0, e152, hx152_0, hl152_0, hi152_0⟩ := at_L4 (Kd.N_reads' HO_7.out).2.2 0 p152 q152
                       cases e152
                       obtain ⟨ce152, hce152, hMe152, hcc152⟩ := Kd.N_get HO_7.out [] 0 p152 (by first | exact q152 | exact of_decide_eq_true (by assumption) | (have e_ := (Kd.N_reads' HO_7.out).1; omega))
                       obtain ⟨ua152_0, uc152_0, rfl, ul152_0, ge152_0⟩ := Kd.FK_slice_open hMe152
                       have hv152_0 := hcc152 0 _ rfl
                       rw [Nat.add_zero, show ((Kd.slice 2 (Kd.int .i64))).sz = 1 from rfl, Nat.mul_one] at hv152_0
                       replace hv152_0 := Option.some.inj (hv152_0.symm.trans hx152_0)
                       injection hv152_0 with hva_ hvn_ hvc_
                       rw [hva_] at ge152_0
                       rw [hvc_] at ul152_0
                       have HL152_0 := As0.mk (show Kd.V (Kd.int .i64) 2 _ w.heap.size _ _ (rd_L4 x7_2 0) from Kd.V_mk ul152_0 ge152_0)
                       clear hva_ hvn_ hvc_ ge152_0 ul152_0
                       clear hcc152 hce152
                       have qi152 : (0 < x7_2.length) = True := eq_true (by omega)
                       (try rw [show ((0 : Int)).toNat = 0 from rfl] at hx152_0)
                       (try rw [Addr.add_zero'] at hx152_0)
                       have HR152_0 := As0.mk hi152_0
                       have HC152_0 := As0.mk hl152_0
                       clear hi152_0 hl152_0
                       replace p152 := eq_true p152
                       replace q152 := eq_true q152
                       have p153 : 0 ≤ ((ji21) : Int) := of_decide_eq_true (by assumption)
                       have q153 : (ji21) < ((rd_L4 x7_2 0).length : Int) := of_decide_eq_true (by assumption)
                       obtain ⟨ad153, e153, hx153_0⟩ := Kd.at_int (by repeat (first | (with_reducible exact HR152_0.out) | (with_reducible refine Kd.C_alloc ?_ _) | (with_reducible refine Kd.C_drewN ?_ _) | (with_reducible refine Kd.C_drew ?_) | exact HR152_0.out)) (ji21) p153 q153
                       cases e153
                       replace p153 := eq_true p153
                       replace q153 := eq_true q153
                       have p155 : 0 ≤ (x8_2 : Int) := of_decide_eq_true (by assumption)
                       have q155 : x8_2 < (l0.length : Int) := of_decide_eq_true (by assumption)
                       obtain ⟨ad155, e155, hx155_0, hx155_1, hx155_2, hx155_3⟩ := at_T46 HR0.out x8_2 p155 q155
                       cases e155
                       replace hx155_0 := (HB.out.cell (blt w _ hx155_0)).trans hx155_0
                       replace hx155_1 := (HB.out.cell (blt w _ hx155_1)).trans hx155_1
                       replace hx155_2 := (HB.out.cell (blt w _ hx155_2)).trans hx155_2
                       replace hx155_3 := (HB.out.cell (blt w _ hx155_3)).trans hx155_3
                       replace p155 := eq_true p155
                       replace q155 := eq_true q155
                       go_wp2
                       go_roundg kj14
                       case measure => have := HK1.out; have := HK2.out; have := HK3.out; have := HK4.out; have := HJ14.out; omega
                       case rel => exact ⟨(x11_4), (wrap64 (x12_4 + 1)), (by first | rfl | (simp; done) | (simp [*]; done)), (by first | rfl | (simp; done) | (simp [*]; done)), H', ⟨by have := HK1.out; have := HK2.out; have := HK3.out; have := HK4.out; have := HJ14.out; omega⟩, ⟨by (with_reducible repeat (first | apply Kd.N_alloc | apply Kd.N_drewN | apply Kd.N_drew)); exact HO_7.out⟩, ⟨by (with_reducible repeat (first | apply Kd.R_alloc | apply Kd.R_drewN | apply Kd.R_drew)); exact HO_9.out⟩, ⟨by repeat (with_reducible first | exact HB.out | apply bal | apply pbN | apply bdw)⟩⟩
                     ·rw [if_neg c30] at H
                      exact absurd H (by simp)
                    ·rw [if_neg c29] at H
                     exact absurd H (by simp)
                  ·rw [if_neg c24] at H
                   have c24b0 : decide (0 ≤ (rd (rd_L4 x7_2 0) (ji21))) = false := decide_eq_false c24
                   clear c24
                   have H' := As0.mk H
                   clear H
                   obtain ⟨Ao34, co34, eo34⟩ := Kd.N_slice HO_7.out
                   subst eo34
                   have p152 : 0 ≤ (0 : Int) := (by omega)
                   have q152 : 0 < (x7_2.length : Int) := of_decide_eq_true (by assumption)
                   obtain ⟨ad152, A152_0, c152_0, e152, hx152_0, hl152_0, hi152_0⟩ := at_L4 (Kd.N_reads' HO_7.out).2.2 0 p152 q152
                   cases e152
                   obtain ⟨ce152, hce152, hMe152, hcc152⟩ := Kd.N_get HO_7.out [] 0 p152 (by first | exact q152 | exact of_decide_eq_true (by assumption) | (have e_ := (Kd.N_reads' HO_7.out).1; omega))
                   obtain ⟨ua152_0, uc152_0, rfl, ul152_0, ge152_0⟩ := Kd.FK_slice_open hMe152
                   have hv152_0 := hcc152 0 _ rfl
                   rw [Nat.add_zero, show ((Kd.slice 2 (Kd.int .i64))).sz = 1 from rfl, Nat.mul_one] at hv152_0
                   replace hv152_0 := Option.some.inj (hv152_0.symm.trans hx152_0)
                   injection hv152_0 with hva_ hvn_ hvc_
                   rw [hva_] at ge152_0
                   rw [hvc_] at ul152_0
                   have HL152_0 := As0.mk (show Kd.V (Kd.int .i64) 2 _ w.heap.size _ _ (rd_L4 x7_2 0) from Kd.V_mk ul152_0 ge152_0)
                   clear hva_ hvn_ hvc_ ge152_0 ul152_0
                   clear hcc152 hce152
                   have qi152 : (0 < x7_2.length) = True := eq_true (by omega)
                   (try rw [show ((0 : Int)).toNat = 0 from rfl] at hx152_0)
                   (try rw [Addr.add_zero'] at hx152_0)
                   have HR152_0 := As0.mk hi152_0
                   have HC152_0 := As0.mk hl152_0
                   clear hi152_0 hl152_0
                   replace p152 := eq_true p152
                   replace q152 := eq_true q152
                   have p153 : 0 ≤ ((ji21) : Int) := of_decide_eq_true (by assumption)
                   have q153 : (ji21) < ((rd_L4 x7_2 0).length : Int) := of_decide_eq_true (by assumption)
                   obtain ⟨ad153, e153, hx153_0⟩ := Kd.at_int (by repeat (first | (with_reducible exact HR152_0.out) | (with_reducible refine Kd.C_alloc ?_ _) | (with_reducible refine Kd.C_drewN ?_ _) | (with_reducible refine Kd.C_drew ?_) | exact HR152_0.out)) (ji21) p153 q153
                   cases e153
                   replace p153 := eq_true p153
                   replace q153 := eq_true q153
                   go_wp2
                   go_roundg kj14
                   case measure => have := HK1.out; have := HK2.out; have := HK3.out; have := HK4.out; have := HJ14.out; omega
                   case rel => exact ⟨(x11_4), (wrap64 (x12_4 + 1)), (by first | rfl | (simp; done) | (simp [*]; done)), (by first | rfl | (simp; done) | (simp [*]; done)), H', ⟨by have := HK1.out; have := HK2.out; have := HK3.out; have := HK4.out; have := HJ14.out; omega⟩, ⟨by (with_reducible repeat (first | apply Kd.N_alloc | apply Kd.N_drewN | apply Kd.N_drew)); exact HO_7.out⟩, ⟨by (with_reducible repeat (first | apply Kd.R_alloc | apply Kd.R_drewN | apply Kd.R_drew)); exact HO_9.out⟩, ⟨by repeat (with_reducible first | exact HB.out | apply bal | apply pbN | apply bdw)⟩⟩
                 ·rw [if_neg c23] at H
                  exact absurd H (by simp)
                ·rw [if_neg c22] at H
                 exact absurd H (by simp)
               ·rw [if_neg c20] at H
                exact absurd H (by simp)
              ·replace c19 := Bool.eq_false_iff.mpr c19
               subst c19
               have H1 : (if x9_3.length < 17592186044416 then (spec_l16Table.l2 kj14 l0 a1 x7_2 x8_2 (x9_3 ++ [x11_4]) (wrap64 (x10_3 + 1))) else (none)) = some r := by rw [if_neg (show ¬ (false = true) by decide)] at H; exact H
               clear H
               have H := H1
               clear H1
               by_cases c35 : x9_3.length < 17592186044416
               ·rw [if_pos c35] at H
                have LMc35 := As0.mk c35
                clear c35
                obtain ⟨y157, hy157⟩ : ∃ y_ : List Int, y_ = (x9_3 ++ [x11_4]) := ⟨_, rfl⟩
                replace H : (spec_l16Table.l2 kj14 l0 a1 x7_2 x8_2 y157 (wrap64 (x10_3 + 1))) = some r := by first | (rw [hy157]; with_reducible exact H) | (have H2_ := (Option.bind_some _ _).symm.trans H; rw [hy157]; with_reducible exact H2_) | (have H2_ := (Option.bind_some _ _).symm.trans H; with_reducible exact H2_) | with_reducible exact H | (rw [hy157]; exact H) | exact H
                have Ny157 := As0.mk hy157
                clear hy157
                have H' := As0.mk H
                clear H
                go_wp2_with (first | ((with_reducible refine gbu (b := .append) (xs := #[.tmp 88, .tmp 90]) rfl ?_); at_builtin; refine Kd.R_append (Kd.int .i64) (w0 := w) w.heap.size rfl (.tmp 88) (.tmp 90) 30 2 (.int .i64 0) 8 rfl Try.underlying30 info2 rfl (by decide) (by omega) u9 x9_3 x11_4 [.int .i64 x11_4] (fun k_ => (w.heap.size ≤ k_)) (fun _ => False) rfl rfl ?aP (fun _ hk => hk.elim) ?aF ?aO ?aB ?aS ?aL ?_; (case aP => exact rfl); (case aB => exact (by repeat (with_reducible first | exact HB.out | apply bal | apply pbN | apply bdw))); (case aF => exact (fun k_ hk => (Nat.le_trans (bsz (by repeat (with_reducible first | exact HB.out | apply bal | apply pbN | apply bdw))) hk))); (case aO => exact (by (with_reducible repeat (first | apply Kd.R_alloc | apply Kd.R_drewN | apply Kd.R_drew)); exact HO_9.out)); (case aS => exact (bsz (by repeat (with_reducible first | exact HB.out | apply bal | apply pbN | apply bdw)))); (case aL => have := LMc35.out; omega); intro v158 w36 ho hb hg hat; rw [← Ny157.out] at ho; have n0_ := As0.mk (Kd.N_afterv (ok := (fun k_ => (w.heap.size ≤ k_))) (by (with_reducible repeat (first | apply Kd.N_alloc | apply Kd.N_drewN | apply Kd.N_drew)); exact HO_7.out) hg hat); have n1_ := As0.mk (hb); have n2_ := As0.mk (ho); clear HO_7; clear HB; clear HO_9; have HO_7 := n0_; have HB := n1_; have HO159 := n2_; clear n0_ n1_ n2_; clear ho hb hg hat))
                go_roundg kj14
                case measure => have := HK1.out; have := HK2.out; have := HK3.out; have := HK4.out; have := HJ14.out; omega
                case rel => exact ⟨(y157), (wrap64 (x10_3 + 1)), (by first | rfl | (simp; done) | (simp [*]; done)), H', ⟨by have := HK1.out; have := HK2.out; have := HK3.out; have := HK4.out; have := HJ14.out; omega⟩, ⟨by (with_reducible repeat (first | apply Kd.N_alloc | apply Kd.N_drewN | apply Kd.N_drew)); exact HO_7.out⟩, ⟨by (with_reducible repeat (first | apply Kd.R_alloc | apply Kd.R_drewN | apply Kd.R_drew)); exact HO159.out⟩, ⟨by repeat (with_reducible first | exact HB.out | apply bal | apply pbN | apply bdw)⟩⟩
               ·rw [if_neg c35] at H
                exact absurd H (by simp)
         ·rw [if_neg c14] at H
          have c14b0 : decide (x10_3 ≤ a1) = false := decide_eq_false c14
          clear c14
          obtain ⟨y145, hy145⟩ : ∃ y_ : List (List Int), y_ = (([x9_3] : List (List Int))) := ⟨_, rfl⟩
          replace H : (if y145.length + x7_2.length < 5864062014805 then (spec_l16Table.l1 k3 l0 a1 (y145 ++ x7_2) (wrap64 (x8_2 - 1))) else (none)) = some r := by first | (rw [hy145]; with_reducible exact H) | (have H2_ := (Option.bind_some _ _).symm.trans H; rw [hy145]; with_reducible exact H2_) | (have H2_ := (Option.bind_some _ _).symm.trans H; with_reducible exact H2_) | with_reducible exact H | (rw [hy145]; exact H) | exact H
          have Ny145 := As0.mk hy145
          clear hy145
          by_cases c37 : y145.length + x7_2.length < 5864062014805
          ·rw [if_pos c37] at H
           have LMc37 := As0.mk c37
           clear c37
           obtain ⟨y148, hy148⟩ : ∃ y_ : List (List Int), y_ = (y145 ++ x7_2) := ⟨_, rfl⟩
           replace H : (spec_l16Table.l1 k3 l0 a1 y148 (wrap64 (x8_2 - 1))) = some r := by first | (rw [hy148]; with_reducible exact H) | (have H2_ := (Option.bind_some _ _).symm.trans H; rw [hy148]; with_reducible exact H2_) | (have H2_ := (Option.bind_some _ _).symm.trans H; with_reducible exact H2_) | with_reducible exact H | (rw [hy148]; exact H) | exact H
           have Ny148 := As0.mk hy148
           clear hy148
           have H' := As0.mk H
           clear H
           obtain ⟨Ao38, co38, eo38⟩ := Kd.R_slice HO_9.out
           subst eo38
           go_wp2_with (first | ((with_reducible refine gate_dst (N := 93) rfl ?_); refine Kd.N_lit (Kd.slice 2 (Kd.int .i64)) _ 30 ?hg (N' := 93) ?hd (xs := ([x9_3] : List (List Int))) (inner := [.slice Ao38 x9_3.length co38]) (ok := (fun k_ => (w.heap.size ≤ k_) ∧ some k_ ≠ (u7 : Value).ownBlock)) (okp := (fun k_ => (w.heap.size ≤ k_) ∧ some k_ ≠ (u7 : Value).ownBlock)) ?hr ?hp (fun _ hk => hk) ((show ∀ k_, wr.heap.size ≤ k_ → (fun k_ => (w.heap.size ≤ k_) ∧ some k_ ≠ (u7 : Value).ownBlock) k_ from fun k_ hk => ⟨(Nat.le_trans (bsz (by repeat (with_reducible first | exact HB.out | apply bal | apply pbN | apply bdw))) hk), Kd.fresh' (Kd.N_lt (by (with_reducible repeat (first | apply Kd.N_alloc | apply Kd.N_drewN | apply Kd.N_drew)); exact HO_7.out)) k_ hk⟩) _ (Nat.le_refl _)) (Below.refl _ _) (Nat.le_refl _) (by simp) ?_; (case hd => rfl); (case hg => rfl); (case hr => first | (go_simp; done) | (go_simp; rfl)); (case hp => exact (Reps.one (show Kd.FK (Kd.slice 2 (Kd.int .i64)) _ _ x9_3 [.slice Ao38 x9_3.length co38] from (Kd.FK_slice_mk (Kd.R_reads' (Kd.R_mono (ok' := (fun k_ => (w.heap.size ≤ k_) ∧ some k_ ≠ (u7 : Value).ownBlock)) (Kd.R_apart' (HO_9.out) (Kd.N_typed HO_7.out) (by decide)) (fun k_ hk => ⟨hk.1, hk.2⟩))).2.1 (Kd.R_F (Kd.R_mono (ok' := (fun k_ => (w.heap.size ≤ k_) ∧ some k_ ≠ (u7 : Value).ownBlock)) (Kd.R_apart' (HO_9.out) (Kd.N_typed HO_7.out) (by decide)) (fun k_ hk => ⟨hk.1, hk.2⟩))))) (Reps.none _ _))); intro v146 w39 ho40 hb hg_ hnew_; clear hg_ hnew_; (first | rw [← Ny145.out] at ho40 | (simp only [Int.reduceToNat] at ho40; rw [← Ny145.out] at ho40)); have n0_ := As0.mk (Kd.N_elder' (by (with_reducible repeat (first | apply Kd.N_alloc | apply Kd.N_drewN | apply Kd.N_drew)); exact HO_7.out) (Kd.N_base ho40) hb); have n1_ := As0.mk (Kd.N_lower ho40 (bsz (by repeat (with_reducible first | exact HB.out | apply bal | apply pbN | apply bdw)))); have n2_ := As0.mk (bsp (by repeat (with_reducible first | exact HB.out | apply bal | apply pbN | apply bdw)) hb); clear HO_7; clear HB; clear HO_9; have HO_7 := n0_; have HO147 := n1_; have HB := n2_; clear n0_ n1_ n2_; clear hb ho40; obtain ⟨Ao42, co42, eo42⟩ := Kd.N_slice HO_7.out; subst eo42) | ((with_reducible refine gbu (b := .append) (xs := #[.tmp 93, .tmp 94]) rfl ?_); at_builtin; refine Kd.N_append_rows (Kd.slice 2 (Kd.int .i64)) (w0 := w) w.heap.size rfl (.tmp 93) (.tmp 94) 45 30 (.slice none 0 0) 24 rfl Try.underlying45 info30 rfl (by decide) (by omega) v146 y145 x7_2 _ _ _ (fun k_ => (w.heap.size ≤ k_)) (fun k_ => ((fun k_ => (w.heap.size ≤ k_))) k_ ∧ some k_ ≠ (v146 : Value).ownBlock) rfl rfl ?aO ?aR (fun _ hk => hk) ?aF ?aB ?aS ?aL ?_; (case aR => exact (by skip; exact Kd.N_F (Kd.N_mono (ok' := (fun k_ => ((fun k_ => (w.heap.size ≤ k_))) k_ ∧ some k_ ≠ (v146 : Value).ownBlock)) (HO_7.out) (fun k_ hk => ⟨hk.1.1, hk.2⟩)))); (case aB => exact (by repeat (with_reducible first | exact HB.out | apply bal | apply pbN | apply bdw))); (case aF => exact (fun k_ hk => (Nat.le_trans (bsz (by repeat (with_reducible first | exact HB.out | apply bal | apply pbN | apply bdw))) hk))); (case aO => exact (by (with_reducible repeat (first | apply Kd.N_alloc | apply Kd.N_drewN | apply Kd.N_drew)); exact Kd.N_mono HO147.out (fun _ hk => hk.1))); (case aS => exact (bsz (by repeat (with_reducible first | exact HB.out | apply bal | apply pbN | apply bdw)))); (case aL => have := LMc37.out; omega); intro v149 w41 ho hb hg hat; rw [← Ny148.out] at ho; have n0_ := As0.mk (Kd.N_afterv (ok := (fun k_ => (w.heap.size ≤ k_))) (by (with_reducible repeat (first | apply Kd.N_alloc | apply Kd.N_drewN | apply Kd.N_drew)); exact Kd.N_mono HO_7.out (fun _ hk => ⟨hk.1.1, hk.2⟩)) hg hat); have n1_ := As0.mk (hb); have n2_ := As0.mk (ho); clear HO_7; clear HB; clear HO147; have HO_7 := n0_; have HB := n1_; have HO150 := n2_; clear n0_ n1_ n2_; clear ho hb hg hat))
           go_roundg k3
           case measure => have := HK1.out; have := HK2.out; have := HK3.out; omega
           case rel => exact ⟨(y148), (wrap64 (x8_2 - 1)), (by first | rfl | (simp; done) | (simp [*]; done)), H', ⟨by have := HK1.out; have := HK2.out; have := HK3.out; omega⟩, ⟨by (with_reducible repeat (first | apply Kd.N_alloc | apply Kd.N_drewN | apply Kd.N_drew)); exact HO150.out⟩, ⟨by repeat (with_reducible first | exact HB.out | apply bal | apply pbN | apply bdw)⟩⟩
          ·rw [if_neg c37] at H
           exact absurd H (by simp)
      ·rw [if_neg c11] at H
       have c11b0 : decide (0 ≤ x8_2) = false := decide_eq_false c11
       clear c11
       obtain rfl := Option.some.inj H
       go_wp2
       go_ret
       exact ⟨_, by first | rfl | (simp [eWn, eWs] <;> rfl) | (simp [*, eWn, eWs] <;> rfl), by (with_reducible repeat (first | apply Kd.N_alloc | apply Kd.N_drewN | apply Kd.N_drew)); exact HO_7.out, by repeat (with_reducible first | exact HB.out | apply bal | apply pbN | apply bdw)⟩

end Go.Proofs.Ytnhkamfccoppbaa.QCleanestMix
