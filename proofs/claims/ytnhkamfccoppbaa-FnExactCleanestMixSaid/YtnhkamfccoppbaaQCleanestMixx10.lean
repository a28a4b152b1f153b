-- Written by press.py, a program of this session, round the kit's print.py (functions and contracts; Lean checks them).
import Derived.Test.YtnhkamfccoppbaaQCleanestMixx0
import Derived.Test.YtnhkamfccoppbaaQCleanestMixx8
import Derived.Test.YtnhkamfccoppbaaQCleanestMixx9
namespace Go.Proofs.Ytnhkamfccoppbaa.QCleanestMix
open Go.Proofs.Ytnhkamfccoppbaa.QWords
attribute [local go_sem high] binOp_string_geq_q binOp_string_leq_q binOp_string_gtr_q
open Go.RowKit Go.Proofs.YtnhkamfccoppbaaW.PrintWords Go.Proofs.YtnhkamfccoppbaaW.PrintLast Go.Proofs.YtnhkamfccoppbaaW.PrintMore
attribute [local go_sem] max2_int min2_int max_two min_two max_three min_three max_four min_four   -- for this text's walks alone
set_option linter.unusedVariables false
set_option linter.unusedSimpArgs false

/-! ### impl_mixes_best: function 30 -/
mutual
def impl_mixes_best.l0 : Nat → Int → List Int → List (S46) → Int → Int → Int → Int → Int → Int → Int → Option (List Int × Int × Int)
 | 0, _, _, _, _, _, _, _, _, _, _ => none
 | k + 1, x8, x9, x211000, x211001, x211002, x211003, x211004, x212000, x212001, x212002 => if x212000 < (x211000.length : Int) then (impl_mixes_best.l1 k x8 x9 0 x211000 x211001 x211002 x211003 x211004 x212000 x212001 x212002) else (some (x9, x8, 0))
def impl_mixes_best.l1 : Nat → Int → List Int → Int → List (S46) → Int → Int → Int → Int → Int → Int → Int → Option (List Int × Int × Int)
 | 0, _, _, _, _, _, _, _, _, _, _, _ => none
 | k + 1, x8, x9, x10, x211000, x211001, x211002, x211003, x211004, x212000, x212001, x212002 => if x10 ≤ 1000 then ((impl_mixes_after.f x211000 x211001 x211002 x211003 x211004 x212000 x212001 x212002 x10).bind fun bt213 => (if bt213.2.2.2 = true then ((impl_mixes_least.f k x211000 x211001 x211002 x211003 x211004 bt213.1 bt213.2.1 bt213.2.2.1).bind fun t218 => (if t218 ≥ 0 then ((impl_mixes_least.f k x211000 x211001 x211002 x211003 x211004 bt213.1 bt213.2.1 bt213.2.2.1).bind fun t219 => (if 0 ≤ x212000 then (if x212000 < (x211000.length : Int) then ((impl_price.f ((rd_T46 x211000 x212000).f0) ((rd_T46 x211000 x212000).f1) ((rd_T46 x211000 x212000).f2) ((rd_T46 x211000 x212000).f3)).bind fun t221 => ((impl_mixes_least.f k x211000 x211001 x211002 x211003 x211004 x212000 x212001 x212002).bind fun t222 => (if (wrap64 (t219 + (wrap64 (x10 * t221)))) = t222 then (if x9.length < 17592186044416 then (impl_mixes_best.l0 k x8 (x9 ++ [x10]) x211000 x211001 x211002 x211003 x211004 bt213.1 bt213.2.1 bt213.2.2.1) else (none)) else (impl_mixes_best.l1 k x8 x9 (wrap64 (x10 + 1)) x211000 x211001 x211002 x211003 x211004 x212000 x212001 x212002)))) else (none)) else (none))) else (impl_mixes_best.l1 k x8 x9 (wrap64 (x10 + 1)) x211000 x211001 x211002 x211003 x211004 x212000 x212001 x212002))) else (impl_mixes_best.l1 k x8 x9 (wrap64 (x10 + 1)) x211000 x211001 x211002 x211003 x211004 x212000 x212001 x212002))) else none
end
def impl_mixes_best.f (k : Nat) (l0_0 : List (S46)) (a0_1 : Int) (a0_2 : Int) (a0_3 : Int) (a0_4 : Int) (a1 : Int) : Option (List Int × Int × Int) := if vfB l0_0 a1 a0_2 = true then ((impl_mixes_least.f k l0_0 a0_1 a0_2 a0_3 0 0 a1 a0_2).bind fun t212 => (if t212 < 0 then (some (([] : List Int), 0, 3)) else (impl_mixes_best.l0 k t212 ([] : List Int) l0_0 a0_1 a0_2 a0_3 0 0 a1 a0_2))) else none
theorem impl_mixes_best.mono_l : ∀ k, (∀ y0 y1 y2 y3 y4 y5 y6 y7 y8 y9, LeO (impl_mixes_best.l0 k y0 y1 y2 y3 y4 y5 y6 y7 y8 y9) (impl_mixes_best.l0 (k + 1) y0 y1 y2 y3 y4 y5 y6 y7 y8 y9)) ∧ (∀ y0 y1 y2 y3 y4 y5 y6 y7 y8 y9 y10, LeO (impl_mixes_best.l1 k y0 y1 y2 y3 y4 y5 y6 y7 y8 y9 y10) (impl_mixes_best.l1 (k + 1) y0 y1 y2 y3 y4 y5 y6 y7 y8 y9 y10))
 | 0 => ⟨fun _ _ _ _ _ _ _ _ _ _ r h => by simp [impl_mixes_best.l0] at h, fun _ _ _ _ _ _ _ _ _ _ _ r h => by simp [impl_mixes_best.l1] at h⟩
 | k + 1 => by
  obtain ⟨ih0, ih1⟩ := impl_mixes_best.mono_l k
  refine ⟨?_, ?_⟩
  ·intro y0 y1 y2 y3 y4 y5 y6 y7 y8 y9
   unfold impl_mixes_best.l0
   repeat' first
   | (with_reducible exact ih0 _ _ _ _ _ _ _ _ _ _)
   | (with_reducible exact ih1 _ _ _ _ _ _ _ _ _ _ _)
   | (with_reducible exact impl_mixes_least.mono _ _ _ _ _ _ _ _ _)
   | (with_reducible exact LeO.refl _)
   | (with_reducible exact LeO.none _)
   | (with_reducible refine LeO.ite ?_ ?_)
   | (with_reducible refine LeO.bind ?_ (fun _ => ?_))
   | exact ih0 _ _ _ _ _ _ _ _ _ _
   | exact ih1 _ _ _ _ _ _ _ _ _ _ _
   | exact impl_mixes_least.mono _ _ _ _ _ _ _ _ _
   | exact LeO.none _
   | refine LeO.ite ?_ ?_
   | refine LeO.bind ?_ (fun _ => ?_)
  ·intro y0 y1 y2 y3 y4 y5 y6 y7 y8 y9 y10
   unfold impl_mixes_best.l1
   repeat' first
   | (with_reducible exact ih0 _ _ _ _ _ _ _ _ _ _)
   | (with_reducible exact ih1 _ _ _ _ _ _ _ _ _ _ _)
   | (with_reducible exact impl_mixes_least.mono _ _ _ _ _ _ _ _ _)
   | (with_reducible exact LeO.refl _)
   | (with_reducible exact LeO.none _)
   | (with_reducible refine LeO.ite ?_ ?_)
   | (with_reducible refine LeO.bind ?_ (fun _ => ?_))
   | exact ih0 _ _ _ _ _ _ _ _ _ _
   | exact ih1 _ _ _ _ _ _ _ _ _ _ _
   | exact impl_mixes_least.mono _ _ _ _ _ _ _ _ _
   | exact LeO.none _
   | refine LeO.ite ?_ ?_
   | refine LeO.bind ?_ (fun _ => ?_)
theorem impl_mixes_best.mono : ∀ a0 a1 a2 a3 a4 a5 k, LeO (impl_mixes_best.f k a0 a1 a2 a3 a4 a5) (impl_mixes_best.f (k + 1) a0 a1 a2 a3 a4 a5) := by
 intro a0 a1 a2 a3 a4 a5 k
 obtain ⟨ih0, ih1⟩ := impl_mixes_best.mono_l k
 unfold impl_mixes_best.f
 repeat' first
   | (with_reducible exact ih0 _ _ _ _ _ _ _ _ _ _)
   | (with_reducible exact ih1 _ _ _ _ _ _ _ _ _ _ _)
   | (with_reducible exact impl_mixes_least.mono _ _ _ _ _ _ _ _ _)
   | (with_reducible exact LeO.refl _)
   | (with_reducible exact LeO.none _)
   | (with_reducible refine LeO.ite ?_ ?_)
   | (with_reducible refine LeO.bind ?_ (fun _ => ?_))
   | exact ih0 _ _ _ _ _ _ _ _ _ _
   | exact ih1 _ _ _ _ _ _ _ _ _ _ _
   | exact impl_mixes_least.mono _ _ _ _ _ _ _ _ _
   | exact LeO.none _
   | refine LeO.ite ?_ ?_
   | refine LeO.bind ?_ (fun _ => ?_)
def impl_mixes_best.T11 : Bool × List (List Nat × List Nat) := (true, [([], []), ([0], [0]), ([1], [1]), ([1], [1]), ([2, 3, 1, 1], [1, 2, 3]), ([4, 1], [1, 4]), ([1, 5], [1, 5]), ([6, 4], [6]), ([7], [7]), ([7], [7]), ([8, 9, 7, 7], [7, 8, 9]), ([7], [7]), ([7], [7]), ([12, 7], [7, 12]), ([7], [7]), ([14, 7], [7, 14]), ([7], [7]), ([16, 7], [7, 16]), ([15, 17, 7], [7, 15, 17]), ([18, 7], [7, 18]), ([13, 19, 10, 7], [7, 13, 19]), ([11, 20, 7], [7, 11, 20]), ([10, 21, 7], [7, 10, 21]), ([7], [7]), ([7], [7]), ([23, 24, 20, 7], [7, 23, 24]), ([22, 25, 7], [7, 22, 25]), ([7, 26], [7, 26])])
def impl_mixes_best.B11 : List Nat := [0, 1, 3, 3, 15, 31, 63, 127, 255, 255, 1023, 255, 255, 4351, 255, 16639, 255, 65791, 246015, 508159, 1046527, 2097151, 4194303, 255, 255, 27260927, 67108863, 134217727]
theorem impl_mixes_best.tab11 : rtab .any (opsOf Try.f30 11) = impl_mixes_best.T11 := by kernel_rfl
theorem impl_mixes_best.bits11 : waitsOk impl_mixes_best.T11.2 impl_mixes_best.B11 = true := by kernel_rfl
set_option maxHeartbeats 8000000 in
set_option maxRecDepth 100000 in
theorem impl_mixes_best.calls (k : Nat) (A0_0 : Option Addr) (c0_0 : Nat) (l0_0 : List (S46)) (a0_2 : Int) (a1 : Int) (r1 : List Int) (r2 : Int) (r3 : Int) (w : World) (hr0_0 : Kd.C k46 w A0_0 l0_0.length l0_0) (hc0_0 : l0_0.length ≤ c0_0) (h : impl_mixes_best.f k l0_0 0 a0_2 0 0 a1 = some (r1, r2, r3)) :
  Calls Try.prog 30 #[.agg #[.slice A0_0 l0_0.length c0_0, .func (.func 29) #[] #[], .int .i64 a0_2, .map none, .map none], .int .i64 a1] w fun e w' => ∃ v0_ : Value, e = .returned (.tuple #[v0_, .int .i64 r2, .int .i64 r3]) ∧ Kd.R (Kd.int .i64) 2 w' w.heap.size (fun _ => True) v0_ r1 ∧ Below w.heap.size w w' := by
 have hu55 := Try.underlying55
 have hu63 := Try.underlying63
 have hu46 := Try.underlying46
 have HR0_0 := As0.mk hr0_0
 have HC0_0 := As0.mk hc0_0
 clear hr0_0 hc0_0
 have HB := As0.mk (Below.refl w.heap.size w)
 have H : (if vfB l0_0 a1 a0_2 = true then ((impl_mixes_least.f k l0_0 0 a0_2 0 0 0 a1 a0_2).bind fun t212 => (if t212 < 0 then (some (([] : List Int), 0, 3)) else (impl_mixes_best.l0 k t212 ([] : List Int) l0_0 0 a0_2 0 0 0 a1 a0_2))) else none) = some (r1, r2, r3) := h
 clear h
 have hV_ : vfB l0_0 a1 a0_2 = true := by
  by_cases c_ : vfB l0_0 a1 a0_2 = true
  ·exact c_
  ·rw [if_neg c_] at H
   exact absurd H (by simp)
 rw [if_pos hV_] at H
 have HV := As0.mk (vfB_VF hV_).1
 have HBX := As0.mk (vfB_VF hV_).2
 clear hV_
 replace H := Option.bind_eq_some_iff.mp H
 obtain ⟨t212, A30, H⟩ := H
 replace H : (if t212 < 0 then (some (([] : List Int), 0, 3)) else (impl_mixes_best.l0 k t212 ([] : List Int) l0_0 0 a0_2 0 0 0 a1 a0_2)) = some (r1, r2, r3) := H
 have A3 := As0.mk A30
 clear A30
 by_cases c4 : t212 < 0
 ·rw [if_pos c4] at H
  have c4b0 : decide (t212 < 0) = true := decide_eq_true c4
  clear c4
  simp only [Option.some.injEq, Prod.mk.injEq] at H
  obtain ⟨rfl, rfl, rfl⟩ := H
  go_enter Try.func30, Try.ntmps30
  go_wp2_with (first | ((with_reducible refine gate_dst (N := 2) rfl ?_); refine box_event ?hg (N := 2) ?hd (cs := #[.slice A0_0 l0_0.length c0_0, .func (.func 29) #[] #[], .int .i64 a0_2, .map none, .map none]) (t := 55) ?hr ?_; (case hd => rfl); (case hg => rfl); (case hr => first | (go_simp; done) | (go_simp; rfl)); intro gb210 hg w5 hbox hb; have n0_ := As0.mk (bsp (by repeat (with_reducible first | exact HB.out | apply bal | apply pbN | apply bdw)) hb); have n1_ := As0.mk (hbox); have n2_ := As0.mk ((by rw [hg]; exact (bsz (by repeat (with_reducible first | exact HB.out | apply bal | apply pbN | apply bdw))) : w.heap.size ≤ gb210)); have n3_ := As0.mk ((by rw [hg]; exact (bsz (by repeat (with_reducible first | exact HB.out | apply bal | apply pbN | apply bdw))) : w.heap.size ≤ gb210)); clear HB; have HB := n0_; have BK210 := n1_; have GW210 := n2_; have GE210 := n3_; clear n0_ n1_ n2_ n3_; clear hb hbox hg; have hcz6_0 : w5.cell? ⟨gb210, 0, none⟩ = some (.slice A0_0 l0_0.length c0_0) := (bkc BK210.out 0).trans rfl; have hcz6_1 : w5.cell? ⟨gb210, 1, none⟩ = some (.func (.func 29) #[] #[]) := (bkc BK210.out 1).trans rfl; have hcz6_2 : w5.cell? ⟨gb210, 2, none⟩ = some (.int .i64 a0_2) := (bkc BK210.out 2).trans rfl; have hcz6_3 : w5.cell? ⟨gb210, 3, none⟩ = some (.map none) := (bkc BK210.out 3).trans rfl; have hcz6_4 : w5.cell? ⟨gb210, 4, none⟩ = some (.map none) := (bkc BK210.out 4).trans rfl; have hfz6_0 := bkf BK210.out 0; have hfz6_1 := bkf BK210.out 1; have hfz6_2 := bkf BK210.out 2; have hfz6_3 := bkf BK210.out 3; have hfz6_4 := bkf BK210.out 4) | ((with_reducible refine gate_dst (N := 13) rfl ?_); refine map_event ?hg (N := 13) ?hd ?hr ?_; (case hd => rfl); (case hg => rfl); (case hr => first | (go_simp; done) | (go_simp; rfl) | rfl); intro B hB_ w1m_ hmk_ hb; have n0_ := As0.mk (bkb (g := gb210) (o := .cells #[.slice A0_0 l0_0.length c0_0, .func (.func 29) #[] #[], .int .i64 a0_2, .map none, .map none] 55 (0, 0)) BK210.out hb); have n1_ := As0.mk (bsp HB.out hb); have HM := As0.mk (memo_rebase (hmk_ (mixF l0_0 a0_2)) n1_.out); have NM210 := As0.mk (show B ≠ gb210 ∧ w.heap.size ≤ gb210 from ⟨by rw [hB_]; exact Nat.ne_of_gt (blk_lt BK210.out), GE210.out⟩); have HB0 := As0.mk (show w.heap.size ≤ B from by rw [hB_]; exact bsz HB.out); clear BK210 HB; have BK210 := n0_; have HB := n1_; clear n0_ n1_ hmk_ hb hB_; have hczm_0 : w1m_.cell? ⟨gb210, 0, none⟩ = some (.slice A0_0 l0_0.length c0_0) := (bkc BK210.out 0).trans rfl; have hfzm_0 := bkf BK210.out 0; have hczm_1 : w1m_.cell? ⟨gb210, 1, none⟩ = some (.func (.func 29) #[] #[]) := (bkc BK210.out 1).trans rfl; have hfzm_1 := bkf BK210.out 1; have hczm_2 : w1m_.cell? ⟨gb210, 2, none⟩ = some (.int .i64 a0_2) := (bkc BK210.out 2).trans rfl; have hfzm_2 := bkf BK210.out 2; have hczm_3 : w1m_.cell? ⟨gb210, 3, none⟩ = some (.map none) := (bkc BK210.out 3).trans rfl; have hfzm_3 := bkf BK210.out 3; have hczm_4 : w1m_.cell? ⟨gb210, 4, none⟩ = some (.map none) := (bkc BK210.out 4).trans rfl; have hfzm_4 := bkf BK210.out 4) | ((with_reducible refine gate_dst (N := 7) rfl ?_); refine box_event ?hg (N := 7) ?hd (cs := #[.int .i64 0, .int .i64 0, .int .i64 0]) (t := 63) ?hr ?_; (case hd => rfl); (case hg => rfl); (case hr => first | (go_simp; done) | (go_simp; rfl)); intro gb211 hg w7 hbox hb; have NM211 := As0.mk (memo_new (by repeat (with_reducible first | exact HM.out | apply mal | apply mdN | apply mdw | apply mst (hne := NM210.out) | apply mst (hne := NM211.out) | apply mst (hne := NM217.out))) hg); have HM_ := As0.mk (memo_below (by repeat (with_reducible first | exact HM.out | apply mal | apply mdN | apply mdw | apply mst (hne := NM210.out) | apply mst (hne := NM211.out) | apply mst (hne := NM217.out))) hb); clear HM; have HM := HM_; clear HM_; have n0_ := As0.mk (bkb (g := gb210) (o := .cells #[.slice A0_0 l0_0.length c0_0, .func (.func 29) #[] #[], .int .i64 a0_2, .map none, .map (some B)] 55 (0, 0)) (by (with_reducible repeat first | refine bkN ?_ _ | refine bkd ?_ | refine bka ?_ _); refine blk_put (cs := #[.slice A0_0 l0_0.length c0_0, .func (.func 29) #[] #[], .int .i64 a0_2, .map none, .map none]) ?_ 4 _ rfl; (with_reducible repeat first | refine bkN ?_ _ | refine bkd ?_ | refine bka ?_ _); exact BK210.out) hb); have n1_ := As0.mk (bsp (by repeat (with_reducible first | exact HB.out | apply bal | apply pbN | apply bdw | refine bst ?_ GE210.out)) hb); have n2_ := As0.mk (hbox); have n3_ := As0.mk ((by rw [hg]; exact (bsz (by repeat (with_reducible first | exact HB.out | apply bal | apply pbN | apply bdw | refine bst ?_ GE210.out))) : w.heap.size ≤ gb211)); have n4_ := As0.mk ((by rw [hg]; exact (bsz (by repeat (with_reducible first | exact HB.out | apply bal | apply pbN | apply bdw | refine bst ?_ GE210.out))) : w.heap.size ≤ gb211)); have n5_ := As0.mk ((by rw [hg]; exact Nat.ne_of_lt (blk_lt (g := gb210) (o := .cells #[.slice A0_0 l0_0.length c0_0, .func (.func 29) #[] #[], .int .i64 a0_2, .map none, .map (some B)] 55 (0, 0)) (by (with_reducible repeat first | refine bkN ?_ _ | refine bkd ?_ | refine bka ?_ _); refine blk_put (cs := #[.slice A0_0 l0_0.length c0_0, .func (.func 29) #[] #[], .int .i64 a0_2, .map none, .map none]) ?_ 4 _ rfl; (with_reducible repeat first | refine bkN ?_ _ | refine bkd ?_ | refine bka ?_ _); exact BK210.out)) : gb210 ≠ gb211)); have n6_ := As0.mk ((by rw [hg]; exact Nat.ne_of_gt (blk_lt (g := gb210) (o := .cells #[.slice A0_0 l0_0.length c0_0, .func (.func 29) #[] #[], .int .i64 a0_2, .map none, .map (some B)] 55 (0, 0)) (by (with_reducible repeat first | refine bkN ?_ _ | refine bkd ?_ | refine bka ?_ _); refine blk_put (cs := #[.slice A0_0 l0_0.length c0_0, .func (.func 29) #[] #[], .int .i64 a0_2, .map none, .map none]) ?_ 4 _ rfl; (with_reducible repeat first | refine bkN ?_ _ | refine bkd ?_ | refine bka ?_ _); exact BK210.out)) : gb211 ≠ gb210)); clear BK210; clear HB; have BK210 := n0_; have HB := n1_; have BK211 := n2_; have GW211 := n3_; have GE211 := n4_; have NB210_211 := n5_; have NB211_210 := n6_; clear n0_ n1_ n2_ n3_ n4_ n5_ n6_; clear hb hbox hg; have hnb8 := NB211_210.out; have hnc8 := NB210_211.out; have hcz9_0 : w7.cell? ⟨gb211, 0, none⟩ = some (.int .i64 0) := (bkc BK211.out 0).trans rfl; have hcz9_1 : w7.cell? ⟨gb211, 1, none⟩ = some (.int .i64 0) := (bkc BK211.out 1).trans rfl; have hcz9_2 : w7.cell? ⟨gb211, 2, none⟩ = some (.int .i64 0) := (bkc BK211.out 2).trans rfl; have hfz9_0 := bkf BK211.out 0; have hfz9_1 := bkf BK211.out 1; have hfz9_2 := bkf BK211.out 2; have hcz10_0 : w7.cell? ⟨gb210, 0, none⟩ = some (.slice A0_0 l0_0.length c0_0) := (bkc BK210.out 0).trans rfl; have hcz10_1 : w7.cell? ⟨gb210, 1, none⟩ = some (.func (.func 29) #[] #[]) := (bkc BK210.out 1).trans rfl; have hcz10_2 : w7.cell? ⟨gb210, 2, none⟩ = some (.int .i64 a0_2) := (bkc BK210.out 2).trans rfl; have hcz10_3 : w7.cell? ⟨gb210, 3, none⟩ = some (.map none) := (bkc BK210.out 3).trans rfl; have hcz10_4 : w7.cell? ⟨gb210, 4, none⟩ = some (.map (some B)) := (bkc BK210.out 4).trans rfl; have hfz10_0 := bkf BK210.out 0; have hfz10_1 := bkf BK210.out 1; have hfz10_2 := bkf BK210.out 2; have hfz10_3 := bkf BK210.out 3; have hfz10_4 := bkf BK210.out 4) | ((with_reducible refine gce (f := 38) rfl ?_); refine goesL_ (some 21) rfl rfl Try.func38 (by kernel_rfl) rfl #[.agg #[.slice A0_0 l0_0.length c0_0, .func (.func 29) #[] #[], .int .i64 a0_2, .map none, .map (some B)], .agg #[.int .i64 0, .int .i64 a1, .int .i64 a0_2]] rfl (by (try simp only [List.map_toArray, List.map_cons, List.map_nil]); first | done | rfl | (simp only [List.length_drop, List.length_take]; rfl)) ?_; (with_reducible refine (impl_mixes_least.calls k _ _ l0_0 a0_2 B 0 a1 a0_2 t212 _ w _ HV.out HBX.out HB0.out (by repeat (with_reducible first | exact HB.out | apply bal | apply pbN | apply bdw | refine bst ?_ GE210.out | refine bst ?_ GE211.out | refine bst ?_ GE217.out)) (memo_self (by repeat (with_reducible first | exact HM.out | apply mal | apply mdN | apply mdw | apply mst (hne := NM210.out) | apply mst (hne := NM211.out) | apply mst (hne := NM217.out)))) ?side1 ?side2 A3.out).mono ?_); (case side1 => exact HR0_0.out); (case side2 => exact HC0_0.out); rintro e w11 ⟨rfl, hb, D2_, hM⟩; refine ⟨_, rfl, ?_⟩; have HMN_ := As0.mk (memo_trans (by repeat (with_reducible first | exact HM.out | apply mal | apply mdN | apply mdw | apply mst (hne := NM210.out) | apply mst (hne := NM211.out) | apply mst (hne := NM217.out))) hM); have n0_ := As0.mk (memo_blk (g := gb210) (o := .cells #[.slice A0_0 l0_0.length c0_0, .func (.func 29) #[] #[], .int .i64 a0_2, .map none, .map (some B)] 55 (0, 0)) hM (by (with_reducible repeat first | refine bkN ?_ _ | refine bkd ?_ | refine bka ?_ _); refine blk_far ?_ NB210_211.out _; (with_reducible repeat first | refine bkN ?_ _ | refine bkd ?_ | refine bka ?_ _); refine blk_far ?_ NB210_211.out _; (with_reducible repeat first | refine bkN ?_ _ | refine bkd ?_ | refine bka ?_ _); refine blk_far ?_ NB210_211.out _; (with_reducible repeat first | refine bkN ?_ _ | refine bkd ?_ | refine bka ?_ _); exact BK210.out) NM210.out.1); have n1_ := As0.mk (memo_blk (g := gb211) (o := .cells #[.int .i64 0, .int .i64 a1, .int .i64 a0_2] 63 (0, 0)) hM (by (with_reducible repeat first | refine bkN ?_ _ | refine bkd ?_ | refine bka ?_ _); refine blk_put (cs := #[.int .i64 0, .int .i64 a1, .int .i64 0]) ?_ 2 _ rfl; (with_reducible repeat first | refine bkN ?_ _ | refine bkd ?_ | refine bka ?_ _); refine blk_put (cs := #[.int .i64 0, .int .i64 0, .int .i64 0]) ?_ 1 _ rfl; (with_reducible repeat first | refine bkN ?_ _ | refine bkd ?_ | refine bka ?_ _); refine blk_put (cs := #[.int .i64 0, .int .i64 0, .int .i64 0]) ?_ 0 _ rfl; (with_reducible repeat first | refine bkN ?_ _ | refine bkd ?_ | refine bka ?_ _); exact BK211.out) NM211.out.1); have n2_ := As0.mk (hb); clear BK210; clear BK211; clear HB; have BK210 := n0_; have BK211 := n1_; have HB := n2_; clear n0_ n1_ n2_; clear HM; have HM := HMN_; clear HMN_ hM; (try clear hb); (try clear hb2); (try clear hk); (try clear hi)))
  go_ret3
  exact ⟨_, by first | rfl | (simp [eWn, eWs] <;> rfl) | (simp [*, eWn, eWs] <;> rfl), by first | exact Kd.R_nil _ _ _ _ _ | exact Kd.N_nil _ _ _ _ _ | exact Kd.V_nil _ _ _ _ _ | exact Kd.Q_nil _ _ _ _ _ | exact Kd.S_nil _ _ _ _ _, by repeat (with_reducible first | exact HB.out | apply bal | apply pbN | apply bdw | refine bst ?_ GE210.out | refine bst ?_ GE211.out)⟩
 ·as_aux_lemma =>
  rw [if_neg c4] at H
  have c4b0 : decide (t212 < 0) = false := decide_eq_false c4
  clear c4
  have H' := As0.mk H
  clear H
  go_enter Try.func30, Try.ntmps30
  go_wp2_with (first | ((with_reducible refine gate_dst (N := 2) rfl ?_); refine box_event ?hg (N := 2) ?hd (cs := #[.slice A0_0 l0_0.length c0_0, .func (.func 29) #[] #[], .int .i64 a0_2, .map none, .map none]) (t := 55) ?hr ?_; (case hd => rfl); (case hg => rfl); (case hr => first | (go_simp; done) | (go_simp; rfl)); intro gb210 hg w12 hbox hb; have n0_ := As0.mk (bsp (by repeat (with_reducible first | exact HB.out | apply bal | apply pbN | apply bdw)) hb); have n1_ := As0.mk (hbox); have n2_ := As0.mk ((by rw [hg]; exact (bsz (by repeat (with_reducible first | exact HB.out | apply bal | apply pbN | apply bdw))) : w.heap.size ≤ gb210)); have n3_ := As0.mk ((by rw [hg]; exact (bsz (by repeat (with_reducible first | exact HB.out | apply bal | apply pbN | apply bdw))) : w.heap.size ≤ gb210)); clear HB; have HB := n0_; have BK210 := n1_; have GW210 := n2_; have GE210 := n3_; clear n0_ n1_ n2_ n3_; clear hb hbox hg; have hcz13_0 : w12.cell? ⟨gb210, 0, none⟩ = some (.slice A0_0 l0_0.length c0_0) := (bkc BK210.out 0).trans rfl; have hcz13_1 : w12.cell? ⟨gb210, 1, none⟩ = some (.func (.func 29) #[] #[]) := (bkc BK210.out 1).trans rfl; have hcz13_2 : w12.cell? ⟨gb210, 2, none⟩ = some (.int .i64 a0_2) := (bkc BK210.out 2).trans rfl; have hcz13_3 : w12.cell? ⟨gb210, 3, none⟩ = some (.map none) := (bkc BK210.out 3).trans rfl; have hcz13_4 : w12.cell? ⟨gb210, 4, none⟩ = some (.map none) := (bkc BK210.out 4).trans rfl; have hfz13_0 := bkf BK210.out 0; have hfz13_1 := bkf BK210.out 1; have hfz13_2 := bkf BK210.out 2; have hfz13_3 := bkf BK210.out 3; have hfz13_4 := bkf BK210.out 4) | ((with_reducible refine gate_dst (N := 13) rfl ?_); refine map_event ?hg (N := 13) ?hd ?hr ?_; (case hd => rfl); (case hg => rfl); (case hr => first | (go_simp; done) | (go_simp; rfl) | rfl); intro B hB_ w1m_ hmk_ hb; have n0_ := As0.mk (bkb (g := gb210) (o := .cells #[.slice A0_0 l0_0.length c0_0, .func (.func 29) #[] #[], .int .i64 a0_2, .map none, .map none] 55 (0, 0)) BK210.out hb); have n1_ := As0.mk (bsp HB.out hb); have HM := As0.mk (memo_rebase (hmk_ (mixF l0_0 a0_2)) n1_.out); have NM210 := As0.mk (show B ≠ gb210 ∧ w.heap.size ≤ gb210 from ⟨by rw [hB_]; exact Nat.ne_of_gt (blk_lt BK210.out), GE210.out⟩); have HB0 := As0.mk (show w.heap.size ≤ B from by rw [hB_]; exact bsz HB.out); clear BK210 HB; have BK210 := n0_; have HB := n1_; clear n0_ n1_ hmk_ hb hB_; have hczm_0 : w1m_.cell? ⟨gb210, 0, none⟩ = some (.slice A0_0 l0_0.length c0_0) := (bkc BK210.out 0).trans rfl; have hfzm_0 := bkf BK210.out 0; have hczm_1 : w1m_.cell? ⟨gb210, 1, none⟩ = some (.func (.func 29) #[] #[]) := (bkc BK210.out 1).trans rfl; have hfzm_1 := bkf BK210.out 1; have hczm_2 : w1m_.cell? ⟨gb210, 2, none⟩ = some (.int .i64 a0_2) := (bkc BK210.out 2).trans rfl; have hfzm_2 := bkf BK210.out 2; have hczm_3 : w1m_.cell? ⟨gb210, 3, none⟩ = some (.map none) := (bkc BK210.out 3).trans rfl; have hfzm_3 := bkf BK210.out 3; have hczm_4 : w1m_.cell? ⟨gb210, 4, none⟩ = some (.map none) := (bkc BK210.out 4).trans rfl; have hfzm_4 := bkf BK210.out 4) | ((with_reducible refine gate_dst (N := 7) rfl ?_); refine box_event ?hg (N := 7) ?hd (cs := #[.int .i64 0, .int .i64 0, .int .i64 0]) (t := 63) ?hr ?_; (case hd => rfl); (case hg => rfl); (case hr => first | (go_simp; done) | (go_simp; rfl)); intro gb211 hg w14 hbox hb; have NM211 := As0.mk (memo_new (by repeat (with_reducible first | exact HM.out | apply mal | apply mdN | apply mdw | apply mst (hne := NM210.out) | apply mst (hne := NM211.out) | apply mst (hne := NM217.out))) hg); have HM_ := As0.mk (memo_below (by repeat (with_reducible first | exact HM.out | apply mal | apply mdN | apply mdw | apply mst (hne := NM210.out) | apply mst (hne := NM211.out) | apply mst (hne := NM217.out))) hb); clear HM; have HM := HM_; clear HM_; have n0_ := As0.mk (bkb (g := gb210) (o := .cells #[.slice A0_0 l0_0.length c0_0, .func (.func 29) #[] #[], .int .i64 a0_2, .map none, .map (some B)] 55 (0, 0)) (by (with_reducible repeat first | refine bkN ?_ _ | refine bkd ?_ | refine bka ?_ _); refine blk_put (cs := #[.slice A0_0 l0_0.length c0_0, .func (.func 29) #[] #[], .int .i64 a0_2, .map none, .map none]) ?_ 4 _ rfl; (with_reducible repeat first | refine bkN ?_ _ | refine bkd ?_ | refine bka ?_ _); exact BK210.out) hb); have n1_ := As0.mk (bsp (by repeat (with_reducible first | exact HB.out | apply bal | apply pbN | apply bdw | refine bst ?_ GE210.out)) hb); have n2_ := As0.mk (hbox); have n3_ := As0.mk ((by rw [hg]; exact (bsz (by repeat (with_reducible first | exact HB.out | apply bal | apply pbN | apply bdw | refine bst ?_ GE210.out))) : w.heap.size ≤ gb211)); have n4_ := As0.mk ((by rw [hg]; exact (bsz (by repeat (with_reducible first | exact HB.out | apply bal | apply pbN | apply bdw | refine bst ?_ GE210.out))) : w.heap.size ≤ gb211)); have n5_ := As0.mk ((by rw [hg]; exact Nat.ne_of_lt (blk_lt (g := gb210) (o := .cells #[.slice A0_0 l0_0.length c0_0, .func (.func 29) #[] #[], .int .i64 a0_2, .map none, .map (some B)] 55 (0, 0)) (by (with_reducible repeat first | refine bkN ?_ _ | refine bkd ?_ | refine bka ?_ _); refine blk_put (cs := #[.slice A0_0 l0_0.length c0_0, .func (.func 29) #[] #[], .int .i64 a0_2, .map none, .map none]) ?_ 4 _ rfl; (with_reducible repeat first | refine bkN ?_ _ | refine bkd ?_ | refine bka ?_ _); exact BK210.out)) : gb210 ≠ gb211)); have n6_ := As0.mk ((by rw [hg]; exact Nat.ne_of_gt (blk_lt (g := gb210) (o := .cells #[.slice A0_0 l0_0.length c0_0, .func (.func 29) #[] #[], .int .i64 a0_2, .map none, .map (some B)] 55 (0, 0)) (by (with_reducible repeat first | refine bkN ?_ _ | refine bkd ?_ | refine bka ?_ _); refine blk_put (cs := #[.slice A0_0 l0_0.length c0_0, .func (.func 29) #[] #[], .int .i64 a0_2, .map none, .map none]) ?_ 4 _ rfl; (with_reducible repeat first | refine bkN ?_ _ | refine bkd ?_ | refine bka ?_ _); exact BK210.out)) : gb211 ≠ gb210)); clear BK210; clear HB; have BK210 := n0_; have HB := n1_; have BK211 := n2_; have GW211 := n3_; have GE211 := n4_; have NB210_211 := n5_; have NB211_210 := n6_; clear n0_ n1_ n2_ n3_ n4_ n5_ n6_; clear hb hbox hg; have hnb15 := NB211_210.out; have hnc15 := NB210_211.out; have hcz16_0 : w14.cell? ⟨gb211, 0, none⟩ = some (.int .i64 0) := (bkc BK211.out 0).trans rfl; have hcz16_1 : w14.cell? ⟨gb211, 1, none⟩ = some (.int .i64 0) := (bkc BK211.out 1).trans rfl; have hcz16_2 : w14.cell? ⟨gb211, 2, none⟩ = some (.int .i64 0) := (bkc BK211.out 2).trans rfl; have hfz16_0 := bkf BK211.out 0; have hfz16_1 := bkf BK211.out 1; have hfz16_2 := bkf BK211.out 2; have hcz17_0 : w14.cell? ⟨gb210, 0, none⟩ = some (.slice A0_0 l0_0.length c0_0) := (bkc BK210.out 0).trans rfl; have hcz17_1 : w14.cell? ⟨gb210, 1, none⟩ = some (.func (.func 29) #[] #[]) := (bkc BK210.out 1).trans rfl; have hcz17_2 : w14.cell? ⟨gb210, 2, none⟩ = some (.int .i64 a0_2) := (bkc BK210.out 2).trans rfl; have hcz17_3 : w14.cell? ⟨gb210, 3, none⟩ = some (.map none) := (bkc BK210.out 3).trans rfl; have hcz17_4 : w14.cell? ⟨gb210, 4, none⟩ = some (.map (some B)) := (bkc BK210.out 4).trans rfl; have hfz17_0 := bkf BK210.out 0; have hfz17_1 := bkf BK210.out 1; have hfz17_2 := bkf BK210.out 2; have hfz17_3 := bkf BK210.out 3; have hfz17_4 := bkf BK210.out 4) | ((with_reducible refine gce (f := 38) rfl ?_); refine goesL_ (some 21) rfl rfl Try.func38 (by kernel_rfl) rfl #[.agg #[.slice A0_0 l0_0.length c0_0, .func (.func 29) #[] #[], .int .i64 a0_2, .map none, .map (some B)], .agg #[.int .i64 0, .int .i64 a1, .int .i64 a0_2]] rfl (by (try simp only [List.map_toArray, List.map_cons, List.map_nil]); first | done | rfl | (simp only [List.length_drop, List.length_take]; rfl)) ?_; (with_reducible refine (impl_mixes_least.calls k _ _ l0_0 a0_2 B 0 a1 a0_2 t212 _ w _ HV.out HBX.out HB0.out (by repeat (with_reducible first | exact HB.out | apply bal | apply pbN | apply bdw | refine bst ?_ GE210.out | refine bst ?_ GE211.out | refine bst ?_ GE217.out)) (memo_self (by repeat (with_reducible first | exact HM.out | apply mal | apply mdN | apply mdw | apply mst (hne := NM210.out) | apply mst (hne := NM211.out) | apply mst (hne := NM217.out)))) ?side1 ?side2 A3.out).mono ?_); (case side1 => exact HR0_0.out); (case side2 => exact HC0_0.out); rintro e w18 ⟨rfl, hb, D2_, hM⟩; refine ⟨_, rfl, ?_⟩; have HMN_ := As0.mk (memo_trans (by repeat (with_reducible first | exact HM.out | apply mal | apply mdN | apply mdw | apply mst (hne := NM210.out) | apply mst (hne := NM211.out) | apply mst (hne := NM217.out))) hM); have n0_ := As0.mk (memo_blk (g := gb210) (o := .cells #[.slice A0_0 l0_0.length c0_0, .func (.func 29) #[] #[], .int .i64 a0_2, .map none, .map (some B)] 55 (0, 0)) hM (by (with_reducible repeat first | refine bkN ?_ _ | refine bkd ?_ | refine bka ?_ _); refine blk_far ?_ NB210_211.out _; (with_reducible repeat first | refine bkN ?_ _ | refine bkd ?_ | refine bka ?_ _); refine blk_far ?_ NB210_211.out _; (with_reducible repeat first | refine bkN ?_ _ | refine bkd ?_ | refine bka ?_ _); refine blk_far ?_ NB210_211.out _; (with_reducible repeat first | refine bkN ?_ _ | refine bkd ?_ | refine bka ?_ _); exact BK210.out) NM210.out.1); have n1_ := As0.mk (memo_blk (g := gb211) (o := .cells #[.int .i64 0, .int .i64 a1, .int .i64 a0_2] 63 (0, 0)) hM (by (with_reducible repeat first | refine bkN ?_ _ | refine bkd ?_ | refine bka ?_ _); refine blk_put (cs := #[.int .i64 0, .int .i64 a1, .int .i64 0]) ?_ 2 _ rfl; (with_reducible repeat first | refine bkN ?_ _ | refine bkd ?_ | refine bka ?_ _); refine blk_put (cs := #[.int .i64 0, .int .i64 0, .int .i64 0]) ?_ 1 _ rfl; (with_reducible repeat first | refine bkN ?_ _ | refine bkd ?_ | refine bka ?_ _); refine blk_put (cs := #[.int .i64 0, .int .i64 0, .int .i64 0]) ?_ 0 _ rfl; (with_reducible repeat first | refine bkN ?_ _ | refine bkd ?_ | refine bka ?_ _); exact BK211.out) NM211.out.1); have n2_ := As0.mk (hb); clear BK210; clear BK211; clear HB; have BK210 := n0_; have BK211 := n1_; have HB := n2_; clear n0_ n1_ n2_; clear HM; have HM := HMN_; clear HMN_ hM; (try clear hb); (try clear hb2); (try clear hk); (try clear hi)))
  (try simp only [Act.put, List.setIfInBounds_toArray, List.set_cons_succ, List.set_cons_zero])
  go_loopg [9] k (fun kq v9 w' => ∃ (x9_1 : List Int) (x253000_1 : Int) (x253001_1 : Int) (x253002_1 : Int) (D1_ : DataW Unit), As0 (impl_mixes_best.l0 kq t212 x9_1 l0_0 0 a0_2 0 0 x253000_1 x253001_1 x253002_1 = some (r1, r2, r3)) ∧ As0 (kq ≤ k) ∧ As0 (Kd.R (Kd.int .i64) 2 w' w.heap.size (fun _ => True) v9 x9_1) ∧ As0 (w'.heap[gb210]? = some (.cells #[(.slice A0_0 l0_0.length c0_0), .func (.func 29) #[] #[], .int .i64 a0_2, .map none, .map (some B)] 55 (0, 0))) ∧ As0 (w'.heap[gb211]? = some (.cells #[.int .i64 x253000_1, .int .i64 x253001_1, .int .i64 x253002_1] 63 (0, 0))) ∧ As0 (Below w.heap.size w w') ∧ As0 (MemoD (mixF l0_0 a0_2) B D1_ w w') ∧ As0 (inBox x253000_1 x253001_1 x253002_1))
  case atStart => exact ⟨(([] : List Int)), (0), (a1), (a0_2), D2_, H', ⟨Nat.le_refl _⟩, ⟨by first | exact Kd.R_nil _ _ _ _ _ | exact Kd.N_nil _ _ _ _ _ | exact Kd.V_nil _ _ _ _ _ | exact Kd.Q_nil _ _ _ _ _ | exact Kd.S_nil _ _ _ _ _⟩, ⟨by (with_reducible repeat first | refine bkN ?_ _ | refine bkd ?_ | refine bka ?_ _); exact BK210.out⟩, ⟨by (with_reducible repeat first | refine bkN ?_ _ | refine bkd ?_ | refine bka ?_ _); exact BK211.out⟩, ⟨by repeat (with_reducible first | exact HB.out | apply bal | apply pbN | apply bdw | refine bst ?_ GE210.out | refine bst ?_ GE211.out)⟩, ⟨(by repeat (with_reducible first | exact HM.out | apply mal | apply mdN | apply mdw | apply mst (hne := NM210.out) | apply mst (hne := NM211.out) | apply mst (hne := NM217.out)))⟩, HBX⟩
  case round =>
   clear H'
   try clear c1
   try clear p2
   try clear c3
   try clear c4
   try clear c4b0
   try clear c8
   try clear c15
   try clear hcz10_0
   try clear hcz10_1
   try clear hcz10_2
   try clear hcz10_3
   try clear hcz10_4
   try clear hcz13_0
   try clear hcz13_1
   try clear hcz13_2
   try clear hcz13_3
   try clear hcz13_4
   try clear hcz16_0
   try clear hcz16_1
   try clear hcz16_2
   try clear hcz17_0
   try clear hcz17_1
   try clear hcz17_2
   try clear hcz17_3
   try clear hcz17_4
   try clear hcz6_0
   try clear hcz6_1
   try clear hcz6_2
   try clear hcz6_3
   try clear hcz6_4
   try clear hcz9_0
   try clear hcz9_1
   try clear hcz9_2
   try clear hfz10_0
   try clear hfz10_1
   try clear hfz10_2
   try clear hfz10_3
   try clear hfz10_4
   try clear hfz13_0
   try clear hfz13_1
   try clear hfz13_2
   try clear hfz13_3
   try clear hfz13_4
   try clear hfz16_0
   try clear hfz16_1
   try clear hfz16_2
   try clear hfz17_0
   try clear hfz17_1
   try clear hfz17_2
   try clear hfz17_3
   try clear hfz17_4
   try clear hfz6_0
   try clear hfz6_1
   try clear hfz6_2
   try clear hfz6_3
   try clear hfz6_4
   try clear hfz9_0
   try clear hfz9_1
   try clear hfz9_2
   obtain ⟨x9_1, x253000_1, x253001_1, x253002_1, D1_, HA, HK1, HO_9, BK210, BK211, HB, HM, HIX⟩ := hrel
   cases gk with
   | zero => exact absurd HA.out (by simp [impl_mixes_best.l0])
   | succ k1 =>
    have H := HA.out
    clear HA
    simp only [impl_mixes_best.l0] at H
    by_cases c19 : x253000_1 < (l0_0.length : Int)
    ·as_aux_lemma =>
     rw [if_pos c19] at H
     have c19b0 : decide (x253000_1 < (l0_0.length : Int)) = true := decide_eq_true c19
     clear c19
     have H' := As0.mk H
     clear H
     have hnb20 := NB211_210.out
     have hnc20 := NB210_211.out
     have hcz21_0 : wr.cell? ⟨gb211, 0, none⟩ = some (.int .i64 x253000_1) := (bkc BK211.out 0).trans rfl
     have hcz21_1 : wr.cell? ⟨gb211, 1, none⟩ = some (.int .i64 x253001_1) := (bkc BK211.out 1).trans rfl
     have hcz21_2 : wr.cell? ⟨gb211, 2, none⟩ = some (.int .i64 x253002_1) := (bkc BK211.out 2).trans rfl
     have hfz21_0 := bkf BK211.out 0
     have hfz21_1 := bkf BK211.out 1
     have hfz21_2 := bkf BK211.out 2
     have hcz22_0 : wr.cell? ⟨gb210, 0, none⟩ = some (.slice A0_0 l0_0.length c0_0) := (bkc BK210.out 0).trans rfl
     have hcz22_1 : wr.cell? ⟨gb210, 1, none⟩ = some (.func (.func 29) #[] #[]) := (bkc BK210.out 1).trans rfl
     have hcz22_2 : wr.cell? ⟨gb210, 2, none⟩ = some (.int .i64 a0_2) := (bkc BK210.out 2).trans rfl
     have hcz22_3 : wr.cell? ⟨gb210, 3, none⟩ = some (.map none) := (bkc BK210.out 3).trans rfl
     have hcz22_4 : wr.cell? ⟨gb210, 4, none⟩ = some (.map (some B)) := (bkc BK210.out 4).trans rfl
     have hfz22_0 := bkf BK210.out 0
     have hfz22_1 := bkf BK210.out 1
     have hfz22_2 := bkf BK210.out 2
     have hfz22_3 := bkf BK210.out 3
     have hfz22_4 := bkf BK210.out 4
     go_wp2
     go_loopg [9, 10] k1 (fun kq v9 v10 w' => ∃ (x9_2 : List Int) (x10_2 : Int) (x253000_2 : Int) (x253001_2 : Int) (x253002_2 : Int) (D_ : DataW Unit), v10 = .int .i64 x10_2 ∧ As0 (impl_mixes_best.l1 kq t212 x9_2 x10_2 l0_0 0 a0_2 0 0 x253000_2 x253001_2 x253002_2 = some (r1, r2, r3)) ∧ As0 (kq ≤ k1) ∧ As0 (Kd.R (Kd.int .i64) 2 w' w.heap.size (fun _ => True) v9 x9_2) ∧ As0 (w'.heap[gb210]? = some (.cells #[(.slice A0_0 l0_0.length c0_0), .func (.func 29) #[] #[], .int .i64 a0_2, .map none, .map (some B)] 55 (0, 0))) ∧ As0 (w'.heap[gb211]? = some (.cells #[.int .i64 x253000_2, .int .i64 x253001_2, .int .i64 x253002_2] 63 (0, 0))) ∧ As0 (Below w.heap.size w w') ∧ As0 (MemoD (mixF l0_0 a0_2) B D_ w w') ∧ As0 (inBox x253000_2 x253001_2 x253002_2) ∧ As0 (0 ≤ x10_2 ∧ x10_2 ≤ 1001))
     case atStart => exact ⟨(x9_1), (0), (x253000_1), (x253001_1), (x253002_1), D1_, (by first | rfl | (simp; done) | (simp [*]; done)), H', ⟨Nat.le_refl _⟩, ⟨by (with_reducible repeat (first | apply Kd.R_alloc | apply Kd.R_drewN | apply Kd.R_drew)); exact HO_9.out⟩, ⟨by (with_reducible repeat first | refine bkN ?_ _ | refine bkd ?_ | refine bka ?_ _); exact BK210.out⟩, ⟨by (with_reducible repeat first | refine bkN ?_ _ | refine bkd ?_ | refine bka ?_ _); exact BK211.out⟩, ⟨by repeat (with_reducible first | exact HB.out | apply bal | apply pbN | apply bdw | refine bst ?_ GE210.out | refine bst ?_ GE211.out)⟩, ⟨(by repeat (with_reducible first | exact HM.out | apply mal | apply mdN | apply mdw | apply mst (hne := NM210.out) | apply mst (hne := NM211.out) | apply mst (hne := NM217.out)))⟩, HIX, ⟨by omega⟩⟩
     case round =>
      clear H'
      try clear c1
      try clear c2
      try clear p2
      try clear c3
      try clear c4
      try clear c4b0
      try clear c8
      try clear c15
      try clear c19
      try clear c19b0
      try clear c20
      try clear hcz10_0
      try clear hcz10_1
      try clear hcz10_2
      try clear hcz10_3
      try clear hcz10_4
      try clear hcz13_0
      try clear hcz13_1
      try clear hcz13_2
      try clear hcz13_3
      try clear hcz13_4
      try clear hcz16_0
      try clear hcz16_1
      try clear hcz16_2
      try clear hcz17_0
      try clear hcz17_1
      try clear hcz17_2
      try clear hcz17_3
      try clear hcz17_4
      try clear hcz21_0
      try clear hcz21_1
      try clear hcz21_2
      try clear hcz22_0
      try clear hcz22_1
      try clear hcz22_2
      try clear hcz22_3
      try clear hcz22_4
      try clear hcz6_0
      try clear hcz6_1
      try clear hcz6_2
      try clear hcz6_3
      try clear hcz6_4
      try clear hcz9_0
      try clear hcz9_1
      try clear hcz9_2
      try clear hfz10_0
      try clear hfz10_1
      try clear hfz10_2
      try clear hfz10_3
      try clear hfz10_4
      try clear hfz13_0
      try clear hfz13_1
      try clear hfz13_2
      try clear hfz13_3
      try clear hfz13_4
      try clear hfz16_0
      try clear hfz16_1
      try clear hfz16_2
      try clear hfz17_0
      try clear hfz17_1
      try clear hfz17_2
      try clear hfz17_3
      try clear hfz17_4
      try clear hfz21_0
      try clear hfz21_1
      try clear hfz21_2
      try clear hfz22_0
      try clear hfz22_1
      try clear hfz22_2
      try clear hfz22_3
      try clear hfz22_4
      try clear hfz6_0
      try clear hfz6_1
      try clear hfz6_2
      try clear hfz6_3
      try clear hfz6_4
      try clear hfz9_0
      try clear hfz9_1
      try clear hfz9_2
      try clear p2
      obtain ⟨x9_2, x10_2, x253000_2, x253001_2, x253002_2, D_, rfl, HA, HK2, HO_9, BK210, BK211, HB, HM, HIX, HX⟩ := hrel
      cases gk with
      | zero => exact absurd HA.out (by simp [impl_mixes_best.l1])
      | succ k2 =>
       have H := HA.out
       clear HA
       simp only [impl_mixes_best.l1] at H
       have hG_ : x10_2 ≤ 1000 := by
        by_cases c_ : x10_2 ≤ 1000
        ·exact c_
        ·rw [if_neg c_] at H
         exact absurd H (by simp)
       rw [if_pos hG_] at H
       have HXB := As0.mk (mix_next HX.out hG_)
       clear hG_
       replace H := Option.bind_eq_some_iff.mp H
       obtain ⟨⟨t213, t214, t215, t216⟩, A230, H⟩ := H
       replace H : (if t216 = true then ((impl_mixes_least.f k2 l0_0 0 a0_2 0 0 t213 t214 t215).bind fun t218 => (if t218 ≥ 0 then ((impl_mixes_least.f k2 l0_0 0 a0_2 0 0 t213 t214 t215).bind fun t219 => (if 0 ≤ x253000_2 then (if x253000_2 < (l0_0.length : Int) then ((impl_price.f ((rd_T46 l0_0 x253000_2).f0) ((rd_T46 l0_0 x253000_2).f1) ((rd_T46 l0_0 x253000_2).f2) ((rd_T46 l0_0 x253000_2).f3)).bind fun t221 => ((impl_mixes_least.f k2 l0_0 0 a0_2 0 0 x253000_2 x253001_2 x253002_2).bind fun t222 => (if (wrap64 (t219 + (wrap64 (x10_2 * t221)))) = t222 then (if x9_2.length < 17592186044416 then (impl_mixes_best.l0 k2 t212 (x9_2 ++ [x10_2]) l0_0 0 a0_2 0 0 t213 t214 t215) else (none)) else (impl_mixes_best.l1 k2 t212 x9_2 (wrap64 (x10_2 + 1)) l0_0 0 a0_2 0 0 x253000_2 x253001_2 x253002_2)))) else (none)) else (none))) else (impl_mixes_best.l1 k2 t212 x9_2 (wrap64 (x10_2 + 1)) l0_0 0 a0_2 0 0 x253000_2 x253001_2 x253002_2))) else (impl_mixes_best.l1 k2 t212 x9_2 (wrap64 (x10_2 + 1)) l0_0 0 a0_2 0 0 x253000_2 x253001_2 x253002_2)) = some (r1, r2, r3) := H
       have A23 := As0.mk A230
       clear A230
       by_cases c24 : t216 = true
       ·as_aux_lemma =>
        subst c24
        have H1 : ((impl_mixes_least.f k2 l0_0 0 a0_2 0 0 t213 t214 t215).bind fun t218 => (if t218 ≥ 0 then ((impl_mixes_least.f k2 l0_0 0 a0_2 0 0 t213 t214 t215).bind fun t219 => (if 0 ≤ x253000_2 then (if x253000_2 < (l0_0.length : Int) then ((impl_price.f ((rd_T46 l0_0 x253000_2).f0) ((rd_T46 l0_0 x253000_2).f1) ((rd_T46 l0_0 x253000_2).f2) ((rd_T46 l0_0 x253000_2).f3)).bind fun t221 => ((impl_mixes_least.f k2 l0_0 0 a0_2 0 0 x253000_2 x253001_2 x253002_2).bind fun t222 => (if (wrap64 (t219 + (wrap64 (x10_2 * t221)))) = t222 then (if x9_2.length < 17592186044416 then (impl_mixes_best.l0 k2 t212 (x9_2 ++ [x10_2]) l0_0 0 a0_2 0 0 t213 t214 t215) else (none)) else (impl_mixes_best.l1 k2 t212 x9_2 (wrap64 (x10_2 + 1)) l0_0 0 a0_2 0 0 x253000_2 x253001_2 x253002_2)))) else (none)) else (none))) else (impl_mixes_best.l1 k2 t212 x9_2 (wrap64 (x10_2 + 1)) l0_0 0 a0_2 0 0 x253000_2 x253001_2 x253002_2))) = some (r1, r2, r3) := by rw [if_pos rfl] at H; exact H
        clear H
        have H := H1
        clear H1
        replace H := Option.bind_eq_some_iff.mp H
        obtain ⟨t218, A250, H⟩ := H
        replace H : (if t218 ≥ 0 then ((impl_mixes_least.f k2 l0_0 0 a0_2 0 0 t213 t214 t215).bind fun t219 => (if 0 ≤ x253000_2 then (if x253000_2 < (l0_0.length : Int) then ((impl_price.f ((rd_T46 l0_0 x253000_2).f0) ((rd_T46 l0_0 x253000_2).f1) ((rd_T46 l0_0 x253000_2).f2) ((rd_T46 l0_0 x253000_2).f3)).bind fun t221 => ((impl_mixes_least.f k2 l0_0 0 a0_2 0 0 x253000_2 x253001_2 x253002_2).bind fun t222 => (if (wrap64 (t219 + (wrap64 (x10_2 * t221)))) = t222 then (if x9_2.length < 17592186044416 then (impl_mixes_best.l0 k2 t212 (x9_2 ++ [x10_2]) l0_0 0 a0_2 0 0 t213 t214 t215) else (none)) else (impl_mixes_best.l1 k2 t212 x9_2 (wrap64 (x10_2 + 1)) l0_0 0 a0_2 0 0 x253000_2 x253001_2 x253002_2)))) else (none)) else (none))) else (impl_mixes_best.l1 k2 t212 x9_2 (wrap64 (x10_2 + 1)) l0_0 0 a0_2 0 0 x253000_2 x253001_2 x253002_2)) = some (r1, r2, r3) := H
        have A25 := As0.mk A250
        clear A250
        by_cases c26 : t218 ≥ 0
        ·as_aux_lemma =>
         rw [if_pos c26] at H
         have c26b0 : decide (0 ≤ t218) = true := decide_eq_true c26
         clear c26
         replace H := Option.bind_eq_some_iff.mp H
         obtain ⟨t219, A270, H⟩ := H
         replace H : (if 0 ≤ x253000_2 then (if x253000_2 < (l0_0.length : Int) then ((impl_price.f ((rd_T46 l0_0 x253000_2).f0) ((rd_T46 l0_0 x253000_2).f1) ((rd_T46 l0_0 x253000_2).f2) ((rd_T46 l0_0 x253000_2).f3)).bind fun t221 => ((impl_mixes_least.f k2 l0_0 0 a0_2 0 0 x253000_2 x253001_2 x253002_2).bind fun t222 => (if (wrap64 (t219 + (wrap64 (x10_2 * t221)))) = t222 then (if x9_2.length < 17592186044416 then (impl_mixes_best.l0 k2 t212 (x9_2 ++ [x10_2]) l0_0 0 a0_2 0 0 t213 t214 t215) else (none)) else (impl_mixes_best.l1 k2 t212 x9_2 (wrap64 (x10_2 + 1)) l0_0 0 a0_2 0 0 x253000_2 x253001_2 x253002_2)))) else (none)) else (none)) = some (r1, r2, r3) := H
         have A27 := As0.mk A270
         clear A270
         by_cases c28 : 0 ≤ x253000_2
         ·as_aux_lemma =>
          rw [if_pos c28] at H
          have c28b0 : decide (0 ≤ x253000_2) = true := decide_eq_true c28
          clear c28
          by_cases c29 : x253000_2 < (l0_0.length : Int)
          ·as_aux_lemma =>
           rw [if_pos c29] at H
           have c29b0 : decide (x253000_2 < (l0_0.length : Int)) = true := decide_eq_true c29
           clear c29
           replace H := Option.bind_eq_some_iff.mp H
           obtain ⟨t221, A300, H⟩ := H
           replace H : ((impl_mixes_least.f k2 l0_0 0 a0_2 0 0 x253000_2 x253001_2 x253002_2).bind fun t222 => (if (wrap64 (t219 + (wrap64 (x10_2 * t221)))) = t222 then (if x9_2.length < 17592186044416 then (impl_mixes_best.l0 k2 t212 (x9_2 ++ [x10_2]) l0_0 0 a0_2 0 0 t213 t214 t215) else (none)) else (impl_mixes_best.l1 k2 t212 x9_2 (wrap64 (x10_2 + 1)) l0_0 0 a0_2 0 0 x253000_2 x253001_2 x253002_2))) = some (r1, r2, r3) := H
           have A30 := As0.mk A300
           clear A300
           replace H := Option.bind_eq_some_iff.mp H
           obtain ⟨t222, A310, H⟩ := H
           replace H : (if (wrap64 (t219 + (wrap64 (x10_2 * t221)))) = t222 then (if x9_2.length < 17592186044416 then (impl_mixes_best.l0 k2 t212 (x9_2 ++ [x10_2]) l0_0 0 a0_2 0 0 t213 t214 t215) else (none)) else (impl_mixes_best.l1 k2 t212 x9_2 (wrap64 (x10_2 + 1)) l0_0 0 a0_2 0 0 x253000_2 x253001_2 x253002_2)) = some (r1, r2, r3) := H
           have A31 := As0.mk A310
           clear A310
           by_cases c32 : (wrap64 (t219 + (wrap64 (x10_2 * t221)))) = t222
           ·as_aux_lemma =>
            rw [if_pos c32] at H
            have c32b0 : ((wrap64 (t219 + (wrap64 (x10_2 * t221)))) == t222) = true := beq_iff_eq.mpr c32
            have c32b1 : ((wrap64 (t219 + (wrap64 (x10_2 * t221)))) != t222) = false := bne_eq_false_iff_eq.mpr c32
            clear c32
            by_cases c33 : x9_2.length < 17592186044416
            ·as_aux_lemma =>
             rw [if_pos c33] at H
             have LMc33 := As0.mk c33
             clear c33
             obtain ⟨y223, hy223⟩ : ∃ y_ : List Int, y_ = (x9_2 ++ [x10_2]) := ⟨_, rfl⟩
             replace H : (impl_mixes_best.l0 k2 t212 y223 l0_0 0 a0_2 0 0 t213 t214 t215) = some (r1, r2, r3) := by first | (rw [hy223]; with_reducible exact H) | (have H2_ := (Option.bind_some _ _).symm.trans H; rw [hy223]; with_reducible exact H2_) | (have H2_ := (Option.bind_some _ _).symm.trans H; with_reducible exact H2_) | with_reducible exact H | (rw [hy223]; exact H) | exact H
             have Ny223 := As0.mk hy223
             clear hy223
             have H' := As0.mk H
             clear H
             have hnb34 := NB210_211.out
             have hnc34 := NB211_210.out
             have hcz35_0 : wr.cell? ⟨gb210, 0, none⟩ = some (.slice A0_0 l0_0.length c0_0) := (bkc BK210.out 0).trans rfl
             have hcz35_1 : wr.cell? ⟨gb210, 1, none⟩ = some (.func (.func 29) #[] #[]) := (bkc BK210.out 1).trans rfl
             have hcz35_2 : wr.cell? ⟨gb210, 2, none⟩ = some (.int .i64 a0_2) := (bkc BK210.out 2).trans rfl
             have hcz35_3 : wr.cell? ⟨gb210, 3, none⟩ = some (.map none) := (bkc BK210.out 3).trans rfl
             have hcz35_4 : wr.cell? ⟨gb210, 4, none⟩ = some (.map (some B)) := (bkc BK210.out 4).trans rfl
             have hfz35_0 := bkf BK210.out 0
             have hfz35_1 := bkf BK210.out 1
             have hfz35_2 := bkf BK210.out 2
             have hfz35_3 := bkf BK210.out 3
             have hfz35_4 := bkf BK210.out 4
             have hcz36_0 : wr.cell? ⟨gb211, 0, none⟩ = some (.int .i64 x253000_2) := (bkc BK211.out 0).trans rfl
             have hcz36_1 : wr.cell? ⟨gb211, 1, none⟩ = some (.int .i64 x253001_2) := (bkc BK211.out 1).trans rfl
             have hcz36_2 : wr.cell? ⟨gb211, 2, none⟩ = some (.int .i64 x253002_2) := (bkc BK211.out 2).trans rfl
             have hfz36_0 := bkf BK211.out 0
             have hfz36_1 := bkf BK211.out 1
             have hfz36_2 := bkf BK211.out 2
             try go_wp2_with (first | ((with_reducible refine gce (f := 39) rfl ?_); refine goesL_ (some 36) rfl rfl Try.func39 (by kernel_rfl) rfl #[.agg #[.slice A0_0 l0_0.length c0_0, .func (.func 29) #[] #[], .int .i64 a0_2, .map none, .map (some B)], .agg #[.int .i64 x253000_2, .int .i64 x253001_2, .int .i64 x253002_2], .int .i64 x10_2] rfl (by (try simp only [List.map_toArray, List.map_cons, List.map_nil]); first | done | rfl | (simp only [List.length_drop, List.length_take]; rfl)) ?_; (with_reducible refine (impl_mixes_after.calls _ _ l0_0 a0_2 (some B) x253000_2 x253001_2 x253002_2 x10_2 t213 t214 t215 true _ ?side1 ?side2 A23.out).mono ?_); (case side1 => repeat (first | exact (Kd.C_below HR0_0.out HB.out) | (with_reducible refine Kd.C_alloc ?_ _) | (with_reducible refine Kd.C_drewN ?_ _) | (with_reducible refine Kd.C_drew ?_))); (case side2 => exact HC0_0.out); rintro e w37 ⟨rfl, hb⟩; refine ⟨_, rfl, ?_⟩; have HM_ := As0.mk (memo_below (by repeat (with_reducible first | exact HM.out | apply mal | apply mdN | apply mdw | apply mst (hne := NM210.out) | apply mst (hne := NM211.out) | apply mst (hne := NM217.out))) hb); clear HM; have HM := HM_; clear HM_; have n0_ := As0.mk (Kd.R_below (by (with_reducible repeat (first | apply Kd.R_alloc | apply Kd.R_drewN | apply Kd.R_drew)); exact HO_9.out) hb); have n1_ := As0.mk (bkb (g := gb210) (o := .cells #[.slice A0_0 l0_0.length c0_0, .func (.func 29) #[] #[], .int .i64 a0_2, .map none, .map (some B)] 55 (0, 0)) (by (with_reducible repeat first | refine bkN ?_ _ | refine bkd ?_ | refine bka ?_ _); exact BK210.out) hb); have n2_ := As0.mk (bkb (g := gb211) (by (with_reducible repeat first | refine bkN ?_ _ | refine bkd ?_ | refine bka ?_ _); exact BK211.out) hb); have n3_ := As0.mk (bsp (by repeat (with_reducible first | exact HB.out | apply bal | apply pbN | apply bdw | refine bst ?_ GE210.out | refine bst ?_ GE211.out)) hb); clear HO_9; clear BK210; clear BK211; clear HB; have HO_9 := n0_; have BK210 := n1_; have BK211 := n2_; have HB := n3_; clear n0_ n1_ n2_ n3_; (try clear hb); (try clear hb2); (try clear hk); (try clear hi)) | ((with_reducible refine gate_dst (N := 11) rfl ?_); refine box_event ?hg (N := 11) ?hd (cs := #[.int .i64 0, .int .i64 0, .int .i64 0]) (t := 63) ?hr ?_; (case hd => rfl); (case hg => rfl); (case hr => first | (go_simp; done) | (go_simp; rfl)); intro gb217 hg w38 hbox hb; have NM217 := As0.mk (memo_new (by repeat (with_reducible first | exact HM.out | apply mal | apply mdN | apply mdw | apply mst (hne := NM210.out) | apply mst (hne := NM211.out) | apply mst (hne := NM217.out))) hg); have HM_ := As0.mk (memo_below (by repeat (with_reducible first | exact HM.out | apply mal | apply mdN | apply mdw | apply mst (hne := NM210.out) | apply mst (hne := NM211.out) | apply mst (hne := NM217.out))) hb); clear HM; have HM := HM_; clear HM_; have n0_ := As0.mk (Kd.R_below (by (with_reducible repeat (first | apply Kd.R_alloc | apply Kd.R_drewN | apply Kd.R_drew)); exact HO_9.out) hb); have n1_ := As0.mk (bkb (g := gb210) (o := .cells #[.slice A0_0 l0_0.length c0_0, .func (.func 29) #[] #[], .int .i64 a0_2, .map none, .map (some B)] 55 (0, 0)) (by (with_reducible repeat first | refine bkN ?_ _ | refine bkd ?_ | refine bka ?_ _); exact BK210.out) hb); have n2_ := As0.mk (bkb (g := gb211) (by (with_reducible repeat first | refine bkN ?_ _ | refine bkd ?_ | refine bka ?_ _); exact BK211.out) hb); have n3_ := As0.mk (bsp (by repeat (with_reducible first | exact HB.out | apply bal | apply pbN | apply bdw | refine bst ?_ GE210.out | refine bst ?_ GE211.out)) hb); have n4_ := As0.mk (hbox); have n5_ := As0.mk ((by rw [hg]; exact (bsz (by repeat (with_reducible first | exact HB.out | apply bal | apply pbN | apply bdw | refine bst ?_ GE210.out | refine bst ?_ GE211.out))) : w.heap.size ≤ gb217)); have n6_ := As0.mk ((by rw [hg]; exact (bsz (by repeat (with_reducible first | exact HB.out | apply bal | apply pbN | apply bdw | refine bst ?_ GE210.out | refine bst ?_ GE211.out))) : w.heap.size ≤ gb217)); have n7_ := As0.mk ((by rw [hg]; exact Nat.ne_of_lt (blk_lt (g := gb210) (o := .cells #[.slice A0_0 l0_0.length c0_0, .func (.func 29) #[] #[], .int .i64 a0_2, .map none, .map (some B)] 55 (0, 0)) (by (with_reducible repeat first | refine bkN ?_ _ | refine bkd ?_ | refine bka ?_ _); exact BK210.out)) : gb210 ≠ gb217)); have n8_ := As0.mk ((by rw [hg]; exact Nat.ne_of_gt (blk_lt (g := gb210) (o := .cells #[.slice A0_0 l0_0.length c0_0, .func (.func 29) #[] #[], .int .i64 a0_2, .map none, .map (some B)] 55 (0, 0)) (by (with_reducible repeat first | refine bkN ?_ _ | refine bkd ?_ | refine bka ?_ _); exact BK210.out)) : gb217 ≠ gb210)); have n9_ := As0.mk ((by rw [hg]; exact Nat.ne_of_lt (blk_lt (g := gb211) (o := .cells #[.int .i64 x253000_2, .int .i64 x253001_2, .int .i64 x253002_2] 63 (0, 0)) (by (with_reducible repeat first | refine bkN ?_ _ | refine bkd ?_ | refine bka ?_ _); exact BK211.out)) : gb211 ≠ gb217)); have n10_ := As0.mk ((by rw [hg]; exact Nat.ne_of_gt (blk_lt (g := gb211) (o := .cells #[.int .i64 x253000_2, .int .i64 x253001_2, .int .i64 x253002_2] 63 (0, 0)) (by (with_reducible repeat first | refine bkN ?_ _ | refine bkd ?_ | refine bka ?_ _); exact BK211.out)) : gb217 ≠ gb211)); clear HO_9; clear BK210; clear BK211; clear HB; have HO_9 := n0_; have BK210 := n1_; have BK211 := n2_; have HB := n3_; have BK217 := n4_; have GW217 := n5_; have GE217 := n6_; have NB210_217 := n7_; have NB217_210 := n8_; have NB211_217 := n9_; have NB217_211 := n10_; clear n0_ n1_ n2_ n3_ n4_ n5_ n6_ n7_ n8_ n9_ n10_; clear hb hbox hg; have hnb39 := NB217_210.out; have hnc39 := NB210_217.out; have hnb40 := NB217_211.out; have hnc40 := NB211_217.out; have hcz41_0 : w38.cell? ⟨gb217, 0, none⟩ = some (.int .i64 0) := (bkc BK217.out 0).trans rfl; have hcz41_1 : w38.cell? ⟨gb217, 1, none⟩ = some (.int .i64 0) := (bkc BK217.out 1).trans rfl; have hcz41_2 : w38.cell? ⟨gb217, 2, none⟩ = some (.int .i64 0) := (bkc BK217.out 2).trans rfl; have hfz41_0 := bkf BK217.out 0; have hfz41_1 := bkf BK217.out 1; have hfz41_2 := bkf BK217.out 2))
             have n0_ : As0 (Kd.R (Kd.int .i64) 2 (((w38.setCell ⟨gb217, 0, none⟩ (.int .i64 t213)).setCell ⟨gb217, 1, none⟩ (.int .i64 t214)).setCell ⟨gb217, 2, none⟩ (.int .i64 t215)) w.heap.size (fun _ => True) u9 x9_2) := ⟨by (with_reducible repeat (first | apply Kd.R_alloc | apply Kd.R_drewN | apply Kd.R_drew)); exact Kd.R_mono (Kd.R_far (p := ⟨gb217, 2, none⟩) (Kd.R_far (p := ⟨gb217, 1, none⟩) (Kd.R_far (p := ⟨gb217, 0, none⟩) (Kd.R_types HO_9.out BK217.out (by decide)) (fun _ hk => hk.2) (.int .i64 t213)) (fun _ hk => hk.2) (.int .i64 t214)) (fun _ hk => hk.2) (.int .i64 t215)) (fun _ hk => trivial)⟩
             have n1_ : As0 ((((w38.setCell ⟨gb217, 0, none⟩ (.int .i64 t213)).setCell ⟨gb217, 1, none⟩ (.int .i64 t214)).setCell ⟨gb217, 2, none⟩ (.int .i64 t215)).heap[gb210]? = some (.cells #[.slice A0_0 l0_0.length c0_0, .func (.func 29) #[] #[], .int .i64 a0_2, .map none, .map (some B)] 55 (0, 0))) := ⟨by (with_reducible repeat first | refine bkN ?_ _ | refine bkd ?_ | refine bka ?_ _); refine blk_far ?_ NB210_217.out _; (with_reducible repeat first | refine bkN ?_ _ | refine bkd ?_ | refine bka ?_ _); refine blk_far ?_ NB210_217.out _; (with_reducible repeat first | refine bkN ?_ _ | refine bkd ?_ | refine bka ?_ _); refine blk_far ?_ NB210_217.out _; (with_reducible repeat first | refine bkN ?_ _ | refine bkd ?_ | refine bka ?_ _); exact BK210.out⟩
             have n2_ : As0 ((((w38.setCell ⟨gb217, 0, none⟩ (.int .i64 t213)).setCell ⟨gb217, 1, none⟩ (.int .i64 t214)).setCell ⟨gb217, 2, none⟩ (.int .i64 t215)).heap[gb211]? = some (.cells #[.int .i64 x253000_2, .int .i64 x253001_2, .int .i64 x253002_2] 63 (0, 0))) := ⟨by (with_reducible repeat first | refine bkN ?_ _ | refine bkd ?_ | refine bka ?_ _); refine blk_far ?_ NB211_217.out _; (with_reducible repeat first | refine bkN ?_ _ | refine bkd ?_ | refine bka ?_ _); refine blk_far ?_ NB211_217.out _; (with_reducible repeat first | refine bkN ?_ _ | refine bkd ?_ | refine bka ?_ _); refine blk_far ?_ NB211_217.out _; (with_reducible repeat first | refine bkN ?_ _ | refine bkd ?_ | refine bka ?_ _); exact BK211.out⟩
             have n3_ : As0 ((((w38.setCell ⟨gb217, 0, none⟩ (.int .i64 t213)).setCell ⟨gb217, 1, none⟩ (.int .i64 t214)).setCell ⟨gb217, 2, none⟩ (.int .i64 t215)).heap[gb217]? = some (.cells #[.int .i64 t213, .int .i64 t214, .int .i64 t215] 63 (0, 0))) := ⟨by (with_reducible repeat first | refine bkN ?_ _ | refine bkd ?_ | refine bka ?_ _); refine blk_put (cs := #[.int .i64 t213, .int .i64 t214, .int .i64 0]) ?_ 2 _ rfl; (with_reducible repeat first | refine bkN ?_ _ | refine bkd ?_ | refine bka ?_ _); refine blk_put (cs := #[.int .i64 t213, .int .i64 0, .int .i64 0]) ?_ 1 _ rfl; (with_reducible repeat first | refine bkN ?_ _ | refine bkd ?_ | refine bka ?_ _); refine blk_put (cs := #[.int .i64 0, .int .i64 0, .int .i64 0]) ?_ 0 _ rfl; (with_reducible repeat first | refine bkN ?_ _ | refine bkd ?_ | refine bka ?_ _); exact BK217.out⟩
             have n4_ : As0 (Below w.heap.size w (((w38.setCell ⟨gb217, 0, none⟩ (.int .i64 t213)).setCell ⟨gb217, 1, none⟩ (.int .i64 t214)).setCell ⟨gb217, 2, none⟩ (.int .i64 t215))) := ⟨by repeat (with_reducible first | exact HB.out | apply bal | apply pbN | apply bdw | refine bst ?_ GE210.out | refine bst ?_ GE211.out | refine bst ?_ GE217.out)⟩
             have HM_ : As0 (MemoD (mixF l0_0 a0_2) B D_ w (((w38.setCell ⟨gb217, 0, none⟩ (.int .i64 t213)).setCell ⟨gb217, 1, none⟩ (.int .i64 t214)).setCell ⟨gb217, 2, none⟩ (.int .i64 t215))) := ⟨(by repeat (with_reducible first | exact HM.out | apply mal | apply mdN | apply mdw | apply mst (hne := NM210.out) | apply mst (hne := NM211.out) | apply mst (hne := NM217.out)))⟩
             clear HM
             (try clear HO_9)
             (try clear BK210)
             (try clear BK211)
             (try clear BK217)
             (try clear HB)
             generalize (((w38.setCell ⟨gb217, 0, none⟩ (.int .i64 t213)).setCell ⟨gb217, 1, none⟩ (.int .i64 t214)).setCell ⟨gb217, 2, none⟩ (.int .i64 t215)) = w42 at HM_ n0_ n1_ n2_ n3_ n4_ ⊢
             have HM := HM_
             clear HM_
             have HO_9 := n0_
             have BK210 := n1_
             have BK211 := n2_
             have BK217 := n3_
             have HB := n4_
             clear n0_ n1_ n2_ n3_ n4_
             have n0_ := As0.mk (Kd.R_drew HO_9.out)
             have n1_ := As0.mk (bkd BK210.out)
             have n2_ := As0.mk (bkd BK211.out)
             have n3_ := As0.mk (bkd BK217.out)
             have n4_ := As0.mk (bdw HB.out)
             replace HM := As0.mk (mdw HM.out)
             clear HO_9
             clear BK210
             clear BK211
             clear BK217
             clear HB
             have HO_9 := n0_
             have BK210 := n1_
             have BK211 := n2_
             have BK217 := n3_
             have HB := n4_
             clear n0_ n1_ n2_ n3_ n4_
             have p220 : 0 ≤ (x253000_2 : Int) := of_decide_eq_true (by assumption)
             have q220 : x253000_2 < (l0_0.length : Int) := of_decide_eq_true (by assumption)
             obtain ⟨ad220, e220, hx220_0, hx220_1, hx220_2, hx220_3⟩ := at_T46 HR0_0.out x253000_2 p220 q220
             have hw220_3 := hx220_3
             have hw220_2 := hx220_2
             have hw220_1 := hx220_1
             have hw220_0 := hx220_0
             cases e220
             replace hx220_0 := (HB.out.cell (blt w _ hx220_0)).trans hx220_0
             replace hx220_1 := (HB.out.cell (blt w _ hx220_1)).trans hx220_1
             replace hx220_2 := (HB.out.cell (blt w _ hx220_2)).trans hx220_2
             replace hx220_3 := (HB.out.cell (blt w _ hx220_3)).trans hx220_3
             replace p220 := eq_true p220
             replace q220 := eq_true q220
             refine start_ (n := 28) (S := fun w' => w'.cell? ⟨gb210, 0, none⟩ = some (.slice (some ad220) l0_0.length c0_0) ∧ w'.cell? ⟨gb210, 1, none⟩ = some (.func (.func 29) #[] #[]) ∧ w'.cell? ⟨gb210, 2, none⟩ = some (.int .i64 a0_2) ∧ w'.cell? ⟨gb210, 3, none⟩ = some (.map none) ∧ w'.cell? ⟨gb210, 4, none⟩ = some (.map (some B)) ∧ w'.cell? ⟨gb217, 0, none⟩ = some (.int .i64 t213) ∧ w'.cell? ⟨gb217, 1, none⟩ = some (.int .i64 t214) ∧ w'.cell? ⟨gb217, 2, none⟩ = some (.int .i64 t215) ∧ w'.cell? ⟨gb211, 0, none⟩ = some (.int .i64 x253000_2) ∧ w'.cell? ⟨gb211, 1, none⟩ = some (.int .i64 x253001_2) ∧ w'.cell? ⟨gb211, 2, none⟩ = some (.int .i64 x253002_2) ∧ w'.cell? (ad220.add ((x253000_2).toNat * 4)) = some (.string ((rd_T46 l0_0 x253000_2).f0)) ∧ w'.cell? ⟨(ad220.add ((x253000_2).toNat * 4)).block, (ad220.add ((x253000_2).toNat * 4)).off + 1, none⟩ = some (.int .i64 ((rd_T46 l0_0 x253000_2).f1)) ∧ w'.cell? ⟨(ad220.add ((x253000_2).toNat * 4)).block, (ad220.add ((x253000_2).toNat * 4)).off + 2, none⟩ = some (.int .i64 ((rd_T46 l0_0 x253000_2).f2)) ∧ w'.cell? ⟨(ad220.add ((x253000_2).toNat * 4)).block, (ad220.add ((x253000_2).toNat * 4)).off + 3, none⟩ = some (.int .i64 ((rd_T46 l0_0 x253000_2).f3))) (ds := []) #[false, false, false, false, false, false, false, false, false, false, false, false, false, false, false, false, false, false, false, false, false, false, false, false, false, false, false, false] (by kernel_rfl) rfl rfl ⟨(bkc BK210.out 0).trans rfl, (bkc BK210.out 1).trans rfl, (bkc BK210.out 2).trans rfl, (bkc BK210.out 3).trans rfl, (bkc BK210.out 4).trans rfl, (bkc BK217.out 0).trans rfl, (bkc BK217.out 1).trans rfl, (bkc BK217.out 2).trans rfl, (bkc BK211.out 0).trans rfl, (bkc BK211.out 1).trans rfl, (bkc BK211.out 2).trans rfl, ((HB.out.cell (blt w _ hw220_0)).trans hw220_0), ((HB.out.cell (blt w _ hw220_1)).trans hw220_1), ((HB.out.cell (blt w _ hw220_2)).trans hw220_2), ((HB.out.cell (blt w _ hw220_3)).trans hw220_3)⟩ (fun hHeld => ?_); refine with_tabW impl_mixes_best.tab11 impl_mixes_best.bits11 (fun HT_ HW_ => ?_)
             generalize w42.drew = w43 at HM HO_9 BK210 BK211 BK217 HB hx220_0 hx220_1 hx220_2 hx220_3 hHeld ⊢
             refine pure_ (i := 0) (N := some 39) (v := ?_) (a' := ?_) #[true, false, false, false, false, false, false, false, false, false, false, false, false, false, false, false, false, false, false, false, false, false, false, false, false, false, false, false] rfl rfl (any_of HT_.out (by kernel_rfl)) (fun _ _ _ h => h) (Or.inl ⟨by rfl, ?_⟩) ?_ ?_
             rotate_left
             ·intro w'
              go_simp
              with_reducible rfl
             rotate_left
             ·simp only [Act.put, sla, slz, sls, i64_w, i32_w]
              rfl
             refine pure_ (i := 1) (N := some 40) (v := ?_) (a' := ?_) #[true, true, false, false, false, false, false, false, false, false, false, false, false, false, false, false, false, false, false, false, false, false, false, false, false, false, false, false] rfl rfl (any_of HT_.out (by kernel_rfl)) (fun _ _ _ h => h) (Or.inl ⟨by rfl, ?_⟩) ?_ ?_
             rotate_left
             ·intro w'
              go_simp
              with_reducible rfl
             rotate_left
             ·simp only [Act.put, sla, slz, sls, i64_w, i32_w]
              rfl
             refine take_ (i := 2) (N := some 41) (v := ?_) (a' := ?_) #[true, true, true, false, false, false, false, false, false, false, false, false, false, false, false, false, false, false, false, false, false, false, false, false, false, false, false, false] rfl rfl (take_ofW HT_.out HW_.out (by kernel_rfl)) (fun _ _ _ h => h) (Or.inl ⟨by rfl, ?_⟩) hHeld ?_ ?_
             rotate_left
             ·rintro w' ⟨s0, s1, s2, s3, s4, s5, s6, s7, s8, s9, s10, s11, s12, s13, s14⟩
              go_simp
              with_reducible rfl
             rotate_left
             ·simp only [Act.put, sla, slz, sls, i64_w, i32_w]
              rfl
             refine take_ (i := 3) (N := some 42) (v := ?_) (a' := ?_) #[true, true, true, true, false, false, false, false, false, false, false, false, false, false, false, false, false, false, false, false, false, false, false, false, false, false, false, false] rfl rfl (take_ofW HT_.out HW_.out (by kernel_rfl)) (fun _ _ _ h => h) (Or.inl ⟨by rfl, ?_⟩) hHeld ?_ ?_
             rotate_left
             ·rintro w' ⟨s0, s1, s2, s3, s4, s5, s6, s7, s8, s9, s10, s11, s12, s13, s14⟩
              go_simp
              with_reducible rfl
             rotate_left
             ·simp only [Act.put, sla, slz, sls, i64_w, i32_w]
              rfl
             refine one_ (i := 4) (N := some 43) #[true, true, true, true, true, false, false, false, false, false, false, false, false, false, false, false, false, false, false, false, false, false, false, false, false, false, false, false] rfl rfl (one_of HT_.out (by kernel_rfl)) (by decide) (fun K hK => ?_)
             refine goes_ Try.func38 (by kernel_rfl) rfl #[.agg #[.slice (some ad220) l0_0.length c0_0, .func (.func 29) #[] #[], .int .i64 a0_2, .map none, .map (some B)], .agg #[.int .i64 t213, .int .i64 t214, .int .i64 t215]] (by rfl) rfl rfl (by (try simp only [List.map_toArray, List.map_cons, List.map_nil]); first | done | rfl | (simp only [List.length_drop, List.length_take]; rfl)) ?_
             with_reducible refine (impl_mixes_least.calls k2 _ _ l0_0 a0_2 B t213 t214 t215 t218 _ w _ HV.out (after_box HV.out HIX.out HXB.out.1 A23.out) HB0.out (by repeat (with_reducible first | exact HB.out | apply bal | apply pbN | apply bdw | refine bst ?_ GE210.out | refine bst ?_ GE211.out | refine bst ?_ GE217.out)) (memo_self (by repeat (with_reducible first | exact HM.out | apply mal | apply mdN | apply mdw | apply mst (hne := NM210.out) | apply mst (hne := NM211.out) | apply mst (hne := NM217.out)))) ?side1 ?side2 A25.out).mono ?_
             (case side1 => exact HR0_0.out)
             (case side2 => exact HC0_0.out)
             rintro e w44 ⟨rfl, hb, D2_, hM⟩
             refine ⟨_, rfl, ?_⟩
             have HMN_ := As0.mk (memo_trans (by repeat (with_reducible first | exact HM.out | apply mal | apply mdN | apply mdw | apply mst (hne := NM210.out) | apply mst (hne := NM211.out) | apply mst (hne := NM217.out))) hM)
             have n0_ := As0.mk (memo_R hM (by repeat (with_reducible first | exact HM.out | apply mal | apply mdN | apply mdw | apply mst (hne := NM210.out) | apply mst (hne := NM211.out) | apply mst (hne := NM217.out))) (by (with_reducible repeat (first | apply Kd.R_alloc | apply Kd.R_drewN | apply Kd.R_drew)); exact HO_9.out))
             have n1_ := As0.mk (memo_blk (g := gb210) (o := .cells #[.slice (some ad220) l0_0.length c0_0, .func (.func 29) #[] #[], .int .i64 a0_2, .map none, .map (some B)] 55 (0, 0)) hM (by (with_reducible repeat first | refine bkN ?_ _ | refine bkd ?_ | refine bka ?_ _); exact BK210.out) NM210.out.1)
             have n2_ := As0.mk (memo_blk (g := gb211) (o := .cells #[.int .i64 x253000_2, .int .i64 x253001_2, .int .i64 x253002_2] 63 (0, 0)) hM (by (with_reducible repeat first | refine bkN ?_ _ | refine bkd ?_ | refine bka ?_ _); exact BK211.out) NM211.out.1)
             have n3_ := As0.mk (memo_blk (g := gb217) (o := .cells #[.int .i64 t213, .int .i64 t214, .int .i64 t215] 63 (0, 0)) hM (by (with_reducible repeat first | refine bkN ?_ _ | refine bkd ?_ | refine bka ?_ _); exact BK217.out) NM217.out.1)
             have n4_ := As0.mk (hb)
             clear HO_9
             clear BK210
             clear BK211
             clear BK217
             clear HB
             have HO_9 := n0_
             have BK210 := n1_
             have BK211 := n2_
             have BK217 := n3_
             have HB := n4_
             clear n0_ n1_ n2_ n3_ n4_
             clear HM
             have HM := HMN_
             clear HMN_ hM
             (try clear hb)
             (try clear hb2)
             (try clear hk)
             (try clear hi)
             refine hK.out _ _ ⟨(bkc BK210.out 0).trans rfl, (bkc BK210.out 1).trans rfl, (bkc BK210.out 2).trans rfl, (bkc BK210.out 3).trans rfl, (bkc BK210.out 4).trans rfl, (bkc BK217.out 0).trans rfl, (bkc BK217.out 1).trans rfl, (bkc BK217.out 2).trans rfl, (bkc BK211.out 0).trans rfl, (bkc BK211.out 1).trans rfl, (bkc BK211.out 2).trans rfl, ((HB.out.cell (blt w _ hw220_0)).trans hw220_0), ((HB.out.cell (blt w _ hw220_1)).trans hw220_1), ((HB.out.cell (blt w _ hw220_2)).trans hw220_2), ((HB.out.cell (blt w _ hw220_3)).trans hw220_3)⟩ (fun hHeld => ?_)
             clear hK K
             refine norm_ (a' := ?_) ?_ ?_
             rotate_left
             ·show Act.put _ (some 43) _ = _
              simp only [Act.put, sla, slz, sls, i64_w, i32_w]
              rfl
             refine pure_ (i := 5) (N := some 44) (v := ?_) (a' := ?_) #[true, true, true, true, true, true, false, false, false, false, false, false, false, false, false, false, false, false, false, false, false, false, false, false, false, false, false, false] rfl rfl (any_of HT_.out (by kernel_rfl)) (fun _ _ _ h => h) (Or.inl ⟨by rfl, ?_⟩) ?_ ?_
             rotate_left
             ·intro w'
              go_simp
              with_reducible rfl
             rotate_left
             ·simp only [Act.put, sla, slz, sls, i64_w, i32_w]
              rfl
             refine pure_ (i := 6) (N := some 45) (v := ?_) (a' := ?_) #[true, true, true, true, true, true, true, false, false, false, false, false, false, false, false, false, false, false, false, false, false, false, false, false, false, false, false, false] rfl rfl (any_of HT_.out (by kernel_rfl)) (fun _ _ _ h => h) (Or.inl ⟨by rfl, ?_⟩) ?_ ?_
             rotate_left
             ·intro w'
              go_simp
              with_reducible rfl
             rotate_left
             ·simp only [Act.put, sla, slz, sls, i64_w, i32_w]
              rfl
             refine pure_ (i := 7) (N := some 46) (v := ?_) (a' := ?_) #[true, true, true, true, true, true, true, true, false, false, false, false, false, false, false, false, false, false, false, false, false, false, false, false, false, false, false, false] rfl rfl (any_of HT_.out (by kernel_rfl)) (fun _ _ _ h => h) (Or.inl ⟨by rfl, ?_⟩) ?_ ?_
             rotate_left
             ·intro w'
              go_simp
              with_reducible rfl
             rotate_left
             ·simp only [Act.put, sla, slz, sls, i64_w, i32_w]
              rfl
             refine pure_ (i := 11) (N := some 50) (v := ?_) (a' := ?_) #[true, true, true, true, true, true, true, true, false, false, false, true, false, false, false, false, false, false, false, false, false, false, false, false, false, false, false, false] rfl rfl (any_of HT_.out (by kernel_rfl)) (fun _ _ _ h => h) (Or.inl ⟨by rfl, ?_⟩) ?_ ?_
             rotate_left
             ·intro w'
              go_simp
              with_reducible rfl
             rotate_left
             ·simp only [Act.put, sla, slz, sls, i64_w, i32_w]
              rfl
             refine pure_ (i := 12) (N := some 51) (v := ?_) (a' := ?_) #[true, true, true, true, true, true, true, true, false, false, false, true, true, false, false, false, false, false, false, false, false, false, false, false, false, false, false, false] rfl rfl (any_of HT_.out (by kernel_rfl)) (fun _ _ _ h => h) (Or.inl ⟨by rfl, ?_⟩) ?_ ?_
             rotate_left
             ·intro w'
              go_simp
              with_reducible rfl
             rotate_left
             ·simp only [Act.put, sla, slz, sls, i64_w, i32_w]
              rfl
             refine pure_ (i := 14) (N := some 53) (v := ?_) (a' := ?_) #[true, true, true, true, true, true, true, true, false, false, false, true, true, false, true, false, false, false, false, false, false, false, false, false, false, false, false, false] rfl rfl (any_of HT_.out (by kernel_rfl)) (fun _ _ _ h => h) (Or.inl ⟨by rfl, ?_⟩) ?_ ?_
             rotate_left
             ·intro w'
              go_simp
              with_reducible rfl
             rotate_left
             ·simp only [Act.put, sla, slz, sls, i64_w, i32_w]
              rfl
             refine pure_ (i := 16) (N := some 55) (v := ?_) (a' := ?_) #[true, true, true, true, true, true, true, true, false, false, false, true, true, false, true, false, true, false, false, false, false, false, false, false, false, false, false, false] rfl rfl (any_of HT_.out (by kernel_rfl)) (fun _ _ _ h => h) (Or.inl ⟨by rfl, ?_⟩) ?_ ?_
             rotate_left
             ·intro w'
              go_simp
              with_reducible rfl
             rotate_left
             ·simp only [Act.put, sla, slz, sls, i64_w, i32_w]
              rfl
             refine take_ (i := 8) (N := some 47) (v := ?_) (a' := ?_) #[true, true, true, true, true, true, true, true, true, false, false, true, true, false, true, false, true, false, false, false, false, false, false, false, false, false, false, false] rfl rfl (take_ofW HT_.out HW_.out (by kernel_rfl)) (fun _ _ _ h => h) (Or.inl ⟨by rfl, ?_⟩) hHeld ?_ ?_
             rotate_left
             ·rintro w' ⟨s0, s1, s2, s3, s4, s5, s6, s7, s8, s9, s10, s11, s12, s13, s14⟩
              go_simp
              with_reducible rfl
             rotate_left
             ·simp only [Act.put, sla, slz, sls, i64_w, i32_w]
              rfl
             refine take_ (i := 9) (N := some 48) (v := ?_) (a' := ?_) #[true, true, true, true, true, true, true, true, true, true, false, true, true, false, true, false, true, false, false, false, false, false, false, false, false, false, false, false] rfl rfl (take_ofW HT_.out HW_.out (by kernel_rfl)) (fun _ _ _ h => h) (Or.inl ⟨by rfl, ?_⟩) hHeld ?_ ?_
             rotate_left
             ·rintro w' ⟨s0, s1, s2, s3, s4, s5, s6, s7, s8, s9, s10, s11, s12, s13, s14⟩
              go_simp
              with_reducible rfl
             rotate_left
             ·simp only [Act.put, sla, slz, sls, i64_w, i32_w]
              rfl
             refine take_ (i := 13) (N := some 52) (v := ?_) (a' := ?_) #[true, true, true, true, true, true, true, true, true, true, false, true, true, true, true, false, true, false, false, false, false, false, false, false, false, false, false, false] rfl rfl (take_ofW HT_.out HW_.out (by kernel_rfl)) (fun _ _ _ h => h) (Or.inl ⟨by rfl, ?_⟩) hHeld ?_ ?_
             rotate_left
             ·rintro w' ⟨s0, s1, s2, s3, s4, s5, s6, s7, s8, s9, s10, s11, s12, s13, s14⟩
              go_simp
              with_reducible rfl
             rotate_left
             ·simp only [Act.put, sla, slz, sls, i64_w, i32_w]
              rfl
             refine take_ (i := 15) (N := some 54) (v := ?_) (a' := ?_) #[true, true, true, true, true, true, true, true, true, true, false, true, true, true, true, true, true, false, false, false, false, false, false, false, false, false, false, false] rfl rfl (take_ofW HT_.out HW_.out (by kernel_rfl)) (fun _ _ _ h => h) (Or.inl ⟨by rfl, ?_⟩) hHeld ?_ ?_
             rotate_left
             ·rintro w' ⟨s0, s1, s2, s3, s4, s5, s6, s7, s8, s9, s10, s11, s12, s13, s14⟩
              go_simp
              with_reducible rfl
             rotate_left
             ·simp only [Act.put, sla, slz, sls, i64_w, i32_w]
              rfl
             refine take_ (i := 17) (N := some 56) (v := ?_) (a' := ?_) #[true, true, true, true, true, true, true, true, true, true, false, true, true, true, true, true, true, true, false, false, false, false, false, false, false, false, false, false] rfl rfl (take_ofW HT_.out HW_.out (by kernel_rfl)) (fun _ _ _ h => h) (Or.inl ⟨by rfl, ?_⟩) hHeld ?_ ?_
             rotate_left
             ·rintro w' ⟨s0, s1, s2, s3, s4, s5, s6, s7, s8, s9, s10, s11, s12, s13, s14⟩
              go_simp
              with_reducible rfl
             rotate_left
             ·simp only [Act.put, sla, slz, sls, i64_w, i32_w]
              rfl
             refine pure_ (i := 18) (N := some 57) (v := ?_) (a' := ?_) #[true, true, true, true, true, true, true, true, true, true, false, true, true, true, true, true, true, true, true, false, false, false, false, false, false, false, false, false] rfl rfl (any_of HT_.out (by kernel_rfl)) (fun _ _ _ h => h) (Or.inl ⟨by rfl, ?_⟩) ?_ ?_
             rotate_left
             ·intro w'
              go_simp
              with_reducible rfl
             rotate_left
             ·simp only [Act.put, sla, slz, sls, i64_w, i32_w]
              rfl
             refine take_ (i := 19) (N := some 58) (v := ?_) (a' := ?_) #[true, true, true, true, true, true, true, true, true, true, false, true, true, true, true, true, true, true, true, true, false, false, false, false, false, false, false, false] rfl rfl (take_ofW HT_.out HW_.out (by kernel_rfl)) (fun _ _ _ h => h) (Or.inl ⟨by rfl, ?_⟩) hHeld ?_ ?_
             rotate_left
             ·rintro w' ⟨s0, s1, s2, s3, s4, s5, s6, s7, s8, s9, s10, s11, s12, s13, s14⟩
              go_simp
              with_reducible rfl
             rotate_left
             ·simp only [Act.put, sla, slz, sls, i64_w, i32_w]
              rfl
             refine take_ (i := 23) (N := some 62) (v := ?_) (a' := ?_) #[true, true, true, true, true, true, true, true, true, true, false, true, true, true, true, true, true, true, true, true, false, false, false, true, false, false, false, false] rfl rfl (take_ofW HT_.out HW_.out (by kernel_rfl)) (fun _ _ _ h => h) (Or.inl ⟨by rfl, ?_⟩) hHeld ?_ ?_
             rotate_left
             ·rintro w' ⟨s0, s1, s2, s3, s4, s5, s6, s7, s8, s9, s10, s11, s12, s13, s14⟩
              go_simp
              with_reducible rfl
             rotate_left
             ·simp only [Act.put, sla, slz, sls, i64_w, i32_w]
              rfl
             refine take_ (i := 24) (N := some 63) (v := ?_) (a' := ?_) #[true, true, true, true, true, true, true, true, true, true, false, true, true, true, true, true, true, true, true, true, false, false, false, true, true, false, false, false] rfl rfl (take_ofW HT_.out HW_.out (by kernel_rfl)) (fun _ _ _ h => h) (Or.inl ⟨by rfl, ?_⟩) hHeld ?_ ?_
             rotate_left
             ·rintro w' ⟨s0, s1, s2, s3, s4, s5, s6, s7, s8, s9, s10, s11, s12, s13, s14⟩
              go_simp
              with_reducible rfl
             rotate_left
             ·simp only [Act.put, sla, slz, sls, i64_w, i32_w]
              rfl
             refine one_ (i := 10) (N := some 49) #[true, true, true, true, true, true, true, true, true, true, true, true, true, true, true, true, true, true, true, true, false, false, false, true, true, false, false, false] rfl rfl (one_of HT_.out (by kernel_rfl)) (by decide) (fun K hK => ?_)
             refine goes_ Try.func38 (by kernel_rfl) rfl #[.agg #[.slice (some ad220) l0_0.length c0_0, .func (.func 29) #[] #[], .int .i64 a0_2, .map none, .map (some B)], .agg #[.int .i64 t213, .int .i64 t214, .int .i64 t215]] (by rfl) rfl rfl (by (try simp only [List.map_toArray, List.map_cons, List.map_nil]); first | done | rfl | (simp only [List.length_drop, List.length_take]; rfl)) ?_
             with_reducible refine (impl_mixes_least.calls k2 _ _ l0_0 a0_2 B t213 t214 t215 t219 _ w _ HV.out (after_box HV.out HIX.out HXB.out.1 A23.out) HB0.out (by repeat (with_reducible first | exact HB.out | apply bal | apply pbN | apply bdw | refine bst ?_ GE210.out | refine bst ?_ GE211.out | refine bst ?_ GE217.out)) (memo_self (by repeat (with_reducible first | exact HM.out | apply mal | apply mdN | apply mdw | apply mst (hne := NM210.out) | apply mst (hne := NM211.out) | apply mst (hne := NM217.out)))) ?side1 ?side2 A27.out).mono ?_
             (case side1 => exact HR0_0.out)
             (case side2 => exact HC0_0.out)
             rintro e w45 ⟨rfl, hb, D2_, hM⟩
             refine ⟨_, rfl, ?_⟩
             have HMN_ := As0.mk (memo_trans (by repeat (with_reducible first | exact HM.out | apply mal | apply mdN | apply mdw | apply mst (hne := NM210.out) | apply mst (hne := NM211.out) | apply mst (hne := NM217.out))) hM)
             have n0_ := As0.mk (memo_R hM (by repeat (with_reducible first | exact HM.out | apply mal | apply mdN | apply mdw | apply mst (hne := NM210.out) | apply mst (hne := NM211.out) | apply mst (hne := NM217.out))) (by (with_reducible repeat (first | apply Kd.R_alloc | apply Kd.R_drewN | apply Kd.R_drew)); exact HO_9.out))
             have n1_ := As0.mk (memo_blk (g := gb210) (o := .cells #[.slice (some ad220) l0_0.length c0_0, .func (.func 29) #[] #[], .int .i64 a0_2, .map none, .map (some B)] 55 (0, 0)) hM (by (with_reducible repeat first | refine bkN ?_ _ | refine bkd ?_ | refine bka ?_ _); exact BK210.out) NM210.out.1)
             have n2_ := As0.mk (memo_blk (g := gb211) (o := .cells #[.int .i64 x253000_2, .int .i64 x253001_2, .int .i64 x253002_2] 63 (0, 0)) hM (by (with_reducible repeat first | refine bkN ?_ _ | refine bkd ?_ | refine bka ?_ _); exact BK211.out) NM211.out.1)
             have n3_ := As0.mk (memo_blk (g := gb217) (o := .cells #[.int .i64 t213, .int .i64 t214, .int .i64 t215] 63 (0, 0)) hM (by (with_reducible repeat first | refine bkN ?_ _ | refine bkd ?_ | refine bka ?_ _); exact BK217.out) NM217.out.1)
             have n4_ := As0.mk (hb)
             clear HO_9
             clear BK210
             clear BK211
             clear BK217
             clear HB
             have HO_9 := n0_
             have BK210 := n1_
             have BK211 := n2_
             have BK217 := n3_
             have HB := n4_
             clear n0_ n1_ n2_ n3_ n4_
             clear HM
             have HM := HMN_
             clear HMN_ hM
             (try clear hb)
             (try clear hb2)
             (try clear hk)
             (try clear hi)
             refine hK.out _ _ ⟨(bkc BK210.out 0).trans rfl, (bkc BK210.out 1).trans rfl, (bkc BK210.out 2).trans rfl, (bkc BK210.out 3).trans rfl, (bkc BK210.out 4).trans rfl, (bkc BK217.out 0).trans rfl, (bkc BK217.out 1).trans rfl, (bkc BK217.out 2).trans rfl, (bkc BK211.out 0).trans rfl, (bkc BK211.out 1).trans rfl, (bkc BK211.out 2).trans rfl, ((HB.out.cell (blt w _ hw220_0)).trans hw220_0), ((HB.out.cell (blt w _ hw220_1)).trans hw220_1), ((HB.out.cell (blt w _ hw220_2)).trans hw220_2), ((HB.out.cell (blt w _ hw220_3)).trans hw220_3)⟩ (fun hHeld => ?_)
             clear hK K
             refine norm_ (a' := ?_) ?_ ?_
             rotate_left
             ·show Act.put _ (some 49) _ = _
              simp only [Act.put, sla, slz, sls, i64_w, i32_w]
              rfl
             refine one_ (i := 20) (N := some 59) #[true, true, true, true, true, true, true, true, true, true, true, true, true, true, true, true, true, true, true, true, true, false, false, true, true, false, false, false] rfl rfl (one_of HT_.out (by kernel_rfl)) (by decide) (fun K hK => ?_)
             refine goesV_ Try.func29 (by kernel_rfl) rfl #[.agg #[.string ((rd_T46 l0_0 x253000_2).f0), .int .i64 ((rd_T46 l0_0 x253000_2).f1), .int .i64 ((rd_T46 l0_0 x253000_2).f2), .int .i64 ((rd_T46 l0_0 x253000_2).f3)]] (by rfl) rfl rfl (by rfl) (by (try simp only [List.map_toArray, List.map_cons, List.map_nil]); first | done | rfl | (simp only [List.length_drop, List.length_take]; rfl)) ?_
             with_reducible refine (impl_price.calls ((rd_T46 l0_0 x253000_2).f0) ((rd_T46 l0_0 x253000_2).f1) ((rd_T46 l0_0 x253000_2).f2) ((rd_T46 l0_0 x253000_2).f3) t221 _ A30.out).mono ?_
             rintro e w46 ⟨rfl, hb⟩
             refine ⟨_, rfl, ?_⟩
             have HM_ := As0.mk (memo_below (by repeat (with_reducible first | exact HM.out | apply mal | apply mdN | apply mdw | apply mst (hne := NM210.out) | apply mst (hne := NM211.out) | apply mst (hne := NM217.out))) hb); clear HM; have HM := HM_; clear HM_
             have n0_ := As0.mk (Kd.R_below (by (with_reducible repeat (first | apply Kd.R_alloc | apply Kd.R_drewN | apply Kd.R_drew)); exact HO_9.out) hb)
             have n1_ := As0.mk (bkb (g := gb210) (o := .cells #[.slice (some ad220) l0_0.length c0_0, .func (.func 29) #[] #[], .int .i64 a0_2, .map none, .map (some B)] 55 (0, 0)) (by (with_reducible repeat first | refine bkN ?_ _ | refine bkd ?_ | refine bka ?_ _); exact BK210.out) hb)
             have n2_ := As0.mk (bkb (g := gb211) (by (with_reducible repeat first | refine bkN ?_ _ | refine bkd ?_ | refine bka ?_ _); exact BK211.out) hb)
             have n3_ := As0.mk (bkb (g := gb217) (by (with_reducible repeat first | refine bkN ?_ _ | refine bkd ?_ | refine bka ?_ _); exact BK217.out) hb)
             have n4_ := As0.mk (bsp (by repeat (with_reducible first | exact HB.out | apply bal | apply pbN | apply bdw | refine bst ?_ GE210.out | refine bst ?_ GE211.out | refine bst ?_ GE217.out)) hb)
             clear HO_9
             clear BK210
             clear BK211
             clear BK217
             clear HB
             have HO_9 := n0_
             have BK210 := n1_
             have BK211 := n2_
             have BK217 := n3_
             have HB := n4_
             clear n0_ n1_ n2_ n3_ n4_
             (try clear hb)
             (try clear hb2)
             (try clear hk)
             (try clear hi)
             refine hK.out _ _ ⟨(bkc BK210.out 0).trans rfl, (bkc BK210.out 1).trans rfl, (bkc BK210.out 2).trans rfl, (bkc BK210.out 3).trans rfl, (bkc BK210.out 4).trans rfl, (bkc BK217.out 0).trans rfl, (bkc BK217.out 1).trans rfl, (bkc BK217.out 2).trans rfl, (bkc BK211.out 0).trans rfl, (bkc BK211.out 1).trans rfl, (bkc BK211.out 2).trans rfl, ((HB.out.cell (blt w _ hw220_0)).trans hw220_0), ((HB.out.cell (blt w _ hw220_1)).trans hw220_1), ((HB.out.cell (blt w _ hw220_2)).trans hw220_2), ((HB.out.cell (blt w _ hw220_3)).trans hw220_3)⟩ (fun hHeld => ?_)
             clear hK K
             refine norm_ (a' := ?_) ?_ ?_
             rotate_left
             ·show Act.put _ (some 59) _ = _
              simp only [Act.put, sla, slz, sls, i64_w, i32_w]
              rfl
             refine pure_ (i := 21) (N := some 60) (v := ?_) (a' := ?_) #[true, true, true, true, true, true, true, true, true, true, true, true, true, true, true, true, true, true, true, true, true, true, false, true, true, false, false, false] rfl rfl (any_of HT_.out (by kernel_rfl)) (fun _ _ _ h => h) (Or.inl ⟨by rfl, ?_⟩) ?_ ?_
             rotate_left
             ·intro w'
              go_simp
              with_reducible rfl
             rotate_left
             ·simp only [Act.put, sla, slz, sls, i64_w, i32_w]
              rfl
             refine pure_ (i := 22) (N := some 61) (v := ?_) (a' := ?_) #[true, true, true, true, true, true, true, true, true, true, true, true, true, true, true, true, true, true, true, true, true, true, true, true, true, false, false, false] rfl rfl (any_of HT_.out (by kernel_rfl)) (fun _ _ _ h => h) (Or.inl ⟨by rfl, ?_⟩) ?_ ?_
             rotate_left
             ·intro w'
              go_simp
              with_reducible rfl
             rotate_left
             ·simp only [Act.put, sla, slz, sls, i64_w, i32_w]
              rfl
             refine one_ (i := 25) (N := some 64) #[true, true, true, true, true, true, true, true, true, true, true, true, true, true, true, true, true, true, true, true, true, true, true, true, true, true, false, false] rfl rfl (one_of HT_.out (by kernel_rfl)) (by decide) (fun K hK => ?_)
             refine goes_ Try.func38 (by kernel_rfl) rfl #[.agg #[.slice (some ad220) l0_0.length c0_0, .func (.func 29) #[] #[], .int .i64 a0_2, .map none, .map (some B)], .agg #[.int .i64 x253000_2, .int .i64 x253001_2, .int .i64 x253002_2]] (by rfl) rfl rfl (by (try simp only [List.map_toArray, List.map_cons, List.map_nil]); first | done | rfl | (simp only [List.length_drop, List.length_take]; rfl)) ?_
             with_reducible refine (impl_mixes_least.calls k2 _ _ l0_0 a0_2 B x253000_2 x253001_2 x253002_2 t222 _ w _ HV.out HIX.out HB0.out (by repeat (with_reducible first | exact HB.out | apply bal | apply pbN | apply bdw | refine bst ?_ GE210.out | refine bst ?_ GE211.out | refine bst ?_ GE217.out)) (memo_self (by repeat (with_reducible first | exact HM.out | apply mal | apply mdN | apply mdw | apply mst (hne := NM210.out) | apply mst (hne := NM211.out) | apply mst (hne := NM217.out)))) ?side1 ?side2 A31.out).mono ?_
             (case side1 => exact HR0_0.out)
             (case side2 => exact HC0_0.out)
             rintro e w47 ⟨rfl, hb, D2_, hM⟩
             refine ⟨_, rfl, ?_⟩
             have HMN_ := As0.mk (memo_trans (by repeat (with_reducible first | exact HM.out | apply mal | apply mdN | apply mdw | apply mst (hne := NM210.out) | apply mst (hne := NM211.out) | apply mst (hne := NM217.out))) hM)
             have n0_ := As0.mk (memo_R hM (by repeat (with_reducible first | exact HM.out | apply mal | apply mdN | apply mdw | apply mst (hne := NM210.out) | apply mst (hne := NM211.out) | apply mst (hne := NM217.out))) (by (with_reducible repeat (first | apply Kd.R_alloc | apply Kd.R_drewN | apply Kd.R_drew)); exact HO_9.out))
             have n1_ := As0.mk (memo_blk (g := gb210) (o := .cells #[.slice (some ad220) l0_0.length c0_0, .func (.func 29) #[] #[], .int .i64 a0_2, .map none, .map (some B)] 55 (0, 0)) hM (by (with_reducible repeat first | refine bkN ?_ _ | refine bkd ?_ | refine bka ?_ _); exact BK210.out) NM210.out.1)
             have n2_ := As0.mk (memo_blk (g := gb211) (o := .cells #[.int .i64 x253000_2, .int .i64 x253001_2, .int .i64 x253002_2] 63 (0, 0)) hM (by (with_reducible repeat first | refine bkN ?_ _ | refine bkd ?_ | refine bka ?_ _); exact BK211.out) NM211.out.1)
             have n3_ := As0.mk (memo_blk (g := gb217) (o := .cells #[.int .i64 t213, .int .i64 t214, .int .i64 t215] 63 (0, 0)) hM (by (with_reducible repeat first | refine bkN ?_ _ | refine bkd ?_ | refine bka ?_ _); exact BK217.out) NM217.out.1)
             have n4_ := As0.mk (hb)
             clear HO_9
             clear BK210
             clear BK211
             clear BK217
             clear HB
             have HO_9 := n0_
             have BK210 := n1_
             have BK211 := n2_
             have BK217 := n3_
             have HB := n4_
             clear n0_ n1_ n2_ n3_ n4_
             clear HM
             have HM := HMN_
             clear HMN_ hM
             (try clear hb)
             (try clear hb2)
             (try clear hk)
             (try clear hi)
             refine hK.out _ _ ⟨(bkc BK210.out 0).trans rfl, (bkc BK210.out 1).trans rfl, (bkc BK210.out 2).trans rfl, (bkc BK210.out 3).trans rfl, (bkc BK210.out 4).trans rfl, (bkc BK217.out 0).trans rfl, (bkc BK217.out 1).trans rfl, (bkc BK217.out 2).trans rfl, (bkc BK211.out 0).trans rfl, (bkc BK211.out 1).trans rfl, (bkc BK211.out 2).trans rfl, ((HB.out.cell (blt w _ hw220_0)).trans hw220_0), ((HB.out.cell (blt w _ hw220_1)).trans hw220_1), ((HB.out.cell (blt w _ hw220_2)).trans hw220_2), ((HB.out.cell (blt w _ hw220_3)).trans hw220_3)⟩ (fun hHeld => ?_)
             clear hK K
             refine norm_ (a' := ?_) ?_ ?_
             rotate_left
             ·show Act.put _ (some 64) _ = _
              simp only [Act.put, sla, slz, sls, i64_w, i32_w]
              rfl
             refine pure_ (i := 26) (N := some 65) (v := ?_) (a' := ?_) #[true, true, true, true, true, true, true, true, true, true, true, true, true, true, true, true, true, true, true, true, true, true, true, true, true, true, true, false] rfl rfl (any_of HT_.out (by kernel_rfl)) (fun _ _ _ h => h) (Or.inl ⟨by rfl, ?_⟩) ?_ ?_
             rotate_left
             ·intro w'
              go_simp
              with_reducible rfl
             rotate_left
             ·simp only [Act.put, sla, slz, sls, i64_w, i32_w]
              rfl
             refine pure_ (i := 27) (N := some 66) (v := ?_) (a' := ?_) #[true, true, true, true, true, true, true, true, true, true, true, true, true, true, true, true, true, true, true, true, true, true, true, true, true, true, true, true] rfl rfl (any_of HT_.out (by kernel_rfl)) (fun _ _ _ h => h) (Or.inl ⟨by rfl, ?_⟩) ?_ ?_
             rotate_left
             ·intro w'
              go_simp
              with_reducible rfl
             rotate_left
             ·simp only [Act.put, sla, slz, sls, i64_w, i32_w]
              rfl
             refine done_ (done_of HT_.out (by kernel_rfl)) ?_
             try go_wp2_with (first | ((with_reducible refine gbu (b := .append) (xs := #[.tmp 67, .tmp 69]) rfl ?_); at_builtin; refine Kd.R_append (Kd.int .i64) (w0 := w) w.heap.size rfl (.tmp 67) (.tmp 69) 30 2 (.int .i64 0) 8 rfl Try.underlying30 info2 rfl (by decide) (by omega) u9 x9_2 x10_2 [.int .i64 x10_2] (fun _ => True) (fun _ => False) rfl rfl ?aP (fun _ hk => hk.elim) ?aF ?aO ?aB ?aS ?aL ?_; (case aP => exact rfl); (case aB => exact (by repeat (with_reducible first | exact HB.out | apply bal | apply pbN | apply bdw | refine bst ?_ GE210.out | refine bst ?_ GE211.out | refine bst ?_ GE217.out))); (case aF => exact (fun _ _ => trivial)); (case aO => exact (by (with_reducible repeat (first | apply Kd.R_alloc | apply Kd.R_drewN | apply Kd.R_drew)); exact HO_9.out)); (case aS => exact (bsz (by repeat (with_reducible first | exact HB.out | apply bal | apply pbN | apply bdw | refine bst ?_ GE210.out | refine bst ?_ GE211.out | refine bst ?_ GE217.out)))); (case aL => have := LMc33.out; omega); intro v224 w48 ho hb hg hat; rw [← Ny223.out] at ho; have HM_ := As0.mk (memo_grown (by repeat (with_reducible first | exact HM.out | apply mal | apply mdN | apply mdw | apply mst (hne := NM210.out) | apply mst (hne := NM211.out) | apply mst (hne := NM217.out))) hg (fun k_ hk_ => ⟨memo_row HM.out HO_9.out k_ hk_, Kd.R_base HO_9.out k_ hk_⟩)); clear HM; have HM := HM_; clear HM_; have n0_ := As0.mk (bkg (g := gb210) (o := .cells #[.slice (some ad220) l0_0.length c0_0, .func (.func 29) #[] #[], .int .i64 a0_2, .map none, .map (some B)] 55 (0, 0)) (by (with_reducible repeat first | refine bkN ?_ _ | refine bkd ?_ | refine bka ?_ _); exact BK210.out) hg (Kd.R_ne HO_9.out BK210.out (by decide))); have n1_ := As0.mk (bkg (g := gb211) (by (with_reducible repeat first | refine bkN ?_ _ | refine bkd ?_ | refine bka ?_ _); exact BK211.out) hg (Kd.R_ne HO_9.out BK211.out (by decide))); have n2_ := As0.mk (bkg (g := gb217) (by (with_reducible repeat first | refine bkN ?_ _ | refine bkd ?_ | refine bka ?_ _); exact BK217.out) hg (Kd.R_ne HO_9.out BK217.out (by decide))); have n3_ := As0.mk (hb); have n4_ := As0.mk (ho); clear BK210; clear BK211; clear BK217; clear HB; clear HO_9; have BK210 := n0_; have BK211 := n1_; have BK217 := n2_; have HB := n3_; have HO225 := n4_; clear n0_ n1_ n2_ n3_ n4_; clear ho hb hg hat; have hcz49_0 : w48.cell? ⟨gb217, 0, none⟩ = some (.int .i64 t213) := (bkc BK217.out 0).trans rfl; have hcz49_1 : w48.cell? ⟨gb217, 1, none⟩ = some (.int .i64 t214) := (bkc BK217.out 1).trans rfl; have hcz49_2 : w48.cell? ⟨gb217, 2, none⟩ = some (.int .i64 t215) := (bkc BK217.out 2).trans rfl; have hfz49_0 := bkf BK217.out 0; have hfz49_1 := bkf BK217.out 1; have hfz49_2 := bkf BK217.out 2; have hcz50_0 : w48.cell? ⟨gb211, 0, none⟩ = some (.int .i64 x253000_2) := (bkc BK211.out 0).trans rfl; have hcz50_1 : w48.cell? ⟨gb211, 1, none⟩ = some (.int .i64 x253001_2) := (bkc BK211.out 1).trans rfl; have hcz50_2 : w48.cell? ⟨gb211, 2, none⟩ = some (.int .i64 x253002_2) := (bkc BK211.out 2).trans rfl; have hfz50_0 := bkf BK211.out 0; have hfz50_1 := bkf BK211.out 1; have hfz50_2 := bkf BK211.out 2))
             go_roundg k2
             case measure => have := HK1.out; have := HK2.out; omega
             case rel => exact ⟨(y223), (t213), (t214), (t215), D2_, H', ⟨by have := HK1.out; have := HK2.out; omega⟩, ⟨by (with_reducible repeat (first | apply Kd.R_alloc | apply Kd.R_drewN | apply Kd.R_drew)); exact Kd.R_mono (Kd.R_far (p := ⟨gb211, 2, none⟩) (Kd.R_far (p := ⟨gb211, 1, none⟩) (Kd.R_far (p := ⟨gb211, 0, none⟩) (Kd.R_types HO225.out BK211.out (by decide)) (fun _ hk => hk.2) (.int .i64 t213)) (fun _ hk => hk.2) (.int .i64 t214)) (fun _ hk => hk.2) (.int .i64 t215)) (fun _ hk => trivial)⟩, ⟨by (with_reducible repeat first | refine bkN ?_ _ | refine bkd ?_ | refine bka ?_ _); refine blk_far ?_ NB210_211.out _; (with_reducible repeat first | refine bkN ?_ _ | refine bkd ?_ | refine bka ?_ _); refine blk_far ?_ NB210_211.out _; (with_reducible repeat first | refine bkN ?_ _ | refine bkd ?_ | refine bka ?_ _); refine blk_far ?_ NB210_211.out _; (with_reducible repeat first | refine bkN ?_ _ | refine bkd ?_ | refine bka ?_ _); exact BK210.out⟩, ⟨by (with_reducible repeat first | refine bkN ?_ _ | refine bkd ?_ | refine bka ?_ _); refine blk_put (cs := #[.int .i64 t213, .int .i64 t214, .int .i64 x253002_2]) ?_ 2 _ rfl; (with_reducible repeat first | refine bkN ?_ _ | refine bkd ?_ | refine bka ?_ _); refine blk_put (cs := #[.int .i64 t213, .int .i64 x253001_2, .int .i64 x253002_2]) ?_ 1 _ rfl; (with_reducible repeat first | refine bkN ?_ _ | refine bkd ?_ | refine bka ?_ _); refine blk_put (cs := #[.int .i64 x253000_2, .int .i64 x253001_2, .int .i64 x253002_2]) ?_ 0 _ rfl; (with_reducible repeat first | refine bkN ?_ _ | refine bkd ?_ | refine bka ?_ _); exact BK211.out⟩, ⟨by repeat (with_reducible first | exact HB.out | apply bal | apply pbN | apply bdw | refine bst ?_ GE210.out | refine bst ?_ GE211.out | refine bst ?_ GE217.out)⟩, ⟨(by repeat (with_reducible first | exact HM.out | apply mal | apply mdN | apply mdw | apply mst (hne := NM210.out) | apply mst (hne := NM211.out) | apply mst (hne := NM217.out)))⟩, ⟨after_box HV.out HIX.out HXB.out.1 A23.out⟩⟩
            ·rw [if_neg c33] at H
             exact absurd H (by simp)
           ·as_aux_lemma =>
            rw [if_neg c32] at H
            have c32b0 : ((wrap64 (t219 + (wrap64 (x10_2 * t221)))) == t222) = false := beq_eq_false_iff_ne.mpr c32
            have c32b1 : ((wrap64 (t219 + (wrap64 (x10_2 * t221)))) != t222) = true := bne_iff_ne.mpr c32
            have H' := As0.mk H
            clear H
            have hnb51 := NB210_211.out
            have hnc51 := NB211_210.out
            have hcz52_0 : wr.cell? ⟨gb210, 0, none⟩ = some (.slice A0_0 l0_0.length c0_0) := (bkc BK210.out 0).trans rfl
            have hcz52_1 : wr.cell? ⟨gb210, 1, none⟩ = some (.func (.func 29) #[] #[]) := (bkc BK210.out 1).trans rfl
            have hcz52_2 : wr.cell? ⟨gb210, 2, none⟩ = some (.int .i64 a0_2) := (bkc BK210.out 2).trans rfl
            have hcz52_3 : wr.cell? ⟨gb210, 3, none⟩ = some (.map none) := (bkc BK210.out 3).trans rfl
            have hcz52_4 : wr.cell? ⟨gb210, 4, none⟩ = some (.map (some B)) := (bkc BK210.out 4).trans rfl
            have hfz52_0 := bkf BK210.out 0
            have hfz52_1 := bkf BK210.out 1
            have hfz52_2 := bkf BK210.out 2
            have hfz52_3 := bkf BK210.out 3
            have hfz52_4 := bkf BK210.out 4
            have hcz53_0 : wr.cell? ⟨gb211, 0, none⟩ = some (.int .i64 x253000_2) := (bkc BK211.out 0).trans rfl
            have hcz53_1 : wr.cell? ⟨gb211, 1, none⟩ = some (.int .i64 x253001_2) := (bkc BK211.out 1).trans rfl
            have hcz53_2 : wr.cell? ⟨gb211, 2, none⟩ = some (.int .i64 x253002_2) := (bkc BK211.out 2).trans rfl
            have hfz53_0 := bkf BK211.out 0
            have hfz53_1 := bkf BK211.out 1
            have hfz53_2 := bkf BK211.out 2
            try go_wp2_with (first | ((with_reducible refine gce (f := 39) rfl ?_); refine goesL_ (some 36) rfl rfl Try.func39 (by kernel_rfl) rfl #[.agg #[.slice A0_0 l0_0.length c0_0, .func (.func 29) #[] #[], .int .i64 a0_2, .map none, .map (some B)], .agg #[.int .i64 x253000_2, .int .i64 x253001_2, .int .i64 x253002_2], .int .i64 x10_2] rfl (by (try simp only [List.map_toArray, List.map_cons, List.map_nil]); first | done | rfl | (simp only [List.length_drop, List.length_take]; rfl)) ?_; (with_reducible refine (impl_mixes_after.calls _ _ l0_0 a0_2 (some B) x253000_2 x253001_2 x253002_2 x10_2 t213 t214 t215 true _ ?side1 ?side2 A23.out).mono ?_); (case side1 => repeat (first | exact (Kd.C_below HR0_0.out HB.out) | (with_reducible refine Kd.C_alloc ?_ _) | (with_reducible refine Kd.C_drewN ?_ _) | (with_reducible refine Kd.C_drew ?_))); (case side2 => exact HC0_0.out); rintro e w54 ⟨rfl, hb⟩; refine ⟨_, rfl, ?_⟩; have HM_ := As0.mk (memo_below (by repeat (with_reducible first | exact HM.out | apply mal | apply mdN | apply mdw | apply mst (hne := NM210.out) | apply mst (hne := NM211.out) | apply mst (hne := NM217.out))) hb); clear HM; have HM := HM_; clear HM_; have n0_ := As0.mk (Kd.R_below (by (with_reducible repeat (first | apply Kd.R_alloc | apply Kd.R_drewN | apply Kd.R_drew)); exact HO_9.out) hb); have n1_ := As0.mk (bkb (g := gb210) (o := .cells #[.slice A0_0 l0_0.length c0_0, .func (.func 29) #[] #[], .int .i64 a0_2, .map none, .map (some B)] 55 (0, 0)) (by (with_reducible repeat first | refine bkN ?_ _ | refine bkd ?_ | refine bka ?_ _); exact BK210.out) hb); have n2_ := As0.mk (bkb (g := gb211) (by (with_reducible repeat first | refine bkN ?_ _ | refine bkd ?_ | refine bka ?_ _); exact BK211.out) hb); have n3_ := As0.mk (bsp (by repeat (with_reducible first | exact HB.out | apply bal | apply pbN | apply bdw | refine bst ?_ GE210.out | refine bst ?_ GE211.out)) hb); clear HO_9; clear BK210; clear BK211; clear HB; have HO_9 := n0_; have BK210 := n1_; have BK211 := n2_; have HB := n3_; clear n0_ n1_ n2_ n3_; (try clear hb); (try clear hb2); (try clear hk); (try clear hi)) | ((with_reducible refine gate_dst (N := 11) rfl ?_); refine box_event ?hg (N := 11) ?hd (cs := #[.int .i64 0, .int .i64 0, .int .i64 0]) (t := 63) ?hr ?_; (case hd => rfl); (case hg => rfl); (case hr => first | (go_simp; done) | (go_simp; rfl)); intro gb217 hg w55 hbox hb; have NM217 := As0.mk (memo_new (by repeat (with_reducible first | exact HM.out | apply mal | apply mdN | apply mdw | apply mst (hne := NM210.out) | apply mst (hne := NM211.out) | apply mst (hne := NM217.out))) hg); have HM_ := As0.mk (memo_below (by repeat (with_reducible first | exact HM.out | apply mal | apply mdN | apply mdw | apply mst (hne := NM210.out) | apply mst (hne := NM211.out) | apply mst (hne := NM217.out))) hb); clear HM; have HM := HM_; clear HM_; have n0_ := As0.mk (Kd.R_below (by (with_reducible repeat (first | apply Kd.R_alloc | apply Kd.R_drewN | apply Kd.R_drew)); exact HO_9.out) hb); have n1_ := As0.mk (bkb (g := gb210) (o := .cells #[.slice A0_0 l0_0.length c0_0, .func (.func 29) #[] #[], .int .i64 a0_2, .map none, .map (some B)] 55 (0, 0)) (by (with_reducible repeat first | refine bkN ?_ _ | refine bkd ?_ | refine bka ?_ _); exact BK210.out) hb); have n2_ := As0.mk (bkb (g := gb211) (by (with_reducible repeat first | refine bkN ?_ _ | refine bkd ?_ | refine bka ?_ _); exact BK211.out) hb); have n3_ := As0.mk (bsp (by repeat (with_reducible first | exact HB.out | apply bal | apply pbN | apply bdw | refine bst ?_ GE210.out | refine bst ?_ GE211.out)) hb); have n4_ := As0.mk (hbox); have n5_ := As0.mk ((by rw [hg]; exact (bsz (by repeat (with_reducible first | exact HB.out | apply bal | apply pbN | apply bdw | refine bst ?_ GE210.out | refine bst ?_ GE211.out))) : w.heap.size ≤ gb217)); have n6_ := As0.mk ((by rw [hg]; exact (bsz (by repeat (with_reducible first | exact HB.out | apply bal | apply pbN | apply bdw | refine bst ?_ GE210.out | refine bst ?_ GE211.out))) : w.heap.size ≤ gb217)); have n7_ := As0.mk ((by rw [hg]; exact Nat.ne_of_lt (blk_lt (g := gb210) (o := .cells #[.slice A0_0 l0_0.length c0_0, .func (.func 29) #[] #[], .int .i64 a0_2, .map none, .map (some B)] 55 (0, 0)) (by (with_reducible repeat first | refine bkN ?_ _ | refine bkd ?_ | refine bka ?_ _); exact BK210.out)) : gb210 ≠ gb217)); have n8_ := As0.mk ((by rw [hg]; exact Nat.ne_of_gt (blk_lt (g := gb210) (o := .cells #[.slice A0_0 l0_0.length c0_0, .func (.func 29) #[] #[], .int .i64 a0_2, .map none, .map (some B)] 55 (0, 0)) (by (with_reducible repeat first | refine bkN ?_ _ | refine bkd ?_ | refine bka ?_ _); exact BK210.out)) : gb217 ≠ gb210)); have n9_ := As0.mk ((by rw [hg]; exact Nat.ne_of_lt (blk_lt (g := gb211) (o := .cells #[.int .i64 x253000_2, .int .i64 x253001_2, .int .i64 x253002_2] 63 (0, 0)) (by (with_reducible repeat first | refine bkN ?_ _ | refine bkd ?_ | refine bka ?_ _); exact BK211.out)) : gb211 ≠ gb217)); have n10_ := As0.mk ((by rw [hg]; exact Nat.ne_of_gt (blk_lt (g := gb211) (o := .cells #[.int .i64 x253000_2, .int .i64 x253001_2, .int .i64 x253002_2] 63 (0, 0)) (by (with_reducible repeat first | refine bkN ?_ _ | refine bkd ?_ | refine bka ?_ _); exact BK211.out)) : gb217 ≠ gb211)); clear HO_9; clear BK210; clear BK211; clear HB; have HO_9 := n0_; have BK210 := n1_; have BK211 := n2_; have HB := n3_; have BK217 := n4_; have GW217 := n5_; have GE217 := n6_; have NB210_217 := n7_; have NB217_210 := n8_; have NB211_217 := n9_; have NB217_211 := n10_; clear n0_ n1_ n2_ n3_ n4_ n5_ n6_ n7_ n8_ n9_ n10_; clear hb hbox hg; have hnb56 := NB217_210.out; have hnc56 := NB210_217.out; have hnb57 := NB217_211.out; have hnc57 := NB211_217.out; have hcz58_0 : w55.cell? ⟨gb217, 0, none⟩ = some (.int .i64 0) := (bkc BK217.out 0).trans rfl; have hcz58_1 : w55.cell? ⟨gb217, 1, none⟩ = some (.int .i64 0) := (bkc BK217.out 1).trans rfl; have hcz58_2 : w55.cell? ⟨gb217, 2, none⟩ = some (.int .i64 0) := (bkc BK217.out 2).trans rfl; have hfz58_0 := bkf BK217.out 0; have hfz58_1 := bkf BK217.out 1; have hfz58_2 := bkf BK217.out 2))
            have n0_ : As0 (Kd.R (Kd.int .i64) 2 (((w55.setCell ⟨gb217, 0, none⟩ (.int .i64 t213)).setCell ⟨gb217, 1, none⟩ (.int .i64 t214)).setCell ⟨gb217, 2, none⟩ (.int .i64 t215)) w.heap.size (fun _ => True) u9 x9_2) := ⟨by (with_reducible repeat (first | apply Kd.R_alloc | apply Kd.R_drewN | apply Kd.R_drew)); exact Kd.R_mono (Kd.R_far (p := ⟨gb217, 2, none⟩) (Kd.R_far (p := ⟨gb217, 1, none⟩) (Kd.R_far (p := ⟨gb217, 0, none⟩) (Kd.R_types HO_9.out BK217.out (by decide)) (fun _ hk => hk.2) (.int .i64 t213)) (fun _ hk => hk.2) (.int .i64 t214)) (fun _ hk => hk.2) (.int .i64 t215)) (fun _ hk => trivial)⟩
            have n1_ : As0 ((((w55.setCell ⟨gb217, 0, none⟩ (.int .i64 t213)).setCell ⟨gb217, 1, none⟩ (.int .i64 t214)).setCell ⟨gb217, 2, none⟩ (.int .i64 t215)).heap[gb210]? = some (.cells #[.slice A0_0 l0_0.length c0_0, .func (.func 29) #[] #[], .int .i64 a0_2, .map none, .map (some B)] 55 (0, 0))) := ⟨by (with_reducible repeat first | refine bkN ?_ _ | refine bkd ?_ | refine bka ?_ _); refine blk_far ?_ NB210_217.out _; (with_reducible repeat first | refine bkN ?_ _ | refine bkd ?_ | refine bka ?_ _); refine blk_far ?_ NB210_217.out _; (with_reducible repeat first | refine bkN ?_ _ | refine bkd ?_ | refine bka ?_ _); refine blk_far ?_ NB210_217.out _; (with_reducible repeat first | refine bkN ?_ _ | refine bkd ?_ | refine bka ?_ _); exact BK210.out⟩
            have n2_ : As0 ((((w55.setCell ⟨gb217, 0, none⟩ (.int .i64 t213)).setCell ⟨gb217, 1, none⟩ (.int .i64 t214)).setCell ⟨gb217, 2, none⟩ (.int .i64 t215)).heap[gb211]? = some (.cells #[.int .i64 x253000_2, .int .i64 x253001_2, .int .i64 x253002_2] 63 (0, 0))) := ⟨by (with_reducible repeat first | refine bkN ?_ _ | refine bkd ?_ | refine bka ?_ _); refine blk_far ?_ NB211_217.out _; (with_reducible repeat first | refine bkN ?_ _ | refine bkd ?_ | refine bka ?_ _); refine blk_far ?_ NB211_217.out _; (with_reducible repeat first | refine bkN ?_ _ | refine bkd ?_ | refine bka ?_ _); refine blk_far ?_ NB211_217.out _; (with_reducible repeat first | refine bkN ?_ _ | refine bkd ?_ | refine bka ?_ _); exact BK211.out⟩
            have n3_ : As0 ((((w55.setCell ⟨gb217, 0, none⟩ (.int .i64 t213)).setCell ⟨gb217, 1, none⟩ (.int .i64 t214)).setCell ⟨gb217, 2, none⟩ (.int .i64 t215)).heap[gb217]? = some (.cells #[.int .i64 t213, .int .i64 t214, .int .i64 t215] 63 (0, 0))) := ⟨by (with_reducible repeat first | refine bkN ?_ _ | refine bkd ?_ | refine bka ?_ _); refine blk_put (cs := #[.int .i64 t213, .int .i64 t214, .int .i64 0]) ?_ 2 _ rfl; (with_reducible repeat first | refine bkN ?_ _ | refine bkd ?_ | refine bka ?_ _); refine blk_put (cs := #[.int .i64 t213, .int .i64 0, .int .i64 0]) ?_ 1 _ rfl; (with_reducible repeat first | refine bkN ?_ _ | refine bkd ?_ | refine bka ?_ _); refine blk_put (cs := #[.int .i64 0, .int .i64 0, .int .i64 0]) ?_ 0 _ rfl; (with_reducible repeat first | refine bkN ?_ _ | refine bkd ?_ | refine bka ?_ _); exact BK217.out⟩
            have n4_ : As0 (Below w.heap.size w (((w55.setCell ⟨gb217, 0, none⟩ (.int .i64 t213)).setCell ⟨gb217, 1, none⟩ (.int .i64 t214)).setCell ⟨gb217, 2, none⟩ (.int .i64 t215))) := ⟨by repeat (with_reducible first | exact HB.out | apply bal | apply pbN | apply bdw | refine bst ?_ GE210.out | refine bst ?_ GE211.out | refine bst ?_ GE217.out)⟩
            have HM_ : As0 (MemoD (mixF l0_0 a0_2) B D_ w (((w55.setCell ⟨gb217, 0, none⟩ (.int .i64 t213)).setCell ⟨gb217, 1, none⟩ (.int .i64 t214)).setCell ⟨gb217, 2, none⟩ (.int .i64 t215))) := ⟨(by repeat (with_reducible first | exact HM.out | apply mal | apply mdN | apply mdw | apply mst (hne := NM210.out) | apply mst (hne := NM211.out) | apply mst (hne := NM217.out)))⟩
            clear HM
            (try clear HO_9)
            (try clear BK210)
            (try clear BK211)
            (try clear BK217)
            (try clear HB)
            generalize (((w55.setCell ⟨gb217, 0, none⟩ (.int .i64 t213)).setCell ⟨gb217, 1, none⟩ (.int .i64 t214)).setCell ⟨gb217, 2, none⟩ (.int .i64 t215)) = w59 at HM_ n0_ n1_ n2_ n3_ n4_ ⊢
            have HM := HM_
            clear HM_
            have HO_9 := n0_
            have BK210 := n1_
            have BK211 := n2_
            have BK217 := n3_
            have HB := n4_
            clear n0_ n1_ n2_ n3_ n4_
            have n0_ := As0.mk (Kd.R_drew HO_9.out)
            have n1_ := As0.mk (bkd BK210.out)
            have n2_ := As0.mk (bkd BK211.out)
            have n3_ := As0.mk (bkd BK217.out)
            have n4_ := As0.mk (bdw HB.out)
            replace HM := As0.mk (mdw HM.out)
            clear HO_9
            clear BK210
            clear BK211
            clear BK217
            clear HB
            have HO_9 := n0_
            have BK210 := n1_
            have BK211 := n2_
            have BK217 := n3_
            have HB := n4_
            clear n0_ n1_ n2_ n3_ n4_
            have p220 : 0 ≤ (x253000_2 : Int) := of_decide_eq_true (by assumption)
            have q220 : x253000_2 < (l0_0.length : Int) := of_decide_eq_true (by assumption)
            obtain ⟨ad220, e220, hx220_0, hx220_1, hx220_2, hx220_3⟩ := at_T46 HR0_0.out x253000_2 p220 q220
            have hw220_3 := hx220_3
            have hw220_2 := hx220_2
            have hw220_1 := hx220_1
            have hw220_0 := hx220_0
            cases e220
            replace hx220_0 := (HB.out.cell (blt w _ hx220_0)).trans hx220_0
            replace hx220_1 := (HB.out.cell (blt w _ hx220_1)).trans hx220_1
            replace hx220_2 := (HB.out.cell (blt w _ hx220_2)).trans hx220_2
            replace hx220_3 := (HB.out.cell (blt w _ hx220_3)).trans hx220_3
            replace p220 := eq_true p220
            replace q220 := eq_true q220
            refine start_ (n := 28) (S := fun w' => w'.cell? ⟨gb210, 0, none⟩ = some (.slice (some ad220) l0_0.length c0_0) ∧ w'.cell? ⟨gb210, 1, none⟩ = some (.func (.func 29) #[] #[]) ∧ w'.cell? ⟨gb210, 2, none⟩ = some (.int .i64 a0_2) ∧ w'.cell? ⟨gb210, 3, none⟩ = some (.map none) ∧ w'.cell? ⟨gb210, 4, none⟩ = some (.map (some B)) ∧ w'.cell? ⟨gb217, 0, none⟩ = some (.int .i64 t213) ∧ w'.cell? ⟨gb217, 1, none⟩ = some (.int .i64 t214) ∧ w'.cell? ⟨gb217, 2, none⟩ = some (.int .i64 t215) ∧ w'.cell? ⟨gb211, 0, none⟩ = some (.int .i64 x253000_2) ∧ w'.cell? ⟨gb211, 1, none⟩ = some (.int .i64 x253001_2) ∧ w'.cell? ⟨gb211, 2, none⟩ = some (.int .i64 x253002_2) ∧ w'.cell? (ad220.add ((x253000_2).toNat * 4)) = some (.string ((rd_T46 l0_0 x253000_2).f0)) ∧ w'.cell? ⟨(ad220.add ((x253000_2).toNat * 4)).block, (ad220.add ((x253000_2).toNat * 4)).off + 1, none⟩ = some (.int .i64 ((rd_T46 l0_0 x253000_2).f1)) ∧ w'.cell? ⟨(ad220.add ((x253000_2).toNat * 4)).block, (ad220.add ((x253000_2).toNat * 4)).off + 2, none⟩ = some (.int .i64 ((rd_T46 l0_0 x253000_2).f2)) ∧ w'.cell? ⟨(ad220.add ((x253000_2).toNat * 4)).block, (ad220.add ((x253000_2).toNat * 4)).off + 3, none⟩ = some (.int .i64 ((rd_T46 l0_0 x253000_2).f3))) (ds := []) #[false, false, false, false, false, false, false, false, false, false, false, false, false, false, false, false, false, false, false, false, false, false, false, false, false, false, false, false] (by kernel_rfl) rfl rfl ⟨(bkc BK210.out 0).trans rfl, (bkc BK210.out 1).trans rfl, (bkc BK210.out 2).trans rfl, (bkc BK210.out 3).trans rfl, (bkc BK210.out 4).trans rfl, (bkc BK217.out 0).trans rfl, (bkc BK217.out 1).trans rfl, (bkc BK217.out 2).trans rfl, (bkc BK211.out 0).trans rfl, (bkc BK211.out 1).trans rfl, (bkc BK211.out 2).trans rfl, ((HB.out.cell (blt w _ hw220_0)).trans hw220_0), ((HB.out.cell (blt w _ hw220_1)).trans hw220_1), ((HB.out.cell (blt w _ hw220_2)).trans hw220_2), ((HB.out.cell (blt w _ hw220_3)).trans hw220_3)⟩ (fun hHeld => ?_); refine with_tabW impl_mixes_best.tab11 impl_mixes_best.bits11 (fun HT_ HW_ => ?_)
            generalize w59.drew = w60 at HM HO_9 BK210 BK211 BK217 HB hx220_0 hx220_1 hx220_2 hx220_3 hHeld ⊢
            refine pure_ (i := 0) (N := some 39) (v := ?_) (a' := ?_) #[true, false, false, false, false, false, false, false, false, false, false, false, false, false, false, false, false, false, false, false, false, false, false, false, false, false, false, false] rfl rfl (any_of HT_.out (by kernel_rfl)) (fun _ _ _ h => h) (Or.inl ⟨by rfl, ?_⟩) ?_ ?_
            rotate_left
            ·intro w'
             go_simp
             with_reducible rfl
            rotate_left
            ·simp only [Act.put, sla, slz, sls, i64_w, i32_w]
             rfl
            refine pure_ (i := 1) (N := some 40) (v := ?_) (a' := ?_) #[true, true, false, false, false, false, false, false, false, false, false, false, false, false, false, false, false, false, false, false, false, false, false, false, false, false, false, false] rfl rfl (any_of HT_.out (by kernel_rfl)) (fun _ _ _ h => h) (Or.inl ⟨by rfl, ?_⟩) ?_ ?_
            rotate_left
            ·intro w'
             go_simp
             with_reducible rfl
            rotate_left
            ·simp only [Act.put, sla, slz, sls, i64_w, i32_w]
             rfl
            refine take_ (i := 2) (N := some 41) (v := ?_) (a' := ?_) #[true, true, true, false, false, false, false, false, false, false, false, false, false, false, false, false, false, false, false, false, false, false, false, false, false, false, false, false] rfl rfl (take_ofW HT_.out HW_.out (by kernel_rfl)) (fun _ _ _ h => h) (Or.inl ⟨by rfl, ?_⟩) hHeld ?_ ?_
            rotate_left
            ·rintro w' ⟨s0, s1, s2, s3, s4, s5, s6, s7, s8, s9, s10, s11, s12, s13, s14⟩
             go_simp
             with_reducible rfl
            rotate_left
            ·simp only [Act.put, sla, slz, sls, i64_w, i32_w]
             rfl
            refine take_ (i := 3) (N := some 42) (v := ?_) (a' := ?_) #[true, true, true, true, false, false, false, false, false, false, false, false, false, false, false, false, false, false, false, false, false, false, false, false, false, false, false, false] rfl rfl (take_ofW HT_.out HW_.out (by kernel_rfl)) (fun _ _ _ h => h) (Or.inl ⟨by rfl, ?_⟩) hHeld ?_ ?_
            rotate_left
            ·rintro w' ⟨s0, s1, s2, s3, s4, s5, s6, s7, s8, s9, s10, s11, s12, s13, s14⟩
             go_simp
             with_reducible rfl
            rotate_left
            ·simp only [Act.put, sla, slz, sls, i64_w, i32_w]
             rfl
            refine one_ (i := 4) (N := some 43) #[true, true, true, true, true, false, false, false, false, false, false, false, false, false, false, false, false, false, false, false, false, false, false, false, false, false, false, false] rfl rfl (one_of HT_.out (by kernel_rfl)) (by decide) (fun K hK => ?_)
            refine goes_ Try.func38 (by kernel_rfl) rfl #[.agg #[.slice (some ad220) l0_0.length c0_0, .func (.func 29) #[] #[], .int .i64 a0_2, .map none, .map (some B)], .agg #[.int .i64 t213, .int .i64 t214, .int .i64 t215]] (by rfl) rfl rfl (by (try simp only [List.map_toArray, List.map_cons, List.map_nil]); first | done | rfl | (simp only [List.length_drop, List.length_take]; rfl)) ?_
            with_reducible refine (impl_mixes_least.calls k2 _ _ l0_0 a0_2 B t213 t214 t215 t218 _ w _ HV.out (after_box HV.out HIX.out HXB.out.1 A23.out) HB0.out (by repeat (with_reducible first | exact HB.out | apply bal | apply pbN | apply bdw | refine bst ?_ GE210.out | refine bst ?_ GE211.out | refine bst ?_ GE217.out)) (memo_self (by repeat (with_reducible first | exact HM.out | apply mal | apply mdN | apply mdw | apply mst (hne := NM210.out) | apply mst (hne := NM211.out) | apply mst (hne := NM217.out)))) ?side1 ?side2 A25.out).mono ?_
            (case side1 => exact HR0_0.out)
            (case side2 => exact HC0_0.out)
            rintro e w61 ⟨rfl, hb, D2_, hM⟩
            refine ⟨_, rfl, ?_⟩
            have HMN_ := As0.mk (memo_trans (by repeat (with_reducible first | exact HM.out | apply mal | apply mdN | apply mdw | apply mst (hne := NM210.out) | apply mst (hne := NM211.out) | apply mst (hne := NM217.out))) hM)
            have n0_ := As0.mk (memo_R hM (by repeat (with_reducible first | exact HM.out | apply mal | apply mdN | apply mdw | apply mst (hne := NM210.out) | apply mst (hne := NM211.out) | apply mst (hne := NM217.out))) (by (with_reducible repeat (first | apply Kd.R_alloc | apply Kd.R_drewN | apply Kd.R_drew)); exact HO_9.out))
            have n1_ := As0.mk (memo_blk (g := gb210) (o := .cells #[.slice (some ad220) l0_0.length c0_0, .func (.func 29) #[] #[], .int .i64 a0_2, .map none, .map (some B)] 55 (0, 0)) hM (by (with_reducible repeat first | refine bkN ?_ _ | refine bkd ?_ | refine bka ?_ _); exact BK210.out) NM210.out.1)
            have n2_ := As0.mk (memo_blk (g := gb211) (o := .cells #[.int .i64 x253000_2, .int .i64 x253001_2, .int .i64 x253002_2] 63 (0, 0)) hM (by (with_reducible repeat first | refine bkN ?_ _ | refine bkd ?_ | refine bka ?_ _); exact BK211.out) NM211.out.1)
            have n3_ := As0.mk (memo_blk (g := gb217) (o := .cells #[.int .i64 t213, .int .i64 t214, .int .i64 t215] 63 (0, 0)) hM (by (with_reducible repeat first | refine bkN ?_ _ | refine bkd ?_ | refine bka ?_ _); exact BK217.out) NM217.out.1)
            have n4_ := As0.mk (hb)
            clear HO_9
            clear BK210
            clear BK211
            clear BK217
            clear HB
            have HO_9 := n0_
            have BK210 := n1_
            have BK211 := n2_
            have BK217 := n3_
            have HB := n4_
            clear n0_ n1_ n2_ n3_ n4_
            clear HM
            have HM := HMN_
            clear HMN_ hM
            (try clear hb)
            (try clear hb2)
            (try clear hk)
            (try clear hi)
            refine hK.out _ _ ⟨(bkc BK210.out 0).trans rfl, (bkc BK210.out 1).trans rfl, (bkc BK210.out 2).trans rfl, (bkc BK210.out 3).trans rfl, (bkc BK210.out 4).trans rfl, (bkc BK217.out 0).trans rfl, (bkc BK217.out 1).trans rfl, (bkc BK217.out 2).trans rfl, (bkc BK211.out 0).trans rfl, (bkc BK211.out 1).trans rfl, (bkc BK211.out 2).trans rfl, ((HB.out.cell (blt w _ hw220_0)).trans hw220_0), ((HB.out.cell (blt w _ hw220_1)).trans hw220_1), ((HB.out.cell (blt w _ hw220_2)).trans hw220_2), ((HB.out.cell (blt w _ hw220_3)).trans hw220_3)⟩ (fun hHeld => ?_)
            clear hK K
            refine norm_ (a' := ?_) ?_ ?_
            rotate_left
            ·show Act.put _ (some 43) _ = _
             simp only [Act.put, sla, slz, sls, i64_w, i32_w]
             rfl
            refine pure_ (i := 5) (N := some 44) (v := ?_) (a' := ?_) #[true, true, true, true, true, true, false, false, false, false, false, false, false, false, false, false, false, false, false, false, false, false, false, false, false, false, false, false] rfl rfl (any_of HT_.out (by kernel_rfl)) (fun _ _ _ h => h) (Or.inl ⟨by rfl, ?_⟩) ?_ ?_
            rotate_left
            ·intro w'
             go_simp
             with_reducible rfl
            rotate_left
            ·simp only [Act.put, sla, slz, sls, i64_w, i32_w]
             rfl
            refine pure_ (i := 6) (N := some 45) (v := ?_) (a' := ?_) #[true, true, true, true, true, true, true, false, false, false, false, false, false, false, false, false, false, false, false, false, false, false, false, false, false, false, false, false] rfl rfl (any_of HT_.out (by kernel_rfl)) (fun _ _ _ h => h) (Or.inl ⟨by rfl, ?_⟩) ?_ ?_
            rotate_left
            ·intro w'
             go_simp
             with_reducible rfl
            rotate_left
            ·simp only [Act.put, sla, slz, sls, i64_w, i32_w]
             rfl
            refine pure_ (i := 7) (N := some 46) (v := ?_) (a' := ?_) #[true, true, true, true, true, true, true, true, false, false, false, false, false, false, false, false, false, false, false, false, false, false, false, false, false, false, false, false] rfl rfl (any_of HT_.out (by kernel_rfl)) (fun _ _ _ h => h) (Or.inl ⟨by rfl, ?_⟩) ?_ ?_
            rotate_left
            ·intro w'
             go_simp
             with_reducible rfl
            rotate_left
            ·simp only [Act.put, sla, slz, sls, i64_w, i32_w]
             rfl
            refine pure_ (i := 11) (N := some 50) (v := ?_) (a' := ?_) #[true, true, true, true, true, true, true, true, false, false, false, true, false, false, false, false, false, false, false, false, false, false, false, false, false, false, false, false] rfl rfl (any_of HT_.out (by kernel_rfl)) (fun _ _ _ h => h) (Or.inl ⟨by rfl, ?_⟩) ?_ ?_
            rotate_left
            ·intro w'
             go_simp
             with_reducible rfl
            rotate_left
            ·simp only [Act.put, sla, slz, sls, i64_w, i32_w]
             rfl
            refine pure_ (i := 12) (N := some 51) (v := ?_) (a' := ?_) #[true, true, true, true, true, true, true, true, false, false, false, true, true, false, false, false, false, false, false, false, false, false, false, false, false, false, false, false] rfl rfl (any_of HT_.out (by kernel_rfl)) (fun _ _ _ h => h) (Or.inl ⟨by rfl, ?_⟩) ?_ ?_
            rotate_left
            ·intro w'
             go_simp
             with_reducible rfl
            rotate_left
            ·simp only [Act.put, sla, slz, sls, i64_w, i32_w]
             rfl
            refine pure_ (i := 14) (N := some 53) (v := ?_) (a' := ?_) #[true, true, true, true, true, true, true, true, false, false, false, true, true, false, true, false, false, false, false, false, false, false, false, false, false, false, false, false] rfl rfl (any_of HT_.out (by kernel_rfl)) (fun _ _ _ h => h) (Or.inl ⟨by rfl, ?_⟩) ?_ ?_
            rotate_left
            ·intro w'
             go_simp
             with_reducible rfl
            rotate_left
            ·simp only [Act.put, sla, slz, sls, i64_w, i32_w]
             rfl
            refine pure_ (i := 16) (N := some 55) (v := ?_) (a' := ?_) #[true, true, true, true, true, true, true, true, false, false, false, true, true, false, true, false, true, false, false, false, false, false, false, false, false, false, false, false] rfl rfl (any_of HT_.out (by kernel_rfl)) (fun _ _ _ h => h) (Or.inl ⟨by rfl, ?_⟩) ?_ ?_
            rotate_left
            ·intro w'
             go_simp
             with_reducible rfl
            rotate_left
            ·simp only [Act.put, sla, slz, sls, i64_w, i32_w]
             rfl
            refine take_ (i := 8) (N := some 47) (v := ?_) (a' := ?_) #[true, true, true, true, true, true, true, true, true, false, false, true, true, false, true, false, true, false, false, false, false, false, false, false, false, false, false, false] rfl rfl (take_ofW HT_.out HW_.out (by kernel_rfl)) (fun _ _ _ h => h) (Or.inl ⟨by rfl, ?_⟩) hHeld ?_ ?_
            rotate_left
            ·rintro w' ⟨s0, s1, s2, s3, s4, s5, s6, s7, s8, s9, s10, s11, s12, s13, s14⟩
             go_simp
             with_reducible rfl
            rotate_left
            ·simp only [Act.put, sla, slz, sls, i64_w, i32_w]
             rfl
            refine take_ (i := 9) (N := some 48) (v := ?_) (a' := ?_) #[true, true, true, true, true, true, true, true, true, true, false, true, true, false, true, false, true, false, false, false, false, false, false, false, false, false, false, false] rfl rfl (take_ofW HT_.out HW_.out (by kernel_rfl)) (fun _ _ _ h => h) (Or.inl ⟨by rfl, ?_⟩) hHeld ?_ ?_
            rotate_left
            ·rintro w' ⟨s0, s1, s2, s3, s4, s5, s6, s7, s8, s9, s10, s11, s12, s13, s14⟩
             go_simp
             with_reducible rfl
            rotate_left
            ·simp only [Act.put, sla, slz, sls, i64_w, i32_w]
             rfl
            refine take_ (i := 13) (N := some 52) (v := ?_) (a' := ?_) #[true, true, true, true, true, true, true, true, true, true, false, true, true, true, true, false, true, false, false, false, false, false, false, false, false, false, false, false] rfl rfl (take_ofW HT_.out HW_.out (by kernel_rfl)) (fun _ _ _ h => h) (Or.inl ⟨by rfl, ?_⟩) hHeld ?_ ?_
            rotate_left
            ·rintro w' ⟨s0, s1, s2, s3, s4, s5, s6, s7, s8, s9, s10, s11, s12, s13, s14⟩
             go_simp
             with_reducible rfl
            rotate_left
            ·simp only [Act.put, sla, slz, sls, i64_w, i32_w]
             rfl
            refine take_ (i := 15) (N := some 54) (v := ?_) (a' := ?_) #[true, true, true, true, true, true, true, true, true, true, false, true, true, true, true, true, true, false, false, false, false, false, false, false, false, false, false, false] rfl rfl (take_ofW HT_.out HW_.out (by kernel_rfl)) (fun _ _ _ h => h) (Or.inl ⟨by rfl, ?_⟩) hHeld ?_ ?_
            rotate_left
            ·rintro w' ⟨s0, s1, s2, s3, s4, s5, s6, s7, s8, s9, s10, s11, s12, s13, s14⟩
             go_simp
             with_reducible rfl
            rotate_left
            ·simp only [Act.put, sla, slz, sls, i64_w, i32_w]
             rfl
            refine take_ (i := 17) (N := some 56) (v := ?_) (a' := ?_) #[true, true, true, true, true, true, true, true, true, true, false, true, true, true, true, true, true, true, false, false, false, false, false, false, false, false, false, false] rfl rfl (take_ofW HT_.out HW_.out (by kernel_rfl)) (fun _ _ _ h => h) (Or.inl ⟨by rfl, ?_⟩) hHeld ?_ ?_
            rotate_left
            ·rintro w' ⟨s0, s1, s2, s3, s4, s5, s6, s7, s8, s9, s10, s11, s12, s13, s14⟩
             go_simp
             with_reducible rfl
            rotate_left
            ·simp only [Act.put, sla, slz, sls, i64_w, i32_w]
             rfl
            refine pure_ (i := 18) (N := some 57) (v := ?_) (a' := ?_) #[true, true, true, true, true, true, true, true, true, true, false, true, true, true, true, true, true, true, true, false, false, false, false, false, false, false, false, false] rfl rfl (any_of HT_.out (by kernel_rfl)) (fun _ _ _ h => h) (Or.inl ⟨by rfl, ?_⟩) ?_ ?_
            rotate_left
            ·intro w'
             go_simp
             with_reducible rfl
            rotate_left
            ·simp only [Act.put, sla, slz, sls, i64_w, i32_w]
             rfl
            refine take_ (i := 19) (N := some 58) (v := ?_) (a' := ?_) #[true, true, true, true, true, true, true, true, true, true, false, true, true, true, true, true, true, true, true, true, false, false, false, false, false, false, false, false] rfl rfl (take_ofW HT_.out HW_.out (by kernel_rfl)) (fun _ _ _ h => h) (Or.inl ⟨by rfl, ?_⟩) hHeld ?_ ?_
            rotate_left
            ·rintro w' ⟨s0, s1, s2, s3, s4, s5, s6, s7, s8, s9, s10, s11, s12, s13, s14⟩
             go_simp
             with_reducible rfl
            rotate_left
            ·simp only [Act.put, sla, slz, sls, i64_w, i32_w]
             rfl
            refine take_ (i := 23) (N := some 62) (v := ?_) (a' := ?_) #[true, true, true, true, true, true, true, true, true, true, false, true, true, true, true, true, true, true, true, true, false, false, false, true, false, false, false, false] rfl rfl (take_ofW HT_.out HW_.out (by kernel_rfl)) (fun _ _ _ h => h) (Or.inl ⟨by rfl, ?_⟩) hHeld ?_ ?_
            rotate_left
            ·rintro w' ⟨s0, s1, s2, s3, s4, s5, s6, s7, s8, s9, s10, s11, s12, s13, s14⟩
             go_simp
             with_reducible rfl
            rotate_left
            ·simp only [Act.put, sla, slz, sls, i64_w, i32_w]
             rfl
            refine take_ (i := 24) (N := some 63) (v := ?_) (a' := ?_) #[true, true, true, true, true, true, true, true, true, true, false, true, true, true, true, true, true, true, true, true, false, false, false, true, true, false, false, false] rfl rfl (take_ofW HT_.out HW_.out (by kernel_rfl)) (fun _ _ _ h => h) (Or.inl ⟨by rfl, ?_⟩) hHeld ?_ ?_
            rotate_left
            ·rintro w' ⟨s0, s1, s2, s3, s4, s5, s6, s7, s8, s9, s10, s11, s12, s13, s14⟩
             go_simp
             with_reducible rfl
            rotate_left
            ·simp only [Act.put, sla, slz, sls, i64_w, i32_w]
             rfl
            refine one_ (i := 10) (N := some 49) #[true, true, true, true, true, true, true, true, true, true, true, true, true, true, true, true, true, true, true, true, false, false, false, true, true, false, false, false] rfl rfl (one_of HT_.out (by kernel_rfl)) (by decide) (fun K hK => ?_)
            refine goes_ Try.func38 (by kernel_rfl) rfl #[.agg #[.slice (some ad220) l0_0.length c0_0, .func (.func 29) #[] #[], .int .i64 a0_2, .map none, .map (some B)], .agg #[.int .i64 t213, .int .i64 t214, .int .i64 t215]] (by rfl) rfl rfl (by (try simp only [List.map_toArray, List.map_cons, List.map_nil]); first | done | rfl | (simp only [List.length_drop, List.length_take]; rfl)) ?_
            with_reducible refine (impl_mixes_least.calls k2 _ _ l0_0 a0_2 B t213 t214 t215 t219 _ w _ HV.out (after_box HV.out HIX.out HXB.out.1 A23.out) HB0.out (by repeat (with_reducible first | exact HB.out | apply bal | apply pbN | apply bdw | refine bst ?_ GE210.out | refine bst ?_ GE211.out | refine bst ?_ GE217.out)) (memo_self (by repeat (with_reducible first | exact HM.out | apply mal | apply mdN | apply mdw | apply mst (hne := NM210.out) | apply mst (hne := NM211.out) | apply mst (hne := NM217.out)))) ?side1 ?side2 A27.out).mono ?_
            (case side1 => exact HR0_0.out)
            (case side2 => exact HC0_0.out)
            rintro e w62 ⟨rfl, hb, D2_, hM⟩
            refine ⟨_, rfl, ?_⟩
            have HMN_ := As0.mk (memo_trans (by repeat (with_reducible first | exact HM.out | apply mal | apply mdN | apply mdw | apply mst (hne := NM210.out) | apply mst (hne := NM211.out) | apply mst (hne := NM217.out))) hM)
            have n0_ := As0.mk (memo_R hM (by repeat (with_reducible first | exact HM.out | apply mal | apply mdN | apply mdw | apply mst (hne := NM210.out) | apply mst (hne := NM211.out) | apply mst (hne := NM217.out))) (by (with_reducible repeat (first | apply Kd.R_alloc | apply Kd.R_drewN | apply Kd.R_drew)); exact HO_9.out))
            have n1_ := As0.mk (memo_blk (g := gb210) (o := .cells #[.slice (some ad220) l0_0.length c0_0, .func (.func 29) #[] #[], .int .i64 a0_2, .map none, .map (some B)] 55 (0, 0)) hM (by (with_reducible repeat first | refine bkN ?_ _ | refine bkd ?_ | refine bka ?_ _); exact BK210.out) NM210.out.1)
            have n2_ := As0.mk (memo_blk (g := gb211) (o := .cells #[.int .i64 x253000_2, .int .i64 x253001_2, .int .i64 x253002_2] 63 (0, 0)) hM (by (with_reducible repeat first | refine bkN ?_ _ | refine bkd ?_ | refine bka ?_ _); exact BK211.out) NM211.out.1)
            have n3_ := As0.mk (memo_blk (g := gb217) (o := .cells #[.int .i64 t213, .int .i64 t214, .int .i64 t215] 63 (0, 0)) hM (by (with_reducible repeat first | refine bkN ?_ _ | refine bkd ?_ | refine bka ?_ _); exact BK217.out) NM217.out.1)
            have n4_ := As0.mk (hb)
            clear HO_9
            clear BK210
            clear BK211
            clear BK217
            clear HB
            have HO_9 := n0_
            have BK210 := n1_
            have BK211 := n2_
            have BK217 := n3_
            have HB := n4_
            clear n0_ n1_ n2_ n3_ n4_
            clear HM
            have HM := HMN_
            clear HMN_ hM
            (try clear hb)
            (try clear hb2)
            (try clear hk)
            (try clear hi)
            refine hK.out _ _ ⟨(bkc BK210.out 0).trans rfl, (bkc BK210.out 1).trans rfl, (bkc BK210.out 2).trans rfl, (bkc BK210.out 3).trans rfl, (bkc BK210.out 4).trans rfl, (bkc BK217.out 0).trans rfl, (bkc BK217.out 1).trans rfl, (bkc BK217.out 2).trans rfl, (bkc BK211.out 0).trans rfl, (bkc BK211.out 1).trans rfl, (bkc BK211.out 2).trans rfl, ((HB.out.cell (blt w _ hw220_0)).trans hw220_0), ((HB.out.cell (blt w _ hw220_1)).trans hw220_1), ((HB.out.cell (blt w _ hw220_2)).trans hw220_2), ((HB.out.cell (blt w _ hw220_3)).trans hw220_3)⟩ (fun hHeld => ?_)
            clear hK K
            refine norm_ (a' := ?_) ?_ ?_
            rotate_left
            ·show Act.put _ (some 49) _ = _
             simp only [Act.put, sla, slz, sls, i64_w, i32_w]
             rfl
            refine one_ (i := 20) (N := some 59) #[true, true, true, true, true, true, true, true, true, true, true, true, true, true, true, true, true, true, true, true, true, false, false, true, true, false, false, false] rfl rfl (one_of HT_.out (by kernel_rfl)) (by decide) (fun K hK => ?_)
            refine goesV_ Try.func29 (by kernel_rfl) rfl #[.agg #[.string ((rd_T46 l0_0 x253000_2).f0), .int .i64 ((rd_T46 l0_0 x253000_2).f1), .int .i64 ((rd_T46 l0_0 x253000_2).f2), .int .i64 ((rd_T46 l0_0 x253000_2).f3)]] (by rfl) rfl rfl (by rfl) (by (try simp only [List.map_toArray, List.map_cons, List.map_nil]); first | done | rfl | (simp only [List.length_drop, List.length_take]; rfl)) ?_
            with_reducible refine (impl_price.calls ((rd_T46 l0_0 x253000_2).f0) ((rd_T46 l0_0 x253000_2).f1) ((rd_T46 l0_0 x253000_2).f2) ((rd_T46 l0_0 x253000_2).f3) t221 _ A30.out).mono ?_
            rintro e w63 ⟨rfl, hb⟩
            refine ⟨_, rfl, ?_⟩
            have HM_ := As0.mk (memo_below (by repeat (with_reducible first | exact HM.out | apply mal | apply mdN | apply mdw | apply mst (hne := NM210.out) | apply mst (hne := NM211.out) | apply mst (hne := NM217.out))) hb); clear HM; have HM := HM_; clear HM_
            have n0_ := As0.mk (Kd.R_below (by (with_reducible repeat (first | apply Kd.R_alloc | apply Kd.R_drewN | apply Kd.R_drew)); exact HO_9.out) hb)
            have n1_ := As0.mk (bkb (g := gb210) (o := .cells #[.slice (some ad220) l0_0.length c0_0, .func (.func 29) #[] #[], .int .i64 a0_2, .map none, .map (some B)] 55 (0, 0)) (by (with_reducible repeat first | refine bkN ?_ _ | refine bkd ?_ | refine bka ?_ _); exact BK210.out) hb)
            have n2_ := As0.mk (bkb (g := gb211) (by (with_reducible repeat first | refine bkN ?_ _ | refine bkd ?_ | refine bka ?_ _); exact BK211.out) hb)
            have n3_ := As0.mk (bkb (g := gb217) (by (with_reducible repeat first | refine bkN ?_ _ | refine bkd ?_ | refine bka ?_ _); exact BK217.out) hb)
            have n4_ := As0.mk (bsp (by repeat (with_reducible first | exact HB.out | apply bal | apply pbN | apply bdw | refine bst ?_ GE210.out | refine bst ?_ GE211.out | refine bst ?_ GE217.out)) hb)
            clear HO_9
            clear BK210
            clear BK211
            clear BK217
            clear HB
            have HO_9 := n0_
            have BK210 := n1_
            have BK211 := n2_
            have BK217 := n3_
            have HB := n4_
            clear n0_ n1_ n2_ n3_ n4_
            (try clear hb)
            (try clear hb2)
            (try clear hk)
            (try clear hi)
            refine hK.out _ _ ⟨(bkc BK210.out 0).trans rfl, (bkc BK210.out 1).trans rfl, (bkc BK210.out 2).trans rfl, (bkc BK210.out 3).trans rfl, (bkc BK210.out 4).trans rfl, (bkc BK217.out 0).trans rfl, (bkc BK217.out 1).trans rfl, (bkc BK217.out 2).trans rfl, (bkc BK211.out 0).trans rfl, (bkc BK211.out 1).trans rfl, (bkc BK211.out 2).trans rfl, ((HB.out.cell (blt w _ hw220_0)).trans hw220_0), ((HB.out.cell (blt w _ hw220_1)).trans hw220_1), ((HB.out.cell (blt w _ hw220_2)).trans hw220_2), ((HB.out.cell (blt w _ hw220_3)).trans hw220_3)⟩ (fun hHeld => ?_)
            clear hK K
            refine norm_ (a' := ?_) ?_ ?_
            rotate_left
            ·show Act.put _ (some 59) _ = _
             simp only [Act.put, sla, slz, sls, i64_w, i32_w]
             rfl
            refine pure_ (i := 21) (N := some 60) (v := ?_) (a' := ?_) #[true, true, true, true, true, true, true, true, true, true, true, true, true, true, true, true, true, true, true, true, true, true, false, true, true, false, false, false] rfl rfl (any_of HT_.out (by kernel_rfl)) (fun _ _ _ h => h) (Or.inl ⟨by rfl, ?_⟩) ?_ ?_
            rotate_left
            ·intro w'
             go_simp
             with_reducible rfl
            rotate_left
            ·simp only [Act.put, sla, slz, sls, i64_w, i32_w]
             rfl
            refine pure_ (i := 22) (N := some 61) (v := ?_) (a' := ?_) #[true, true, true, true, true, true, true, true, true, true, true, true, true, true, true, true, true, true, true, true, true, true, true, true, true, false, false, false] rfl rfl (any_of HT_.out (by kernel_rfl)) (fun _ _ _ h => h) (Or.inl ⟨by rfl, ?_⟩) ?_ ?_
            rotate_left
            ·intro w'
             go_simp
             with_reducible rfl
            rotate_left
            ·simp only [Act.put, sla, slz, sls, i64_w, i32_w]
             rfl
            refine one_ (i := 25) (N := some 64) #[true, true, true, true, true, true, true, true, true, true, true, true, true, true, true, true, true, true, true, true, true, true, true, true, true, true, false, false] rfl rfl (one_of HT_.out (by kernel_rfl)) (by decide) (fun K hK => ?_)
            refine goes_ Try.func38 (by kernel_rfl) rfl #[.agg #[.slice (some ad220) l0_0.length c0_0, .func (.func 29) #[] #[], .int .i64 a0_2, .map none, .map (some B)], .agg #[.int .i64 x253000_2, .int .i64 x253001_2, .int .i64 x253002_2]] (by rfl) rfl rfl (by (try simp only [List.map_toArray, List.map_cons, List.map_nil]); first | done | rfl | (simp only [List.length_drop, List.length_take]; rfl)) ?_
            with_reducible refine (impl_mixes_least.calls k2 _ _ l0_0 a0_2 B x253000_2 x253001_2 x253002_2 t222 _ w _ HV.out HIX.out HB0.out (by repeat (with_reducible first | exact HB.out | apply bal | apply pbN | apply bdw | refine bst ?_ GE210.out | refine bst ?_ GE211.out | refine bst ?_ GE217.out)) (memo_self (by repeat (with_reducible first | exact HM.out | apply mal | apply mdN | apply mdw | apply mst (hne := NM210.out) | apply mst (hne := NM211.out) | apply mst (hne := NM217.out)))) ?side1 ?side2 A31.out).mono ?_
            (case side1 => exact HR0_0.out)
            (case side2 => exact HC0_0.out)
            rintro e w64 ⟨rfl, hb, D2_, hM⟩
            refine ⟨_, rfl, ?_⟩
            have HMN_ := As0.mk (memo_trans (by repeat (with_reducible first | exact HM.out | apply mal | apply mdN | apply mdw | apply mst (hne := NM210.out) | apply mst (hne := NM211.out) | apply mst (hne := NM217.out))) hM)
            have n0_ := As0.mk (memo_R hM (by repeat (with_reducible first | exact HM.out | apply mal | apply mdN | apply mdw | apply mst (hne := NM210.out) | apply mst (hne := NM211.out) | apply mst (hne := NM217.out))) (by (with_reducible repeat (first | apply Kd.R_alloc | apply Kd.R_drewN | apply Kd.R_drew)); exact HO_9.out))
            have n1_ := As0.mk (memo_blk (g := gb210) (o := .cells #[.slice (some ad220) l0_0.length c0_0, .func (.func 29) #[] #[], .int .i64 a0_2, .map none, .map (some B)] 55 (0, 0)) hM (by (with_reducible repeat first | refine bkN ?_ _ | refine bkd ?_ | refine bka ?_ _); exact BK210.out) NM210.out.1)
            have n2_ := As0.mk (memo_blk (g := gb211) (o := .cells #[.int .i64 x253000_2, .int .i64 x253001_2, .int .i64 x253002_2] 63 (0, 0)) hM (by (with_reducible repeat first | refine bkN ?_ _ | refine bkd ?_ | refine bka ?_ _); exact BK211.out) NM211.out.1)
            have n3_ := As0.mk (memo_blk (g := gb217) (o := .cells #[.int .i64 t213, .int .i64 t214, .int .i64 t215] 63 (0, 0)) hM (by (with_reducible repeat first | refine bkN ?_ _ | refine bkd ?_ | refine bka ?_ _); exact BK217.out) NM217.out.1)
            have n4_ := As0.mk (hb)
            clear HO_9
            clear BK210
            clear BK211
            clear BK217
            clear HB
            have HO_9 := n0_
            have BK210 := n1_
            have BK211 := n2_
            have BK217 := n3_
            have HB := n4_
            clear n0_ n1_ n2_ n3_ n4_
            clear HM
            have HM := HMN_
            clear HMN_ hM
            (try clear hb)
            (try clear hb2)
            (try clear hk)
            (try clear hi)
            refine hK.out _ _ ⟨(bkc BK210.out 0).trans rfl, (bkc BK210.out 1).trans rfl, (bkc BK210.out 2).trans rfl, (bkc BK210.out 3).trans rfl, (bkc BK210.out 4).trans rfl, (bkc BK217.out 0).trans rfl, (bkc BK217.out 1).trans rfl, (bkc BK217.out 2).trans rfl, (bkc BK211.out 0).trans rfl, (bkc BK211.out 1).trans rfl, (bkc BK211.out 2).trans rfl, ((HB.out.cell (blt w _ hw220_0)).trans hw220_0), ((HB.out.cell (blt w _ hw220_1)).trans hw220_1), ((HB.out.cell (blt w _ hw220_2)).trans hw220_2), ((HB.out.cell (blt w _ hw220_3)).trans hw220_3)⟩ (fun hHeld => ?_)
            clear hK K
            refine norm_ (a' := ?_) ?_ ?_
            rotate_left
            ·show Act.put _ (some 64) _ = _
             simp only [Act.put, sla, slz, sls, i64_w, i32_w]
             rfl
            refine pure_ (i := 26) (N := some 65) (v := ?_) (a' := ?_) #[true, true, true, true, true, true, true, true, true, true, true, true, true, true, true, true, true, true, true, true, true, true, true, true, true, true, true, false] rfl rfl (any_of HT_.out (by kernel_rfl)) (fun _ _ _ h => h) (Or.inl ⟨by rfl, ?_⟩) ?_ ?_
            rotate_left
            ·intro w'
             go_simp
             with_reducible rfl
            rotate_left
            ·simp only [Act.put, sla, slz, sls, i64_w, i32_w]
             rfl
            refine pure_ (i := 27) (N := some 66) (v := ?_) (a' := ?_) #[true, true, true, true, true, true, true, true, true, true, true, true, true, true, true, true, true, true, true, true, true, true, true, true, true, true, true, true] rfl rfl (any_of HT_.out (by kernel_rfl)) (fun _ _ _ h => h) (Or.inl ⟨by rfl, ?_⟩) ?_ ?_
            rotate_left
            ·intro w'
             go_simp
             with_reducible rfl
            rotate_left
            ·simp only [Act.put, sla, slz, sls, i64_w, i32_w]
             rfl
            refine done_ (done_of HT_.out (by kernel_rfl)) ?_
            try go_wp2
            go_roundg k2
            case measure => have := HK1.out; have := HK2.out; omega
            case rel => exact ⟨(x9_2), (wrap64 (x10_2 + 1)), (x253000_2), (x253001_2), (x253002_2), D2_, (by first | rfl | (simp; done) | (simp [*]; done)), H', ⟨by have := HK1.out; have := HK2.out; omega⟩, ⟨by (with_reducible repeat (first | apply Kd.R_alloc | apply Kd.R_drewN | apply Kd.R_drew)); exact HO_9.out⟩, ⟨by (with_reducible repeat first | refine bkN ?_ _ | refine bkd ?_ | refine bka ?_ _); exact BK210.out⟩, ⟨by (with_reducible repeat first | refine bkN ?_ _ | refine bkd ?_ | refine bka ?_ _); exact BK211.out⟩, ⟨by repeat (with_reducible first | exact HB.out | apply bal | apply pbN | apply bdw | refine bst ?_ GE210.out | refine bst ?_ GE211.out | refine bst ?_ GE217.out)⟩, ⟨(by repeat (with_reducible first | exact HM.out | apply mal | apply mdN | apply mdw | apply mst (hne := NM210.out) | apply mst (hne := NM211.out) | apply mst (hne := NM217.out)))⟩, HIX, ⟨HXB.out.2⟩⟩
          ·rw [if_neg c29] at H
           exact absurd H (by simp)
         ·rw [if_neg c28] at H
          exact absurd H (by simp)
        ·as_aux_lemma =>
         rw [if_neg c26] at H
         have c26b0 : decide (0 ≤ t218) = false := decide_eq_false c26
         clear c26
         have H' := As0.mk H
         clear H
         have hnb65 := NB210_211.out
         have hnc65 := NB211_210.out
         have hcz66_0 : wr.cell? ⟨gb210, 0, none⟩ = some (.slice A0_0 l0_0.length c0_0) := (bkc BK210.out 0).trans rfl
         have hcz66_1 : wr.cell? ⟨gb210, 1, none⟩ = some (.func (.func 29) #[] #[]) := (bkc BK210.out 1).trans rfl
         have hcz66_2 : wr.cell? ⟨gb210, 2, none⟩ = some (.int .i64 a0_2) := (bkc BK210.out 2).trans rfl
         have hcz66_3 : wr.cell? ⟨gb210, 3, none⟩ = some (.map none) := (bkc BK210.out 3).trans rfl
         have hcz66_4 : wr.cell? ⟨gb210, 4, none⟩ = some (.map (some B)) := (bkc BK210.out 4).trans rfl
         have hfz66_0 := bkf BK210.out 0
         have hfz66_1 := bkf BK210.out 1
         have hfz66_2 := bkf BK210.out 2
         have hfz66_3 := bkf BK210.out 3
         have hfz66_4 := bkf BK210.out 4
         have hcz67_0 : wr.cell? ⟨gb211, 0, none⟩ = some (.int .i64 x253000_2) := (bkc BK211.out 0).trans rfl
         have hcz67_1 : wr.cell? ⟨gb211, 1, none⟩ = some (.int .i64 x253001_2) := (bkc BK211.out 1).trans rfl
         have hcz67_2 : wr.cell? ⟨gb211, 2, none⟩ = some (.int .i64 x253002_2) := (bkc BK211.out 2).trans rfl
         have hfz67_0 := bkf BK211.out 0
         have hfz67_1 := bkf BK211.out 1
         have hfz67_2 := bkf BK211.out 2
         try go_wp2_with (first | ((with_reducible refine gce (f := 39) rfl ?_); refine goesL_ (some 36) rfl rfl Try.func39 (by kernel_rfl) rfl #[.agg #[.slice A0_0 l0_0.length c0_0, .func (.func 29) #[] #[], .int .i64 a0_2, .map none, .map (some B)], .agg #[.int .i64 x253000_2, .int .i64 x253001_2, .int .i64 x253002_2], .int .i64 x10_2] rfl (by (try simp only [List.map_toArray, List.map_cons, List.map_nil]); first | done | rfl | (simp only [List.length_drop, List.length_take]; rfl)) ?_; (with_reducible refine (impl_mixes_after.calls _ _ l0_0 a0_2 (some B) x253000_2 x253001_2 x253002_2 x10_2 t213 t214 t215 true _ ?side1 ?side2 A23.out).mono ?_); (case side1 => repeat (first | exact (Kd.C_below HR0_0.out HB.out) | (with_reducible refine Kd.C_alloc ?_ _) | (with_reducible refine Kd.C_drewN ?_ _) | (with_reducible refine Kd.C_drew ?_))); (case side2 => exact HC0_0.out); rintro e w68 ⟨rfl, hb⟩; refine ⟨_, rfl, ?_⟩; have HM_ := As0.mk (memo_below (by repeat (with_reducible first | exact HM.out | apply mal | apply mdN | apply mdw | apply mst (hne := NM210.out) | apply mst (hne := NM211.out) | apply mst (hne := NM217.out))) hb); clear HM; have HM := HM_; clear HM_; have n0_ := As0.mk (Kd.R_below (by (with_reducible repeat (first | apply Kd.R_alloc | apply Kd.R_drewN | apply Kd.R_drew)); exact HO_9.out) hb); have n1_ := As0.mk (bkb (g := gb210) (o := .cells #[.slice A0_0 l0_0.length c0_0, .func (.func 29) #[] #[], .int .i64 a0_2, .map none, .map (some B)] 55 (0, 0)) (by (with_reducible repeat first | refine bkN ?_ _ | refine bkd ?_ | refine bka ?_ _); exact BK210.out) hb); have n2_ := As0.mk (bkb (g := gb211) (by (with_reducible repeat first | refine bkN ?_ _ | refine bkd ?_ | refine bka ?_ _); exact BK211.out) hb); have n3_ := As0.mk (bsp (by repeat (with_reducible first | exact HB.out | apply bal | apply pbN | apply bdw | refine bst ?_ GE210.out | refine bst ?_ GE211.out)) hb); clear HO_9; clear BK210; clear BK211; clear HB; have HO_9 := n0_; have BK210 := n1_; have BK211 := n2_; have HB := n3_; clear n0_ n1_ n2_ n3_; (try clear hb); (try clear hb2); (try clear hk); (try clear hi)) | ((with_reducible refine gate_dst (N := 11) rfl ?_); refine box_event ?hg (N := 11) ?hd (cs := #[.int .i64 0, .int .i64 0, .int .i64 0]) (t := 63) ?hr ?_; (case hd => rfl); (case hg => rfl); (case hr => first | (go_simp; done) | (go_simp; rfl)); intro gb217 hg w69 hbox hb; have NM217 := As0.mk (memo_new (by repeat (with_reducible first | exact HM.out | apply mal | apply mdN | apply mdw | apply mst (hne := NM210.out) | apply mst (hne := NM211.out) | apply mst (hne := NM217.out))) hg); have HM_ := As0.mk (memo_below (by repeat (with_reducible first | exact HM.out | apply mal | apply mdN | apply mdw | apply mst (hne := NM210.out) | apply mst (hne := NM211.out) | apply mst (hne := NM217.out))) hb); clear HM; have HM := HM_; clear HM_; have n0_ := As0.mk (Kd.R_below (by (with_reducible repeat (first | apply Kd.R_alloc | apply Kd.R_drewN | apply Kd.R_drew)); exact HO_9.out) hb); have n1_ := As0.mk (bkb (g := gb210) (o := .cells #[.slice A0_0 l0_0.length c0_0, .func (.func 29) #[] #[], .int .i64 a0_2, .map none, .map (some B)] 55 (0, 0)) (by (with_reducible repeat first | refine bkN ?_ _ | refine bkd ?_ | refine bka ?_ _); exact BK210.out) hb); have n2_ := As0.mk (bkb (g := gb211) (by (with_reducible repeat first | refine bkN ?_ _ | refine bkd ?_ | refine bka ?_ _); exact BK211.out) hb); have n3_ := As0.mk (bsp (by repeat (with_reducible first | exact HB.out | apply bal | apply pbN | apply bdw | refine bst ?_ GE210.out | refine bst ?_ GE211.out)) hb); have n4_ := As0.mk (hbox); have n5_ := As0.mk ((by rw [hg]; exact (bsz (by repeat (with_reducible first | exact HB.out | apply bal | apply pbN | apply bdw | refine bst ?_ GE210.out | refine bst ?_ GE211.out))) : w.heap.size ≤ gb217)); have n6_ := As0.mk ((by rw [hg]; exact (bsz (by repeat (with_reducible first | exact HB.out | apply bal | apply pbN | apply bdw | refine bst ?_ GE210.out | refine bst ?_ GE211.out))) : w.heap.size ≤ gb217)); have n7_ := As0.mk ((by rw [hg]; exact Nat.ne_of_lt (blk_lt (g := gb210) (o := .cells #[.slice A0_0 l0_0.length c0_0, .func (.func 29) #[] #[], .int .i64 a0_2, .map none, .map (some B)] 55 (0, 0)) (by (with_reducible repeat first | refine bkN ?_ _ | refine bkd ?_ | refine bka ?_ _); exact BK210.out)) : gb210 ≠ gb217)); have n8_ := As0.mk ((by rw [hg]; exact Nat.ne_of_gt (blk_lt (g := gb210) (o := .cells #[.slice A0_0 l0_0.length c0_0, .func (.func 29) #[] #[], .int .i64 a0_2, .map none, .map (some B)] 55 (0, 0)) (by (with_reducible repeat first | refine bkN ?_ _ | refine bkd ?_ | refine bka ?_ _); exact BK210.out)) : gb217 ≠ gb210)); have n9_ := As0.mk ((by rw [hg]; exact Nat.ne_of_lt (blk_lt (g := gb211) (o := .cells #[.int .i64 x253000_2, .int .i64 x253001_2, .int .i64 x253002_2] 63 (0, 0)) (by (with_reducible repeat first | refine bkN ?_ _ | refine bkd ?_ | refine bka ?_ _); exact BK211.out)) : gb211 ≠ gb217)); have n10_ := As0.mk ((by rw [hg]; exact Nat.ne_of_gt (blk_lt (g := gb211) (o := .cells #[.int .i64 x253000_2, .int .i64 x253001_2, .int .i64 x253002_2] 63 (0, 0)) (by (with_reducible repeat first | refine bkN ?_ _ | refine bkd ?_ | refine bka ?_ _); exact BK211.out)) : gb217 ≠ gb211)); clear HO_9; clear BK210; clear BK211; clear HB; have HO_9 := n0_; have BK210 := n1_; have BK211 := n2_; have HB := n3_; have BK217 := n4_; have GW217 := n5_; have GE217 := n6_; have NB210_217 := n7_; have NB217_210 := n8_; have NB211_217 := n9_; have NB217_211 := n10_; clear n0_ n1_ n2_ n3_ n4_ n5_ n6_ n7_ n8_ n9_ n10_; clear hb hbox hg; have hnb70 := NB217_210.out; have hnc70 := NB210_217.out; have hnb71 := NB217_211.out; have hnc71 := NB211_217.out; have hcz72_0 : w69.cell? ⟨gb217, 0, none⟩ = some (.int .i64 0) := (bkc BK217.out 0).trans rfl; have hcz72_1 : w69.cell? ⟨gb217, 1, none⟩ = some (.int .i64 0) := (bkc BK217.out 1).trans rfl; have hcz72_2 : w69.cell? ⟨gb217, 2, none⟩ = some (.int .i64 0) := (bkc BK217.out 2).trans rfl; have hfz72_0 := bkf BK217.out 0; have hfz72_1 := bkf BK217.out 1; have hfz72_2 := bkf BK217.out 2))
         have n0_ : As0 (Kd.R (Kd.int .i64) 2 (((w69.setCell ⟨gb217, 0, none⟩ (.int .i64 t213)).setCell ⟨gb217, 1, none⟩ (.int .i64 t214)).setCell ⟨gb217, 2, none⟩ (.int .i64 t215)) w.heap.size (fun _ => True) u9 x9_2) := ⟨by (with_reducible repeat (first | apply Kd.R_alloc | apply Kd.R_drewN | apply Kd.R_drew)); exact Kd.R_mono (Kd.R_far (p := ⟨gb217, 2, none⟩) (Kd.R_far (p := ⟨gb217, 1, none⟩) (Kd.R_far (p := ⟨gb217, 0, none⟩) (Kd.R_types HO_9.out BK217.out (by decide)) (fun _ hk => hk.2) (.int .i64 t213)) (fun _ hk => hk.2) (.int .i64 t214)) (fun _ hk => hk.2) (.int .i64 t215)) (fun _ hk => trivial)⟩
         have n1_ : As0 ((((w69.setCell ⟨gb217, 0, none⟩ (.int .i64 t213)).setCell ⟨gb217, 1, none⟩ (.int .i64 t214)).setCell ⟨gb217, 2, none⟩ (.int .i64 t215)).heap[gb210]? = some (.cells #[.slice A0_0 l0_0.length c0_0, .func (.func 29) #[] #[], .int .i64 a0_2, .map none, .map (some B)] 55 (0, 0))) := ⟨by (with_reducible repeat first | refine bkN ?_ _ | refine bkd ?_ | refine bka ?_ _); refine blk_far ?_ NB210_217.out _; (with_reducible repeat first | refine bkN ?_ _ | refine bkd ?_ | refine bka ?_ _); refine blk_far ?_ NB210_217.out _; (with_reducible repeat first | refine bkN ?_ _ | refine bkd ?_ | refine bka ?_ _); refine blk_far ?_ NB210_217.out _; (with_reducible repeat first | refine bkN ?_ _ | refine bkd ?_ | refine bka ?_ _); exact BK210.out⟩
         have n2_ : As0 ((((w69.setCell ⟨gb217, 0, none⟩ (.int .i64 t213)).setCell ⟨gb217, 1, none⟩ (.int .i64 t214)).setCell ⟨gb217, 2, none⟩ (.int .i64 t215)).heap[gb211]? = some (.cells #[.int .i64 x253000_2, .int .i64 x253001_2, .int .i64 x253002_2] 63 (0, 0))) := ⟨by (with_reducible repeat first | refine bkN ?_ _ | refine bkd ?_ | refine bka ?_ _); refine blk_far ?_ NB211_217.out _; (with_reducible repeat first | refine bkN ?_ _ | refine bkd ?_ | refine bka ?_ _); refine blk_far ?_ NB211_217.out _; (with_reducible repeat first | refine bkN ?_ _ | refine bkd ?_ | refine bka ?_ _); refine blk_far ?_ NB211_217.out _; (with_reducible repeat first | refine bkN ?_ _ | refine bkd ?_ | refine bka ?_ _); exact BK211.out⟩
         have n3_ : As0 ((((w69.setCell ⟨gb217, 0, none⟩ (.int .i64 t213)).setCell ⟨gb217, 1, none⟩ (.int .i64 t214)).setCell ⟨gb217, 2, none⟩ (.int .i64 t215)).heap[gb217]? = some (.cells #[.int .i64 t213, .int .i64 t214, .int .i64 t215] 63 (0, 0))) := ⟨by (with_reducible repeat first | refine bkN ?_ _ | refine bkd ?_ | refine bka ?_ _); refine blk_put (cs := #[.int .i64 t213, .int .i64 t214, .int .i64 0]) ?_ 2 _ rfl; (with_reducible repeat first | refine bkN ?_ _ | refine bkd ?_ | refine bka ?_ _); refine blk_put (cs := #[.int .i64 t213, .int .i64 0, .int .i64 0]) ?_ 1 _ rfl; (with_reducible repeat first | refine bkN ?_ _ | refine bkd ?_ | refine bka ?_ _); refine blk_put (cs := #[.int .i64 0, .int .i64 0, .int .i64 0]) ?_ 0 _ rfl; (with_reducible repeat first | refine bkN ?_ _ | refine bkd ?_ | refine bka ?_ _); exact BK217.out⟩
         have n4_ : As0 (Below w.heap.size w (((w69.setCell ⟨gb217, 0, none⟩ (.int .i64 t213)).setCell ⟨gb217, 1, none⟩ (.int .i64 t214)).setCell ⟨gb217, 2, none⟩ (.int .i64 t215))) := ⟨by repeat (with_reducible first | exact HB.out | apply bal | apply pbN | apply bdw | refine bst ?_ GE210.out | refine bst ?_ GE211.out | refine bst ?_ GE217.out)⟩
         have HM_ : As0 (MemoD (mixF l0_0 a0_2) B D_ w (((w69.setCell ⟨gb217, 0, none⟩ (.int .i64 t213)).setCell ⟨gb217, 1, none⟩ (.int .i64 t214)).setCell ⟨gb217, 2, none⟩ (.int .i64 t215))) := ⟨(by repeat (with_reducible first | exact HM.out | apply mal | apply mdN | apply mdw | apply mst (hne := NM210.out) | apply mst (hne := NM211.out) | apply mst (hne := NM217.out)))⟩
         clear HM
         (try clear HO_9)
         (try clear BK210)
         (try clear BK211)
         (try clear BK217)
         (try clear HB)
         generalize (((w69.setCell ⟨gb217, 0, none⟩ (.int .i64 t213)).setCell ⟨gb217, 1, none⟩ (.int .i64 t214)).setCell ⟨gb217, 2, none⟩ (.int .i64 t215)) = w73 at HM_ n0_ n1_ n2_ n3_ n4_ ⊢
         have HM := HM_
         clear HM_
         have HO_9 := n0_
         have BK210 := n1_
         have BK211 := n2_
         have BK217 := n3_
         have HB := n4_
         clear n0_ n1_ n2_ n3_ n4_
         have n0_ := As0.mk (Kd.R_drew HO_9.out)
         have n1_ := As0.mk (bkd BK210.out)
         have n2_ := As0.mk (bkd BK211.out)
         have n3_ := As0.mk (bkd BK217.out)
         have n4_ := As0.mk (bdw HB.out)
         replace HM := As0.mk (mdw HM.out)
         clear HO_9
         clear BK210
         clear BK211
         clear BK217
         clear HB
         have HO_9 := n0_
         have BK210 := n1_
         have BK211 := n2_
         have BK217 := n3_
         have HB := n4_
         clear n0_ n1_ n2_ n3_ n4_
         refine start_ (n := 28) (S := fun w' => w'.cell? ⟨gb210, 0, none⟩ = some (.slice A0_0 l0_0.length c0_0) ∧ w'.cell? ⟨gb210, 1, none⟩ = some (.func (.func 29) #[] #[]) ∧ w'.cell? ⟨gb210, 2, none⟩ = some (.int .i64 a0_2) ∧ w'.cell? ⟨gb210, 3, none⟩ = some (.map none) ∧ w'.cell? ⟨gb210, 4, none⟩ = some (.map (some B)) ∧ w'.cell? ⟨gb217, 0, none⟩ = some (.int .i64 t213) ∧ w'.cell? ⟨gb217, 1, none⟩ = some (.int .i64 t214) ∧ w'.cell? ⟨gb217, 2, none⟩ = some (.int .i64 t215)) (ds := []) #[false, false, false, false, false, false, false, false, false, false, false, false, false, false, false, false, false, false, false, false, false, false, false, false, false, false, false, false] (by kernel_rfl) rfl rfl ⟨(bkc BK210.out 0).trans rfl, (bkc BK210.out 1).trans rfl, (bkc BK210.out 2).trans rfl, (bkc BK210.out 3).trans rfl, (bkc BK210.out 4).trans rfl, (bkc BK217.out 0).trans rfl, (bkc BK217.out 1).trans rfl, (bkc BK217.out 2).trans rfl⟩ (fun hHeld => ?_); refine with_tabW impl_mixes_best.tab11 impl_mixes_best.bits11 (fun HT_ HW_ => ?_)
         generalize w73.drew = w74 at HM HO_9 BK210 BK211 BK217 HB hHeld ⊢
         refine pure_ (i := 0) (N := some 39) (v := ?_) (a' := ?_) #[true, false, false, false, false, false, false, false, false, false, false, false, false, false, false, false, false, false, false, false, false, false, false, false, false, false, false, false] rfl rfl (any_of HT_.out (by kernel_rfl)) (fun _ _ _ h => h) (Or.inl ⟨by rfl, ?_⟩) ?_ ?_
         rotate_left
         ·intro w'
          go_simp
          with_reducible rfl
         rotate_left
         ·simp only [Act.put, sla, slz, sls, i64_w, i32_w]
          rfl
         refine pure_ (i := 1) (N := some 40) (v := ?_) (a' := ?_) #[true, true, false, false, false, false, false, false, false, false, false, false, false, false, false, false, false, false, false, false, false, false, false, false, false, false, false, false] rfl rfl (any_of HT_.out (by kernel_rfl)) (fun _ _ _ h => h) (Or.inl ⟨by rfl, ?_⟩) ?_ ?_
         rotate_left
         ·intro w'
          go_simp
          with_reducible rfl
         rotate_left
         ·simp only [Act.put, sla, slz, sls, i64_w, i32_w]
          rfl
         refine take_ (i := 2) (N := some 41) (v := ?_) (a' := ?_) #[true, true, true, false, false, false, false, false, false, false, false, false, false, false, false, false, false, false, false, false, false, false, false, false, false, false, false, false] rfl rfl (take_ofW HT_.out HW_.out (by kernel_rfl)) (fun _ _ _ h => h) (Or.inl ⟨by rfl, ?_⟩) hHeld ?_ ?_
         rotate_left
         ·rintro w' ⟨s0, s1, s2, s3, s4, s5, s6, s7⟩
          go_simp
          with_reducible rfl
         rotate_left
         ·simp only [Act.put, sla, slz, sls, i64_w, i32_w]
          rfl
         refine take_ (i := 3) (N := some 42) (v := ?_) (a' := ?_) #[true, true, true, true, false, false, false, false, false, false, false, false, false, false, false, false, false, false, false, false, false, false, false, false, false, false, false, false] rfl rfl (take_ofW HT_.out HW_.out (by kernel_rfl)) (fun _ _ _ h => h) (Or.inl ⟨by rfl, ?_⟩) hHeld ?_ ?_
         rotate_left
         ·rintro w' ⟨s0, s1, s2, s3, s4, s5, s6, s7⟩
          go_simp
          with_reducible rfl
         rotate_left
         ·simp only [Act.put, sla, slz, sls, i64_w, i32_w]
          rfl
         refine one_ (i := 4) (N := some 43) #[true, true, true, true, true, false, false, false, false, false, false, false, false, false, false, false, false, false, false, false, false, false, false, false, false, false, false, false] rfl rfl (one_of HT_.out (by kernel_rfl)) (by decide) (fun K hK => ?_)
         refine goes_ Try.func38 (by kernel_rfl) rfl #[.agg #[.slice A0_0 l0_0.length c0_0, .func (.func 29) #[] #[], .int .i64 a0_2, .map none, .map (some B)], .agg #[.int .i64 t213, .int .i64 t214, .int .i64 t215]] (by rfl) rfl rfl (by (try simp only [List.map_toArray, List.map_cons, List.map_nil]); first | done | rfl | (simp only [List.length_drop, List.length_take]; rfl)) ?_
         with_reducible refine (impl_mixes_least.calls k2 _ _ l0_0 a0_2 B t213 t214 t215 t218 _ w _ HV.out (after_box HV.out HIX.out HXB.out.1 A23.out) HB0.out (by repeat (with_reducible first | exact HB.out | apply bal | apply pbN | apply bdw | refine bst ?_ GE210.out | refine bst ?_ GE211.out | refine bst ?_ GE217.out)) (memo_self (by repeat (with_reducible first | exact HM.out | apply mal | apply mdN | apply mdw | apply mst (hne := NM210.out) | apply mst (hne := NM211.out) | apply mst (hne := NM217.out)))) ?side1 ?side2 A25.out).mono ?_
         (case side1 => exact HR0_0.out)
         (case side2 => exact HC0_0.out)
         rintro e w75 ⟨rfl, hb, D2_, hM⟩
         refine ⟨_, rfl, ?_⟩
         have HMN_ := As0.mk (memo_trans (by repeat (with_reducible first | exact HM.out | apply mal | apply mdN | apply mdw | apply mst (hne := NM210.out) | apply mst (hne := NM211.out) | apply mst (hne := NM217.out))) hM)
         have n0_ := As0.mk (memo_R hM (by repeat (with_reducible first | exact HM.out | apply mal | apply mdN | apply mdw | apply mst (hne := NM210.out) | apply mst (hne := NM211.out) | apply mst (hne := NM217.out))) (by (with_reducible repeat (first | apply Kd.R_alloc | apply Kd.R_drewN | apply Kd.R_drew)); exact HO_9.out))
         have n1_ := As0.mk (memo_blk (g := gb210) (o := .cells #[.slice A0_0 l0_0.length c0_0, .func (.func 29) #[] #[], .int .i64 a0_2, .map none, .map (some B)] 55 (0, 0)) hM (by (with_reducible repeat first | refine bkN ?_ _ | refine bkd ?_ | refine bka ?_ _); exact BK210.out) NM210.out.1)
         have n2_ := As0.mk (memo_blk (g := gb211) (o := .cells #[.int .i64 x253000_2, .int .i64 x253001_2, .int .i64 x253002_2] 63 (0, 0)) hM (by (with_reducible repeat first | refine bkN ?_ _ | refine bkd ?_ | refine bka ?_ _); exact BK211.out) NM211.out.1)
         have n3_ := As0.mk (memo_blk (g := gb217) (o := .cells #[.int .i64 t213, .int .i64 t214, .int .i64 t215] 63 (0, 0)) hM (by (with_reducible repeat first | refine bkN ?_ _ | refine bkd ?_ | refine bka ?_ _); exact BK217.out) NM217.out.1)
         have n4_ := As0.mk (hb)
         clear HO_9
         clear BK210
         clear BK211
         clear BK217
         clear HB
         have HO_9 := n0_
         have BK210 := n1_
         have BK211 := n2_
         have BK217 := n3_
         have HB := n4_
         clear n0_ n1_ n2_ n3_ n4_
         clear HM
         have HM := HMN_
         clear HMN_ hM
         (try clear hb)
         (try clear hb2)
         (try clear hk)
         (try clear hi)
         refine hK.out _ _ ⟨(bkc BK210.out 0).trans rfl, (bkc BK210.out 1).trans rfl, (bkc BK210.out 2).trans rfl, (bkc BK210.out 3).trans rfl, (bkc BK210.out 4).trans rfl, (bkc BK217.out 0).trans rfl, (bkc BK217.out 1).trans rfl, (bkc BK217.out 2).trans rfl⟩ (fun hHeld => ?_)
         clear hK K
         refine norm_ (a' := ?_) ?_ ?_
         rotate_left
         ·show Act.put _ (some 43) _ = _
          simp only [Act.put, sla, slz, sls, i64_w, i32_w]
          rfl
         refine pure_ (i := 5) (N := some 44) (v := ?_) (a' := ?_) #[true, true, true, true, true, true, false, false, false, false, false, false, false, false, false, false, false, false, false, false, false, false, false, false, false, false, false, false] rfl rfl (any_of HT_.out (by kernel_rfl)) (fun _ _ _ h => h) (Or.inl ⟨by rfl, ?_⟩) ?_ ?_
         rotate_left
         ·intro w'
          go_simp
          with_reducible rfl
         rotate_left
         ·simp only [Act.put, sla, slz, sls, i64_w, i32_w]
          rfl
         refine pure_ (i := 6) (N := some 45) (v := ?_) (a' := ?_) #[true, true, true, true, true, true, true, false, false, false, false, false, false, false, false, false, false, false, false, false, false, false, false, false, false, false, false, false] rfl rfl (any_of HT_.out (by kernel_rfl)) (fun _ _ _ h => h) (Or.inl ⟨by rfl, ?_⟩) ?_ ?_
         rotate_left
         ·intro w'
          go_simp
          with_reducible rfl
         rotate_left
         ·simp only [Act.put, sla, slz, sls, i64_w, i32_w]
          rfl
         refine pure_ (i := 7) (N := some 46) (v := ?_) (a' := ?_) #[true, true, true, true, true, true, true, true, false, false, false, false, false, false, false, false, false, false, false, false, false, false, false, false, false, false, false, false] rfl rfl (any_of HT_.out (by kernel_rfl)) (fun _ _ _ h => h) (Or.inl ⟨by rfl, ?_⟩) ?_ ?_
         rotate_left
         ·intro w'
          go_simp
          with_reducible rfl
         rotate_left
         ·simp only [Act.put, sla, slz, sls, i64_w, i32_w]
          rfl
         refine pure_ (i := 8) (N := some 47) (v := undef) (a' := ?_) #[true, true, true, true, true, true, true, true, true, false, false, false, false, false, false, false, false, false, false, false, false, false, false, false, false, false, false, false] rfl rfl (any_of HT_.out (by kernel_rfl)) (fun _ _ _ h => h) (Or.inr ⟨by rfl, rfl⟩) ?_ ?_
         rotate_left
         ·simp only [Act.put, sla, slz, sls, i64_w, i32_w]
          rfl
         refine pure_ (i := 9) (N := some 48) (v := undef) (a' := ?_) #[true, true, true, true, true, true, true, true, true, true, false, false, false, false, false, false, false, false, false, false, false, false, false, false, false, false, false, false] rfl rfl (any_of HT_.out (by kernel_rfl)) (fun _ _ _ h => h) (Or.inr ⟨by rfl, rfl⟩) ?_ ?_
         rotate_left
         ·simp only [Act.put, sla, slz, sls, i64_w, i32_w]
          rfl
         refine pure_ (i := 10) (N := some 49) (v := undef) (a' := ?_) #[true, true, true, true, true, true, true, true, true, true, true, false, false, false, false, false, false, false, false, false, false, false, false, false, false, false, false, false] rfl rfl (any_of HT_.out (by kernel_rfl)) (fun _ _ _ h => h) (Or.inr ⟨by rfl, rfl⟩) ?_ ?_
         rotate_left
         ·simp only [Act.put, sla, slz, sls, i64_w, i32_w]
          rfl
         refine pure_ (i := 11) (N := some 50) (v := undef) (a' := ?_) #[true, true, true, true, true, true, true, true, true, true, true, true, false, false, false, false, false, false, false, false, false, false, false, false, false, false, false, false] rfl rfl (any_of HT_.out (by kernel_rfl)) (fun _ _ _ h => h) (Or.inr ⟨by rfl, rfl⟩) ?_ ?_
         rotate_left
         ·simp only [Act.put, sla, slz, sls, i64_w, i32_w]
          rfl
         refine pure_ (i := 12) (N := some 51) (v := undef) (a' := ?_) #[true, true, true, true, true, true, true, true, true, true, true, true, true, false, false, false, false, false, false, false, false, false, false, false, false, false, false, false] rfl rfl (any_of HT_.out (by kernel_rfl)) (fun _ _ _ h => h) (Or.inr ⟨by rfl, rfl⟩) ?_ ?_
         rotate_left
         ·simp only [Act.put, sla, slz, sls, i64_w, i32_w]
          rfl
         refine pure_ (i := 13) (N := some 52) (v := undef) (a' := ?_) #[true, true, true, true, true, true, true, true, true, true, true, true, true, true, false, false, false, false, false, false, false, false, false, false, false, false, false, false] rfl rfl (any_of HT_.out (by kernel_rfl)) (fun _ _ _ h => h) (Or.inr ⟨by rfl, rfl⟩) ?_ ?_
         rotate_left
         ·simp only [Act.put, sla, slz, sls, i64_w, i32_w]
          rfl
         refine pure_ (i := 14) (N := some 53) (v := undef) (a' := ?_) #[true, true, true, true, true, true, true, true, true, true, true, true, true, true, true, false, false, false, false, false, false, false, false, false, false, false, false, false] rfl rfl (any_of HT_.out (by kernel_rfl)) (fun _ _ _ h => h) (Or.inr ⟨by rfl, rfl⟩) ?_ ?_
         rotate_left
         ·simp only [Act.put, sla, slz, sls, i64_w, i32_w]
          rfl
         refine pure_ (i := 15) (N := some 54) (v := undef) (a' := ?_) #[true, true, true, true, true, true, true, true, true, true, true, true, true, true, true, true, false, false, false, false, false, false, false, false, false, false, false, false] rfl rfl (any_of HT_.out (by kernel_rfl)) (fun _ _ _ h => h) (Or.inr ⟨by rfl, rfl⟩) ?_ ?_
         rotate_left
         ·simp only [Act.put, sla, slz, sls, i64_w, i32_w]
          rfl
         refine pure_ (i := 16) (N := some 55) (v := undef) (a' := ?_) #[true, true, true, true, true, true, true, true, true, true, true, true, true, true, true, true, true, false, false, false, false, false, false, false, false, false, false, false] rfl rfl (any_of HT_.out (by kernel_rfl)) (fun _ _ _ h => h) (Or.inr ⟨by rfl, rfl⟩) ?_ ?_
         rotate_left
         ·simp only [Act.put, sla, slz, sls, i64_w, i32_w]
          rfl
         refine pure_ (i := 17) (N := some 56) (v := undef) (a' := ?_) #[true, true, true, true, true, true, true, true, true, true, true, true, true, true, true, true, true, true, false, false, false, false, false, false, false, false, false, false] rfl rfl (any_of HT_.out (by kernel_rfl)) (fun _ _ _ h => h) (Or.inr ⟨by rfl, rfl⟩) ?_ ?_
         rotate_left
         ·simp only [Act.put, sla, slz, sls, i64_w, i32_w]
          rfl
         refine pure_ (i := 18) (N := some 57) (v := undef) (a' := ?_) #[true, true, true, true, true, true, true, true, true, true, true, true, true, true, true, true, true, true, true, false, false, false, false, false, false, false, false, false] rfl rfl (any_of HT_.out (by kernel_rfl)) (fun _ _ _ h => h) (Or.inr ⟨by rfl, rfl⟩) ?_ ?_
         rotate_left
         ·simp only [Act.put, sla, slz, sls, i64_w, i32_w]
          rfl
         refine pure_ (i := 19) (N := some 58) (v := undef) (a' := ?_) #[true, true, true, true, true, true, true, true, true, true, true, true, true, true, true, true, true, true, true, true, false, false, false, false, false, false, false, false] rfl rfl (any_of HT_.out (by kernel_rfl)) (fun _ _ _ h => h) (Or.inr ⟨by rfl, rfl⟩) ?_ ?_
         rotate_left
         ·simp only [Act.put, sla, slz, sls, i64_w, i32_w]
          rfl
         refine pure_ (i := 20) (N := some 59) (v := undef) (a' := ?_) #[true, true, true, true, true, true, true, true, true, true, true, true, true, true, true, true, true, true, true, true, true, false, false, false, false, false, false, false] rfl rfl (any_of HT_.out (by kernel_rfl)) (fun _ _ _ h => h) (Or.inr ⟨by rfl, rfl⟩) ?_ ?_
         rotate_left
         ·simp only [Act.put, sla, slz, sls, i64_w, i32_w]
          rfl
         refine pure_ (i := 21) (N := some 60) (v := undef) (a' := ?_) #[true, true, true, true, true, true, true, true, true, true, true, true, true, true, true, true, true, true, true, true, true, true, false, false, false, false, false, false] rfl rfl (any_of HT_.out (by kernel_rfl)) (fun _ _ _ h => h) (Or.inr ⟨by rfl, rfl⟩) ?_ ?_
         rotate_left
         ·simp only [Act.put, sla, slz, sls, i64_w, i32_w]
          rfl
         refine pure_ (i := 22) (N := some 61) (v := undef) (a' := ?_) #[true, true, true, true, true, true, true, true, true, true, true, true, true, true, true, true, true, true, true, true, true, true, true, false, false, false, false, false] rfl rfl (any_of HT_.out (by kernel_rfl)) (fun _ _ _ h => h) (Or.inr ⟨by rfl, rfl⟩) ?_ ?_
         rotate_left
         ·simp only [Act.put, sla, slz, sls, i64_w, i32_w]
          rfl
         refine pure_ (i := 23) (N := some 62) (v := undef) (a' := ?_) #[true, true, true, true, true, true, true, true, true, true, true, true, true, true, true, true, true, true, true, true, true, true, true, true, false, false, false, false] rfl rfl (any_of HT_.out (by kernel_rfl)) (fun _ _ _ h => h) (Or.inr ⟨by rfl, rfl⟩) ?_ ?_
         rotate_left
         ·simp only [Act.put, sla, slz, sls, i64_w, i32_w]
          rfl
         refine pure_ (i := 24) (N := some 63) (v := undef) (a' := ?_) #[true, true, true, true, true, true, true, true, true, true, true, true, true, true, true, true, true, true, true, true, true, true, true, true, true, false, false, false] rfl rfl (any_of HT_.out (by kernel_rfl)) (fun _ _ _ h => h) (Or.inr ⟨by rfl, rfl⟩) ?_ ?_
         rotate_left
         ·simp only [Act.put, sla, slz, sls, i64_w, i32_w]
          rfl
         refine pure_ (i := 25) (N := some 64) (v := undef) (a' := ?_) #[true, true, true, true, true, true, true, true, true, true, true, true, true, true, true, true, true, true, true, true, true, true, true, true, true, true, false, false] rfl rfl (any_of HT_.out (by kernel_rfl)) (fun _ _ _ h => h) (Or.inr ⟨by rfl, rfl⟩) ?_ ?_
         rotate_left
         ·simp only [Act.put, sla, slz, sls, i64_w, i32_w]
          rfl
         refine pure_ (i := 26) (N := some 65) (v := undef) (a' := ?_) #[true, true, true, true, true, true, true, true, true, true, true, true, true, true, true, true, true, true, true, true, true, true, true, true, true, true, true, false] rfl rfl (any_of HT_.out (by kernel_rfl)) (fun _ _ _ h => h) (Or.inr ⟨by rfl, rfl⟩) ?_ ?_
         rotate_left
         ·simp only [Act.put, sla, slz, sls, i64_w, i32_w]
          rfl
         refine pure_ (i := 27) (N := some 66) (v := ?_) (a' := ?_) #[true, true, true, true, true, true, true, true, true, true, true, true, true, true, true, true, true, true, true, true, true, true, true, true, true, true, true, true] rfl rfl (any_of HT_.out (by kernel_rfl)) (fun _ _ _ h => h) (Or.inl ⟨by rfl, ?_⟩) ?_ ?_
         rotate_left
         ·intro w'
          go_simp
          with_reducible rfl
         rotate_left
         ·simp only [Act.put, sla, slz, sls, i64_w, i32_w]
          rfl
         refine done_ (done_of HT_.out (by kernel_rfl)) ?_
         try go_wp2
         go_roundg k2
         case measure => have := HK1.out; have := HK2.out; omega
         case rel => exact ⟨(x9_2), (wrap64 (x10_2 + 1)), (x253000_2), (x253001_2), (x253002_2), D2_, (by first | rfl | (simp; done) | (simp [*]; done)), H', ⟨by have := HK1.out; have := HK2.out; omega⟩, ⟨by (with_reducible repeat (first | apply Kd.R_alloc | apply Kd.R_drewN | apply Kd.R_drew)); exact HO_9.out⟩, ⟨by (with_reducible repeat first | refine bkN ?_ _ | refine bkd ?_ | refine bka ?_ _); exact BK210.out⟩, ⟨by (with_reducible repeat first | refine bkN ?_ _ | refine bkd ?_ | refine bka ?_ _); exact BK211.out⟩, ⟨by repeat (with_reducible first | exact HB.out | apply bal | apply pbN | apply bdw | refine bst ?_ GE210.out | refine bst ?_ GE211.out | refine bst ?_ GE217.out)⟩, ⟨(by repeat (with_reducible first | exact HM.out | apply mal | apply mdN | apply mdw | apply mst (hne := NM210.out) | apply mst (hne := NM211.out) | apply mst (hne := NM217.out)))⟩, HIX, ⟨HXB.out.2⟩⟩
       ·as_aux_lemma =>
        replace c24 := Bool.eq_false_iff.mpr c24
        subst c24
        have H1 : (impl_mixes_best.l1 k2 t212 x9_2 (wrap64 (x10_2 + 1)) l0_0 0 a0_2 0 0 x253000_2 x253001_2 x253002_2) = some (r1, r2, r3) := by rw [if_neg (show ¬ (false = true) by decide)] at H; exact H
        clear H
        have H := H1
        clear H1
        have H' := As0.mk H
        clear H
        have hnb76 := NB210_211.out
        have hnc76 := NB211_210.out
        have hcz77_0 : wr.cell? ⟨gb210, 0, none⟩ = some (.slice A0_0 l0_0.length c0_0) := (bkc BK210.out 0).trans rfl
        have hcz77_1 : wr.cell? ⟨gb210, 1, none⟩ = some (.func (.func 29) #[] #[]) := (bkc BK210.out 1).trans rfl
        have hcz77_2 : wr.cell? ⟨gb210, 2, none⟩ = some (.int .i64 a0_2) := (bkc BK210.out 2).trans rfl
        have hcz77_3 : wr.cell? ⟨gb210, 3, none⟩ = some (.map none) := (bkc BK210.out 3).trans rfl
        have hcz77_4 : wr.cell? ⟨gb210, 4, none⟩ = some (.map (some B)) := (bkc BK210.out 4).trans rfl
        have hfz77_0 := bkf BK210.out 0
        have hfz77_1 := bkf BK210.out 1
        have hfz77_2 := bkf BK210.out 2
        have hfz77_3 := bkf BK210.out 3
        have hfz77_4 := bkf BK210.out 4
        have hcz78_0 : wr.cell? ⟨gb211, 0, none⟩ = some (.int .i64 x253000_2) := (bkc BK211.out 0).trans rfl
        have hcz78_1 : wr.cell? ⟨gb211, 1, none⟩ = some (.int .i64 x253001_2) := (bkc BK211.out 1).trans rfl
        have hcz78_2 : wr.cell? ⟨gb211, 2, none⟩ = some (.int .i64 x253002_2) := (bkc BK211.out 2).trans rfl
        have hfz78_0 := bkf BK211.out 0
        have hfz78_1 := bkf BK211.out 1
        have hfz78_2 := bkf BK211.out 2
        try go_wp2_with (first | ((with_reducible refine gce (f := 39) rfl ?_); refine goesL_ (some 36) rfl rfl Try.func39 (by kernel_rfl) rfl #[.agg #[.slice A0_0 l0_0.length c0_0, .func (.func 29) #[] #[], .int .i64 a0_2, .map none, .map (some B)], .agg #[.int .i64 x253000_2, .int .i64 x253001_2, .int .i64 x253002_2], .int .i64 x10_2] rfl (by (try simp only [List.map_toArray, List.map_cons, List.map_nil]); first | done | rfl | (simp only [List.length_drop, List.length_take]; rfl)) ?_; (with_reducible refine (impl_mixes_after.calls _ _ l0_0 a0_2 (some B) x253000_2 x253001_2 x253002_2 x10_2 t213 t214 t215 false _ ?side1 ?side2 A23.out).mono ?_); (case side1 => repeat (first | exact (Kd.C_below HR0_0.out HB.out) | (with_reducible refine Kd.C_alloc ?_ _) | (with_reducible refine Kd.C_drewN ?_ _) | (with_reducible refine Kd.C_drew ?_))); (case side2 => exact HC0_0.out); rintro e w79 ⟨rfl, hb⟩; refine ⟨_, rfl, ?_⟩; have HM_ := As0.mk (memo_below (by repeat (with_reducible first | exact HM.out | apply mal | apply mdN | apply mdw | apply mst (hne := NM210.out) | apply mst (hne := NM211.out) | apply mst (hne := NM217.out))) hb); clear HM; have HM := HM_; clear HM_; have n0_ := As0.mk (Kd.R_below (by (with_reducible repeat (first | apply Kd.R_alloc | apply Kd.R_drewN | apply Kd.R_drew)); exact HO_9.out) hb); have n1_ := As0.mk (bkb (g := gb210) (o := .cells #[.slice A0_0 l0_0.length c0_0, .func (.func 29) #[] #[], .int .i64 a0_2, .map none, .map (some B)] 55 (0, 0)) (by (with_reducible repeat first | refine bkN ?_ _ | refine bkd ?_ | refine bka ?_ _); exact BK210.out) hb); have n2_ := As0.mk (bkb (g := gb211) (by (with_reducible repeat first | refine bkN ?_ _ | refine bkd ?_ | refine bka ?_ _); exact BK211.out) hb); have n3_ := As0.mk (bsp (by repeat (with_reducible first | exact HB.out | apply bal | apply pbN | apply bdw | refine bst ?_ GE210.out | refine bst ?_ GE211.out)) hb); clear HO_9; clear BK210; clear BK211; clear HB; have HO_9 := n0_; have BK210 := n1_; have BK211 := n2_; have HB := n3_; clear n0_ n1_ n2_ n3_; (try clear hb); (try clear hb2); (try clear hk); (try clear hi)) | ((with_reducible refine gate_dst (N := 11) rfl ?_); refine box_event ?hg (N := 11) ?hd (cs := #[.int .i64 0, .int .i64 0, .int .i64 0]) (t := 63) ?hr ?_; (case hd => rfl); (case hg => rfl); (case hr => first | (go_simp; done) | (go_simp; rfl)); intro gb217 hg w80 hbox hb; have NM217 := As0.mk (memo_new (by repeat (with_reducible first | exact HM.out | apply mal | apply mdN | apply mdw | apply mst (hne := NM210.out) | apply mst (hne := NM211.out) | apply mst (hne := NM217.out))) hg); have HM_ := As0.mk (memo_below (by repeat (with_reducible first | exact HM.out | apply mal | apply mdN | apply mdw | apply mst (hne := NM210.out) | apply mst (hne := NM211.out) | apply mst (hne := NM217.out))) hb); clear HM; have HM := HM_; clear HM_; have n0_ := As0.mk (Kd.R_below (by (with_reducible repeat (first | apply Kd.R_alloc | apply Kd.R_drewN | apply Kd.R_drew)); exact HO_9.out) hb); have n1_ := As0.mk (bkb (g := gb210) (o := .cells #[.slice A0_0 l0_0.length c0_0, .func (.func 29) #[] #[], .int .i64 a0_2, .map none, .map (some B)] 55 (0, 0)) (by (with_reducible repeat first | refine bkN ?_ _ | refine bkd ?_ | refine bka ?_ _); exact BK210.out) hb); have n2_ := As0.mk (bkb (g := gb211) (by (with_reducible repeat first | refine bkN ?_ _ | refine bkd ?_ | refine bka ?_ _); exact BK211.out) hb); have n3_ := As0.mk (bsp (by repeat (with_reducible first | exact HB.out | apply bal | apply pbN | apply bdw | refine bst ?_ GE210.out | refine bst ?_ GE211.out)) hb); have n4_ := As0.mk (hbox); have n5_ := As0.mk ((by rw [hg]; exact (bsz (by repeat (with_reducible first | exact HB.out | apply bal | apply pbN | apply bdw | refine bst ?_ GE210.out | refine bst ?_ GE211.out))) : w.heap.size ≤ gb217)); have n6_ := As0.mk ((by rw [hg]; exact (bsz (by repeat (with_reducible first | exact HB.out | apply bal | apply pbN | apply bdw | refine bst ?_ GE210.out | refine bst ?_ GE211.out))) : w.heap.size ≤ gb217)); have n7_ := As0.mk ((by rw [hg]; exact Nat.ne_of_lt (blk_lt (g := gb210) (o := .cells #[.slice A0_0 l0_0.length c0_0, .func (.func 29) #[] #[], .int .i64 a0_2, .map none, .map (some B)] 55 (0, 0)) (by (with_reducible repeat first | refine bkN ?_ _ | refine bkd ?_ | refine bka ?_ _); exact BK210.out)) : gb210 ≠ gb217)); have n8_ := As0.mk ((by rw [hg]; exact Nat.ne_of_gt (blk_lt (g := gb210) (o := .cells #[.slice A0_0 l0_0.length c0_0, .func (.func 29) #[] #[], .int .i64 a0_2, .map none, .map (some B)] 55 (0, 0)) (by (with_reducible repeat first | refine bkN ?_ _ | refine bkd ?_ | refine bka ?_ _); exact BK210.out)) : gb217 ≠ gb210)); have n9_ := As0.mk ((by rw [hg]; exact Nat.ne_of_lt (blk_lt (g := gb211) (o := .cells #[.int .i64 x253000_2, .int .i64 x253001_2, .int .i64 x253002_2] 63 (0, 0)) (by (with_reducible repeat first | refine bkN ?_ _ | refine bkd ?_ | refine bka ?_ _); exact BK211.out)) : gb211 ≠ gb217)); have n10_ := As0.mk ((by rw [hg]; exact Nat.ne_of_gt (blk_lt (g := gb211) (o := .cells #[.int .i64 x253000_2, .int .i64 x253001_2, .int .i64 x253002_2] 63 (0, 0)) (by (with_reducible repeat first | refine bkN ?_ _ | refine bkd ?_ | refine bka ?_ _); exact BK211.out)) : gb217 ≠ gb211)); clear HO_9; clear BK210; clear BK211; clear HB; have HO_9 := n0_; have BK210 := n1_; have BK211 := n2_; have HB := n3_; have BK217 := n4_; have GW217 := n5_; have GE217 := n6_; have NB210_217 := n7_; have NB217_210 := n8_; have NB211_217 := n9_; have NB217_211 := n10_; clear n0_ n1_ n2_ n3_ n4_ n5_ n6_ n7_ n8_ n9_ n10_; clear hb hbox hg; have hnb81 := NB217_210.out; have hnc81 := NB210_217.out; have hnb82 := NB217_211.out; have hnc82 := NB211_217.out; have hcz83_0 : w80.cell? ⟨gb217, 0, none⟩ = some (.int .i64 0) := (bkc BK217.out 0).trans rfl; have hcz83_1 : w80.cell? ⟨gb217, 1, none⟩ = some (.int .i64 0) := (bkc BK217.out 1).trans rfl; have hcz83_2 : w80.cell? ⟨gb217, 2, none⟩ = some (.int .i64 0) := (bkc BK217.out 2).trans rfl; have hfz83_0 := bkf BK217.out 0; have hfz83_1 := bkf BK217.out 1; have hfz83_2 := bkf BK217.out 2))
        have n0_ : As0 (Kd.R (Kd.int .i64) 2 (((w80.setCell ⟨gb217, 0, none⟩ (.int .i64 t213)).setCell ⟨gb217, 1, none⟩ (.int .i64 t214)).setCell ⟨gb217, 2, none⟩ (.int .i64 t215)) w.heap.size (fun _ => True) u9 x9_2) := ⟨by (with_reducible repeat (first | apply Kd.R_alloc | apply Kd.R_drewN | apply Kd.R_drew)); exact Kd.R_mono (Kd.R_far (p := ⟨gb217, 2, none⟩) (Kd.R_far (p := ⟨gb217, 1, none⟩) (Kd.R_far (p := ⟨gb217, 0, none⟩) (Kd.R_types HO_9.out BK217.out (by decide)) (fun _ hk => hk.2) (.int .i64 t213)) (fun _ hk => hk.2) (.int .i64 t214)) (fun _ hk => hk.2) (.int .i64 t215)) (fun _ hk => trivial)⟩
        have n1_ : As0 ((((w80.setCell ⟨gb217, 0, none⟩ (.int .i64 t213)).setCell ⟨gb217, 1, none⟩ (.int .i64 t214)).setCell ⟨gb217, 2, none⟩ (.int .i64 t215)).heap[gb210]? = some (.cells #[.slice A0_0 l0_0.length c0_0, .func (.func 29) #[] #[], .int .i64 a0_2, .map none, .map (some B)] 55 (0, 0))) := ⟨by (with_reducible repeat first | refine bkN ?_ _ | refine bkd ?_ | refine bka ?_ _); refine blk_far ?_ NB210_217.out _; (with_reducible repeat first | refine bkN ?_ _ | refine bkd ?_ | refine bka ?_ _); refine blk_far ?_ NB210_217.out _; (with_reducible repeat first | refine bkN ?_ _ | refine bkd ?_ | refine bka ?_ _); refine blk_far ?_ NB210_217.out _; (with_reducible repeat first | refine bkN ?_ _ | refine bkd ?_ | refine bka ?_ _); exact BK210.out⟩
        have n2_ : As0 ((((w80.setCell ⟨gb217, 0, none⟩ (.int .i64 t213)).setCell ⟨gb217, 1, none⟩ (.int .i64 t214)).setCell ⟨gb217, 2, none⟩ (.int .i64 t215)).heap[gb211]? = some (.cells #[.int .i64 x253000_2, .int .i64 x253001_2, .int .i64 x253002_2] 63 (0, 0))) := ⟨by (with_reducible repeat first | refine bkN ?_ _ | refine bkd ?_ | refine bka ?_ _); refine blk_far ?_ NB211_217.out _; (with_reducible repeat first | refine bkN ?_ _ | refine bkd ?_ | refine bka ?_ _); refine blk_far ?_ NB211_217.out _; (with_reducible repeat first | refine bkN ?_ _ | refine bkd ?_ | refine bka ?_ _); refine blk_far ?_ NB211_217.out _; (with_reducible repeat first | refine bkN ?_ _ | refine bkd ?_ | refine bka ?_ _); exact BK211.out⟩
        have n3_ : As0 ((((w80.setCell ⟨gb217, 0, none⟩ (.int .i64 t213)).setCell ⟨gb217, 1, none⟩ (.int .i64 t214)).setCell ⟨gb217, 2, none⟩ (.int .i64 t215)).heap[gb217]? = some (.cells #[.int .i64 t213, .int .i64 t214, .int .i64 t215] 63 (0, 0))) := ⟨by (with_reducible repeat first | refine bkN ?_ _ | refine bkd ?_ | refine bka ?_ _); refine blk_put (cs := #[.int .i64 t213, .int .i64 t214, .int .i64 0]) ?_ 2 _ rfl; (with_reducible repeat first | refine bkN ?_ _ | refine bkd ?_ | refine bka ?_ _); refine blk_put (cs := #[.int .i64 t213, .int .i64 0, .int .i64 0]) ?_ 1 _ rfl; (with_reducible repeat first | refine bkN ?_ _ | refine bkd ?_ | refine bka ?_ _); refine blk_put (cs := #[.int .i64 0, .int .i64 0, .int .i64 0]) ?_ 0 _ rfl; (with_reducible repeat first | refine bkN ?_ _ | refine bkd ?_ | refine bka ?_ _); exact BK217.out⟩
        have n4_ : As0 (Below w.heap.size w (((w80.setCell ⟨gb217, 0, none⟩ (.int .i64 t213)).setCell ⟨gb217, 1, none⟩ (.int .i64 t214)).setCell ⟨gb217, 2, none⟩ (.int .i64 t215))) := ⟨by repeat (with_reducible first | exact HB.out | apply bal | apply pbN | apply bdw | refine bst ?_ GE210.out | refine bst ?_ GE211.out | refine bst ?_ GE217.out)⟩
        have HM_ : As0 (MemoD (mixF l0_0 a0_2) B D_ w (((w80.setCell ⟨gb217, 0, none⟩ (.int .i64 t213)).setCell ⟨gb217, 1, none⟩ (.int .i64 t214)).setCell ⟨gb217, 2, none⟩ (.int .i64 t215))) := ⟨(by repeat (with_reducible first | exact HM.out | apply mal | apply mdN | apply mdw | apply mst (hne := NM210.out) | apply mst (hne := NM211.out) | apply mst (hne := NM217.out)))⟩
        clear HM
        (try clear HO_9)
        (try clear BK210)
        (try clear BK211)
        (try clear BK217)
        (try clear HB)
        generalize (((w80.setCell ⟨gb217, 0, none⟩ (.int .i64 t213)).setCell ⟨gb217, 1, none⟩ (.int .i64 t214)).setCell ⟨gb217, 2, none⟩ (.int .i64 t215)) = w84 at HM_ n0_ n1_ n2_ n3_ n4_ ⊢
        have HM := HM_
        clear HM_
        have HO_9 := n0_
        have BK210 := n1_
        have BK211 := n2_
        have BK217 := n3_
        have HB := n4_
        clear n0_ n1_ n2_ n3_ n4_
        have n0_ := As0.mk (Kd.R_drew HO_9.out)
        have n1_ := As0.mk (bkd BK210.out)
        have n2_ := As0.mk (bkd BK211.out)
        have n3_ := As0.mk (bkd BK217.out)
        have n4_ := As0.mk (bdw HB.out)
        replace HM := As0.mk (mdw HM.out)
        clear HO_9
        clear BK210
        clear BK211
        clear BK217
        clear HB
        have HO_9 := n0_
        have BK210 := n1_
        have BK211 := n2_
        have BK217 := n3_
        have HB := n4_
        clear n0_ n1_ n2_ n3_ n4_
        refine start_ (n := 28) (S := fun w' => True) (ds := []) #[false, false, false, false, false, false, false, false, false, false, false, false, false, false, false, false, false, false, false, false, false, false, false, false, false, false, false, false] (by kernel_rfl) rfl rfl trivial (fun hHeld => ?_); refine with_tabW impl_mixes_best.tab11 impl_mixes_best.bits11 (fun HT_ HW_ => ?_)
        generalize w84.drew = w85 at HM HO_9 BK210 BK211 BK217 HB hHeld ⊢
        refine pure_ (i := 0) (N := some 39) (v := ?_) (a' := ?_) #[true, false, false, false, false, false, false, false, false, false, false, false, false, false, false, false, false, false, false, false, false, false, false, false, false, false, false, false] rfl rfl (any_of HT_.out (by kernel_rfl)) (fun _ _ _ h => h) (Or.inl ⟨by rfl, ?_⟩) ?_ ?_
        rotate_left
        ·intro w'
         go_simp
         with_reducible rfl
        rotate_left
        ·simp only [Act.put, sla, slz, sls, i64_w, i32_w]
         rfl
        refine pure_ (i := 1) (N := some 40) (v := ?_) (a' := ?_) #[true, true, false, false, false, false, false, false, false, false, false, false, false, false, false, false, false, false, false, false, false, false, false, false, false, false, false, false] rfl rfl (any_of HT_.out (by kernel_rfl)) (fun _ _ _ h => h) (Or.inl ⟨by rfl, ?_⟩) ?_ ?_
        rotate_left
        ·intro w'
         go_simp
         with_reducible rfl
        rotate_left
        ·simp only [Act.put, sla, slz, sls, i64_w, i32_w]
         rfl
        refine pure_ (i := 2) (N := some 41) (v := undef) (a' := ?_) #[true, true, true, false, false, false, false, false, false, false, false, false, false, false, false, false, false, false, false, false, false, false, false, false, false, false, false, false] rfl rfl (any_of HT_.out (by kernel_rfl)) (fun _ _ _ h => h) (Or.inr ⟨by rfl, rfl⟩) ?_ ?_
        rotate_left
        ·simp only [Act.put, sla, slz, sls, i64_w, i32_w]
         rfl
        refine pure_ (i := 3) (N := some 42) (v := undef) (a' := ?_) #[true, true, true, true, false, false, false, false, false, false, false, false, false, false, false, false, false, false, false, false, false, false, false, false, false, false, false, false] rfl rfl (any_of HT_.out (by kernel_rfl)) (fun _ _ _ h => h) (Or.inr ⟨by rfl, rfl⟩) ?_ ?_
        rotate_left
        ·simp only [Act.put, sla, slz, sls, i64_w, i32_w]
         rfl
        refine pure_ (i := 4) (N := some 43) (v := undef) (a' := ?_) #[true, true, true, true, true, false, false, false, false, false, false, false, false, false, false, false, false, false, false, false, false, false, false, false, false, false, false, false] rfl rfl (any_of HT_.out (by kernel_rfl)) (fun _ _ _ h => h) (Or.inr ⟨by rfl, rfl⟩) ?_ ?_
        rotate_left
        ·simp only [Act.put, sla, slz, sls, i64_w, i32_w]
         rfl
        refine pure_ (i := 5) (N := some 44) (v := undef) (a' := ?_) #[true, true, true, true, true, true, false, false, false, false, false, false, false, false, false, false, false, false, false, false, false, false, false, false, false, false, false, false] rfl rfl (any_of HT_.out (by kernel_rfl)) (fun _ _ _ h => h) (Or.inr ⟨by rfl, rfl⟩) ?_ ?_
        rotate_left
        ·simp only [Act.put, sla, slz, sls, i64_w, i32_w]
         rfl
        refine pure_ (i := 6) (N := some 45) (v := ?_) (a' := ?_) #[true, true, true, true, true, true, true, false, false, false, false, false, false, false, false, false, false, false, false, false, false, false, false, false, false, false, false, false] rfl rfl (any_of HT_.out (by kernel_rfl)) (fun _ _ _ h => h) (Or.inl ⟨by rfl, ?_⟩) ?_ ?_
        rotate_left
        ·intro w'
         go_simp
         with_reducible rfl
        rotate_left
        ·simp only [Act.put, sla, slz, sls, i64_w, i32_w]
         rfl
        refine pure_ (i := 7) (N := some 46) (v := ?_) (a' := ?_) #[true, true, true, true, true, true, true, true, false, false, false, false, false, false, false, false, false, false, false, false, false, false, false, false, false, false, false, false] rfl rfl (any_of HT_.out (by kernel_rfl)) (fun _ _ _ h => h) (Or.inl ⟨by rfl, ?_⟩) ?_ ?_
        rotate_left
        ·intro w'
         go_simp
         with_reducible rfl
        rotate_left
        ·simp only [Act.put, sla, slz, sls, i64_w, i32_w]
         rfl
        refine pure_ (i := 8) (N := some 47) (v := undef) (a' := ?_) #[true, true, true, true, true, true, true, true, true, false, false, false, false, false, false, false, false, false, false, false, false, false, false, false, false, false, false, false] rfl rfl (any_of HT_.out (by kernel_rfl)) (fun _ _ _ h => h) (Or.inr ⟨by rfl, rfl⟩) ?_ ?_
        rotate_left
        ·simp only [Act.put, sla, slz, sls, i64_w, i32_w]
         rfl
        refine pure_ (i := 9) (N := some 48) (v := undef) (a' := ?_) #[true, true, true, true, true, true, true, true, true, true, false, false, false, false, false, false, false, false, false, false, false, false, false, false, false, false, false, false] rfl rfl (any_of HT_.out (by kernel_rfl)) (fun _ _ _ h => h) (Or.inr ⟨by rfl, rfl⟩) ?_ ?_
        rotate_left
        ·simp only [Act.put, sla, slz, sls, i64_w, i32_w]
         rfl
        refine pure_ (i := 10) (N := some 49) (v := undef) (a' := ?_) #[true, true, true, true, true, true, true, true, true, true, true, false, false, false, false, false, false, false, false, false, false, false, false, false, false, false, false, false] rfl rfl (any_of HT_.out (by kernel_rfl)) (fun _ _ _ h => h) (Or.inr ⟨by rfl, rfl⟩) ?_ ?_
        rotate_left
        ·simp only [Act.put, sla, slz, sls, i64_w, i32_w]
         rfl
        refine pure_ (i := 11) (N := some 50) (v := undef) (a' := ?_) #[true, true, true, true, true, true, true, true, true, true, true, true, false, false, false, false, false, false, false, false, false, false, false, false, false, false, false, false] rfl rfl (any_of HT_.out (by kernel_rfl)) (fun _ _ _ h => h) (Or.inr ⟨by rfl, rfl⟩) ?_ ?_
        rotate_left
        ·simp only [Act.put, sla, slz, sls, i64_w, i32_w]
         rfl
        refine pure_ (i := 12) (N := some 51) (v := undef) (a' := ?_) #[true, true, true, true, true, true, true, true, true, true, true, true, true, false, false, false, false, false, false, false, false, false, false, false, false, false, false, false] rfl rfl (any_of HT_.out (by kernel_rfl)) (fun _ _ _ h => h) (Or.inr ⟨by rfl, rfl⟩) ?_ ?_
        rotate_left
        ·simp only [Act.put, sla, slz, sls, i64_w, i32_w]
         rfl
        refine pure_ (i := 13) (N := some 52) (v := undef) (a' := ?_) #[true, true, true, true, true, true, true, true, true, true, true, true, true, true, false, false, false, false, false, false, false, false, false, false, false, false, false, false] rfl rfl (any_of HT_.out (by kernel_rfl)) (fun _ _ _ h => h) (Or.inr ⟨by rfl, rfl⟩) ?_ ?_
        rotate_left
        ·simp only [Act.put, sla, slz, sls, i64_w, i32_w]
         rfl
        refine pure_ (i := 14) (N := some 53) (v := undef) (a' := ?_) #[true, true, true, true, true, true, true, true, true, true, true, true, true, true, true, false, false, false, false, false, false, false, false, false, false, false, false, false] rfl rfl (any_of HT_.out (by kernel_rfl)) (fun _ _ _ h => h) (Or.inr ⟨by rfl, rfl⟩) ?_ ?_
        rotate_left
        ·simp only [Act.put, sla, slz, sls, i64_w, i32_w]
         rfl
        refine pure_ (i := 15) (N := some 54) (v := undef) (a' := ?_) #[true, true, true, true, true, true, true, true, true, true, true, true, true, true, true, true, false, false, false, false, false, false, false, false, false, false, false, false] rfl rfl (any_of HT_.out (by kernel_rfl)) (fun _ _ _ h => h) (Or.inr ⟨by rfl, rfl⟩) ?_ ?_
        rotate_left
        ·simp only [Act.put, sla, slz, sls, i64_w, i32_w]
         rfl
        refine pure_ (i := 16) (N := some 55) (v := undef) (a' := ?_) #[true, true, true, true, true, true, true, true, true, true, true, true, true, true, true, true, true, false, false, false, false, false, false, false, false, false, false, false] rfl rfl (any_of HT_.out (by kernel_rfl)) (fun _ _ _ h => h) (Or.inr ⟨by rfl, rfl⟩) ?_ ?_
        rotate_left
        ·simp only [Act.put, sla, slz, sls, i64_w, i32_w]
         rfl
        refine pure_ (i := 17) (N := some 56) (v := undef) (a' := ?_) #[true, true, true, true, true, true, true, true, true, true, true, true, true, true, true, true, true, true, false, false, false, false, false, false, false, false, false, false] rfl rfl (any_of HT_.out (by kernel_rfl)) (fun _ _ _ h => h) (Or.inr ⟨by rfl, rfl⟩) ?_ ?_
        rotate_left
        ·simp only [Act.put, sla, slz, sls, i64_w, i32_w]
         rfl
        refine pure_ (i := 18) (N := some 57) (v := undef) (a' := ?_) #[true, true, true, true, true, true, true, true, true, true, true, true, true, true, true, true, true, true, true, false, false, false, false, false, false, false, false, false] rfl rfl (any_of HT_.out (by kernel_rfl)) (fun _ _ _ h => h) (Or.inr ⟨by rfl, rfl⟩) ?_ ?_
        rotate_left
        ·simp only [Act.put, sla, slz, sls, i64_w, i32_w]
         rfl
        refine pure_ (i := 19) (N := some 58) (v := undef) (a' := ?_) #[true, true, true, true, true, true, true, true, true, true, true, true, true, true, true, true, true, true, true, true, false, false, false, false, false, false, false, false] rfl rfl (any_of HT_.out (by kernel_rfl)) (fun _ _ _ h => h) (Or.inr ⟨by rfl, rfl⟩) ?_ ?_
        rotate_left
        ·simp only [Act.put, sla, slz, sls, i64_w, i32_w]
         rfl
        refine pure_ (i := 20) (N := some 59) (v := undef) (a' := ?_) #[true, true, true, true, true, true, true, true, true, true, true, true, true, true, true, true, true, true, true, true, true, false, false, false, false, false, false, false] rfl rfl (any_of HT_.out (by kernel_rfl)) (fun _ _ _ h => h) (Or.inr ⟨by rfl, rfl⟩) ?_ ?_
        rotate_left
        ·simp only [Act.put, sla, slz, sls, i64_w, i32_w]
         rfl
        refine pure_ (i := 21) (N := some 60) (v := undef) (a' := ?_) #[true, true, true, true, true, true, true, true, true, true, true, true, true, true, true, true, true, true, true, true, true, true, false, false, false, false, false, false] rfl rfl (any_of HT_.out (by kernel_rfl)) (fun _ _ _ h => h) (Or.inr ⟨by rfl, rfl⟩) ?_ ?_
        rotate_left
        ·simp only [Act.put, sla, slz, sls, i64_w, i32_w]
         rfl
        refine pure_ (i := 22) (N := some 61) (v := undef) (a' := ?_) #[true, true, true, true, true, true, true, true, true, true, true, true, true, true, true, true, true, true, true, true, true, true, true, false, false, false, false, false] rfl rfl (any_of HT_.out (by kernel_rfl)) (fun _ _ _ h => h) (Or.inr ⟨by rfl, rfl⟩) ?_ ?_
        rotate_left
        ·simp only [Act.put, sla, slz, sls, i64_w, i32_w]
         rfl
        refine pure_ (i := 23) (N := some 62) (v := undef) (a' := ?_) #[true, true, true, true, true, true, true, true, true, true, true, true, true, true, true, true, true, true, true, true, true, true, true, true, false, false, false, false] rfl rfl (any_of HT_.out (by kernel_rfl)) (fun _ _ _ h => h) (Or.inr ⟨by rfl, rfl⟩) ?_ ?_
        rotate_left
        ·simp only [Act.put, sla, slz, sls, i64_w, i32_w]
         rfl
        refine pure_ (i := 24) (N := some 63) (v := undef) (a' := ?_) #[true, true, true, true, true, true, true, true, true, true, true, true, true, true, true, true, true, true, true, true, true, true, true, true, true, false, false, false] rfl rfl (any_of HT_.out (by kernel_rfl)) (fun _ _ _ h => h) (Or.inr ⟨by rfl, rfl⟩) ?_ ?_
        rotate_left
        ·simp only [Act.put, sla, slz, sls, i64_w, i32_w]
         rfl
        refine pure_ (i := 25) (N := some 64) (v := undef) (a' := ?_) #[true, true, true, true, true, true, true, true, true, true, true, true, true, true, true, true, true, true, true, true, true, true, true, true, true, true, false, false] rfl rfl (any_of HT_.out (by kernel_rfl)) (fun _ _ _ h => h) (Or.inr ⟨by rfl, rfl⟩) ?_ ?_
        rotate_left
        ·simp only [Act.put, sla, slz, sls, i64_w, i32_w]
         rfl
        refine pure_ (i := 26) (N := some 65) (v := undef) (a' := ?_) #[true, true, true, true, true, true, true, true, true, true, true, true, true, true, true, true, true, true, true, true, true, true, true, true, true, true, true, false] rfl rfl (any_of HT_.out (by kernel_rfl)) (fun _ _ _ h => h) (Or.inr ⟨by rfl, rfl⟩) ?_ ?_
        rotate_left
        ·simp only [Act.put, sla, slz, sls, i64_w, i32_w]
         rfl
        refine pure_ (i := 27) (N := some 66) (v := ?_) (a' := ?_) #[true, true, true, true, true, true, true, true, true, true, true, true, true, true, true, true, true, true, true, true, true, true, true, true, true, true, true, true] rfl rfl (any_of HT_.out (by kernel_rfl)) (fun _ _ _ h => h) (Or.inl ⟨by rfl, ?_⟩) ?_ ?_
        rotate_left
        ·intro w'
         go_simp
         with_reducible rfl
        rotate_left
        ·simp only [Act.put, sla, slz, sls, i64_w, i32_w]
         rfl
        refine done_ (done_of HT_.out (by kernel_rfl)) ?_
        try go_wp2
        go_roundg k2
        case measure => have := HK1.out; have := HK2.out; omega
        case rel => exact ⟨(x9_2), (wrap64 (x10_2 + 1)), (x253000_2), (x253001_2), (x253002_2), D_, (by first | rfl | (simp; done) | (simp [*]; done)), H', ⟨by have := HK1.out; have := HK2.out; omega⟩, ⟨by (with_reducible repeat (first | apply Kd.R_alloc | apply Kd.R_drewN | apply Kd.R_drew)); exact HO_9.out⟩, ⟨by (with_reducible repeat first | refine bkN ?_ _ | refine bkd ?_ | refine bka ?_ _); exact BK210.out⟩, ⟨by (with_reducible repeat first | refine bkN ?_ _ | refine bkd ?_ | refine bka ?_ _); exact BK211.out⟩, ⟨by repeat (with_reducible first | exact HB.out | apply bal | apply pbN | apply bdw | refine bst ?_ GE210.out | refine bst ?_ GE211.out | refine bst ?_ GE217.out)⟩, ⟨(by repeat (with_reducible first | exact HM.out | apply mal | apply mdN | apply mdw | apply mst (hne := NM210.out) | apply mst (hne := NM211.out) | apply mst (hne := NM217.out)))⟩, HIX, ⟨HXB.out.2⟩⟩
    ·rw [if_neg c19] at H
     have c19b0 : decide (x253000_1 < (l0_0.length : Int)) = false := decide_eq_false c19
     clear c19
     simp only [Option.some.injEq, Prod.mk.injEq] at H
     obtain ⟨rfl, rfl, rfl⟩ := H
     have hnb86 := NB211_210.out
     have hnc86 := NB210_211.out
     have hcz87_0 : wr.cell? ⟨gb211, 0, none⟩ = some (.int .i64 x253000_1) := (bkc BK211.out 0).trans rfl
     have hcz87_1 : wr.cell? ⟨gb211, 1, none⟩ = some (.int .i64 x253001_1) := (bkc BK211.out 1).trans rfl
     have hcz87_2 : wr.cell? ⟨gb211, 2, none⟩ = some (.int .i64 x253002_1) := (bkc BK211.out 2).trans rfl
     have hfz87_0 := bkf BK211.out 0
     have hfz87_1 := bkf BK211.out 1
     have hfz87_2 := bkf BK211.out 2
     have hcz88_0 : wr.cell? ⟨gb210, 0, none⟩ = some (.slice A0_0 l0_0.length c0_0) := (bkc BK210.out 0).trans rfl
     have hcz88_1 : wr.cell? ⟨gb210, 1, none⟩ = some (.func (.func 29) #[] #[]) := (bkc BK210.out 1).trans rfl
     have hcz88_2 : wr.cell? ⟨gb210, 2, none⟩ = some (.int .i64 a0_2) := (bkc BK210.out 2).trans rfl
     have hcz88_3 : wr.cell? ⟨gb210, 3, none⟩ = some (.map none) := (bkc BK210.out 3).trans rfl
     have hcz88_4 : wr.cell? ⟨gb210, 4, none⟩ = some (.map (some B)) := (bkc BK210.out 4).trans rfl
     have hfz88_0 := bkf BK210.out 0
     have hfz88_1 := bkf BK210.out 1
     have hfz88_2 := bkf BK210.out 2
     have hfz88_3 := bkf BK210.out 3
     have hfz88_4 := bkf BK210.out 4
     go_wp2
     go_ret3
     exact ⟨_, by first | rfl | (simp [eWn, eWs] <;> rfl) | (simp [*, eWn, eWs] <;> rfl), by (with_reducible repeat (first | apply Kd.R_alloc | apply Kd.R_drewN | apply Kd.R_drew)); exact HO_9.out, by repeat (with_reducible first | exact HB.out | apply bal | apply pbN | apply bdw | refine bst ?_ GE210.out | refine bst ?_ GE211.out)⟩

end Go.Proofs.Ytnhkamfccoppbaa.QCleanestMix
