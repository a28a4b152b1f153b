-- Written by press.py, a program of this session, round the kit's print.py (functions and contracts; Lean checks them).
import Derived.Test.YtamiipnoeffjkaaQNodeLoadsx0
import Derived.Test.YtamiipnoeffjkaaQNodeLoadsx1
import Derived.Test.YtamiipnoeffjkaaQNodeLoadsx5
import Derived.Test.YtamiipnoeffjkaaQNodeLoadsx7
import Derived.Test.YtamiipnoeffjkaaQNodeLoadsx8
namespace Go.Proofs.Ytamiipnoeffjkaa.QNodeLoads
open Go.Proofs.Ytamiipnoeffjkaa.QWords
attribute [local go_sem high] binOp_string_geq_q binOp_string_leq_q binOp_string_gtr_q
open Go.RowKit Go.Proofs.YtamiipnoeffjkaaW.PrintWords Go.Proofs.YtamiipnoeffjkaaW.PrintLast Go.Proofs.YtamiipnoeffjkaaW.PrintMore
attribute [local go_sem] max2_int min2_int max_two min_two max_three min_three max_four min_four   -- for this text's walks alone
set_option linter.unusedVariables false
set_option linter.unusedSimpArgs false

/-! ### impl_NodeLoads: function 59 -/
def impl_NodeLoads.l0 : Nat → Int → Int → Int → List Int → List (S96) → Int → Int → Option (List Int × Int)
  | 0, _, _, _, _, _, _, _ => none
  | k + 1, x1, x2, x3, x10, x33, x34, x35 => if x35 < x34 then (if 0 ≤ x35 then (if x35 < (x33.length : Int) then (if ((rd_T96 x33 x35).f1) ≥ x1 then (some (([] : List Int), 6)) else (if 0 ≤ ((rd_T96 x33 x35).f1) then (if ((rd_T96 x33 x35).f1) < (x10.length : Int) then ((impl_Building_load.f ((rd_T96 x33 x35).f0) ((rd_T96 x33 x35).f1) ((rd_T96 x33 x35).f2) ((rd_T96 x33 x35).f3) ((rd_T96 x33 x35).f4) ((rd_T96 x33 x35).f5) x2 x3).bind fun t211 => (impl_NodeLoads.l0 k x1 x2 x3 (x10.set (((rd_T96 x33 x35).f1) : Int).toNat (wrap64 ((rd x10 ((rd_T96 x33 x35).f1)) + t211))) x33 x34 (wrap64 (x35 + 1)))) else (none)) else (none))) else (none)) else (none)) else (some (x10, 0))
def impl_NodeLoads.f (k : Nat) (l0 : List (S96)) (a1 : Int) (a2 : Int) (a3 : Int) : Option (List Int × Int) := (impl_ValidBuildings.f k l0).bind fun t201 => (if t201 = true then ((impl_within.f a1 1 16).bind fun t202 => (if t202 = true then ((impl_outdoorOk.f a2).bind fun t203 => (if t203 = true then ((impl_hourOk.f a3).bind fun t204 => (if t204 = true then (if 0 ≤ a1 then (if (a1 : Int).toNat ≤ 35184372088832 then (impl_NodeLoads.l0 k a1 a2 a3 (List.replicate (a1 : Int).toNat 0) l0 (l0.length : Int) 0) else (none)) else (none)) else (some (([] : List Int), 2)))) else (some (([] : List Int), 2)))) else (some (([] : List Int), 2)))) else (some (([] : List Int), 1)))
theorem impl_NodeLoads.mono_l : ∀ k, (∀ y0 y1 y2 y3 y4 y5 y6, LeO (impl_NodeLoads.l0 k y0 y1 y2 y3 y4 y5 y6) (impl_NodeLoads.l0 (k + 1) y0 y1 y2 y3 y4 y5 y6))
  | 0 => fun _ _ _ _ _ _ _ r h => by simp [impl_NodeLoads.l0] at h
  | k + 1 => by
    have ih0 := impl_NodeLoads.mono_l k
    · intro y0 y1 y2 y3 y4 y5 y6
      unfold impl_NodeLoads.l0
      repeat' first
      | (with_reducible exact ih0 _ _ _ _ _ _ _)
      | (with_reducible exact impl_ValidBuildings.mono _ _)
      | (with_reducible exact LeO.refl _)
      | (with_reducible exact LeO.none _)
      | (with_reducible refine LeO.ite ?_ ?_)
      | (with_reducible refine LeO.bind ?_ (fun _ => ?_))
      | exact ih0 _ _ _ _ _ _ _
      | exact impl_ValidBuildings.mono _ _
      | exact LeO.none _
      | refine LeO.ite ?_ ?_
      | refine LeO.bind ?_ (fun _ => ?_)
theorem impl_NodeLoads.mono : ∀ a0 a1 a2 a3 k, LeO (impl_NodeLoads.f k a0 a1 a2 a3) (impl_NodeLoads.f (k + 1) a0 a1 a2 a3) := by
  intro a0 a1 a2 a3 k
  have ih0 := impl_NodeLoads.mono_l k
  unfold impl_NodeLoads.f
  repeat' first
      | (with_reducible exact ih0 _ _ _ _ _ _ _)
      | (with_reducible exact impl_ValidBuildings.mono _ _)
      | (with_reducible exact LeO.refl _)
      | (with_reducible exact LeO.none _)
      | (with_reducible refine LeO.ite ?_ ?_)
      | (with_reducible refine LeO.bind ?_ (fun _ => ?_))
      | exact ih0 _ _ _ _ _ _ _
      | exact impl_ValidBuildings.mono _ _
      | exact LeO.none _
      | refine LeO.ite ?_ ?_
      | refine LeO.bind ?_ (fun _ => ?_)
def impl_NodeLoads.T11 : Bool × List (List Nat × List Nat) := (true, [([], []), ([], []), ([1], [1]), ([0, 2], [0, 2]), ([3], [3]), ([], []), ([], []), ([], []), ([5, 6, 7], [5, 6, 7]), ([4, 8], [4, 8]), ([0, 2, 0, 1, 2, 3, 4, 5, 6, 7, 8, 9], [0, 2]), ([10, 9, 8, 0, 1, 2, 3, 4, 5, 6, 7, 8, 9], [9, 10])])
def impl_NodeLoads.B11 : List Nat := [0, 0, 2, 7, 15, 0, 0, 0, 224, 511, 1023, 2047]
theorem impl_NodeLoads.tab11 : rtab .any (opsOf Try.f59 11) = impl_NodeLoads.T11 := by kernel_rfl
theorem impl_NodeLoads.bits11 : waitsOk impl_NodeLoads.T11.2 impl_NodeLoads.B11 = true := by kernel_rfl
set_option maxHeartbeats 8000000 in
set_option maxRecDepth 100000 in
theorem impl_NodeLoads.calls (k : Nat) (A0 : Option Addr) (c0 : Nat) (l0 : List (S96)) (a1 : Int) (a2 : Int) (a3 : Int) (r1 : List Int) (r2 : Int) (w : World) (hr0 : Kd.C k96 w A0 l0.length l0) (hc0 : l0.length ≤ c0) (h : impl_NodeLoads.f k l0 a1 a2 a3 = some (r1, r2)) :
    Calls Try.prog 59 #[.slice A0 l0.length c0, .int .i64 a1, .int .i64 a2, .int .i64 a3] w fun e w' => ∃ v0_ : Value, e = .returned (.tuple #[v0_, .int .i64 r2]) ∧ Kd.R (Kd.int .i64) 2 w' w.heap.size (fun _ => True) v0_ r1 ∧ Below w.heap.size w w' := by
  have hu96 := Try.underlying96
  have HR0 := Aside0.mk hr0
  have HC0 := Aside0.mk hc0
  clear hr0 hc0
  have HB := Aside0.mk (Below.refl w.heap.size w)
  have H : ((impl_ValidBuildings.f k l0).bind fun t201 => (if t201 = true then ((impl_within.f a1 1 16).bind fun t202 => (if t202 = true then ((impl_outdoorOk.f a2).bind fun t203 => (if t203 = true then ((impl_hourOk.f a3).bind fun t204 => (if t204 = true then (if 0 ≤ a1 then (if (a1 : Int).toNat ≤ 35184372088832 then (impl_NodeLoads.l0 k a1 a2 a3 (List.replicate (a1 : Int).toNat 0) l0 (l0.length : Int) 0) else (none)) else (none)) else (some (([] : List Int), 2)))) else (some (([] : List Int), 2)))) else (some (([] : List Int), 2)))) else (some (([] : List Int), 1)))) = some (r1, r2) := h
  clear h
  replace H := Option.bind_eq_some_iff.mp H
  obtain ⟨t201, A50, H⟩ := H
  replace H : (if t201 = true then ((impl_within.f a1 1 16).bind fun t202 => (if t202 = true then ((impl_outdoorOk.f a2).bind fun t203 => (if t203 = true then ((impl_hourOk.f a3).bind fun t204 => (if t204 = true then (if 0 ≤ a1 then (if (a1 : Int).toNat ≤ 35184372088832 then (impl_NodeLoads.l0 k a1 a2 a3 (List.replicate (a1 : Int).toNat 0) l0 (l0.length : Int) 0) else (none)) else (none)) else (some (([] : List Int), 2)))) else (some (([] : List Int), 2)))) else (some (([] : List Int), 2)))) else (some (([] : List Int), 1))) = some (r1, r2) := H
  have A5 := Aside0.mk A50
  clear A50
  by_cases c6 : t201 = true
  · subst c6
    have H1 : ((impl_within.f a1 1 16).bind fun t202 => (if t202 = true then ((impl_outdoorOk.f a2).bind fun t203 => (if t203 = true then ((impl_hourOk.f a3).bind fun t204 => (if t204 = true then (if 0 ≤ a1 then (if (a1 : Int).toNat ≤ 35184372088832 then (impl_NodeLoads.l0 k a1 a2 a3 (List.replicate (a1 : Int).toNat 0) l0 (l0.length : Int) 0) else (none)) else (none)) else (some (([] : List Int), 2)))) else (some (([] : List Int), 2)))) else (some (([] : List Int), 2)))) = some (r1, r2) := by rw [if_pos rfl] at H; exact H
    clear H
    have H := H1
    clear H1
    replace H := Option.bind_eq_some_iff.mp H
    obtain ⟨t202, A70, H⟩ := H
    replace H : (if t202 = true then ((impl_outdoorOk.f a2).bind fun t203 => (if t203 = true then ((impl_hourOk.f a3).bind fun t204 => (if t204 = true then (if 0 ≤ a1 then (if (a1 : Int).toNat ≤ 35184372088832 then (impl_NodeLoads.l0 k a1 a2 a3 (List.replicate (a1 : Int).toNat 0) l0 (l0.length : Int) 0) else (none)) else (none)) else (some (([] : List Int), 2)))) else (some (([] : List Int), 2)))) else (some (([] : List Int), 2))) = some (r1, r2) := H
    have A7 := Aside0.mk A70
    clear A70
    by_cases c8 : t202 = true
    · subst c8
      have H1 : ((impl_outdoorOk.f a2).bind fun t203 => (if t203 = true then ((impl_hourOk.f a3).bind fun t204 => (if t204 = true then (if 0 ≤ a1 then (if (a1 : Int).toNat ≤ 35184372088832 then (impl_NodeLoads.l0 k a1 a2 a3 (List.replicate (a1 : Int).toNat 0) l0 (l0.length : Int) 0) else (none)) else (none)) else (some (([] : List Int), 2)))) else (some (([] : List Int), 2)))) = some (r1, r2) := by rw [if_pos rfl] at H; exact H
      clear H
      have H := H1
      clear H1
      replace H := Option.bind_eq_some_iff.mp H
      obtain ⟨t203, A90, H⟩ := H
      replace H : (if t203 = true then ((impl_hourOk.f a3).bind fun t204 => (if t204 = true then (if 0 ≤ a1 then (if (a1 : Int).toNat ≤ 35184372088832 then (impl_NodeLoads.l0 k a1 a2 a3 (List.replicate (a1 : Int).toNat 0) l0 (l0.length : Int) 0) else (none)) else (none)) else (some (([] : List Int), 2)))) else (some (([] : List Int), 2))) = some (r1, r2) := H
      have A9 := Aside0.mk A90
      clear A90
      by_cases c10 : t203 = true
      · subst c10
        have H1 : ((impl_hourOk.f a3).bind fun t204 => (if t204 = true then (if 0 ≤ a1 then (if (a1 : Int).toNat ≤ 35184372088832 then (impl_NodeLoads.l0 k a1 a2 a3 (List.replicate (a1 : Int).toNat 0) l0 (l0.length : Int) 0) else (none)) else (none)) else (some (([] : List Int), 2)))) = some (r1, r2) := by rw [if_pos rfl] at H; exact H
        clear H
        have H := H1
        clear H1
        replace H := Option.bind_eq_some_iff.mp H
        obtain ⟨t204, A110, H⟩ := H
        replace H : (if t204 = true then (if 0 ≤ a1 then (if (a1 : Int).toNat ≤ 35184372088832 then (impl_NodeLoads.l0 k a1 a2 a3 (List.replicate (a1 : Int).toNat 0) l0 (l0.length : Int) 0) else (none)) else (none)) else (some (([] : List Int), 2))) = some (r1, r2) := H
        have A11 := Aside0.mk A110
        clear A110
        by_cases c12 : t204 = true
        · subst c12
          have H1 : (if 0 ≤ a1 then (if (a1 : Int).toNat ≤ 35184372088832 then (impl_NodeLoads.l0 k a1 a2 a3 (List.replicate (a1 : Int).toNat 0) l0 (l0.length : Int) 0) else (none)) else (none)) = some (r1, r2) := by rw [if_pos rfl] at H; exact H
          clear H
          have H := H1
          clear H1
          by_cases c13 : 0 ≤ a1
          · rw [if_pos c13] at H
            have c13b0 := eq_true c13
            have c13b1 : decide (0 ≤ a1) = true := decide_eq_true c13
            clear c13
            by_cases c14 : (a1 : Int).toNat ≤ 35184372088832
            · rw [if_pos c14] at H
              have c14b0 := eq_true c14
              have c14b1 : decide ((a1 : Int).toNat ≤ 35184372088832) = true := decide_eq_true c14
              clear c14
              obtain ⟨y205, hy205⟩ : ∃ y_ : List Int, y_ = (List.replicate (a1 : Int).toNat 0) := ⟨_, rfl⟩
              replace H : (impl_NodeLoads.l0 k a1 a2 a3 y205 l0 (l0.length : Int) 0) = some (r1, r2) := by first | (rw [hy205]; with_reducible exact H) | (have H2_ := (Option.bind_some _ _).symm.trans H; rw [hy205]; with_reducible exact H2_) | (have H2_ := (Option.bind_some _ _).symm.trans H; with_reducible exact H2_) | with_reducible exact H | (rw [hy205]; exact H) | exact H
              have Ny205 := Aside0.mk hy205
              clear hy205
              have H' := Aside0.mk H
              clear H
              go_enter Try.func59, Try.ntmps59
              go_wp2_with (first | ((with_reducible refine gate_callee (f := 128) rfl ?_); refine goesL_ (some 15) rfl rfl Try.func128 (by kernel_rfl) rfl #[.slice A0 l0.length c0] rfl (by (try simp only [List.map_toArray, List.map_cons, List.map_nil]); first | done | rfl | (simp only [List.length_drop, List.length_take]; rfl)) ?_; (with_reducible refine (impl_ValidBuildings.calls k _ _ l0 true _ ?side1 ?side2 A5.out).mono ?_); (case side1 => repeat (first | exact HR0.out | (with_reducible refine Kd.C_alloc ?_ _) | (with_reducible refine Kd.C_drewN ?_ _) | (with_reducible refine Kd.C_drew ?_))); (case side2 => exact HC0.out); rintro e w15 ⟨rfl, hb⟩; refine ⟨_, rfl, ?_⟩; have n0_ := Aside0.mk (below_step (by repeat (first | (with_reducible first | exact HB.out | apply below_alloc | apply pw_below_drewN | apply below_drew1) | exact HB.out)) hb); clear HB; have HB := n0_; clear n0_; (try clear hb); (try clear hb2); (try clear hk); (try clear hi)) | ((with_reducible refine gate_callee (f := 99) rfl ?_); refine goesL_ (some 19) rfl rfl Try.func99 (by kernel_rfl) rfl #[.int .i64 a1, .int .i64 1, .int .i64 16] rfl (by (try simp only [List.map_toArray, List.map_cons, List.map_nil]); first | done | rfl | (simp only [List.length_drop, List.length_take]; rfl)) ?_; (with_reducible refine (impl_within.calls a1 1 16 true _ A7.out).mono ?_); rintro e w' ⟨rfl, ⟨nd, rfl⟩⟩; refine ⟨_, rfl, ?_⟩) | (go_at_call 140; (first | (with_reducible refine (impl_outdoorOk.calls a2 true _ A9.out).mono ?_) | ((try simp only [Go.IntWalk.i64_left]); (with_reducible refine (impl_outdoorOk.calls a2 true _ A9.out).mono ?_))); rintro e w' ⟨rfl, ⟨nd, rfl⟩⟩) | (go_at_call 129; (first | (with_reducible refine (impl_hourOk.calls a3 true _ A11.out).mono ?_) | ((try simp only [Go.IntWalk.i64_left]); (with_reducible refine (impl_hourOk.calls a3 true _ A11.out).mono ?_))); rintro e w' ⟨rfl, ⟨nd, rfl⟩⟩) | ((with_reducible refine gate_dst (N := 32) rfl ?_); refine Kd.R_make (Kd.int .i64) _ 2 rfl (N := 32) rfl 36 _ _ rfl a1 rfl rfl Try.underlying36 (.int .i64 0) 8 info2 rfl (by decide) (by omega) 0 (ok := fun _ => True) (okp := fun _ => True) rfl (fun _ hk => hk) trivial (of_decide_eq_true (by first | (with_reducible assumption) | assumption)) (Nat.le_trans (Nat.mul_le_mul_right _ (of_decide_eq_true (by first | (with_reducible assumption) | assumption) : a1.toNat ≤ 35184372088832)) (by omega)) (Below.refl _ _) (Nat.le_refl _) ?_; intro v206 w16 ho17 hb hg_ hnew_; clear hg_ hnew_; (first | rw [← Ny205.out] at ho17 | (simp only [Int.reduceToNat] at ho17; rw [← Ny205.out] at ho17)); have n0_ := Aside0.mk (Kd.R_lower ho17 (below_size (by repeat (first | (with_reducible first | exact HB.out | apply below_alloc | apply pw_below_drewN | apply below_drew1) | exact HB.out)))); have n1_ := Aside0.mk (below_step (by repeat (first | (with_reducible first | exact HB.out | apply below_alloc | apply pw_below_drewN | apply below_drew1) | exact HB.out)) hb); clear HB; have HO207 := n0_; have HB := n1_; clear n0_ n1_; clear hb ho17))
              go_loopg [35] k (fun kq v35 w' => ∃ (x10_1 : List Int) (x35_1 : Int), v35 = .int .i64 x35_1 ∧ Aside0 (impl_NodeLoads.l0 kq a1 a2 a3 x10_1 l0 (l0.length : Int) x35_1 = some (r1, r2)) ∧ Aside0 (kq ≤ k) ∧ Aside0 (Kd.R (Kd.int .i64) 2 w' w.heap.size (fun _ => True) v206 x10_1) ∧ Aside0 (Below w.heap.size w w'))
              case atStart => exact ⟨(y205), (0), (by first | rfl | (simp; done) | (simp [*]; done)), H', ⟨Nat.le_refl _⟩, ⟨by (with_reducible repeat (first | apply Kd.R_alloc | apply Kd.R_drewN | apply Kd.R_drew)); exact HO207.out⟩, ⟨by repeat (first | (with_reducible first | exact HB.out | apply below_alloc | apply pw_below_drewN | apply below_drew1) | exact HB.out)⟩⟩
              case round =>
                clear H'
                try clear c1
                try clear p2
                try clear c5
                try clear c6
                try clear c8
                try clear c9
                try clear c10
                try clear c12
                try clear c13
                try clear c13b0
                try clear c13b1
                try clear c14
                try clear c14b0
                try clear c14b1
                obtain ⟨x10_1, x35_1, rfl, HA, HK1, HO_10, HB⟩ := hrel
                cases gk with
                | zero => exact absurd HA.out (by simp [impl_NodeLoads.l0])
                | succ k1 =>
                  have H := HA.out
                  clear HA
                  simp only [impl_NodeLoads.l0] at H
                  by_cases c18 : x35_1 < (l0.length : Int)
                  · rw [if_pos c18] at H
                    have c18b0 : decide (x35_1 < (l0.length : Int)) = true := decide_eq_true c18
                    clear c18
                    by_cases c19 : 0 ≤ x35_1
                    · rw [if_pos c19] at H
                      have c19b0 : decide (0 ≤ x35_1) = true := decide_eq_true c19
                      clear c19
                      by_cases c20 : x35_1 < (l0.length : Int)
                      · rw [if_pos c20] at H
                        have c20b0 : decide (x35_1 < (l0.length : Int)) = true := decide_eq_true c20
                        clear c20
                        by_cases c21 : ((rd_T96 l0 x35_1).f1) ≥ a1
                        · rw [if_pos c21] at H
                          have c21b0 : decide (a1 ≤ ((rd_T96 l0 x35_1).f1)) = true := decide_eq_true c21
                          clear c21
                          simp only [Option.some.injEq, Prod.mk.injEq] at H
                          obtain ⟨rfl, rfl⟩ := H
                          have p208 : 0 ≤ (x35_1 : Int) := of_decide_eq_true (by first | (with_reducible assumption) | assumption)
                          have q208 : x35_1 < (l0.length : Int) := of_decide_eq_true (by first | (with_reducible assumption) | assumption)
                          obtain ⟨ad208, A208_5, c208_5, e208, hx208_0, hx208_1, hx208_2, hx208_3, hx208_4, hx208_5, hl208_5, hi208_5⟩ := at_T96 HR0.out x35_1 p208 q208
                          cases e208
                          replace hx208_0 := (HB.out.cell (World.block_lt_of_cell? w _ hx208_0)).trans hx208_0
                          replace hx208_1 := (HB.out.cell (World.block_lt_of_cell? w _ hx208_1)).trans hx208_1
                          replace hx208_2 := (HB.out.cell (World.block_lt_of_cell? w _ hx208_2)).trans hx208_2
                          replace hx208_3 := (HB.out.cell (World.block_lt_of_cell? w _ hx208_3)).trans hx208_3
                          replace hx208_4 := (HB.out.cell (World.block_lt_of_cell? w _ hx208_4)).trans hx208_4
                          replace hx208_5 := (HB.out.cell (World.block_lt_of_cell? w _ hx208_5)).trans hx208_5
                          have HR208_5 := Aside0.mk hi208_5
                          have HC208_5 := Aside0.mk hl208_5
                          clear hi208_5 hl208_5
                          replace p208 := eq_true p208
                          replace q208 := eq_true q208
                          go_wp2_with (first | ((with_reducible refine gate_dst (N := 12) rfl ?_); refine box_event ?hg (N := 12) ?hd (cs := #[.string (⟨#[]⟩ : ByteArray), .int .i64 0, .int .i64 0, .int .i64 0, .int .i64 0, .slice none 0 0]) (t := 96) ?hr ?_; (case hd => rfl); (case hg => rfl); (case hr => first | (go_simp; done) | (go_simp; rfl)); intro gb209 hg w22 hbox hb; have n0_ := Aside0.mk (Kd.R_below (by (with_reducible repeat (first | apply Kd.R_alloc | apply Kd.R_drewN | apply Kd.R_drew)); exact HO_10.out) hb); have n1_ := Aside0.mk (below_step (by repeat (first | (with_reducible first | exact HB.out | apply below_alloc | apply pw_below_drewN | apply below_drew1) | exact HB.out)) hb); have n2_ := Aside0.mk (hbox); have n3_ := Aside0.mk ((by rw [hg]; exact (below_size (by repeat (first | (with_reducible first | exact HB.out | apply below_alloc | apply pw_below_drewN | apply below_drew1) | exact HB.out))) : w.heap.size ≤ gb209)); have n4_ := Aside0.mk ((by rw [hg]; exact (below_size (by repeat (first | (with_reducible first | exact HB.out | apply below_alloc | apply pw_below_drewN | apply below_drew1) | exact HB.out))) : w.heap.size ≤ gb209)); clear HO_10; clear HB; have HO_10 := n0_; have HB := n1_; have BK209 := n2_; have GW209 := n3_; have GE209 := n4_; clear n0_ n1_ n2_ n3_ n4_; clear hb hbox hg; have hcz23_0 : w22.cell? ⟨gb209, 0, none⟩ = some (.string (⟨#[]⟩ : ByteArray)) := (blk_cell BK209.out 0).trans rfl; have hcz23_1 : w22.cell? ⟨gb209, 1, none⟩ = some (.int .i64 0) := (blk_cell BK209.out 1).trans rfl; have hcz23_2 : w22.cell? ⟨gb209, 2, none⟩ = some (.int .i64 0) := (blk_cell BK209.out 2).trans rfl; have hcz23_3 : w22.cell? ⟨gb209, 3, none⟩ = some (.int .i64 0) := (blk_cell BK209.out 3).trans rfl; have hcz23_4 : w22.cell? ⟨gb209, 4, none⟩ = some (.int .i64 0) := (blk_cell BK209.out 4).trans rfl; have hcz23_5 : w22.cell? ⟨gb209, 5, none⟩ = some (.slice none 0 0) := (blk_cell BK209.out 5).trans rfl; have hfz23_0 := blk_frozen BK209.out 0; have hfz23_1 := blk_frozen BK209.out 1; have hfz23_2 := blk_frozen BK209.out 2; have hfz23_3 := blk_frozen BK209.out 3; have hfz23_4 := blk_frozen BK209.out 4; have hfz23_5 := blk_frozen BK209.out 5))
                          go_ret2
                          exact ⟨_, by first | rfl | (simp [errW_none, errW_some] <;> rfl) | (simp [*, errW_none, errW_some] <;> rfl), by first | exact Kd.R_nil _ _ _ _ _ | exact Kd.N_nil _ _ _ _ _ | exact Kd.V_nil _ _ _ _ _ | exact Kd.Q_nil _ _ _ _ _ | exact Kd.S_nil _ _ _ _ _, by repeat (first | (with_reducible first | exact HB.out | apply below_alloc | apply pw_below_drewN | apply below_drew1 | refine below_set ?_ GE209.out) | exact HB.out)⟩
                        · rw [if_neg c21] at H
                          have c21b0 : decide (a1 ≤ ((rd_T96 l0 x35_1).f1)) = false := decide_eq_false c21
                          clear c21
                          by_cases c24 : 0 ≤ ((rd_T96 l0 x35_1).f1)
                          · rw [if_pos c24] at H
                            have c24b0 : decide (0 ≤ ((rd_T96 l0 x35_1).f1)) = true := decide_eq_true c24
                            clear c24
                            by_cases c25 : ((rd_T96 l0 x35_1).f1) < (x10_1.length : Int)
                            · rw [if_pos c25] at H
                              have c25b0 : decide (((rd_T96 l0 x35_1).f1) < (x10_1.length : Int)) = true := decide_eq_true c25
                              clear c25
                              replace H := Option.bind_eq_some_iff.mp H
                              obtain ⟨t211, A260, H⟩ := H
                              replace H : (impl_NodeLoads.l0 k1 a1 a2 a3 (x10_1.set (((rd_T96 l0 x35_1).f1) : Int).toNat (wrap64 ((rd x10_1 ((rd_T96 l0 x35_1).f1)) + t211))) l0 (l0.length : Int) (wrap64 (x35_1 + 1))) = some (r1, r2) := H
                              have A26 := Aside0.mk A260
                              clear A260
                              obtain ⟨y212, hy212⟩ : ∃ y_ : List Int, y_ = (x10_1.set (((rd_T96 l0 x35_1).f1) : Int).toNat (wrap64 ((rd x10_1 ((rd_T96 l0 x35_1).f1)) + t211))) := ⟨_, rfl⟩
                              replace H : (impl_NodeLoads.l0 k1 a1 a2 a3 y212 l0 (l0.length : Int) (wrap64 (x35_1 + 1))) = some (r1, r2) := by first | (rw [hy212]; with_reducible exact H) | (have H2_ := (Option.bind_some _ _).symm.trans H; rw [hy212]; with_reducible exact H2_) | (have H2_ := (Option.bind_some _ _).symm.trans H; with_reducible exact H2_) | with_reducible exact H | (rw [hy212]; exact H) | exact H
                              have Ny212 := Aside0.mk hy212
                              clear hy212
                              have H' := Aside0.mk H
                              clear H
                              have p208 : 0 ≤ (x35_1 : Int) := of_decide_eq_true (by first | (with_reducible assumption) | assumption)
                              have q208 : x35_1 < (l0.length : Int) := of_decide_eq_true (by first | (with_reducible assumption) | assumption)
                              obtain ⟨ad208, A208_5, c208_5, e208, hx208_0, hx208_1, hx208_2, hx208_3, hx208_4, hx208_5, hl208_5, hi208_5⟩ := at_T96 HR0.out x35_1 p208 q208
                              cases e208
                              replace hx208_0 := (HB.out.cell (World.block_lt_of_cell? w _ hx208_0)).trans hx208_0
                              replace hx208_1 := (HB.out.cell (World.block_lt_of_cell? w _ hx208_1)).trans hx208_1
                              replace hx208_2 := (HB.out.cell (World.block_lt_of_cell? w _ hx208_2)).trans hx208_2
                              replace hx208_3 := (HB.out.cell (World.block_lt_of_cell? w _ hx208_3)).trans hx208_3
                              replace hx208_4 := (HB.out.cell (World.block_lt_of_cell? w _ hx208_4)).trans hx208_4
                              replace hx208_5 := (HB.out.cell (World.block_lt_of_cell? w _ hx208_5)).trans hx208_5
                              have HR208_5 := Aside0.mk hi208_5
                              have HC208_5 := Aside0.mk hl208_5
                              clear hi208_5 hl208_5
                              replace p208 := eq_true p208
                              replace q208 := eq_true q208
                              try go_wp2_with (first | ((with_reducible refine gate_dst (N := 12) rfl ?_); refine box_event ?hg (N := 12) ?hd (cs := #[.string (⟨#[]⟩ : ByteArray), .int .i64 0, .int .i64 0, .int .i64 0, .int .i64 0, .slice none 0 0]) (t := 96) ?hr ?_; (case hd => rfl); (case hg => rfl); (case hr => first | (go_simp; done) | (go_simp; rfl)); intro gb209 hg w28 hbox hb; have n0_ := Aside0.mk (Kd.R_below (by (with_reducible repeat (first | apply Kd.R_alloc | apply Kd.R_drewN | apply Kd.R_drew)); exact HO_10.out) hb); have n1_ := Aside0.mk (below_step (by repeat (first | (with_reducible first | exact HB.out | apply below_alloc | apply pw_below_drewN | apply below_drew1) | exact HB.out)) hb); have n2_ := Aside0.mk (hbox); have n3_ := Aside0.mk ((by rw [hg]; exact (below_size (by repeat (first | (with_reducible first | exact HB.out | apply below_alloc | apply pw_below_drewN | apply below_drew1) | exact HB.out))) : w.heap.size ≤ gb209)); have n4_ := Aside0.mk ((by rw [hg]; exact (below_size (by repeat (first | (with_reducible first | exact HB.out | apply below_alloc | apply pw_below_drewN | apply below_drew1) | exact HB.out))) : w.heap.size ≤ gb209)); clear HO_10; clear HB; have HO_10 := n0_; have HB := n1_; have BK209 := n2_; have GW209 := n3_; have GE209 := n4_; clear n0_ n1_ n2_ n3_ n4_; clear hb hbox hg; have hcz29_0 : w28.cell? ⟨gb209, 0, none⟩ = some (.string (⟨#[]⟩ : ByteArray)) := (blk_cell BK209.out 0).trans rfl; have hcz29_1 : w28.cell? ⟨gb209, 1, none⟩ = some (.int .i64 0) := (blk_cell BK209.out 1).trans rfl; have hcz29_2 : w28.cell? ⟨gb209, 2, none⟩ = some (.int .i64 0) := (blk_cell BK209.out 2).trans rfl; have hcz29_3 : w28.cell? ⟨gb209, 3, none⟩ = some (.int .i64 0) := (blk_cell BK209.out 3).trans rfl; have hcz29_4 : w28.cell? ⟨gb209, 4, none⟩ = some (.int .i64 0) := (blk_cell BK209.out 4).trans rfl; have hcz29_5 : w28.cell? ⟨gb209, 5, none⟩ = some (.slice none 0 0) := (blk_cell BK209.out 5).trans rfl; have hfz29_0 := blk_frozen BK209.out 0; have hfz29_1 := blk_frozen BK209.out 1; have hfz29_2 := blk_frozen BK209.out 2; have hfz29_3 := blk_frozen BK209.out 3; have hfz29_4 := blk_frozen BK209.out 4; have hfz29_5 := blk_frozen BK209.out 5))
                              have n0_ : Aside0 (Kd.R (Kd.int .i64) 2 ((((((w28.setCell ⟨gb209, 0, none⟩ (.string ((rd_T96 l0 x35_1).f0))).setCell ⟨gb209, 1, none⟩ (.int .i64 ((rd_T96 l0 x35_1).f1))).setCell ⟨gb209, 2, none⟩ (.int .i64 ((rd_T96 l0 x35_1).f2))).setCell ⟨gb209, 3, none⟩ (.int .i64 ((rd_T96 l0 x35_1).f3))).setCell ⟨gb209, 4, none⟩ (.int .i64 ((rd_T96 l0 x35_1).f4))).setCell ⟨gb209, 5, none⟩ (.slice A208_5 ((rd_T96 l0 x35_1).f5).length c208_5)) w.heap.size (fun _ => True) v206 x10_1) := ⟨by (with_reducible repeat (first | apply Kd.R_alloc | apply Kd.R_drewN | apply Kd.R_drew)); exact Kd.R_mono (Kd.R_far (p := ⟨gb209, 5, none⟩) (Kd.R_far (p := ⟨gb209, 4, none⟩) (Kd.R_far (p := ⟨gb209, 3, none⟩) (Kd.R_far (p := ⟨gb209, 2, none⟩) (Kd.R_far (p := ⟨gb209, 1, none⟩) (Kd.R_far (p := ⟨gb209, 0, none⟩) (Kd.R_types HO_10.out BK209.out (by decide)) (fun _ hk => hk.2) (.string ((rd_T96 l0 x35_1).f0))) (fun _ hk => hk.2) (.int .i64 ((rd_T96 l0 x35_1).f1))) (fun _ hk => hk.2) (.int .i64 ((rd_T96 l0 x35_1).f2))) (fun _ hk => hk.2) (.int .i64 ((rd_T96 l0 x35_1).f3))) (fun _ hk => hk.2) (.int .i64 ((rd_T96 l0 x35_1).f4))) (fun _ hk => hk.2) (.slice A208_5 ((rd_T96 l0 x35_1).f5).length c208_5)) (fun _ hk => trivial)⟩
                              have n1_ : Aside0 (((((((w28.setCell ⟨gb209, 0, none⟩ (.string ((rd_T96 l0 x35_1).f0))).setCell ⟨gb209, 1, none⟩ (.int .i64 ((rd_T96 l0 x35_1).f1))).setCell ⟨gb209, 2, none⟩ (.int .i64 ((rd_T96 l0 x35_1).f2))).setCell ⟨gb209, 3, none⟩ (.int .i64 ((rd_T96 l0 x35_1).f3))).setCell ⟨gb209, 4, none⟩ (.int .i64 ((rd_T96 l0 x35_1).f4))).setCell ⟨gb209, 5, none⟩ (.slice A208_5 ((rd_T96 l0 x35_1).f5).length c208_5)).heap[gb209]? = some (.cells #[.string ((rd_T96 l0 x35_1).f0), .int .i64 ((rd_T96 l0 x35_1).f1), .int .i64 ((rd_T96 l0 x35_1).f2), .int .i64 ((rd_T96 l0 x35_1).f3), .int .i64 ((rd_T96 l0 x35_1).f4), .slice A208_5 ((rd_T96 l0 x35_1).f5).length c208_5] 96 (0, 0))) := ⟨by (with_reducible repeat (first | refine blk_drewN ?_ _ | refine blk_drew ?_ | refine blk_alloc ?_ _)); refine blk_put (cs := #[.string ((rd_T96 l0 x35_1).f0), .int .i64 ((rd_T96 l0 x35_1).f1), .int .i64 ((rd_T96 l0 x35_1).f2), .int .i64 ((rd_T96 l0 x35_1).f3), .int .i64 ((rd_T96 l0 x35_1).f4), .slice none 0 0]) ?_ 5 _ rfl; (with_reducible repeat (first | refine blk_drewN ?_ _ | refine blk_drew ?_ | refine blk_alloc ?_ _)); refine blk_put (cs := #[.string ((rd_T96 l0 x35_1).f0), .int .i64 ((rd_T96 l0 x35_1).f1), .int .i64 ((rd_T96 l0 x35_1).f2), .int .i64 ((rd_T96 l0 x35_1).f3), .int .i64 0, .slice none 0 0]) ?_ 4 _ rfl; (with_reducible repeat (first | refine blk_drewN ?_ _ | refine blk_drew ?_ | refine blk_alloc ?_ _)); refine blk_put (cs := #[.string ((rd_T96 l0 x35_1).f0), .int .i64 ((rd_T96 l0 x35_1).f1), .int .i64 ((rd_T96 l0 x35_1).f2), .int .i64 0, .int .i64 0, .slice none 0 0]) ?_ 3 _ rfl; (with_reducible repeat (first | refine blk_drewN ?_ _ | refine blk_drew ?_ | refine blk_alloc ?_ _)); refine blk_put (cs := #[.string ((rd_T96 l0 x35_1).f0), .int .i64 ((rd_T96 l0 x35_1).f1), .int .i64 0, .int .i64 0, .int .i64 0, .slice none 0 0]) ?_ 2 _ rfl; (with_reducible repeat (first | refine blk_drewN ?_ _ | refine blk_drew ?_ | refine blk_alloc ?_ _)); refine blk_put (cs := #[.string ((rd_T96 l0 x35_1).f0), .int .i64 0, .int .i64 0, .int .i64 0, .int .i64 0, .slice none 0 0]) ?_ 1 _ rfl; (with_reducible repeat (first | refine blk_drewN ?_ _ | refine blk_drew ?_ | refine blk_alloc ?_ _)); refine blk_put (cs := #[.string (⟨#[]⟩ : ByteArray), .int .i64 0, .int .i64 0, .int .i64 0, .int .i64 0, .slice none 0 0]) ?_ 0 _ rfl; (with_reducible repeat (first | refine blk_drewN ?_ _ | refine blk_drew ?_ | refine blk_alloc ?_ _)); exact BK209.out⟩
                              have n2_ : Aside0 (Below w.heap.size w ((((((w28.setCell ⟨gb209, 0, none⟩ (.string ((rd_T96 l0 x35_1).f0))).setCell ⟨gb209, 1, none⟩ (.int .i64 ((rd_T96 l0 x35_1).f1))).setCell ⟨gb209, 2, none⟩ (.int .i64 ((rd_T96 l0 x35_1).f2))).setCell ⟨gb209, 3, none⟩ (.int .i64 ((rd_T96 l0 x35_1).f3))).setCell ⟨gb209, 4, none⟩ (.int .i64 ((rd_T96 l0 x35_1).f4))).setCell ⟨gb209, 5, none⟩ (.slice A208_5 ((rd_T96 l0 x35_1).f5).length c208_5))) := ⟨by repeat (first | (with_reducible first | exact HB.out | apply below_alloc | apply pw_below_drewN | apply below_drew1 | refine below_set ?_ GE209.out) | exact HB.out)⟩
                              (try clear HO_10)
                              (try clear BK209)
                              (try clear HB)
                              generalize ((((((w28.setCell ⟨gb209, 0, none⟩ (.string ((rd_T96 l0 x35_1).f0))).setCell ⟨gb209, 1, none⟩ (.int .i64 ((rd_T96 l0 x35_1).f1))).setCell ⟨gb209, 2, none⟩ (.int .i64 ((rd_T96 l0 x35_1).f2))).setCell ⟨gb209, 3, none⟩ (.int .i64 ((rd_T96 l0 x35_1).f3))).setCell ⟨gb209, 4, none⟩ (.int .i64 ((rd_T96 l0 x35_1).f4))).setCell ⟨gb209, 5, none⟩ (.slice A208_5 ((rd_T96 l0 x35_1).f5).length c208_5)) = w30 at n0_ n1_ n2_ ⊢
                              have HO_10 := n0_
                              have BK209 := n1_
                              have HB := n2_
                              clear n0_ n1_ n2_
                              have n0_ := Aside0.mk (Kd.R_drew HO_10.out)
                              have n1_ := Aside0.mk (blk_drew BK209.out)
                              have n2_ := Aside0.mk (below_drew1 HB.out)
                              clear HO_10
                              clear BK209
                              clear HB
                              have HO_10 := n0_
                              have BK209 := n1_
                              have HB := n2_
                              clear n0_ n1_ n2_
                              obtain ⟨Ao32, co32, eo32⟩ := Kd.R_slice HO_10.out
                              (first | subst eo32 | (injection eo32 with f1_ f2_ f3_; have f4_ := f1_.symm; have f5_ := f3_.symm; clear f1_ f2_ f3_; subst f4_; subst f5_))
                              have p210 : 0 ≤ (((rd_T96 l0 x35_1).f1) : Int) := of_decide_eq_true (by first | (with_reducible assumption) | assumption)
                              have q210 : ((rd_T96 l0 x35_1).f1) < (x10_1.length : Int) := of_decide_eq_true (by first | (with_reducible assumption) | assumption)
                              obtain ⟨ad210, e210, hx210_0⟩ := Kd.at_int (Kd.R_reads' HO_10.out).2.2 ((rd_T96 l0 x35_1).f1) p210 q210
                              cases e210
                              replace p210 := eq_true p210
                              replace q210 := eq_true q210
                              refine start_ (n := 12) (S := fun w' => w'.cell? ⟨gb209, 0, none⟩ = some (.string ((rd_T96 l0 x35_1).f0)) ∧ w'.cell? ⟨gb209, 1, none⟩ = some (.int .i64 ((rd_T96 l0 x35_1).f1)) ∧ w'.cell? ⟨gb209, 2, none⟩ = some (.int .i64 ((rd_T96 l0 x35_1).f2)) ∧ w'.cell? ⟨gb209, 3, none⟩ = some (.int .i64 ((rd_T96 l0 x35_1).f3)) ∧ w'.cell? ⟨gb209, 4, none⟩ = some (.int .i64 ((rd_T96 l0 x35_1).f4)) ∧ w'.cell? ⟨gb209, 5, none⟩ = some (.slice A208_5 ((rd_T96 l0 x35_1).f5).length c208_5) ∧ w'.cell? (ad210.add (((rd_T96 l0 x35_1).f1)).toNat) = some (.int .i64 (rd x10_1 ((rd_T96 l0 x35_1).f1)))) (ds := [11]) #[false, false, false, false, false, false, false, false, false, false, false, false] (by kernel_rfl) rfl rfl ⟨(blk_cell BK209.out 0).trans rfl, (blk_cell BK209.out 1).trans rfl, (blk_cell BK209.out 2).trans rfl, (blk_cell BK209.out 3).trans rfl, (blk_cell BK209.out 4).trans rfl, (blk_cell BK209.out 5).trans rfl, hx210_0⟩ (fun hHeld => ?_); refine with_tabW impl_NodeLoads.tab11 impl_NodeLoads.bits11 (fun HT_ HW_ => ?_)
                              generalize w30.drew = w31 at HO_10 BK209 HB hx210_0 hHeld ⊢
                              refine pure_ (i := 0) (N := some 43) (v := ?_) (a' := ?_) #[true, false, false, false, false, false, false, false, false, false, false, false] rfl rfl (any_of HT_.out (by kernel_rfl)) (fun _ _ _ h => h) (Or.inl ⟨by rfl, ?_⟩) ?_ ?_
                              rotate_left
                              · intro w'
                                go_simp
                                with_reducible rfl
                              rotate_left
                              · simp only [Act.put, List.setIfInBounds_toArray, List.set_cons_zero, List.set_cons_succ, i64_w, i32_w]
                                rfl
                              refine pure_ (i := 1) (N := some 44) (v := ?_) (a' := ?_) #[true, true, false, false, false, false, false, false, false, false, false, false] rfl rfl (any_of HT_.out (by kernel_rfl)) (fun _ _ _ h => h) (Or.inl ⟨by rfl, ?_⟩) ?_ ?_
                              rotate_left
                              · intro w'
                                go_simp
                                with_reducible rfl
                              rotate_left
                              · simp only [Act.put, List.setIfInBounds_toArray, List.set_cons_zero, List.set_cons_succ, i64_w, i32_w]
                                rfl
                              refine pure_ (i := 6) (N := some 49) (v := ?_) (a' := ?_) #[true, true, false, false, false, false, true, false, false, false, false, false] rfl rfl (any_of HT_.out (by kernel_rfl)) (fun _ _ _ h => h) (Or.inl ⟨by rfl, ?_⟩) ?_ ?_
                              rotate_left
                              · intro w'
                                go_simp
                                with_reducible rfl
                              rotate_left
                              · simp only [Act.put, List.setIfInBounds_toArray, List.set_cons_zero, List.set_cons_succ, i64_w, i32_w]
                                rfl
                              refine pure_ (i := 7) (N := some 50) (v := ?_) (a' := ?_) #[true, true, false, false, false, false, true, true, false, false, false, false] rfl rfl (any_of HT_.out (by kernel_rfl)) (fun _ _ _ h => h) (Or.inl ⟨by rfl, ?_⟩) ?_ ?_
                              rotate_left
                              · intro w'
                                go_simp
                                with_reducible rfl
                              rotate_left
                              · simp only [Act.put, List.setIfInBounds_toArray, List.set_cons_zero, List.set_cons_succ, i64_w, i32_w]
                                rfl
                              refine take_ (i := 2) (N := some 45) (v := ?_) (a' := ?_) #[true, true, true, false, false, false, true, true, false, false, false, false] rfl rfl (take_ofW HT_.out HW_.out (by kernel_rfl)) (fun _ _ _ h => h) (Or.inl ⟨by rfl, ?_⟩) hHeld ?_ ?_
                              rotate_left
                              · rintro w' ⟨s0, s1, s2, s3, s4, s5, s6⟩
                                go_simp
                                with_reducible rfl
                              rotate_left
                              · simp only [Act.put, List.setIfInBounds_toArray, List.set_cons_zero, List.set_cons_succ, i64_w, i32_w]
                                rfl
                              refine pure_ (i := 3) (N := some 46) (v := ?_) (a' := ?_) #[true, true, true, true, false, false, true, true, false, false, false, false] rfl rfl (any_of HT_.out (by kernel_rfl)) (fun _ _ _ h => h) (Or.inl ⟨by rfl, ?_⟩) ?_ ?_
                              rotate_left
                              · intro w'
                                go_simp
                                with_reducible rfl
                              rotate_left
                              · simp only [Act.put, List.setIfInBounds_toArray, List.set_cons_zero, List.set_cons_succ, i64_w, i32_w]
                                rfl
                              refine take_ (i := 4) (N := some 47) (v := ?_) (a' := ?_) #[true, true, true, true, true, false, true, true, false, false, false, false] rfl rfl (take_ofW HT_.out HW_.out (by kernel_rfl)) (fun _ _ _ h => h) (Or.inl ⟨by rfl, ?_⟩) hHeld ?_ ?_
                              rotate_left
                              · rintro w' ⟨s0, s1, s2, s3, s4, s5, s6⟩
                                go_simp
                                with_reducible rfl
                              rotate_left
                              · simp only [Act.put, List.setIfInBounds_toArray, List.set_cons_zero, List.set_cons_succ, i64_w, i32_w]
                                rfl
                              refine take_ (i := 5) (N := some 48) (v := ?_) (a' := ?_) #[true, true, true, true, true, true, true, true, false, false, false, false] rfl rfl (take_ofW HT_.out HW_.out (by kernel_rfl)) (fun _ _ _ h => h) (Or.inl ⟨by rfl, ?_⟩) hHeld ?_ ?_
                              rotate_left
                              · rintro w' ⟨s0, s1, s2, s3, s4, s5, s6⟩
                                go_simp
                                with_reducible rfl
                              rotate_left
                              · simp only [Act.put, List.setIfInBounds_toArray, List.set_cons_zero, List.set_cons_succ, i64_w, i32_w]
                                rfl
                              refine one_ (i := 8) (N := some 51) #[true, true, true, true, true, true, true, true, true, false, false, false] rfl rfl (one_of HT_.out (by kernel_rfl)) (by decide) (fun K hK => ?_)
                              refine goes_ Try.func132 (by kernel_rfl) rfl #[.agg #[.string ((rd_T96 l0 x35_1).f0), .int .i64 ((rd_T96 l0 x35_1).f1), .int .i64 ((rd_T96 l0 x35_1).f2), .int .i64 ((rd_T96 l0 x35_1).f3), .int .i64 ((rd_T96 l0 x35_1).f4), .slice A208_5 ((rd_T96 l0 x35_1).f5).length c208_5], .int .i64 a2, .int .i64 a3] (by rfl) rfl rfl (by (try simp only [List.map_toArray, List.map_cons, List.map_nil]); first | done | rfl | (simp only [List.length_drop, List.length_take]; rfl)) ?_
                              with_reducible refine (impl_Building_load.calls ((rd_T96 l0 x35_1).f0) ((rd_T96 l0 x35_1).f1) ((rd_T96 l0 x35_1).f2) ((rd_T96 l0 x35_1).f3) ((rd_T96 l0 x35_1).f4) _ _ ((rd_T96 l0 x35_1).f5) a2 a3 t211 _ ?side1 ?side2 A26.out).mono ?_
                              (case side1 => repeat (first | exact (Kd.C_below HR208_5.out HB.out) | (with_reducible refine Kd.C_alloc ?_ _) | (with_reducible refine Kd.C_drewN ?_ _) | (with_reducible refine Kd.C_drew ?_)))
                              (case side2 => exact HC208_5.out)
                              rintro e w33 ⟨rfl, hb⟩
                              have HS6_ := (hb.cell (World.block_lt_of_cell? _ _ (hHeld.2.2.2.2.2.2))).trans (hHeld.2.2.2.2.2.2)
                              refine ⟨_, rfl, ?_⟩
                              have n0_ := Aside0.mk (Kd.R_below (by (with_reducible repeat (first | apply Kd.R_alloc | apply Kd.R_drewN | apply Kd.R_drew)); exact HO_10.out) hb)
                              have n1_ := Aside0.mk (blk_below (g := gb209) (o := .cells #[.string ((rd_T96 l0 x35_1).f0), .int .i64 ((rd_T96 l0 x35_1).f1), .int .i64 ((rd_T96 l0 x35_1).f2), .int .i64 ((rd_T96 l0 x35_1).f3), .int .i64 ((rd_T96 l0 x35_1).f4), .slice A208_5 ((rd_T96 l0 x35_1).f5).length c208_5] 96 (0, 0)) (by (with_reducible repeat (first | refine blk_drewN ?_ _ | refine blk_drew ?_ | refine blk_alloc ?_ _)); exact BK209.out) hb)
                              have n2_ := Aside0.mk (below_step (by repeat (first | (with_reducible first | exact HB.out | apply below_alloc | apply pw_below_drewN | apply below_drew1 | refine below_set ?_ GE209.out) | exact HB.out)) hb)
                              clear HO_10
                              clear BK209
                              clear HB
                              have HO_10 := n0_
                              have BK209 := n1_
                              have HB := n2_
                              clear n0_ n1_ n2_
                              (try clear hb)
                              (try clear hb2)
                              (try clear hk)
                              (try clear hi)
                              have p27 : 0 ≤ (((rd_T96 l0 x35_1).f1) : Int) := of_decide_eq_true (by first | (with_reducible assumption) | assumption)
                              have q27 : (((rd_T96 l0 x35_1).f1) : Int) < ((x10_1.length : Int) : Int) := of_decide_eq_true (by first | (with_reducible assumption) | assumption)
                              obtain ⟨go27, co27, eo27, gb27, gl27, cl27, HG27⟩ := Kd.R_form HO_10.out (by omega)
                              (first | cases eo27 | (injection eo27 with ea_ en_ ec_; (first | subst ea_ | (injection ea_ with ea_; subst ea_)); subst ec_; clear en_))
                              have GB27 := Aside0.mk gb27
                              have GG27 := Aside0.mk HG27
                              clear gb27 gl27 HG27
                              (first | simp only [add_plain] at hx210_0 | skip)
                              obtain ⟨hx27_0, hf27_0⟩ := Kd.R_celln 0 HO_10.out (((rd_T96 l0 x35_1).f1) : Int) p27 q27
                              replace p27 := eq_true p27
                              replace q27 := eq_true q27
                              have HP34 := Kd.R_putn HO_10.out (((rd_T96 l0 x35_1).f1) : Int) (wrap64 ((rd x10_1 ((rd_T96 l0 x35_1).f1)) + t211))
                              rw [← Ny212.out] at HP34
                              have HQ34 := Aside0.mk HP34
                              clear HP34
                              refine hK.out _ _ ⟨(blk_cell BK209.out 0).trans rfl, (blk_cell BK209.out 1).trans rfl, (blk_cell BK209.out 2).trans rfl, (blk_cell BK209.out 3).trans rfl, (blk_cell BK209.out 4).trans rfl, (blk_cell BK209.out 5).trans rfl, HS6_⟩ (fun hHeld => ?_)
                              clear hK K
                              refine norm_ (a' := ?_) ?_ ?_
                              rotate_left
                              · show Act.put _ (some 51) _ = _
                                simp only [Act.put, List.setIfInBounds_toArray, List.set_cons_zero, List.set_cons_succ, i64_w, i32_w]
                                rfl
                              refine pure_ (i := 9) (N := some 52) (v := ?_) (a' := ?_) #[true, true, true, true, true, true, true, true, true, true, false, false] rfl rfl (any_of HT_.out (by kernel_rfl)) (fun _ _ _ h => h) (Or.inl ⟨by rfl, ?_⟩) ?_ ?_
                              rotate_left
                              · intro w'
                                go_simp
                                with_reducible rfl
                              rotate_left
                              · simp only [Act.put, List.setIfInBounds_toArray, List.set_cons_zero, List.set_cons_succ, i64_w, i32_w]
                                rfl
                              refine pure_ (i := 10) (N := some 53) (v := ?_) (a' := ?_) #[true, true, true, true, true, true, true, true, true, true, true, false] rfl rfl (any_of HT_.out (by kernel_rfl)) (fun _ _ _ h => h) (Or.inl ⟨by rfl, ?_⟩) ?_ ?_
                              rotate_left
                              · intro w'
                                go_simp
                                with_reducible rfl
                              rotate_left
                              · simp only [Act.put, List.setIfInBounds_toArray, List.set_cons_zero, List.set_cons_succ, i64_w, i32_w]
                                rfl
                              refine last_ (i := 11) (N := none) #[true, true, true, true, true, true, true, true, true, true, true, true] rfl rfl (one_of HT_.out (by kernel_rfl)) (by decide) (fun K hK => ?_)
                              refine skip_ (w1 := ?_) (by rfl) rfl ?_ ?_
                              rotate_left
                              · go_simp
                                rfl
                              refine hK.out _ _ ?_
                              clear hK K
                              refine done_ (done_of HT_.out (by kernel_rfl)) ?_
                              try go_wp2
                              go_roundg k1
                              case measure => have := HK1.out; omega
                              case rel => exact ⟨(y212), (wrap64 (x35_1 + 1)), (by first | rfl | (simp; done) | (simp [*]; done)), H', ⟨by have := HK1.out; omega⟩, ⟨by (with_reducible repeat (first | apply Kd.R_alloc | apply Kd.R_drewN | apply Kd.R_drew)); exact HQ34.out⟩, ⟨by repeat (first | (with_reducible first | exact HB.out | apply below_alloc | apply pw_below_drewN | apply below_drew1 | refine below_set ?_ GB27.out | refine below_set ?_ GE209.out) | exact HB.out)⟩⟩
                            · rw [if_neg c25] at H
                              exact absurd H (by simp)
                          · rw [if_neg c24] at H
                            exact absurd H (by simp)
                      · rw [if_neg c20] at H
                        exact absurd H (by simp)
                    · rw [if_neg c19] at H
                      exact absurd H (by simp)
                  · rw [if_neg c18] at H
                    have c18b0 : decide (x35_1 < (l0.length : Int)) = false := decide_eq_false c18
                    clear c18
                    simp only [Option.some.injEq, Prod.mk.injEq] at H
                    obtain ⟨rfl, rfl⟩ := H
                    go_wp2
                    go_ret2
                    exact ⟨_, by first | rfl | (simp [errW_none, errW_some] <;> rfl) | (simp [*, errW_none, errW_some] <;> rfl), by (with_reducible repeat (first | apply Kd.R_alloc | apply Kd.R_drewN | apply Kd.R_drew)); exact HO_10.out, by repeat (first | (with_reducible first | exact HB.out | apply below_alloc | apply pw_below_drewN | apply below_drew1) | exact HB.out)⟩
            · rw [if_neg c14] at H
              exact absurd H (by simp)
          · rw [if_neg c13] at H
            exact absurd H (by simp)
        · replace c12 := Bool.eq_false_iff.mpr c12
          subst c12
          have H1 : (some (([] : List Int), 2)) = some (r1, r2) := by rw [if_neg (show ¬ (false = true) by decide)] at H; exact H
          clear H
          have H := H1
          clear H1
          simp only [Option.some.injEq, Prod.mk.injEq] at H
          obtain ⟨rfl, rfl⟩ := H
          go_enter Try.func59, Try.ntmps59
          go_wp2_with (first | ((with_reducible refine gate_callee (f := 128) rfl ?_); refine goesL_ (some 15) rfl rfl Try.func128 (by kernel_rfl) rfl #[.slice A0 l0.length c0] rfl (by (try simp only [List.map_toArray, List.map_cons, List.map_nil]); first | done | rfl | (simp only [List.length_drop, List.length_take]; rfl)) ?_; (with_reducible refine (impl_ValidBuildings.calls k _ _ l0 true _ ?side1 ?side2 A5.out).mono ?_); (case side1 => repeat (first | exact HR0.out | (with_reducible refine Kd.C_alloc ?_ _) | (with_reducible refine Kd.C_drewN ?_ _) | (with_reducible refine Kd.C_drew ?_))); (case side2 => exact HC0.out); rintro e w35 ⟨rfl, hb⟩; refine ⟨_, rfl, ?_⟩; have n0_ := Aside0.mk (below_step (by repeat (first | (with_reducible first | exact HB.out | apply below_alloc | apply pw_below_drewN | apply below_drew1) | exact HB.out)) hb); clear HB; have HB := n0_; clear n0_; (try clear hb); (try clear hb2); (try clear hk); (try clear hi)) | ((with_reducible refine gate_callee (f := 99) rfl ?_); refine goesL_ (some 19) rfl rfl Try.func99 (by kernel_rfl) rfl #[.int .i64 a1, .int .i64 1, .int .i64 16] rfl (by (try simp only [List.map_toArray, List.map_cons, List.map_nil]); first | done | rfl | (simp only [List.length_drop, List.length_take]; rfl)) ?_; (with_reducible refine (impl_within.calls a1 1 16 true _ A7.out).mono ?_); rintro e w' ⟨rfl, ⟨nd, rfl⟩⟩; refine ⟨_, rfl, ?_⟩) | (go_at_call 140; (first | (with_reducible refine (impl_outdoorOk.calls a2 true _ A9.out).mono ?_) | ((try simp only [Go.IntWalk.i64_left]); (with_reducible refine (impl_outdoorOk.calls a2 true _ A9.out).mono ?_))); rintro e w' ⟨rfl, ⟨nd, rfl⟩⟩) | (go_at_call 129; (first | (with_reducible refine (impl_hourOk.calls a3 false _ A11.out).mono ?_) | ((try simp only [Go.IntWalk.i64_left]); (with_reducible refine (impl_hourOk.calls a3 false _ A11.out).mono ?_))); rintro e w' ⟨rfl, ⟨nd, rfl⟩⟩))
          go_ret2
          exact ⟨_, by first | rfl | (simp [errW_none, errW_some] <;> rfl) | (simp [*, errW_none, errW_some] <;> rfl), by first | exact Kd.R_nil _ _ _ _ _ | exact Kd.N_nil _ _ _ _ _ | exact Kd.V_nil _ _ _ _ _ | exact Kd.Q_nil _ _ _ _ _ | exact Kd.S_nil _ _ _ _ _, by repeat (first | (with_reducible first | exact HB.out | apply below_alloc | apply pw_below_drewN | apply below_drew1) | exact HB.out)⟩
      · replace c10 := Bool.eq_false_iff.mpr c10
        subst c10
        have H1 : (some (([] : List Int), 2)) = some (r1, r2) := by rw [if_neg (show ¬ (false = true) by decide)] at H; exact H
        clear H
        have H := H1
        clear H1
        simp only [Option.some.injEq, Prod.mk.injEq] at H
        obtain ⟨rfl, rfl⟩ := H
        go_enter Try.func59, Try.ntmps59
        go_wp2_with (first | ((with_reducible refine gate_callee (f := 128) rfl ?_); refine goesL_ (some 15) rfl rfl Try.func128 (by kernel_rfl) rfl #[.slice A0 l0.length c0] rfl (by (try simp only [List.map_toArray, List.map_cons, List.map_nil]); first | done | rfl | (simp only [List.length_drop, List.length_take]; rfl)) ?_; (with_reducible refine (impl_ValidBuildings.calls k _ _ l0 true _ ?side1 ?side2 A5.out).mono ?_); (case side1 => repeat (first | exact HR0.out | (with_reducible refine Kd.C_alloc ?_ _) | (with_reducible refine Kd.C_drewN ?_ _) | (with_reducible refine Kd.C_drew ?_))); (case side2 => exact HC0.out); rintro e w36 ⟨rfl, hb⟩; refine ⟨_, rfl, ?_⟩; have n0_ := Aside0.mk (below_step (by repeat (first | (with_reducible first | exact HB.out | apply below_alloc | apply pw_below_drewN | apply below_drew1) | exact HB.out)) hb); clear HB; have HB := n0_; clear n0_; (try clear hb); (try clear hb2); (try clear hk); (try clear hi)) | ((with_reducible refine gate_callee (f := 99) rfl ?_); refine goesL_ (some 19) rfl rfl Try.func99 (by kernel_rfl) rfl #[.int .i64 a1, .int .i64 1, .int .i64 16] rfl (by (try simp only [List.map_toArray, List.map_cons, List.map_nil]); first | done | rfl | (simp only [List.length_drop, List.length_take]; rfl)) ?_; (with_reducible refine (impl_within.calls a1 1 16 true _ A7.out).mono ?_); rintro e w' ⟨rfl, ⟨nd, rfl⟩⟩; refine ⟨_, rfl, ?_⟩) | (go_at_call 140; (first | (with_reducible refine (impl_outdoorOk.calls a2 false _ A9.out).mono ?_) | ((try simp only [Go.IntWalk.i64_left]); (with_reducible refine (impl_outdoorOk.calls a2 false _ A9.out).mono ?_))); rintro e w' ⟨rfl, ⟨nd, rfl⟩⟩))
        go_ret2
        exact ⟨_, by first | rfl | (simp [errW_none, errW_some] <;> rfl) | (simp [*, errW_none, errW_some] <;> rfl), by first | exact Kd.R_nil _ _ _ _ _ | exact Kd.N_nil _ _ _ _ _ | exact Kd.V_nil _ _ _ _ _ | exact Kd.Q_nil _ _ _ _ _ | exact Kd.S_nil _ _ _ _ _, by repeat (first | (with_reducible first | exact HB.out | apply below_alloc | apply pw_below_drewN | apply below_drew1) | exact HB.out)⟩
    · replace c8 := Bool.eq_false_iff.mpr c8
      subst c8
      have H1 : (some (([] : List Int), 2)) = some (r1, r2) := by rw [if_neg (show ¬ (false = true) by decide)] at H; exact H
      clear H
      have H := H1
      clear H1
      simp only [Option.some.injEq, Prod.mk.injEq] at H
      obtain ⟨rfl, rfl⟩ := H
      go_enter Try.func59, Try.ntmps59
      go_wp2_with (first | ((with_reducible refine gate_callee (f := 128) rfl ?_); refine goesL_ (some 15) rfl rfl Try.func128 (by kernel_rfl) rfl #[.slice A0 l0.length c0] rfl (by (try simp only [List.map_toArray, List.map_cons, List.map_nil]); first | done | rfl | (simp only [List.length_drop, List.length_take]; rfl)) ?_; (with_reducible refine (impl_ValidBuildings.calls k _ _ l0 true _ ?side1 ?side2 A5.out).mono ?_); (case side1 => repeat (first | exact HR0.out | (with_reducible refine Kd.C_alloc ?_ _) | (with_reducible refine Kd.C_drewN ?_ _) | (with_reducible refine Kd.C_drew ?_))); (case side2 => exact HC0.out); rintro e w37 ⟨rfl, hb⟩; refine ⟨_, rfl, ?_⟩; have n0_ := Aside0.mk (below_step (by repeat (first | (with_reducible first | exact HB.out | apply below_alloc | apply pw_below_drewN | apply below_drew1) | exact HB.out)) hb); clear HB; have HB := n0_; clear n0_; (try clear hb); (try clear hb2); (try clear hk); (try clear hi)) | ((with_reducible refine gate_callee (f := 99) rfl ?_); refine goesL_ (some 19) rfl rfl Try.func99 (by kernel_rfl) rfl #[.int .i64 a1, .int .i64 1, .int .i64 16] rfl (by (try simp only [List.map_toArray, List.map_cons, List.map_nil]); first | done | rfl | (simp only [List.length_drop, List.length_take]; rfl)) ?_; (with_reducible refine (impl_within.calls a1 1 16 false _ A7.out).mono ?_); rintro e w' ⟨rfl, ⟨nd, rfl⟩⟩; refine ⟨_, rfl, ?_⟩))
      go_ret2
      exact ⟨_, by first | rfl | (simp [errW_none, errW_some] <;> rfl) | (simp [*, errW_none, errW_some] <;> rfl), by first | exact Kd.R_nil _ _ _ _ _ | exact Kd.N_nil _ _ _ _ _ | exact Kd.V_nil _ _ _ _ _ | exact Kd.Q_nil _ _ _ _ _ | exact Kd.S_nil _ _ _ _ _, by repeat (first | (with_reducible first | exact HB.out | apply below_alloc | apply pw_below_drewN | apply below_drew1) | exact HB.out)⟩
  · replace c6 := Bool.eq_false_iff.mpr c6
    subst c6
    have H1 : (some (([] : List Int), 1)) = some (r1, r2) := by rw [if_neg (show ¬ (false = true) by decide)] at H; exact H
    clear H
    have H := H1
    clear H1
    simp only [Option.some.injEq, Prod.mk.injEq] at H
    obtain ⟨rfl, rfl⟩ := H
    go_enter Try.func59, Try.ntmps59
    go_wp2_with (first | ((with_reducible refine gate_callee (f := 128) rfl ?_); refine goesL_ (some 15) rfl rfl Try.func128 (by kernel_rfl) rfl #[.slice A0 l0.length c0] rfl (by (try simp only [List.map_toArray, List.map_cons, List.map_nil]); first | done | rfl | (simp only [List.length_drop, List.length_take]; rfl)) ?_; (with_reducible refine (impl_ValidBuildings.calls k _ _ l0 false _ ?side1 ?side2 A5.out).mono ?_); (case side1 => repeat (first | exact HR0.out | (with_reducible refine Kd.C_alloc ?_ _) | (with_reducible refine Kd.C_drewN ?_ _) | (with_reducible refine Kd.C_drew ?_))); (case side2 => exact HC0.out); rintro e w38 ⟨rfl, hb⟩; refine ⟨_, rfl, ?_⟩; have n0_ := Aside0.mk (below_step (by repeat (first | (with_reducible first | exact HB.out | apply below_alloc | apply pw_below_drewN | apply below_drew1) | exact HB.out)) hb); clear HB; have HB := n0_; clear n0_; (try clear hb); (try clear hb2); (try clear hk); (try clear hi)))
    go_ret2
    exact ⟨_, by first | rfl | (simp [errW_none, errW_some] <;> rfl) | (simp [*, errW_none, errW_some] <;> rfl), by first | exact Kd.R_nil _ _ _ _ _ | exact Kd.N_nil _ _ _ _ _ | exact Kd.V_nil _ _ _ _ _ | exact Kd.Q_nil _ _ _ _ _ | exact Kd.S_nil _ _ _ _ _, by repeat (first | (with_reducible first | exact HB.out | apply below_alloc | apply pw_below_drewN | apply below_drew1) | exact HB.out)⟩

/-! ### laws_markText: function 87 -/
def laws_markText.l0 : Nat → Int → ByteArray → Option (ByteArray)
  | 0, _, _ => none
  | k + 1, x0, x3 => if x0 > 0 then ((some (([(wrap64 (48 + (Int.tmod x0 10))) % 256] : List Int) : List Int)).bind fun y213 => (if (strOfNums y213).size + x3.size ≤ 9223372036854775807 then (laws_markText.l0 k (wrap64 (Int.tdiv x0 10)) ((strOfNums y213) ++ x3)) else (none))) else (if 1 + x3.size ≤ 9223372036854775807 then (some ((⟨#[109]⟩ : ByteArray) ++ x3)) else (none))
def laws_markText.f (k : Nat) (a0 : Int) : Option (ByteArray) := if a0 ≤ 0 then (some (⟨#[109, 48]⟩ : ByteArray)) else (laws_markText.l0 k a0 (⟨#[]⟩ : ByteArray))
theorem laws_markText.mono_l : ∀ k, (∀ y0 y1, LeO (laws_markText.l0 k y0 y1) (laws_markText.l0 (k + 1) y0 y1))
  | 0 => fun _ _ r h => by simp [laws_markText.l0] at h
  | k + 1 => by
    have ih0 := laws_markText.mono_l k
    · intro y0 y1
      unfold laws_markText.l0
      repeat' first
      | (with_reducible exact ih0 _ _)
      | (with_reducible exact LeO.refl _)
      | (with_reducible exact LeO.none _)
      | (with_reducible refine LeO.ite ?_ ?_)
      | (with_reducible refine LeO.bind ?_ (fun _ => ?_))
      | exact ih0 _ _
      | exact LeO.none _
      | refine LeO.ite ?_ ?_
      | refine LeO.bind ?_ (fun _ => ?_)
theorem laws_markText.mono : ∀ a0 k, LeO (laws_markText.f k a0) (laws_markText.f (k + 1) a0) := by
  intro a0 k
  have ih0 := laws_markText.mono_l k
  unfold laws_markText.f
  repeat' first
      | (with_reducible exact ih0 _ _)
      | (with_reducible exact LeO.refl _)
      | (with_reducible exact LeO.none _)
      | (with_reducible refine LeO.ite ?_ ?_)
      | (with_reducible refine LeO.bind ?_ (fun _ => ?_))
      | exact ih0 _ _
      | exact LeO.none _
      | refine LeO.ite ?_ ?_
      | refine LeO.bind ?_ (fun _ => ?_)
set_option maxHeartbeats 8000000 in
set_option maxRecDepth 100000 in
theorem laws_markText.calls (k : Nat) (a0 : Int) (r : ByteArray) (w : World) (h : laws_markText.f k a0 = some r) :
    Calls Try.prog 87 #[.int .i64 a0] w fun e w' => e = .returned (.string r) ∧ Below w.heap.size w w' := by
  have HB := Aside0.mk (Below.refl w.heap.size w)
  have H : (if a0 ≤ 0 then (some (⟨#[109, 48]⟩ : ByteArray)) else (laws_markText.l0 k a0 (⟨#[]⟩ : ByteArray))) = some r := h
  clear h
  by_cases c2 : a0 ≤ 0
  · rw [if_pos c2] at H
    have c2b0 : decide (a0 ≤ 0) = true := decide_eq_true c2
    clear c2
    obtain rfl := Option.some.inj H
    go_enter Try.func87, Try.ntmps87
    go_wp2
    go_ret
    exact ⟨by first | rfl | (simp [errW_none, errW_some] <;> rfl) | (simp [*, errW_none, errW_some] <;> rfl), by repeat (first | (with_reducible first | exact HB.out | apply below_alloc | apply pw_below_drewN | apply below_drew1) | exact HB.out)⟩
  · rw [if_neg c2] at H
    have c2b0 : decide (a0 ≤ 0) = false := decide_eq_false c2
    clear c2
    have H' := Aside0.mk H
    clear H
    go_enter Try.func87, Try.ntmps87
    go_wp2
    go_loopg [0, 3] k (fun kq v0 v3 w' => ∃ (x0_1 : Int) (x3_1 : ByteArray), v0 = .int .i64 x0_1 ∧ v3 = .string x3_1 ∧ Aside0 (laws_markText.l0 kq x0_1 x3_1 = some r) ∧ Aside0 (kq ≤ k) ∧ Aside0 (Below w.heap.size w w'))
    case atStart => exact ⟨(a0), ((⟨#[]⟩ : ByteArray)), (by first | rfl | (simp; done) | (simp [*]; done)), (by first | rfl | (simp; done) | (simp [*]; done)), H', ⟨Nat.le_refl _⟩, ⟨by repeat (first | (with_reducible first | exact HB.out | apply below_alloc | apply pw_below_drewN | apply below_drew1) | exact HB.out)⟩⟩
    case round =>
      clear H'
      try clear c2
      try clear c2b0
      try clear p2
      obtain ⟨x0_1, x3_1, rfl, rfl, HA, HK1, HB⟩ := hrel
      cases gk with
      | zero => exact absurd HA.out (by simp [laws_markText.l0])
      | succ k1 =>
        have H := HA.out
        clear HA
        simp only [laws_markText.l0] at H
        by_cases c3 : x0_1 > 0
        · rw [if_pos c3] at H
          have c3b0 : decide (0 < x0_1) = true := decide_eq_true c3
          clear c3
          obtain ⟨y213, hy213⟩ : ∃ y_ : List Int, y_ = (([(wrap64 (48 + (Int.tmod x0_1 10))) % 256] : List Int)) := ⟨_, rfl⟩
          replace H : (if (strOfNums y213).size + x3_1.size ≤ 9223372036854775807 then (laws_markText.l0 k1 (wrap64 (Int.tdiv x0_1 10)) ((strOfNums y213) ++ x3_1)) else (none)) = some r := by first | (rw [hy213]; with_reducible exact H) | (have H2_ := (Option.bind_some _ _).symm.trans H; rw [hy213]; with_reducible exact H2_) | (have H2_ := (Option.bind_some _ _).symm.trans H; with_reducible exact H2_) | with_reducible exact H | (rw [hy213]; exact H) | exact H
          have Ny213 := Aside0.mk hy213
          clear hy213
          by_cases c4 : (strOfNums y213).size + x3_1.size ≤ 9223372036854775807
          · rw [if_pos c4] at H
            have c4b0 := eq_true c4
            have c4b1 : decide ((strOfNums y213).size + x3_1.size ≤ 9223372036854775807) = true := decide_eq_true c4
            try have c4b2 : (9223372036854775807 < (strOfNums y213).size + x3_1.size) = False := eq_false (Nat.not_lt.2 c4)
            have H' := Aside0.mk H
            clear H
            go_wp2_with (first | ((with_reducible refine gate_dst (N := 12) rfl ?_); refine Kd.R_lit (Kd.int .u8) _ 5 ?hg (N := 12) ?hd (xs := ([(wrap64 (48 + (Int.tmod x0_1 10))) % 256] : List Int)) (inner := [.int .u8 ((wrap64 (48 + (Int.tmod x0_1 10))) % 256)]) (ok := fun _ => True) (okp := fun _ => True) ?hr ?hp (fun _ hk => hk) trivial (Below.refl _ _) (Nat.le_refl _) (by simp) ?_; (case hd => rfl); (case hg => rfl); (case hr => first | (go_simp; done) | (go_simp; rfl)); (case hp => exact (Reps.one (show Kd.M (Kd.int .u8) _ _ _ ((wrap64 (48 + (Int.tmod x0_1 10))) % 256) [.int .u8 ((wrap64 (48 + (Int.tmod x0_1 10))) % 256)] from rfl) (Reps.none _ _))); intro v214 w5 ho6 hb hg_ hnew_; clear hg_ hnew_; (first | rw [← Ny213.out] at ho6 | (simp only [Int.reduceToNat] at ho6; rw [← Ny213.out] at ho6)); have n0_ := Aside0.mk (Kd.R_lower ho6 (below_size (by repeat (first | (with_reducible first | exact HB.out | apply below_alloc | apply pw_below_drewN | apply below_drew1) | exact HB.out)))); have n1_ := Aside0.mk (below_step (by repeat (first | (with_reducible first | exact HB.out | apply below_alloc | apply pw_below_drewN | apply below_drew1) | exact HB.out)) hb); clear HB; have HO215 := n0_; have HB := n1_; clear n0_ n1_; clear hb ho6; have hcv7 := own_string (P := Try.prog) Try.underlying87 Try.underlying5 Try.underlying9 (Kd.own_of_R HO215.out)))
            go_roundg k1
            case measure => have := HK1.out; omega
            case rel => exact ⟨(wrap64 (Int.tdiv x0_1 10)), ((strOfNums y213) ++ x3_1), (by first | rfl | (simp; done) | (simp [*]; done)), (by first | rfl | (simp; done) | (simp [*]; done)), H', ⟨by have := HK1.out; omega⟩, ⟨by repeat (first | (with_reducible first | exact HB.out | apply below_alloc | apply pw_below_drewN | apply below_drew1) | exact HB.out)⟩⟩
          · rw [if_neg c4] at H
            exact absurd H (by simp)
        · rw [if_neg c3] at H
          have c3b0 : decide (0 < x0_1) = false := decide_eq_false c3
          clear c3
          by_cases c8 : 1 + x3_1.size ≤ 9223372036854775807
          · rw [if_pos c8] at H
            have c8b0 := eq_true c8
            have c8b1 : decide (1 + x3_1.size ≤ 9223372036854775807) = true := decide_eq_true c8
            try have c8b2 : (9223372036854775807 < 1 + x3_1.size) = False := eq_false (Nat.not_lt.2 c8)
            obtain rfl := Option.some.inj H
            go_wp2
            go_ret
            exact ⟨by first | rfl | (simp [errW_none, errW_some] <;> rfl) | (simp [*, errW_none, errW_some] <;> rfl), by repeat (first | (with_reducible first | exact HB.out | apply below_alloc | apply pw_below_drewN | apply below_drew1) | exact HB.out)⟩
          · rw [if_neg c8] at H
            exact absurd H (by simp)

/-! ### an element of an own row, its cells written one by one -/
section
variable {α : Type} {d : Kd α} {e g n cap : Nat} {W w1 : World} {base : Nat} {ok oki : Nat → Prop} {xs : List α} {i : Int} {c : List Value}
theorem hole_cells (h : Kd.H d e W base ok (.slice (some ⟨g, 0, none⟩) n cap) xs i oki c) (h0 : 0 ≤ i) (h1 : i < n) :
    (∀ j u, c[j]? = some u → W.cell? ⟨g, i.toNat * d.sz + j, none⟩ = some u) ∧ (∀ j, W.frozen? ⟨g, i.toNat * d.sz + j, none⟩ = false) := by
  obtain ⟨rows, hrl, hraw, _, _, hcc, _⟩ := Kd.H_raw h h0 h1
  obtain ⟨_, _, _, _, hfr⟩ := Kd.R_elem hraw [] i h0 h1
  exact ⟨hcc, hfr⟩
theorem hole_put (h : Kd.H d e W base ok (.slice (some ⟨g, 0, none⟩) n cap) xs i oki c) (h0 : 0 ≤ i) (h1 : i < n) (j : Nat) (u : Value) (hj : j + 1 ≤ d.sz) (hu : u.oneCell' = true) :
    Kd.H d e (W.setCell ⟨g, i.toNat * d.sz + j, none⟩ u) base ok (.slice (some ⟨g, 0, none⟩) n cap) xs i oki (c.take j ++ [u] ++ c.drop (j + 1)) ∧ W.grownBy (W.setCell ⟨g, i.toNat * d.sz + j, none⟩ u) (some g) := by
  have := Kd.H_seg h h0 h1 (seg := [u]) (j := j) hj (fun q hq => by rw [List.mem_singleton.1 hq]; exact hu)
  exact this
end

/-! ### laws_markBuildingS: function 60 -/
def laws_markBuildingS.l0 : Nat → List (S96) → Int → Int → Option (Int × List (S96))
  | 0, _, _, _ => none
  | k + 1, x0, x1, x5 => if x5 < (x0.length : Int) then (if 0 ≤ x5 then ((laws_markText.f k x1).bind fun t100 => ((laws_markInt64S.f k ((rd_T96 x0 x5).f5) (wrap64 ((wrap64 ((wrap64 ((wrap64 ((wrap64 (x1 + 1)) + 1)) + 1)) + 1)) + 1))).bind fun bt => laws_markBuildingS.l0 k (x0.set (x5 : Int).toNat (⟨t100, wrap64 (x1 + 1), wrap64 ((wrap64 (x1 + 1)) + 1), wrap64 ((wrap64 ((wrap64 (x1 + 1)) + 1)) + 1), wrap64 ((wrap64 ((wrap64 ((wrap64 (x1 + 1)) + 1)) + 1)) + 1), bt.2⟩ : S96)) bt.1 (wrap64 (x5 + 1)))) else (none)) else (some (x1, x0))
def laws_markBuildingS.f (k : Nat) (l0 : List (S96)) (a1 : Int) : Option (Int × List (S96)) := laws_markBuildingS.l0 k l0 a1 0
theorem laws_markBuildingS.mono_l : ∀ k, (∀ y0 y1 y2, LeO (laws_markBuildingS.l0 k y0 y1 y2) (laws_markBuildingS.l0 (k + 1) y0 y1 y2))
  | 0 => fun _ _ _ r h => by simp [laws_markBuildingS.l0] at h
  | k + 1 => by
    have ih0 := laws_markBuildingS.mono_l k
    · intro y0 y1 y2
      unfold laws_markBuildingS.l0
      repeat' first
      | (with_reducible exact ih0 _ _ _)
      | (with_reducible exact laws_markText.mono _ _)
      | (with_reducible exact laws_markInt64S.mono _ _ _)
      | (with_reducible exact LeO.refl _)
      | (with_reducible exact LeO.none _)
      | (with_reducible refine LeO.ite ?_ ?_)
      | (with_reducible refine LeO.bind ?_ (fun _ => ?_))
      | exact ih0 _ _ _
      | exact LeO.none _
      | refine LeO.ite ?_ ?_
      | refine LeO.bind ?_ (fun _ => ?_)
theorem laws_markBuildingS.mono : ∀ a0 a1 k, LeO (laws_markBuildingS.f k a0 a1) (laws_markBuildingS.f (k + 1) a0 a1) := by
  intro a0 a1 k
  have ih0 := laws_markBuildingS.mono_l k
  unfold laws_markBuildingS.f
  repeat' first
      | (with_reducible exact ih0 _ _ _)
      | (with_reducible exact laws_markText.mono _ _)
      | (with_reducible exact laws_markInt64S.mono _ _ _)
      | (with_reducible exact LeO.refl _)
      | (with_reducible exact LeO.none _)
      | (with_reducible refine LeO.ite ?_ ?_)
      | (with_reducible refine LeO.bind ?_ (fun _ => ?_))
      | exact ih0 _ _ _
      | exact LeO.none _
      | refine LeO.ite ?_ ?_
      | refine LeO.bind ?_ (fun _ => ?_)
set_option maxHeartbeats 8000000 in
set_option maxRecDepth 100000 in
theorem laws_markBuildingS.calls (k : Nat) (P0_ : Nat → Prop) (u9000_ : Value) (l0 : List (S96)) (a1 : Int) (r1 : Int) (r2 : List (S96)) (w0 w : World) (hB : Below w0.heap.size w0 w) (ho0 : Kd.S k96 96 w w0.heap.size P0_ u9000_ l0) (h : laws_markBuildingS.f k l0 a1 = some (r1, r2)) :
    Calls Try.prog 60 #[u9000_, .int .i64 a1] w fun e w' => e = .returned (.int .i64 r1) ∧ Kd.S k96 96 w' w0.heap.size (fun k_ => P0_ k_) u9000_ r2 ∧ Below w0.heap.size w0 w' ∧ Kept w w' (fun k_ => P0_ k_) := by
  have HO0 := Aside0.mk (show Kd.S k96 96 w w0.heap.size (fun k_ => P0_ k_) u9000_ l0 from ho0)
  have HK := Aside0.mk (Kept.refl w (fun k_ => P0_ k_))
  have HB := Aside0.mk hB
  clear hB ho0
  have H' := Aside0.mk (show (laws_markBuildingS.l0 k l0 a1 0) = some (r1, r2) from h)
  clear h
  go_enter Try.func60, Try.ntmps60
  go_wp2
  go_loopg [1, 5] k (fun kq v1 v5 w' => ∃ (x0_1 : List (S96)) (x1_1 : Int) (x5_1 : Int), v1 = .int .i64 x1_1 ∧ v5 = .int .i64 x5_1 ∧ Aside0 (laws_markBuildingS.l0 kq x0_1 x1_1 x5_1 = some (r1, r2)) ∧ Aside0 (kq ≤ k) ∧ Aside0 (Kd.S k96 96 w' w0.heap.size (fun k_ => P0_ k_) u9000_ x0_1) ∧ Aside0 (Kept w w' (fun k_ => P0_ k_)) ∧ Aside0 (Below w0.heap.size w0 w'))
  case atStart => exact ⟨(l0), (a1), (0), (by first | rfl | (simp; done) | (simp [*]; done)), (by first | rfl | (simp; done) | (simp [*]; done)), H', ⟨Nat.le_refl _⟩, ⟨by (with_reducible repeat (first | apply Kd.S_alloc | apply Kd.S_drewN | apply Kd.S_drew)); exact HO0.out⟩, ⟨by repeat (first | (with_reducible first | exact HK.out | apply Kept.alloc | apply Kept.drewN | apply Kept.drew) | exact HK.out)⟩, ⟨by repeat (first | (with_reducible first | exact HB.out | apply below_alloc | apply pw_below_drewN | apply below_drew1) | exact HB.out)⟩⟩
  case round =>
    clear H'
    obtain ⟨x0_1, x1_1, x5_1, rfl, rfl, HA, HK1, HO_0, HK, HB⟩ := hrel
    cases gk with
    | zero => exact absurd HA.out (by simp [laws_markBuildingS.l0])
    | succ k1 =>
      have H := HA.out
      clear HA
      simp only [laws_markBuildingS.l0] at H
      by_cases c3 : x5_1 < (x0_1.length : Int)
      · rw [if_pos c3] at H
        have c3b0 : decide (x5_1 < (x0_1.length : Int)) = true := decide_eq_true c3
        by_cases c4 : 0 ≤ x5_1
        · rw [if_pos c4] at H
          have c4b0 : decide (0 ≤ x5_1) = true := decide_eq_true c4
          obtain ⟨t100, A0_, H⟩ := Option.bind_eq_some_iff.mp H
          have At100 := Aside0.mk A0_
          clear A0_
          obtain ⟨⟨t190, t191⟩, A0_, H⟩ := Option.bind_eq_some_iff.mp H
          have AL := Aside0.mk A0_
          clear A0_
          have H' := Aside0.mk H
          clear H
          obtain ⟨Ao, co, eo⟩ := Kd.S_slice HO_0.out
          subst eo
          obtain ⟨go, co6, eo6, gb6, gl6, cl6, HG6⟩ := Kd.S_form HO_0.out (by omega)
          (first | cases eo6 | (injection eo6 with ea_ en_ ec_; (first | subst ea_ | (injection ea_ with ea_; subst ea_)); subst ec_; clear en_))
          have GB := Aside0.mk gb6
          clear gb6 gl6 cl6 HG6
          have HP := Aside0.mk (show P0_ go from (Kd.S_R HO_0.out).1 _ rfl)
          obtain ⟨oki, ce6, _, hM6, _, _, hi6, hH6⟩ := Kd.S_elem HO_0.out z96 x5_1 c4 c3
          obtain ⟨ve, rfl, ge6⟩ := k96_openM hM6
          have HI := Aside0.mk hi6
          have HE := Aside0.mk (show Kd.R (Kd.int .i64) 2 wr w0.heap.size oki ve ((rd_T96 x0_1 x5_1).f5) from ge6)
          have HH := Aside0.mk (show Kd.H k96 96 wr w0.heap.size (fun k_ => P0_ k_) (.slice (some ⟨go, 0, none⟩) x0_1.length co) x0_1 x5_1 oki [(.string ((rd_T96 x0_1 x5_1).f0)), (.int .i64 ((rd_T96 x0_1 x5_1).f1)), (.int .i64 ((rd_T96 x0_1 x5_1).f2)), (.int .i64 ((rd_T96 x0_1 x5_1).f3)), (.int .i64 ((rd_T96 x0_1 x5_1).f4)), ve] from hH6)
          clear hi6 ge6 hH6 HO_0 
          have P5 := eq_true c4
          have Q5 := eq_true (show x5_1 < ((x0_1.length : Nat) : Int) from c3)
          clear c3 c4
          obtain ⟨hcc, hfr⟩ := hole_cells HH.out (of_eq_true P5) (of_eq_true Q5)
          have hx_0 : wr.cell? ⟨go, (x5_1 : Int).toNat * 6, none⟩ = some (.string ((rd_T96 x0_1 x5_1).f0)) := (by have h_ := hcc 0 _ rfl; (try simp only [show (k96).sz = 6 from rfl, Nat.mul_one, Nat.add_zero] at h_); exact h_)
          have hf_0 : wr.frozen? ⟨go, (x5_1 : Int).toNat * 6, none⟩ = false := (by have h_ := hfr 0; (try simp only [show (k96).sz = 6 from rfl, Nat.mul_one, Nat.add_zero] at h_); exact h_)
          have hx_1 : wr.cell? ⟨go, (x5_1 : Int).toNat * 6 + 1, none⟩ = some (.int .i64 ((rd_T96 x0_1 x5_1).f1)) := (by have h_ := hcc 1 _ rfl; (try simp only [show (k96).sz = 6 from rfl, Nat.mul_one, Nat.add_zero] at h_); exact h_)
          have hf_1 : wr.frozen? ⟨go, (x5_1 : Int).toNat * 6 + 1, none⟩ = false := (by have h_ := hfr 1; (try simp only [show (k96).sz = 6 from rfl, Nat.mul_one, Nat.add_zero] at h_); exact h_)
          have hx_2 : wr.cell? ⟨go, (x5_1 : Int).toNat * 6 + 2, none⟩ = some (.int .i64 ((rd_T96 x0_1 x5_1).f2)) := (by have h_ := hcc 2 _ rfl; (try simp only [show (k96).sz = 6 from rfl, Nat.mul_one, Nat.add_zero] at h_); exact h_)
          have hf_2 : wr.frozen? ⟨go, (x5_1 : Int).toNat * 6 + 2, none⟩ = false := (by have h_ := hfr 2; (try simp only [show (k96).sz = 6 from rfl, Nat.mul_one, Nat.add_zero] at h_); exact h_)
          have hx_3 : wr.cell? ⟨go, (x5_1 : Int).toNat * 6 + 3, none⟩ = some (.int .i64 ((rd_T96 x0_1 x5_1).f3)) := (by have h_ := hcc 3 _ rfl; (try simp only [show (k96).sz = 6 from rfl, Nat.mul_one, Nat.add_zero] at h_); exact h_)
          have hf_3 : wr.frozen? ⟨go, (x5_1 : Int).toNat * 6 + 3, none⟩ = false := (by have h_ := hfr 3; (try simp only [show (k96).sz = 6 from rfl, Nat.mul_one, Nat.add_zero] at h_); exact h_)
          have hx_4 : wr.cell? ⟨go, (x5_1 : Int).toNat * 6 + 4, none⟩ = some (.int .i64 ((rd_T96 x0_1 x5_1).f4)) := (by have h_ := hcc 4 _ rfl; (try simp only [show (k96).sz = 6 from rfl, Nat.mul_one, Nat.add_zero] at h_); exact h_)
          have hf_4 : wr.frozen? ⟨go, (x5_1 : Int).toNat * 6 + 4, none⟩ = false := (by have h_ := hfr 4; (try simp only [show (k96).sz = 6 from rfl, Nat.mul_one, Nat.add_zero] at h_); exact h_)
          have hx_5 : wr.cell? ⟨go, (x5_1 : Int).toNat * 6 + 5, none⟩ = some ve := (by have h_ := hcc 5 _ rfl; (try simp only [show (k96).sz = 6 from rfl, Nat.mul_one, Nat.add_zero] at h_); exact h_)
          have hf_5 : wr.frozen? ⟨go, (x5_1 : Int).toNat * 6 + 5, none⟩ = false := (by have h_ := hfr 5; (try simp only [show (k96).sz = 6 from rfl, Nat.mul_one, Nat.add_zero] at h_); exact h_)
          clear hcc hfr
          go_wp2_with (first | ((with_reducible refine gate_callee (f := 87) rfl ?_); refine goesL_ (some 15) rfl rfl Try.func87 (by kernel_rfl) rfl #[.int .i64 x1_1] rfl (by (try simp only [List.map_toArray, List.map_cons, List.map_nil]); first | done | rfl) ?_; (with_reducible refine (laws_markText.calls k1 x1_1 t100 _ At100.out).mono ?_); rintro e w200 ⟨rfl, hb⟩; refine ⟨_, rfl, ?_⟩; have n0_ := Aside0.mk (show Kd.H k96 96 w200 w0.heap.size (fun k_ => P0_ k_) (.slice (some ⟨go, 0, none⟩) x0_1.length co) x0_1 x5_1 oki [(.string ((rd_T96 x0_1 x5_1).f0)), (.int .i64 ((rd_T96 x0_1 x5_1).f1)), (.int .i64 ((rd_T96 x0_1 x5_1).f2)), (.int .i64 ((rd_T96 x0_1 x5_1).f3)), (.int .i64 ((rd_T96 x0_1 x5_1).f4)), ve] from Kd.H_below HH.out hb); have n1_ := Aside0.mk (show Kd.R (Kd.int .i64) 2 w200 w0.heap.size oki ve ((rd_T96 x0_1 x5_1).f5) from Kd.R_below HE.out hb); have n2_ := Aside0.mk (Kept.below (S := (fun k_ => P0_ k_)) HK.out hb); have n3_ := Aside0.mk (below_step HB.out hb); clear hx_0 hf_0 hx_1 hf_1 hx_2 hf_2 hx_3 hf_3 hx_4 hf_4 hx_5 hf_5; clear HH HE HK HB hb; have HH := n0_; have HE := n1_; have HK := n2_; have HB := n3_; clear n0_ n1_ n2_ n3_; obtain ⟨hcc, hfr⟩ := hole_cells HH.out (of_eq_true P5) (of_eq_true Q5); have hx_0 : w200.cell? ⟨go, (x5_1 : Int).toNat * 6, none⟩ = some (.string ((rd_T96 x0_1 x5_1).f0)) := (by have h_ := hcc 0 _ rfl; (try simp only [show (k96).sz = 6 from rfl, Nat.mul_one, Nat.add_zero] at h_); exact h_); have hf_0 : w200.frozen? ⟨go, (x5_1 : Int).toNat * 6, none⟩ = false := (by have h_ := hfr 0; (try simp only [show (k96).sz = 6 from rfl, Nat.mul_one, Nat.add_zero] at h_); exact h_); have hx_1 : w200.cell? ⟨go, (x5_1 : Int).toNat * 6 + 1, none⟩ = some (.int .i64 ((rd_T96 x0_1 x5_1).f1)) := (by have h_ := hcc 1 _ rfl; (try simp only [show (k96).sz = 6 from rfl, Nat.mul_one, Nat.add_zero] at h_); exact h_); have hf_1 : w200.frozen? ⟨go, (x5_1 : Int).toNat * 6 + 1, none⟩ = false := (by have h_ := hfr 1; (try simp only [show (k96).sz = 6 from rfl, Nat.mul_one, Nat.add_zero] at h_); exact h_); have hx_2 : w200.cell? ⟨go, (x5_1 : Int).toNat * 6 + 2, none⟩ = some (.int .i64 ((rd_T96 x0_1 x5_1).f2)) := (by have h_ := hcc 2 _ rfl; (try simp only [show (k96).sz = 6 from rfl, Nat.mul_one, Nat.add_zero] at h_); exact h_); have hf_2 : w200.frozen? ⟨go, (x5_1 : Int).toNat * 6 + 2, none⟩ = false := (by have h_ := hfr 2; (try simp only [show (k96).sz = 6 from rfl, Nat.mul_one, Nat.add_zero] at h_); exact h_); have hx_3 : w200.cell? ⟨go, (x5_1 : Int).toNat * 6 + 3, none⟩ = some (.int .i64 ((rd_T96 x0_1 x5_1).f3)) := (by have h_ := hcc 3 _ rfl; (try simp only [show (k96).sz = 6 from rfl, Nat.mul_one, Nat.add_zero] at h_); exact h_); have hf_3 : w200.frozen? ⟨go, (x5_1 : Int).toNat * 6 + 3, none⟩ = false := (by have h_ := hfr 3; (try simp only [show (k96).sz = 6 from rfl, Nat.mul_one, Nat.add_zero] at h_); exact h_); have hx_4 : w200.cell? ⟨go, (x5_1 : Int).toNat * 6 + 4, none⟩ = some (.int .i64 ((rd_T96 x0_1 x5_1).f4)) := (by have h_ := hcc 4 _ rfl; (try simp only [show (k96).sz = 6 from rfl, Nat.mul_one, Nat.add_zero] at h_); exact h_); have hf_4 : w200.frozen? ⟨go, (x5_1 : Int).toNat * 6 + 4, none⟩ = false := (by have h_ := hfr 4; (try simp only [show (k96).sz = 6 from rfl, Nat.mul_one, Nat.add_zero] at h_); exact h_); have hx_5 : w200.cell? ⟨go, (x5_1 : Int).toNat * 6 + 5, none⟩ = some ve := (by have h_ := hcc 5 _ rfl; (try simp only [show (k96).sz = 6 from rfl, Nat.mul_one, Nat.add_zero] at h_); exact h_); have hf_5 : w200.frozen? ⟨go, (x5_1 : Int).toNat * 6 + 5, none⟩ = false := (by have h_ := hfr 5; (try simp only [show (k96).sz = 6 from rfl, Nat.mul_one, Nat.add_zero] at h_); exact h_); clear hcc hfr) | ((with_reducible refine gate_store (t := 9) (p := 17) rfl ?_); refine store_event (t := 9) (p := 17) (v := ?vo_w201) (w1 := (w200.setCell ⟨go, (x5_1 : Int).toNat * 6, none⟩ (.string t100))) ?hg ?ho ?hn ?hr ?_; (case ho => rfl); (case hg => rfl); (case hn => rfl); (case hr => first | (go_simp; done) | (go_simp; rfl)); intro w201 hw; have q_ := hole_put HH.out (of_eq_true P5) (of_eq_true Q5) 0 (.string t100) (by decide) rfl; (try simp only [show (k96).sz = 6 from rfl, Nat.mul_one, Nat.add_zero] at q_); have hg : w200.grownBy w201 (some go) := (by rw [hw]; exact q_.2); have n0_ := Aside0.mk (show Kd.H k96 96 w201 w0.heap.size (fun k_ => P0_ k_) (.slice (some ⟨go, 0, none⟩) x0_1.length co) x0_1 x5_1 oki [(.string t100), (.int .i64 ((rd_T96 x0_1 x5_1).f1)), (.int .i64 ((rd_T96 x0_1 x5_1).f2)), (.int .i64 ((rd_T96 x0_1 x5_1).f3)), (.int .i64 ((rd_T96 x0_1 x5_1).f4)), ve] from (by rw [hw]; exact q_.1)); have n1_ := Aside0.mk (show Kd.R (Kd.int .i64) 2 w201 w0.heap.size oki ve ((rd_T96 x0_1 x5_1).f5) from Kd.R_grown HE.out hg (fun k_ hk_ e_ => (HI.out k_ hk_).2 (Option.some.inj e_))); have n2_ := Aside0.mk (Kept.of_grown (S := (fun k_ => P0_ k_)) hg HK.out (fun k_ e_ => .inl (Option.some.inj e_ ▸ HP.out))); have n3_ := Aside0.mk ((by rw [hw]; exact below_set (HB.out) GB.out : Below w0.heap.size w0 w201)); clear hx_0 hf_0 hx_1 hf_1 hx_2 hf_2 hx_3 hf_3 hx_4 hf_4 hx_5 hf_5; clear HH HE HK HB hg hw q_; have HH := n0_; have HE := n1_; have HK := n2_; have HB := n3_; clear n0_ n1_ n2_ n3_; obtain ⟨hcc, hfr⟩ := hole_cells HH.out (of_eq_true P5) (of_eq_true Q5); have hx_0 : w201.cell? ⟨go, (x5_1 : Int).toNat * 6, none⟩ = some (.string t100) := (by have h_ := hcc 0 _ rfl; (try simp only [show (k96).sz = 6 from rfl, Nat.mul_one, Nat.add_zero] at h_); exact h_); have hf_0 : w201.frozen? ⟨go, (x5_1 : Int).toNat * 6, none⟩ = false := (by have h_ := hfr 0; (try simp only [show (k96).sz = 6 from rfl, Nat.mul_one, Nat.add_zero] at h_); exact h_); have hx_1 : w201.cell? ⟨go, (x5_1 : Int).toNat * 6 + 1, none⟩ = some (.int .i64 ((rd_T96 x0_1 x5_1).f1)) := (by have h_ := hcc 1 _ rfl; (try simp only [show (k96).sz = 6 from rfl, Nat.mul_one, Nat.add_zero] at h_); exact h_); have hf_1 : w201.frozen? ⟨go, (x5_1 : Int).toNat * 6 + 1, none⟩ = false := (by have h_ := hfr 1; (try simp only [show (k96).sz = 6 from rfl, Nat.mul_one, Nat.add_zero] at h_); exact h_); have hx_2 : w201.cell? ⟨go, (x5_1 : Int).toNat * 6 + 2, none⟩ = some (.int .i64 ((rd_T96 x0_1 x5_1).f2)) := (by have h_ := hcc 2 _ rfl; (try simp only [show (k96).sz = 6 from rfl, Nat.mul_one, Nat.add_zero] at h_); exact h_); have hf_2 : w201.frozen? ⟨go, (x5_1 : Int).toNat * 6 + 2, none⟩ = false := (by have h_ := hfr 2; (try simp only [show (k96).sz = 6 from rfl, Nat.mul_one, Nat.add_zero] at h_); exact h_); have hx_3 : w201.cell? ⟨go, (x5_1 : Int).toNat * 6 + 3, none⟩ = some (.int .i64 ((rd_T96 x0_1 x5_1).f3)) := (by have h_ := hcc 3 _ rfl; (try simp only [show (k96).sz = 6 from rfl, Nat.mul_one, Nat.add_zero] at h_); exact h_); have hf_3 : w201.frozen? ⟨go, (x5_1 : Int).toNat * 6 + 3, none⟩ = false := (by have h_ := hfr 3; (try simp only [show (k96).sz = 6 from rfl, Nat.mul_one, Nat.add_zero] at h_); exact h_); have hx_4 : w201.cell? ⟨go, (x5_1 : Int).toNat * 6 + 4, none⟩ = some (.int .i64 ((rd_T96 x0_1 x5_1).f4)) := (by have h_ := hcc 4 _ rfl; (try simp only [show (k96).sz = 6 from rfl, Nat.mul_one, Nat.add_zero] at h_); exact h_); have hf_4 : w201.frozen? ⟨go, (x5_1 : Int).toNat * 6 + 4, none⟩ = false := (by have h_ := hfr 4; (try simp only [show (k96).sz = 6 from rfl, Nat.mul_one, Nat.add_zero] at h_); exact h_); have hx_5 : w201.cell? ⟨go, (x5_1 : Int).toNat * 6 + 5, none⟩ = some ve := (by have h_ := hcc 5 _ rfl; (try simp only [show (k96).sz = 6 from rfl, Nat.mul_one, Nat.add_zero] at h_); exact h_); have hf_5 : w201.frozen? ⟨go, (x5_1 : Int).toNat * 6 + 5, none⟩ = false := (by have h_ := hfr 5; (try simp only [show (k96).sz = 6 from rfl, Nat.mul_one, Nat.add_zero] at h_); exact h_); clear hcc hfr) | ((with_reducible refine gate_store (t := 2) (p := 24) rfl ?_); refine store_event (t := 2) (p := 24) (v := ?vo_w202) (w1 := (w201.setCell ⟨go, (x5_1 : Int).toNat * 6 + 1, none⟩ (.int .i64 (wrap64 (x1_1 + 1))))) ?hg ?ho ?hn ?hr ?_; (case ho => rfl); (case hg => rfl); (case hn => rfl); (case hr => first | (go_simp; done) | (go_simp; rfl)); intro w202 hw; have q_ := hole_put HH.out (of_eq_true P5) (of_eq_true Q5) 1 (.int .i64 (wrap64 (x1_1 + 1))) (by decide) rfl; (try simp only [show (k96).sz = 6 from rfl, Nat.mul_one, Nat.add_zero] at q_); have hg : w201.grownBy w202 (some go) := (by rw [hw]; exact q_.2); have n0_ := Aside0.mk (show Kd.H k96 96 w202 w0.heap.size (fun k_ => P0_ k_) (.slice (some ⟨go, 0, none⟩) x0_1.length co) x0_1 x5_1 oki [(.string t100), (.int .i64 (wrap64 (x1_1 + 1))), (.int .i64 ((rd_T96 x0_1 x5_1).f2)), (.int .i64 ((rd_T96 x0_1 x5_1).f3)), (.int .i64 ((rd_T96 x0_1 x5_1).f4)), ve] from (by rw [hw]; exact q_.1)); have n1_ := Aside0.mk (show Kd.R (Kd.int .i64) 2 w202 w0.heap.size oki ve ((rd_T96 x0_1 x5_1).f5) from Kd.R_grown HE.out hg (fun k_ hk_ e_ => (HI.out k_ hk_).2 (Option.some.inj e_))); have n2_ := Aside0.mk (Kept.of_grown (S := (fun k_ => P0_ k_)) hg HK.out (fun k_ e_ => .inl (Option.some.inj e_ ▸ HP.out))); have n3_ := Aside0.mk ((by rw [hw]; exact below_set (HB.out) GB.out : Below w0.heap.size w0 w202)); clear hx_0 hf_0 hx_1 hf_1 hx_2 hf_2 hx_3 hf_3 hx_4 hf_4 hx_5 hf_5; clear HH HE HK HB hg hw q_; have HH := n0_; have HE := n1_; have HK := n2_; have HB := n3_; clear n0_ n1_ n2_ n3_; obtain ⟨hcc, hfr⟩ := hole_cells HH.out (of_eq_true P5) (of_eq_true Q5); have hx_0 : w202.cell? ⟨go, (x5_1 : Int).toNat * 6, none⟩ = some (.string t100) := (by have h_ := hcc 0 _ rfl; (try simp only [show (k96).sz = 6 from rfl, Nat.mul_one, Nat.add_zero] at h_); exact h_); have hf_0 : w202.frozen? ⟨go, (x5_1 : Int).toNat * 6, none⟩ = false := (by have h_ := hfr 0; (try simp only [show (k96).sz = 6 from rfl, Nat.mul_one, Nat.add_zero] at h_); exact h_); have hx_1 : w202.cell? ⟨go, (x5_1 : Int).toNat * 6 + 1, none⟩ = some (.int .i64 (wrap64 (x1_1 + 1))) := (by have h_ := hcc 1 _ rfl; (try simp only [show (k96).sz = 6 from rfl, Nat.mul_one, Nat.add_zero] at h_); exact h_); have hf_1 : w202.frozen? ⟨go, (x5_1 : Int).toNat * 6 + 1, none⟩ = false := (by have h_ := hfr 1; (try simp only [show (k96).sz = 6 from rfl, Nat.mul_one, Nat.add_zero] at h_); exact h_); have hx_2 : w202.cell? ⟨go, (x5_1 : Int).toNat * 6 + 2, none⟩ = some (.int .i64 ((rd_T96 x0_1 x5_1).f2)) := (by have h_ := hcc 2 _ rfl; (try simp only [show (k96).sz = 6 from rfl, Nat.mul_one, Nat.add_zero] at h_); exact h_); have hf_2 : w202.frozen? ⟨go, (x5_1 : Int).toNat * 6 + 2, none⟩ = false := (by have h_ := hfr 2; (try simp only [show (k96).sz = 6 from rfl, Nat.mul_one, Nat.add_zero] at h_); exact h_); have hx_3 : w202.cell? ⟨go, (x5_1 : Int).toNat * 6 + 3, none⟩ = some (.int .i64 ((rd_T96 x0_1 x5_1).f3)) := (by have h_ := hcc 3 _ rfl; (try simp only [show (k96).sz = 6 from rfl, Nat.mul_one, Nat.add_zero] at h_); exact h_); have hf_3 : w202.frozen? ⟨go, (x5_1 : Int).toNat * 6 + 3, none⟩ = false := (by have h_ := hfr 3; (try simp only [show (k96).sz = 6 from rfl, Nat.mul_one, Nat.add_zero] at h_); exact h_); have hx_4 : w202.cell? ⟨go, (x5_1 : Int).toNat * 6 + 4, none⟩ = some (.int .i64 ((rd_T96 x0_1 x5_1).f4)) := (by have h_ := hcc 4 _ rfl; (try simp only [show (k96).sz = 6 from rfl, Nat.mul_one, Nat.add_zero] at h_); exact h_); have hf_4 : w202.frozen? ⟨go, (x5_1 : Int).toNat * 6 + 4, none⟩ = false := (by have h_ := hfr 4; (try simp only [show (k96).sz = 6 from rfl, Nat.mul_one, Nat.add_zero] at h_); exact h_); have hx_5 : w202.cell? ⟨go, (x5_1 : Int).toNat * 6 + 5, none⟩ = some ve := (by have h_ := hcc 5 _ rfl; (try simp only [show (k96).sz = 6 from rfl, Nat.mul_one, Nat.add_zero] at h_); exact h_); have hf_5 : w202.frozen? ⟨go, (x5_1 : Int).toNat * 6 + 5, none⟩ = false := (by have h_ := hfr 5; (try simp only [show (k96).sz = 6 from rfl, Nat.mul_one, Nat.add_zero] at h_); exact h_); clear hcc hfr) | ((with_reducible refine gate_store (t := 2) (p := 31) rfl ?_); refine store_event (t := 2) (p := 31) (v := ?vo_w203) (w1 := (w202.setCell ⟨go, (x5_1 : Int).toNat * 6 + 2, none⟩ (.int .i64 (wrap64 ((wrap64 (x1_1 + 1)) + 1))))) ?hg ?ho ?hn ?hr ?_; (case ho => rfl); (case hg => rfl); (case hn => rfl); (case hr => first | (go_simp; done) | (go_simp; rfl)); intro w203 hw; have q_ := hole_put HH.out (of_eq_true P5) (of_eq_true Q5) 2 (.int .i64 (wrap64 ((wrap64 (x1_1 + 1)) + 1))) (by decide) rfl; (try simp only [show (k96).sz = 6 from rfl, Nat.mul_one, Nat.add_zero] at q_); have hg : w202.grownBy w203 (some go) := (by rw [hw]; exact q_.2); have n0_ := Aside0.mk (show Kd.H k96 96 w203 w0.heap.size (fun k_ => P0_ k_) (.slice (some ⟨go, 0, none⟩) x0_1.length co) x0_1 x5_1 oki [(.string t100), (.int .i64 (wrap64 (x1_1 + 1))), (.int .i64 (wrap64 ((wrap64 (x1_1 + 1)) + 1))), (.int .i64 ((rd_T96 x0_1 x5_1).f3)), (.int .i64 ((rd_T96 x0_1 x5_1).f4)), ve] from (by rw [hw]; exact q_.1)); have n1_ := Aside0.mk (show Kd.R (Kd.int .i64) 2 w203 w0.heap.size oki ve ((rd_T96 x0_1 x5_1).f5) from Kd.R_grown HE.out hg (fun k_ hk_ e_ => (HI.out k_ hk_).2 (Option.some.inj e_))); have n2_ := Aside0.mk (Kept.of_grown (S := (fun k_ => P0_ k_)) hg HK.out (fun k_ e_ => .inl (Option.some.inj e_ ▸ HP.out))); have n3_ := Aside0.mk ((by rw [hw]; exact below_set (HB.out) GB.out : Below w0.heap.size w0 w203)); clear hx_0 hf_0 hx_1 hf_1 hx_2 hf_2 hx_3 hf_3 hx_4 hf_4 hx_5 hf_5; clear HH HE HK HB hg hw q_; have HH := n0_; have HE := n1_; have HK := n2_; have HB := n3_; clear n0_ n1_ n2_ n3_; obtain ⟨hcc, hfr⟩ := hole_cells HH.out (of_eq_true P5) (of_eq_true Q5); have hx_0 : w203.cell? ⟨go, (x5_1 : Int).toNat * 6, none⟩ = some (.string t100) := (by have h_ := hcc 0 _ rfl; (try simp only [show (k96).sz = 6 from rfl, Nat.mul_one, Nat.add_zero] at h_); exact h_); have hf_0 : w203.frozen? ⟨go, (x5_1 : Int).toNat * 6, none⟩ = false := (by have h_ := hfr 0; (try simp only [show (k96).sz = 6 from rfl, Nat.mul_one, Nat.add_zero] at h_); exact h_); have hx_1 : w203.cell? ⟨go, (x5_1 : Int).toNat * 6 + 1, none⟩ = some (.int .i64 (wrap64 (x1_1 + 1))) := (by have h_ := hcc 1 _ rfl; (try simp only [show (k96).sz = 6 from rfl, Nat.mul_one, Nat.add_zero] at h_); exact h_); have hf_1 : w203.frozen? ⟨go, (x5_1 : Int).toNat * 6 + 1, none⟩ = false := (by have h_ := hfr 1; (try simp only [show (k96).sz = 6 from rfl, Nat.mul_one, Nat.add_zero] at h_); exact h_); have hx_2 : w203.cell? ⟨go, (x5_1 : Int).toNat * 6 + 2, none⟩ = some (.int .i64 (wrap64 ((wrap64 (x1_1 + 1)) + 1))) := (by have h_ := hcc 2 _ rfl; (try simp only [show (k96).sz = 6 from rfl, Nat.mul_one, Nat.add_zero] at h_); exact h_); have hf_2 : w203.frozen? ⟨go, (x5_1 : Int).toNat * 6 + 2, none⟩ = false := (by have h_ := hfr 2; (try simp only [show (k96).sz = 6 from rfl, Nat.mul_one, Nat.add_zero] at h_); exact h_); have hx_3 : w203.cell? ⟨go, (x5_1 : Int).toNat * 6 + 3, none⟩ = some (.int .i64 ((rd_T96 x0_1 x5_1).f3)) := (by have h_ := hcc 3 _ rfl; (try simp only [show (k96).sz = 6 from rfl, Nat.mul_one, Nat.add_zero] at h_); exact h_); have hf_3 : w203.frozen? ⟨go, (x5_1 : Int).toNat * 6 + 3, none⟩ = false := (by have h_ := hfr 3; (try simp only [show (k96).sz = 6 from rfl, Nat.mul_one, Nat.add_zero] at h_); exact h_); have hx_4 : w203.cell? ⟨go, (x5_1 : Int).toNat * 6 + 4, none⟩ = some (.int .i64 ((rd_T96 x0_1 x5_1).f4)) := (by have h_ := hcc 4 _ rfl; (try simp only [show (k96).sz = 6 from rfl, Nat.mul_one, Nat.add_zero] at h_); exact h_); have hf_4 : w203.frozen? ⟨go, (x5_1 : Int).toNat * 6 + 4, none⟩ = false := (by have h_ := hfr 4; (try simp only [show (k96).sz = 6 from rfl, Nat.mul_one, Nat.add_zero] at h_); exact h_); have hx_5 : w203.cell? ⟨go, (x5_1 : Int).toNat * 6 + 5, none⟩ = some ve := (by have h_ := hcc 5 _ rfl; (try simp only [show (k96).sz = 6 from rfl, Nat.mul_one, Nat.add_zero] at h_); exact h_); have hf_5 : w203.frozen? ⟨go, (x5_1 : Int).toNat * 6 + 5, none⟩ = false := (by have h_ := hfr 5; (try simp only [show (k96).sz = 6 from rfl, Nat.mul_one, Nat.add_zero] at h_); exact h_); clear hcc hfr) | ((with_reducible refine gate_store (t := 2) (p := 38) rfl ?_); refine store_event (t := 2) (p := 38) (v := ?vo_w204) (w1 := (w203.setCell ⟨go, (x5_1 : Int).toNat * 6 + 3, none⟩ (.int .i64 (wrap64 ((wrap64 ((wrap64 (x1_1 + 1)) + 1)) + 1))))) ?hg ?ho ?hn ?hr ?_; (case ho => rfl); (case hg => rfl); (case hn => rfl); (case hr => first | (go_simp; done) | (go_simp; rfl)); intro w204 hw; have q_ := hole_put HH.out (of_eq_true P5) (of_eq_true Q5) 3 (.int .i64 (wrap64 ((wrap64 ((wrap64 (x1_1 + 1)) + 1)) + 1))) (by decide) rfl; (try simp only [show (k96).sz = 6 from rfl, Nat.mul_one, Nat.add_zero] at q_); have hg : w203.grownBy w204 (some go) := (by rw [hw]; exact q_.2); have n0_ := Aside0.mk (show Kd.H k96 96 w204 w0.heap.size (fun k_ => P0_ k_) (.slice (some ⟨go, 0, none⟩) x0_1.length co) x0_1 x5_1 oki [(.string t100), (.int .i64 (wrap64 (x1_1 + 1))), (.int .i64 (wrap64 ((wrap64 (x1_1 + 1)) + 1))), (.int .i64 (wrap64 ((wrap64 ((wrap64 (x1_1 + 1)) + 1)) + 1))), (.int .i64 ((rd_T96 x0_1 x5_1).f4)), ve] from (by rw [hw]; exact q_.1)); have n1_ := Aside0.mk (show Kd.R (Kd.int .i64) 2 w204 w0.heap.size oki ve ((rd_T96 x0_1 x5_1).f5) from Kd.R_grown HE.out hg (fun k_ hk_ e_ => (HI.out k_ hk_).2 (Option.some.inj e_))); have n2_ := Aside0.mk (Kept.of_grown (S := (fun k_ => P0_ k_)) hg HK.out (fun k_ e_ => .inl (Option.some.inj e_ ▸ HP.out))); have n3_ := Aside0.mk ((by rw [hw]; exact below_set (HB.out) GB.out : Below w0.heap.size w0 w204)); clear hx_0 hf_0 hx_1 hf_1 hx_2 hf_2 hx_3 hf_3 hx_4 hf_4 hx_5 hf_5; clear HH HE HK HB hg hw q_; have HH := n0_; have HE := n1_; have HK := n2_; have HB := n3_; clear n0_ n1_ n2_ n3_; obtain ⟨hcc, hfr⟩ := hole_cells HH.out (of_eq_true P5) (of_eq_true Q5); have hx_0 : w204.cell? ⟨go, (x5_1 : Int).toNat * 6, none⟩ = some (.string t100) := (by have h_ := hcc 0 _ rfl; (try simp only [show (k96).sz = 6 from rfl, Nat.mul_one, Nat.add_zero] at h_); exact h_); have hf_0 : w204.frozen? ⟨go, (x5_1 : Int).toNat * 6, none⟩ = false := (by have h_ := hfr 0; (try simp only [show (k96).sz = 6 from rfl, Nat.mul_one, Nat.add_zero] at h_); exact h_); have hx_1 : w204.cell? ⟨go, (x5_1 : Int).toNat * 6 + 1, none⟩ = some (.int .i64 (wrap64 (x1_1 + 1))) := (by have h_ := hcc 1 _ rfl; (try simp only [show (k96).sz = 6 from rfl, Nat.mul_one, Nat.add_zero] at h_); exact h_); have hf_1 : w204.frozen? ⟨go, (x5_1 : Int).toNat * 6 + 1, none⟩ = false := (by have h_ := hfr 1; (try simp only [show (k96).sz = 6 from rfl, Nat.mul_one, Nat.add_zero] at h_); exact h_); have hx_2 : w204.cell? ⟨go, (x5_1 : Int).toNat * 6 + 2, none⟩ = some (.int .i64 (wrap64 ((wrap64 (x1_1 + 1)) + 1))) := (by have h_ := hcc 2 _ rfl; (try simp only [show (k96).sz = 6 from rfl, Nat.mul_one, Nat.add_zero] at h_); exact h_); have hf_2 : w204.frozen? ⟨go, (x5_1 : Int).toNat * 6 + 2, none⟩ = false := (by have h_ := hfr 2; (try simp only [show (k96).sz = 6 from rfl, Nat.mul_one, Nat.add_zero] at h_); exact h_); have hx_3 : w204.cell? ⟨go, (x5_1 : Int).toNat * 6 + 3, none⟩ = some (.int .i64 (wrap64 ((wrap64 ((wrap64 (x1_1 + 1)) + 1)) + 1))) := (by have h_ := hcc 3 _ rfl; (try simp only [show (k96).sz = 6 from rfl, Nat.mul_one, Nat.add_zero] at h_); exact h_); have hf_3 : w204.frozen? ⟨go, (x5_1 : Int).toNat * 6 + 3, none⟩ = false := (by have h_ := hfr 3; (try simp only [show (k96).sz = 6 from rfl, Nat.mul_one, Nat.add_zero] at h_); exact h_); have hx_4 : w204.cell? ⟨go, (x5_1 : Int).toNat * 6 + 4, none⟩ = some (.int .i64 ((rd_T96 x0_1 x5_1).f4)) := (by have h_ := hcc 4 _ rfl; (try simp only [show (k96).sz = 6 from rfl, Nat.mul_one, Nat.add_zero] at h_); exact h_); have hf_4 : w204.frozen? ⟨go, (x5_1 : Int).toNat * 6 + 4, none⟩ = false := (by have h_ := hfr 4; (try simp only [show (k96).sz = 6 from rfl, Nat.mul_one, Nat.add_zero] at h_); exact h_); have hx_5 : w204.cell? ⟨go, (x5_1 : Int).toNat * 6 + 5, none⟩ = some ve := (by have h_ := hcc 5 _ rfl; (try simp only [show (k96).sz = 6 from rfl, Nat.mul_one, Nat.add_zero] at h_); exact h_); have hf_5 : w204.frozen? ⟨go, (x5_1 : Int).toNat * 6 + 5, none⟩ = false := (by have h_ := hfr 5; (try simp only [show (k96).sz = 6 from rfl, Nat.mul_one, Nat.add_zero] at h_); exact h_); clear hcc hfr) | ((with_reducible refine gate_store (t := 2) (p := 45) rfl ?_); refine store_event (t := 2) (p := 45) (v := ?vo_w205) (w1 := (w204.setCell ⟨go, (x5_1 : Int).toNat * 6 + 4, none⟩ (.int .i64 (wrap64 ((wrap64 ((wrap64 ((wrap64 (x1_1 + 1)) + 1)) + 1)) + 1))))) ?hg ?ho ?hn ?hr ?_; (case ho => rfl); (case hg => rfl); (case hn => rfl); (case hr => first | (go_simp; done) | (go_simp; rfl)); intro w205 hw; have q_ := hole_put HH.out (of_eq_true P5) (of_eq_true Q5) 4 (.int .i64 (wrap64 ((wrap64 ((wrap64 ((wrap64 (x1_1 + 1)) + 1)) + 1)) + 1))) (by decide) rfl; (try simp only [show (k96).sz = 6 from rfl, Nat.mul_one, Nat.add_zero] at q_); have hg : w204.grownBy w205 (some go) := (by rw [hw]; exact q_.2); have n0_ := Aside0.mk (show Kd.H k96 96 w205 w0.heap.size (fun k_ => P0_ k_) (.slice (some ⟨go, 0, none⟩) x0_1.length co) x0_1 x5_1 oki [(.string t100), (.int .i64 (wrap64 (x1_1 + 1))), (.int .i64 (wrap64 ((wrap64 (x1_1 + 1)) + 1))), (.int .i64 (wrap64 ((wrap64 ((wrap64 (x1_1 + 1)) + 1)) + 1))), (.int .i64 (wrap64 ((wrap64 ((wrap64 ((wrap64 (x1_1 + 1)) + 1)) + 1)) + 1))), ve] from (by rw [hw]; exact q_.1)); have n1_ := Aside0.mk (show Kd.R (Kd.int .i64) 2 w205 w0.heap.size oki ve ((rd_T96 x0_1 x5_1).f5) from Kd.R_grown HE.out hg (fun k_ hk_ e_ => (HI.out k_ hk_).2 (Option.some.inj e_))); have n2_ := Aside0.mk (Kept.of_grown (S := (fun k_ => P0_ k_)) hg HK.out (fun k_ e_ => .inl (Option.some.inj e_ ▸ HP.out))); have n3_ := Aside0.mk ((by rw [hw]; exact below_set (HB.out) GB.out : Below w0.heap.size w0 w205)); clear hx_0 hf_0 hx_1 hf_1 hx_2 hf_2 hx_3 hf_3 hx_4 hf_4 hx_5 hf_5; clear HH HE HK HB hg hw q_; have HH := n0_; have HE := n1_; have HK := n2_; have HB := n3_; clear n0_ n1_ n2_ n3_; obtain ⟨hcc, hfr⟩ := hole_cells HH.out (of_eq_true P5) (of_eq_true Q5); have hx_0 : w205.cell? ⟨go, (x5_1 : Int).toNat * 6, none⟩ = some (.string t100) := (by have h_ := hcc 0 _ rfl; (try simp only [show (k96).sz = 6 from rfl, Nat.mul_one, Nat.add_zero] at h_); exact h_); have hf_0 : w205.frozen? ⟨go, (x5_1 : Int).toNat * 6, none⟩ = false := (by have h_ := hfr 0; (try simp only [show (k96).sz = 6 from rfl, Nat.mul_one, Nat.add_zero] at h_); exact h_); have hx_1 : w205.cell? ⟨go, (x5_1 : Int).toNat * 6 + 1, none⟩ = some (.int .i64 (wrap64 (x1_1 + 1))) := (by have h_ := hcc 1 _ rfl; (try simp only [show (k96).sz = 6 from rfl, Nat.mul_one, Nat.add_zero] at h_); exact h_); have hf_1 : w205.frozen? ⟨go, (x5_1 : Int).toNat * 6 + 1, none⟩ = false := (by have h_ := hfr 1; (try simp only [show (k96).sz = 6 from rfl, Nat.mul_one, Nat.add_zero] at h_); exact h_); have hx_2 : w205.cell? ⟨go, (x5_1 : Int).toNat * 6 + 2, none⟩ = some (.int .i64 (wrap64 ((wrap64 (x1_1 + 1)) + 1))) := (by have h_ := hcc 2 _ rfl; (try simp only [show (k96).sz = 6 from rfl, Nat.mul_one, Nat.add_zero] at h_); exact h_); have hf_2 : w205.frozen? ⟨go, (x5_1 : Int).toNat * 6 + 2, none⟩ = false := (by have h_ := hfr 2; (try simp only [show (k96).sz = 6 from rfl, Nat.mul_one, Nat.add_zero] at h_); exact h_); have hx_3 : w205.cell? ⟨go, (x5_1 : Int).toNat * 6 + 3, none⟩ = some (.int .i64 (wrap64 ((wrap64 ((wrap64 (x1_1 + 1)) + 1)) + 1))) := (by have h_ := hcc 3 _ rfl; (try simp only [show (k96).sz = 6 from rfl, Nat.mul_one, Nat.add_zero] at h_); exact h_); have hf_3 : w205.frozen? ⟨go, (x5_1 : Int).toNat * 6 + 3, none⟩ = false := (by have h_ := hfr 3; (try simp only [show (k96).sz = 6 from rfl, Nat.mul_one, Nat.add_zero] at h_); exact h_); have hx_4 : w205.cell? ⟨go, (x5_1 : Int).toNat * 6 + 4, none⟩ = some (.int .i64 (wrap64 ((wrap64 ((wrap64 ((wrap64 (x1_1 + 1)) + 1)) + 1)) + 1))) := (by have h_ := hcc 4 _ rfl; (try simp only [show (k96).sz = 6 from rfl, Nat.mul_one, Nat.add_zero] at h_); exact h_); have hf_4 : w205.frozen? ⟨go, (x5_1 : Int).toNat * 6 + 4, none⟩ = false := (by have h_ := hfr 4; (try simp only [show (k96).sz = 6 from rfl, Nat.mul_one, Nat.add_zero] at h_); exact h_); have hx_5 : w205.cell? ⟨go, (x5_1 : Int).toNat * 6 + 5, none⟩ = some ve := (by have h_ := hcc 5 _ rfl; (try simp only [show (k96).sz = 6 from rfl, Nat.mul_one, Nat.add_zero] at h_); exact h_); have hf_5 : w205.frozen? ⟨go, (x5_1 : Int).toNat * 6 + 5, none⟩ = false := (by have h_ := hfr 5; (try simp only [show (k96).sz = 6 from rfl, Nat.mul_one, Nat.add_zero] at h_); exact h_); clear hcc hfr) | ((with_reducible refine gate_callee (f := 31) rfl ?_); refine goesL_ (some 54) rfl rfl Try.func31 (by kernel_rfl) rfl #[ve, .int .i64 (wrap64 ((wrap64 ((wrap64 ((wrap64 ((wrap64 (x1_1 + 1)) + 1)) + 1)) + 1)) + 1))] rfl (by (try simp only [List.map_toArray, List.map_cons, List.map_nil]); first | done | rfl) ?_; (with_reducible refine (laws_markInt64S.calls k1 oki ve ((rd_T96 x0_1 x5_1).f5) (wrap64 ((wrap64 ((wrap64 ((wrap64 ((wrap64 (x1_1 + 1)) + 1)) + 1)) + 1)) + 1)) t190 t191 w0 _ HB.out HE.out AL.out).mono ?_); rintro e w206 ⟨rfl, hy0, hb, hkp⟩; refine ⟨_, rfl, ?_⟩; have hR_ := Kd.R_reok (ok := oki) rfl hy0 (fun k_ e_ => HE.out.1 k_ e_); have n0_ := Aside0.mk (show Kd.S k96 96 w206 w0.heap.size (fun k_ => P0_ k_) (.slice (some ⟨go, 0, none⟩) x0_1.length co) (x0_1.set (x5_1 : Int).toNat (⟨t100, wrap64 (x1_1 + 1), wrap64 ((wrap64 (x1_1 + 1)) + 1), wrap64 ((wrap64 ((wrap64 (x1_1 + 1)) + 1)) + 1), wrap64 ((wrap64 ((wrap64 ((wrap64 (x1_1 + 1)) + 1)) + 1)) + 1), t191⟩ : S96)) from Kd.H_back (Kd.H_kept HH.out hkp (fun k_ _ hn_ hs_ => hn_ hs_)) (okp := oki) (k96_mkM w206 w0.heap.size oki (⟨t100, wrap64 (x1_1 + 1), wrap64 ((wrap64 (x1_1 + 1)) + 1), wrap64 ((wrap64 ((wrap64 (x1_1 + 1)) + 1)) + 1), wrap64 ((wrap64 ((wrap64 ((wrap64 (x1_1 + 1)) + 1)) + 1)) + 1), t191⟩ : S96) hR_) (fun _ hk => hk)); have n2_ := Aside0.mk (Kept.then_ (S := (fun k_ => P0_ k_)) HK.out hkp (fun k_ hs_ => .inl (HI.out k_ hs_).1)); have n3_ := Aside0.mk hb; clear HH HE HK HB hb hy0 hkp hR_; have HO_0 := n0_; have HK := n2_; have HB := n3_; clear n0_ n2_ n3_; clear hx_0 hf_0 hx_1 hf_1 hx_2 hf_2 hx_3 hf_3 hx_4 hf_4 hx_5 hf_5))
          go_roundg k1
          case measure => have := HK1.out; omega
          case rel => exact ⟨_, t190, (wrap64 (x5_1 + 1)), (by first | rfl | (simp; done) | (simp [*]; done)), (by first | rfl | (simp; done) | (simp [*]; done)), H', ⟨by have := HK1.out; omega⟩, ⟨by (with_reducible repeat (first | apply Kd.S_alloc | apply Kd.S_drewN | apply Kd.S_drew)); exact HO_0.out⟩, ⟨by repeat (first | (with_reducible first | exact HK.out | apply Kept.alloc | apply Kept.drewN | apply Kept.drew) | exact HK.out)⟩, ⟨by repeat (first | (with_reducible first | exact HB.out | apply below_alloc | apply pw_below_drewN | apply below_drew1) | exact HB.out)⟩⟩
        · rw [if_neg c4] at H
          exact absurd H (by simp)
      · rw [if_neg c3] at H
        have c3b0 : decide (x5_1 < (x0_1.length : Int)) = false := decide_eq_false c3
        clear c3
        simp only [Option.some.injEq, Prod.mk.injEq] at H
        obtain ⟨rfl, rfl⟩ := H
        obtain ⟨Ao, co, eo⟩ := Kd.S_slice HO_0.out
        subst eo
        go_wp2
        go_ret
        exact ⟨by first | rfl | (simp; done) | (simp [*]; done), by (with_reducible repeat (first | apply Kd.S_alloc | apply Kd.S_drewN | apply Kd.S_drew)); exact HO_0.out, by repeat (first | (with_reducible first | exact HB.out | apply below_alloc | apply pw_below_drewN | apply below_drew1) | exact HB.out), by repeat (first | (with_reducible first | exact HK.out | apply Kept.alloc | apply Kept.drewN | apply Kept.drew) | exact HK.out)⟩

end Go.Proofs.Ytamiipnoeffjkaa.QNodeLoads
