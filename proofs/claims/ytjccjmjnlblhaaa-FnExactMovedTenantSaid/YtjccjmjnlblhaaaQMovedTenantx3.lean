-- Written by press.py, a program of this session, round the kit's print.py (functions and contracts; Lean checks them).
import Derived.Test.YtjccjmjnlblhaaaQMovedTenantx0
import Derived.Test.YtjccjmjnlblhaaaQMovedTenantx1
import Derived.Test.YtjccjmjnlblhaaaQMovedTenantx2
namespace Go.Proofs.Ytjccjmjnlblhaaa.QMovedTenant
open Go.Proofs.Ytjccjmjnlblhaaa.QWords
attribute [local go_sem high] binOp_string_geq_q binOp_string_leq_q binOp_string_gtr_q
open Go.RowKit Go.Proofs.YtjccjmjnlblhaaaW.PrintWords Go.Proofs.YtjccjmjnlblhaaaW.PrintLast Go.Proofs.YtjccjmjnlblhaaaW.PrintMore
attribute [local go_sem] max2_int min2_int max_two min_two max_three min_three max_four min_four   -- for this text's walks alone
set_option linter.unusedVariables false
set_option linter.unusedSimpArgs false

/-! ### spec_MovedTenant: function 30 -/
mutual
def spec_MovedTenant.j0 : Nat → List (S129) → ByteArray → Int → Int → Bool → Option ((List (S129)) × Int)
  | 0, _, _, _, _, _ => none
  | k + 1, x0, x1, x2, x3, x27 => if x27 = true then (some (([] : List (S129)), 2)) else ((spec_l22Find.f k x0 x1).bind fun t118 => (if t118 < 0 then (some (([] : List (S129)), 3)) else (if x1.size + 1 ≤ 9223372036854775807 then ((spec_l22Find.f k x0 (x1 ++ (⟨#[98]⟩ : ByteArray))).bind fun t119 => (if t119 ≥ 0 then (some (([] : List (S129)), 4)) else (if (x0.length : Int) = 12 then (some (([] : List (S129)), 5)) else (if 0 ≤ t118 then (if t118 < (x0.length : Int) then ((spec_l01Div.f (wrap64 (((rd_T129 x0 t118).f2) * x2)) x3).bind fun t123 => (spec_MovedTenant.l0 k x0 t118 (([] : List (S129))) false 0 ((rd_T129 x0 t118).f0) ((rd_T129 x0 t118).f1) t123 (x1 ++ (⟨#[98]⟩ : ByteArray)) ((rd_T129 x0 t118).f1) (wrap64 (((rd_T129 x0 t118).f2) - t123)))) else (none)) else (none))))) else (none))))
def spec_MovedTenant.l0 : Nat → List (S129) → Int → List (S129) → Bool → Int → ByteArray → Int → Int → ByteArray → Int → Int → Option ((List (S129)) × Int)
  | 0, _, _, _, _, _, _, _, _, _, _, _ => none
  | k + 1, x0, x10, x13, x14, x15, x122000, x122001, x122002, x126000, x126001, x126002 => if x15 < (x0.length : Int) then (if x14 = true then (spec_MovedTenant.j2 k x0 x10 x13 x14 x15 false x122000 x122001 x122002 x126000 x126001 x126002) else (if 0 ≤ x15 then (spec_MovedTenant.j2 k x0 x10 x13 x14 x15 (Op.bytesLess x126000.toList (((rd_T129 x0 x15).f0).toList)) x122000 x122001 x122002 x126000 x126001 x126002) else (none))) else (if x14 = true then ((spec_l22Ok.f k x13).bind fun t147 => (if t147 = true then (some (x13, 0)) else (some (([] : List (S129)), 6)))) else (if x13.length < 4398046511104 then ((some (x13 ++ [(⟨x126000, x126001, x126002⟩ : S129)] : List (S129))).bind fun y148 => ((spec_l22Ok.f k y148).bind fun t151 => (if t151 = true then (some (y148, 0)) else (some (([] : List (S129)), 6))))) else (none)))
def spec_MovedTenant.j2 : Nat → List (S129) → Int → List (S129) → Bool → Int → Bool → ByteArray → Int → Int → ByteArray → Int → Int → Option ((List (S129)) × Int)
  | 0, _, _, _, _, _, _, _, _, _, _, _, _ => none
  | k + 1, x0, x10, x13, x14, x15, x86, x122000, x122001, x122002, x126000, x126001, x126002 => if x86 = true then (if x13.length < 4398046511104 then ((some (x13 ++ [(⟨x126000, x126001, x126002⟩ : S129)] : List (S129))).bind fun y130 => (if x15 = x10 then (if y130.length < 4398046511104 then (spec_MovedTenant.l0 k x0 x10 (y130 ++ [(⟨x122000, x122001, x122002⟩ : S129)]) true (wrap64 (x15 + 1)) x122000 x122001 x122002 x126000 x126001 x126002) else (none)) else (if 0 ≤ x15 then (if x15 < (x0.length : Int) then (if y130.length < 4398046511104 then (spec_MovedTenant.l0 k x0 x10 (y130 ++ [(⟨(rd_T129 x0 x15).f0, (rd_T129 x0 x15).f1, (rd_T129 x0 x15).f2⟩ : S129)]) true (wrap64 (x15 + 1)) x122000 x122001 x122002 x126000 x126001 x126002) else (none)) else (none)) else (none)))) else (none)) else (if x15 = x10 then (if x13.length < 4398046511104 then (spec_MovedTenant.l0 k x0 x10 (x13 ++ [(⟨x122000, x122001, x122002⟩ : S129)]) x14 (wrap64 (x15 + 1)) x122000 x122001 x122002 x126000 x126001 x126002) else (none)) else (if 0 ≤ x15 then (if x15 < (x0.length : Int) then (if x13.length < 4398046511104 then (spec_MovedTenant.l0 k x0 x10 (x13 ++ [(⟨(rd_T129 x0 x15).f0, (rd_T129 x0 x15).f1, (rd_T129 x0 x15).f2⟩ : S129)]) x14 (wrap64 (x15 + 1)) x122000 x122001 x122002 x126000 x126001 x126002) else (none)) else (none)) else (none)))
end
def spec_MovedTenant.f (k : Nat) (l0 : List (S129)) (a1 : ByteArray) (a2 : Int) (a3 : Int) : Option ((List (S129)) × Int) := (spec_l22Ok.f k l0).bind fun t115 => (if t115 = true then ((spec_l00In.f a3 365 366).bind fun t116 => (if t116 = true then ((spec_l00In.f a2 0 a3).bind fun t117 => (spec_MovedTenant.j0 k l0 a1 a2 a3 (!t117))) else (spec_MovedTenant.j0 k l0 a1 a2 a3 true))) else (some (([] : List (S129)), 1)))
theorem spec_MovedTenant.mono_l : ∀ k, (∀ y0 y1 y2 y3 y4, LeO (spec_MovedTenant.j0 k y0 y1 y2 y3 y4) (spec_MovedTenant.j0 (k + 1) y0 y1 y2 y3 y4)) ∧ (∀ y0 y1 y2 y3 y4 y5 y6 y7 y8 y9 y10, LeO (spec_MovedTenant.l0 k y0 y1 y2 y3 y4 y5 y6 y7 y8 y9 y10) (spec_MovedTenant.l0 (k + 1) y0 y1 y2 y3 y4 y5 y6 y7 y8 y9 y10)) ∧ (∀ y0 y1 y2 y3 y4 y5 y6 y7 y8 y9 y10 y11, LeO (spec_MovedTenant.j2 k y0 y1 y2 y3 y4 y5 y6 y7 y8 y9 y10 y11) (spec_MovedTenant.j2 (k + 1) y0 y1 y2 y3 y4 y5 y6 y7 y8 y9 y10 y11))
  | 0 => ⟨fun _ _ _ _ _ r h => by simp [spec_MovedTenant.j0] at h, fun _ _ _ _ _ _ _ _ _ _ _ r h => by simp [spec_MovedTenant.l0] at h, fun _ _ _ _ _ _ _ _ _ _ _ _ r h => by simp [spec_MovedTenant.j2] at h⟩
  | k + 1 => by
    obtain ⟨ih0, ih1, ih2⟩ := spec_MovedTenant.mono_l k
    refine ⟨?_, ?_, ?_⟩
    · intro y0 y1 y2 y3 y4
      unfold spec_MovedTenant.j0
      repeat' first
      | (with_reducible exact ih0 _ _ _ _ _)
      | (with_reducible exact ih1 _ _ _ _ _ _ _ _ _ _ _)
      | (with_reducible exact ih2 _ _ _ _ _ _ _ _ _ _ _ _)
      | (with_reducible exact spec_l22Find.mono _ _ _)
      | (with_reducible exact spec_l22Ok.mono _ _)
      | (with_reducible exact LeO.refl _)
      | (with_reducible exact LeO.none _)
      | (with_reducible refine LeO.ite ?_ ?_)
      | (with_reducible refine LeO.bind ?_ (fun _ => ?_))
      | exact ih0 _ _ _ _ _
      | exact ih1 _ _ _ _ _ _ _ _ _ _ _
      | exact ih2 _ _ _ _ _ _ _ _ _ _ _ _
      | exact spec_l22Find.mono _ _ _
      | exact spec_l22Ok.mono _ _
      | exact LeO.none _
      | refine LeO.ite ?_ ?_
      | refine LeO.bind ?_ (fun _ => ?_)
    · intro y0 y1 y2 y3 y4 y5 y6 y7 y8 y9 y10
      unfold spec_MovedTenant.l0
      repeat' first
      | (with_reducible exact ih0 _ _ _ _ _)
      | (with_reducible exact ih1 _ _ _ _ _ _ _ _ _ _ _)
      | (with_reducible exact ih2 _ _ _ _ _ _ _ _ _ _ _ _)
      | (with_reducible exact spec_l22Find.mono _ _ _)
      | (with_reducible exact spec_l22Ok.mono _ _)
      | (with_reducible exact LeO.refl _)
      | (with_reducible exact LeO.none _)
      | (with_reducible refine LeO.ite ?_ ?_)
      | (with_reducible refine LeO.bind ?_ (fun _ => ?_))
      | exact ih0 _ _ _ _ _
      | exact ih1 _ _ _ _ _ _ _ _ _ _ _
      | exact ih2 _ _ _ _ _ _ _ _ _ _ _ _
      | exact spec_l22Find.mono _ _ _
      | exact spec_l22Ok.mono _ _
      | exact LeO.none _
      | refine LeO.ite ?_ ?_
      | refine LeO.bind ?_ (fun _ => ?_)
    · intro y0 y1 y2 y3 y4 y5 y6 y7 y8 y9 y10 y11
      unfold spec_MovedTenant.j2
      repeat' first
      | (with_reducible exact ih0 _ _ _ _ _)
      | (with_reducible exact ih1 _ _ _ _ _ _ _ _ _ _ _)
      | (with_reducible exact ih2 _ _ _ _ _ _ _ _ _ _ _ _)
      | (with_reducible exact spec_l22Find.mono _ _ _)
      | (with_reducible exact spec_l22Ok.mono _ _)
      | (with_reducible exact LeO.refl _)
      | (with_reducible exact LeO.none _)
      | (with_reducible refine LeO.ite ?_ ?_)
      | (with_reducible refine LeO.bind ?_ (fun _ => ?_))
      | exact ih0 _ _ _ _ _
      | exact ih1 _ _ _ _ _ _ _ _ _ _ _
      | exact ih2 _ _ _ _ _ _ _ _ _ _ _ _
      | exact spec_l22Find.mono _ _ _
      | exact spec_l22Ok.mono _ _
      | exact LeO.none _
      | refine LeO.ite ?_ ?_
      | refine LeO.bind ?_ (fun _ => ?_)
theorem spec_MovedTenant.mono : ∀ a0 a1 a2 a3 k, LeO (spec_MovedTenant.f k a0 a1 a2 a3) (spec_MovedTenant.f (k + 1) a0 a1 a2 a3) := by
  intro a0 a1 a2 a3 k
  obtain ⟨ih0, ih1, ih2⟩ := spec_MovedTenant.mono_l k
  unfold spec_MovedTenant.f
  repeat' first
      | (with_reducible exact ih0 _ _ _ _ _)
      | (with_reducible exact ih1 _ _ _ _ _ _ _ _ _ _ _)
      | (with_reducible exact ih2 _ _ _ _ _ _ _ _ _ _ _ _)
      | (with_reducible exact spec_l22Find.mono _ _ _)
      | (with_reducible exact spec_l22Ok.mono _ _)
      | (with_reducible exact LeO.refl _)
      | (with_reducible exact LeO.none _)
      | (with_reducible refine LeO.ite ?_ ?_)
      | (with_reducible refine LeO.bind ?_ (fun _ => ?_))
      | exact ih0 _ _ _ _ _
      | exact ih1 _ _ _ _ _ _ _ _ _ _ _
      | exact ih2 _ _ _ _ _ _ _ _ _ _ _ _
      | exact spec_l22Find.mono _ _ _
      | exact spec_l22Ok.mono _ _
      | exact LeO.none _
      | refine LeO.ite ?_ ?_
      | refine LeO.bind ?_ (fun _ => ?_)
def spec_MovedTenant.T14 : Bool × List (List Nat × List Nat) := (true, [([], []), ([0], [0]), ([], []), ([2], [2]), ([], []), ([], []), ([4, 5], [4, 5]), ([6], [6]), ([7], [7]), ([], []), ([9], [9]), ([8, 10], [8, 10]), ([1, 3, 11], [1, 3, 11]), ([], []), ([13, 12, 0, 1, 2, 3, 4, 5, 6, 7, 8, 9, 10, 11, 12, 13], [12, 13])])
def spec_MovedTenant.B14 : List Nat := [0, 1, 0, 4, 0, 0, 48, 112, 240, 0, 512, 2032, 4095, 0, 16383]
theorem spec_MovedTenant.tab14 : rtab .any (opsOf Try.f30 14) = spec_MovedTenant.T14 := by kernel_rfl
theorem spec_MovedTenant.bits14 : waitsOk spec_MovedTenant.T14.2 spec_MovedTenant.B14 = true := by kernel_rfl
def spec_MovedTenant.T20 : Bool × List (List Nat × List Nat) := (true, [([], []), ([0], [0]), ([1], [1]), ([2], [2]), ([2], [2]), ([3, 4, 2], [2, 3, 4]), ([5, 2], [2, 5]), ([6, 2], [2, 6]), ([2], [2]), ([8, 2], [2, 8]), ([7, 9, 2], [2, 7, 9]), ([2, 10], [2, 10])])
def spec_MovedTenant.B20 : List Nat := [0, 1, 3, 7, 7, 31, 63, 127, 7, 263, 1023, 2047]
theorem spec_MovedTenant.tab20 : rtab .any (opsOf Try.f30 20) = spec_MovedTenant.T20 := by kernel_rfl
theorem spec_MovedTenant.bits20 : waitsOk spec_MovedTenant.T20.2 spec_MovedTenant.B20 = true := by kernel_rfl
set_option maxHeartbeats 8000000 in
set_option maxRecDepth 100000 in
theorem spec_MovedTenant.calls (k : Nat) (A0 : Option Addr) (c0 : Nat) (l0 : List (S129)) (a1 : ByteArray) (a2 : Int) (a3 : Int) (r1 : List (S129)) (r2 : Int) (w : World) (hr0 : Kd.C k129 w A0 l0.length l0) (hc0 : l0.length ≤ c0) (h : spec_MovedTenant.f k l0 a1 a2 a3 = some (r1, r2)) :
    Calls Try.prog 30 #[.slice A0 l0.length c0, .string a1, .int .i64 a2, .int .i64 a3] w fun e w' => ∃ v0_ : Value, e = .returned (.tuple #[v0_, .int .i64 r2]) ∧ Kd.R k129 129 w' w.heap.size (fun _ => True) v0_ r1 ∧ Below w.heap.size w w' := by
  have hu129 := Try.underlying129
  have HR0 := Aside0.mk hr0
  have HC0 := Aside0.mk hc0
  clear hr0 hc0
  have HB := Aside0.mk (Below.refl w.heap.size w)
  have H : ((spec_l22Ok.f k l0).bind fun t115 => (if t115 = true then ((spec_l00In.f a3 365 366).bind fun t116 => (if t116 = true then ((spec_l00In.f a2 0 a3).bind fun t117 => (spec_MovedTenant.j0 k l0 a1 a2 a3 (!t117))) else (spec_MovedTenant.j0 k l0 a1 a2 a3 true))) else (some (([] : List (S129)), 1)))) = some (r1, r2) := h
  clear h
  replace H := Option.bind_eq_some_iff.mp H
  obtain ⟨t115, A50, H⟩ := H
  replace H : (if t115 = true then ((spec_l00In.f a3 365 366).bind fun t116 => (if t116 = true then ((spec_l00In.f a2 0 a3).bind fun t117 => (spec_MovedTenant.j0 k l0 a1 a2 a3 (!t117))) else (spec_MovedTenant.j0 k l0 a1 a2 a3 true))) else (some (([] : List (S129)), 1))) = some (r1, r2) := H
  have A5 := Aside0.mk A50
  clear A50
  by_cases c6 : t115 = true
  · as_aux_lemma =>
    subst c6
    have H1 : ((spec_l00In.f a3 365 366).bind fun t116 => (if t116 = true then ((spec_l00In.f a2 0 a3).bind fun t117 => (spec_MovedTenant.j0 k l0 a1 a2 a3 (!t117))) else (spec_MovedTenant.j0 k l0 a1 a2 a3 true))) = some (r1, r2) := by rw [if_pos rfl] at H; exact H
    clear H
    have H := H1
    clear H1
    have HC7 := Aside0.mk H
    clear H
    go_enter Try.func30, Try.ntmps30
    go_upto_region 3 with (first | ((with_reducible refine gate_callee (f := 93) rfl ?_); refine goesL_ (some 17) rfl rfl Try.func93 (by kernel_rfl) rfl #[.slice A0 l0.length c0] rfl (by (try simp only [List.map_toArray, List.map_cons, List.map_nil]); first | done | rfl | (simp only [List.length_drop, List.length_take]; rfl)) ?_; (with_reducible refine (spec_l22Ok.calls k _ _ l0 true _ ?side1 ?side2 A5.out).mono ?_); (case side1 => repeat (first | exact HR0.out | (with_reducible refine Kd.C_alloc ?_ _) | (with_reducible refine Kd.C_drewN ?_ _) | (with_reducible refine Kd.C_drew ?_))); (case side2 => exact HC0.out); rintro e w' ⟨rfl, ⟨nd, rfl⟩⟩; refine ⟨_, rfl, ?_⟩))
    (try simp only [Act.put, List.setIfInBounds_toArray, List.set_cons_zero, List.set_cons_succ])
    go_cut [27] (fun v27 wc => ∃ (kq : Nat) (x27_6 : Bool), v27 = .bool x27_6 ∧ Aside0 (spec_MovedTenant.j0 kq l0 a1 a2 a3 x27_6 = some (r1, r2)) ∧ Aside0 (kq ≤ k) ∧ Aside0 (Below w.heap.size w wc))
    case first =>
      have H := HC7.out
      clear HC7
      replace H := Option.bind_eq_some_iff.mp H
      obtain ⟨t116, A80, H⟩ := H
      replace H : (if t116 = true then ((spec_l00In.f a2 0 a3).bind fun t117 => (spec_MovedTenant.j0 k l0 a1 a2 a3 (!t117))) else (spec_MovedTenant.j0 k l0 a1 a2 a3 true)) = some (r1, r2) := H
      have A8 := Aside0.mk A80
      clear A80
      by_cases c9 : t116 = true
      · subst c9
        have H1 : ((spec_l00In.f a2 0 a3).bind fun t117 => (spec_MovedTenant.j0 k l0 a1 a2 a3 (!t117))) = some (r1, r2) := by rw [if_pos rfl] at H; exact H
        clear H
        have H := H1
        clear H1
        replace H := Option.bind_eq_some_iff.mp H
        obtain ⟨t117, A100, H⟩ := H
        replace H : (spec_MovedTenant.j0 k l0 a1 a2 a3 (!t117)) = some (r1, r2) := H
        have A10 := Aside0.mk A100
        clear A100
        have H' := Aside0.mk H
        clear H
        go_wp2_with (first | ((with_reducible refine gate_callee (f := 94) rfl ?_); refine goesL_ (some 20) rfl rfl Try.func94 (by kernel_rfl) rfl #[.int .i64 a3, .int .i64 365, .int .i64 366] rfl (by (try simp only [List.map_toArray, List.map_cons, List.map_nil]); first | done | rfl | (simp only [List.length_drop, List.length_take]; rfl)) ?_; (with_reducible refine (spec_l00In.calls a3 365 366 true _ A8.out).mono ?_); rintro e w' ⟨rfl, ⟨nd, rfl⟩⟩; refine ⟨_, rfl, ?_⟩) | (go_at_call 94; (first | (with_reducible refine (spec_l00In.calls a2 0 a3 t117 _ A10.out).mono ?_) | ((try simp only [Go.IntWalk.i64_left]); (with_reducible refine (spec_l00In.calls a2 0 a3 t117 _ A10.out).mono ?_))); rintro e w' ⟨rfl, ⟨nd, rfl⟩⟩))
        go_meet
        case rel => exact ⟨_, (!t117), (by first | rfl | (simp; done) | (simp [*]; done)), H', ⟨by first | omega | exact Nat.le_refl _⟩, ⟨by repeat (first | (with_reducible first | exact HB.out | apply below_alloc | apply pw_below_drewN | apply below_drew1) | exact HB.out)⟩⟩
      · replace c9 := Bool.eq_false_iff.mpr c9
        subst c9
        have H1 : (spec_MovedTenant.j0 k l0 a1 a2 a3 true) = some (r1, r2) := by rw [if_neg (show ¬ (false = true) by decide)] at H; exact H
        clear H
        have H := H1
        clear H1
        have H' := Aside0.mk H
        clear H
        go_wp2_with (first | ((with_reducible refine gate_callee (f := 94) rfl ?_); refine goesL_ (some 20) rfl rfl Try.func94 (by kernel_rfl) rfl #[.int .i64 a3, .int .i64 365, .int .i64 366] rfl (by (try simp only [List.map_toArray, List.map_cons, List.map_nil]); first | done | rfl | (simp only [List.length_drop, List.length_take]; rfl)) ?_; (with_reducible refine (spec_l00In.calls a3 365 366 false _ A8.out).mono ?_); rintro e w' ⟨rfl, ⟨nd, rfl⟩⟩; refine ⟨_, rfl, ?_⟩))
        go_meet
        case rel => exact ⟨_, (true), (by first | rfl | (simp; done) | (simp [*]; done)), H', ⟨by first | omega | exact Nat.le_refl _⟩, ⟨by repeat (first | (with_reducible first | exact HB.out | apply below_alloc | apply pw_below_drewN | apply below_drew1) | exact HB.out)⟩⟩
    case rest =>
      clear HC7
      try clear p2
      try clear c3
      try clear c6
      try clear c9
      obtain ⟨kq, x27_6, rfl, HA, HJ6, HB⟩ := hcut
      cases kq with
      | zero => exact absurd HA.out (by simp [spec_MovedTenant.j0])
      | succ kj6 =>
        have H := HA.out
        clear HA
        simp only [spec_MovedTenant.j0] at H
        by_cases c11 : x27_6 = true
        · subst c11
          have H1 : (some (([] : List (S129)), 2)) = some (r1, r2) := by rw [if_pos rfl] at H; exact H
          clear H
          have H := H1
          clear H1
          simp only [Option.some.injEq, Prod.mk.injEq] at H
          obtain ⟨rfl, rfl⟩ := H
          go_wp2
          go_ret2
          exact ⟨_, by first | rfl | (simp [errW_none, errW_some] <;> rfl) | (simp [*, errW_none, errW_some] <;> rfl), by first | exact Kd.R_nil _ _ _ _ _ | exact Kd.N_nil _ _ _ _ _ | exact Kd.V_nil _ _ _ _ _ | exact Kd.Q_nil _ _ _ _ _ | exact Kd.S_nil _ _ _ _ _, by repeat (first | (with_reducible first | exact HB.out | apply below_alloc | apply pw_below_drewN | apply below_drew1) | exact HB.out)⟩
        · as_aux_lemma =>
          replace c11 := Bool.eq_false_iff.mpr c11
          subst c11
          have H1 : ((spec_l22Find.f kj6 l0 a1).bind fun t118 => (if t118 < 0 then (some (([] : List (S129)), 3)) else (if a1.size + 1 ≤ 9223372036854775807 then ((spec_l22Find.f kj6 l0 (a1 ++ (⟨#[98]⟩ : ByteArray))).bind fun t119 => (if t119 ≥ 0 then (some (([] : List (S129)), 4)) else (if (l0.length : Int) = 12 then (some (([] : List (S129)), 5)) else (if 0 ≤ t118 then (if t118 < (l0.length : Int) then ((spec_l01Div.f (wrap64 (((rd_T129 l0 t118).f2) * a2)) a3).bind fun t123 => (spec_MovedTenant.l0 kj6 l0 t118 (([] : List (S129))) false 0 ((rd_T129 l0 t118).f0) ((rd_T129 l0 t118).f1) t123 (a1 ++ (⟨#[98]⟩ : ByteArray)) ((rd_T129 l0 t118).f1) (wrap64 (((rd_T129 l0 t118).f2) - t123)))) else (none)) else (none))))) else (none)))) = some (r1, r2) := by rw [if_neg (show ¬ (false = true) by decide)] at H; exact H
          clear H
          have H := H1
          clear H1
          replace H := Option.bind_eq_some_iff.mp H
          obtain ⟨t118, A120, H⟩ := H
          replace H : (if t118 < 0 then (some (([] : List (S129)), 3)) else (if a1.size + 1 ≤ 9223372036854775807 then ((spec_l22Find.f kj6 l0 (a1 ++ (⟨#[98]⟩ : ByteArray))).bind fun t119 => (if t119 ≥ 0 then (some (([] : List (S129)), 4)) else (if (l0.length : Int) = 12 then (some (([] : List (S129)), 5)) else (if 0 ≤ t118 then (if t118 < (l0.length : Int) then ((spec_l01Div.f (wrap64 (((rd_T129 l0 t118).f2) * a2)) a3).bind fun t123 => (spec_MovedTenant.l0 kj6 l0 t118 (([] : List (S129))) false 0 ((rd_T129 l0 t118).f0) ((rd_T129 l0 t118).f1) t123 (a1 ++ (⟨#[98]⟩ : ByteArray)) ((rd_T129 l0 t118).f1) (wrap64 (((rd_T129 l0 t118).f2) - t123)))) else (none)) else (none))))) else (none))) = some (r1, r2) := H
          have A12 := Aside0.mk A120
          clear A120
          by_cases c13 : t118 < 0
          · rw [if_pos c13] at H
            have c13b0 : decide (t118 < 0) = true := decide_eq_true c13
            clear c13
            simp only [Option.some.injEq, Prod.mk.injEq] at H
            obtain ⟨rfl, rfl⟩ := H
            go_wp2_with (first | ((with_reducible refine gate_callee (f := 95) rfl ?_); refine goesL_ (some 30) rfl rfl Try.func95 (by kernel_rfl) rfl #[.slice A0 l0.length c0, .string a1] rfl (by (try simp only [List.map_toArray, List.map_cons, List.map_nil]); first | done | rfl | (simp only [List.length_drop, List.length_take]; rfl)) ?_; (with_reducible refine (spec_l22Find.calls kj6 _ _ l0 a1 t118 _ ?side1 ?side2 A12.out).mono ?_); (case side1 => repeat (first | exact (Kd.C_below HR0.out HB.out) | (with_reducible refine Kd.C_alloc ?_ _) | (with_reducible refine Kd.C_drewN ?_ _) | (with_reducible refine Kd.C_drew ?_))); (case side2 => exact HC0.out); rintro e w' ⟨rfl, ⟨nd, rfl⟩⟩; refine ⟨_, rfl, ?_⟩))
            go_ret2
            exact ⟨_, by first | rfl | (simp [errW_none, errW_some] <;> rfl) | (simp [*, errW_none, errW_some] <;> rfl), by first | exact Kd.R_nil _ _ _ _ _ | exact Kd.N_nil _ _ _ _ _ | exact Kd.V_nil _ _ _ _ _ | exact Kd.Q_nil _ _ _ _ _ | exact Kd.S_nil _ _ _ _ _, by repeat (first | (with_reducible first | exact HB.out | apply below_alloc | apply pw_below_drewN | apply below_drew1) | exact HB.out)⟩
          · as_aux_lemma =>
            rw [if_neg c13] at H
            have c13b0 : decide (t118 < 0) = false := decide_eq_false c13
            clear c13
            by_cases c14 : a1.size + 1 ≤ 9223372036854775807
            · as_aux_lemma =>
              rw [if_pos c14] at H
              have c14b0 := eq_true c14
              have c14b1 : decide (a1.size + 1 ≤ 9223372036854775807) = true := decide_eq_true c14
              try have c14b2 : (9223372036854775807 < a1.size + 1) = False := eq_false (Nat.not_lt.2 c14)
              replace H := Option.bind_eq_some_iff.mp H
              obtain ⟨t119, A150, H⟩ := H
              replace H : (if t119 ≥ 0 then (some (([] : List (S129)), 4)) else (if (l0.length : Int) = 12 then (some (([] : List (S129)), 5)) else (if 0 ≤ t118 then (if t118 < (l0.length : Int) then ((spec_l01Div.f (wrap64 (((rd_T129 l0 t118).f2) * a2)) a3).bind fun t123 => (spec_MovedTenant.l0 kj6 l0 t118 (([] : List (S129))) false 0 ((rd_T129 l0 t118).f0) ((rd_T129 l0 t118).f1) t123 (a1 ++ (⟨#[98]⟩ : ByteArray)) ((rd_T129 l0 t118).f1) (wrap64 (((rd_T129 l0 t118).f2) - t123)))) else (none)) else (none)))) = some (r1, r2) := H
              have A15 := Aside0.mk A150
              clear A150
              by_cases c16 : t119 ≥ 0
              · rw [if_pos c16] at H
                have c16b0 : decide (0 ≤ t119) = true := decide_eq_true c16
                clear c16
                simp only [Option.some.injEq, Prod.mk.injEq] at H
                obtain ⟨rfl, rfl⟩ := H
                go_wp2_with (first | ((with_reducible refine gate_callee (f := 95) rfl ?_); refine goesL_ (some 30) rfl rfl Try.func95 (by kernel_rfl) rfl #[.slice A0 l0.length c0, .string a1] rfl (by (try simp only [List.map_toArray, List.map_cons, List.map_nil]); first | done | rfl | (simp only [List.length_drop, List.length_take]; rfl)) ?_; (with_reducible refine (spec_l22Find.calls kj6 _ _ l0 a1 t118 _ ?side1 ?side2 A12.out).mono ?_); (case side1 => repeat (first | exact (Kd.C_below HR0.out HB.out) | (with_reducible refine Kd.C_alloc ?_ _) | (with_reducible refine Kd.C_drewN ?_ _) | (with_reducible refine Kd.C_drew ?_))); (case side2 => exact HC0.out); rintro e w' ⟨rfl, ⟨nd, rfl⟩⟩; refine ⟨_, rfl, ?_⟩) | ((with_reducible refine gate_callee (f := 95) rfl ?_); refine goesL_ (some 36) rfl rfl Try.func95 (by kernel_rfl) rfl #[.slice A0 l0.length c0, .string (a1 ++ (⟨#[98]⟩ : ByteArray))] rfl (by (try simp only [List.map_toArray, List.map_cons, List.map_nil]); first | done | rfl | (simp only [List.length_drop, List.length_take]; rfl)) ?_; (with_reducible refine (spec_l22Find.calls kj6 _ _ l0 (a1 ++ (⟨#[98]⟩ : ByteArray)) t119 _ ?side1 ?side2 A15.out).mono ?_); (case side1 => repeat (first | exact (Kd.C_below HR0.out (by repeat (first | (with_reducible first | exact HB.out | apply below_alloc | apply pw_below_drewN | apply below_drew1) | exact HB.out))) | (with_reducible refine Kd.C_alloc ?_ _) | (with_reducible refine Kd.C_drewN ?_ _) | (with_reducible refine Kd.C_drew ?_))); (case side2 => exact HC0.out); rintro e w' ⟨rfl, ⟨nd, rfl⟩⟩; refine ⟨_, rfl, ?_⟩))
                go_ret2
                exact ⟨_, by first | rfl | (simp [errW_none, errW_some] <;> rfl) | (simp [*, errW_none, errW_some] <;> rfl), by first | exact Kd.R_nil _ _ _ _ _ | exact Kd.N_nil _ _ _ _ _ | exact Kd.V_nil _ _ _ _ _ | exact Kd.Q_nil _ _ _ _ _ | exact Kd.S_nil _ _ _ _ _, by repeat (first | (with_reducible first | exact HB.out | apply below_alloc | apply pw_below_drewN | apply below_drew1) | exact HB.out)⟩
              · as_aux_lemma =>
                rw [if_neg c16] at H
                have c16b0 : decide (0 ≤ t119) = false := decide_eq_false c16
                clear c16
                by_cases c17 : (l0.length : Int) = 12
                · rw [if_pos c17] at H
                  have c17b0 : ((l0.length : Int) == 12) = true := beq_iff_eq.mpr c17
                  have c17b1 : ((l0.length : Int) != 12) = false := bne_eq_false_iff_eq.mpr c17
                  clear c17
                  simp only [Option.some.injEq, Prod.mk.injEq] at H
                  obtain ⟨rfl, rfl⟩ := H
                  go_wp2_with (first | ((with_reducible refine gate_callee (f := 95) rfl ?_); refine goesL_ (some 30) rfl rfl Try.func95 (by kernel_rfl) rfl #[.slice A0 l0.length c0, .string a1] rfl (by (try simp only [List.map_toArray, List.map_cons, List.map_nil]); first | done | rfl | (simp only [List.length_drop, List.length_take]; rfl)) ?_; (with_reducible refine (spec_l22Find.calls kj6 _ _ l0 a1 t118 _ ?side1 ?side2 A12.out).mono ?_); (case side1 => repeat (first | exact (Kd.C_below HR0.out HB.out) | (with_reducible refine Kd.C_alloc ?_ _) | (with_reducible refine Kd.C_drewN ?_ _) | (with_reducible refine Kd.C_drew ?_))); (case side2 => exact HC0.out); rintro e w' ⟨rfl, ⟨nd, rfl⟩⟩; refine ⟨_, rfl, ?_⟩) | ((with_reducible refine gate_callee (f := 95) rfl ?_); refine goesL_ (some 36) rfl rfl Try.func95 (by kernel_rfl) rfl #[.slice A0 l0.length c0, .string (a1 ++ (⟨#[98]⟩ : ByteArray))] rfl (by (try simp only [List.map_toArray, List.map_cons, List.map_nil]); first | done | rfl | (simp only [List.length_drop, List.length_take]; rfl)) ?_; (with_reducible refine (spec_l22Find.calls kj6 _ _ l0 (a1 ++ (⟨#[98]⟩ : ByteArray)) t119 _ ?side1 ?side2 A15.out).mono ?_); (case side1 => repeat (first | exact (Kd.C_below HR0.out (by repeat (first | (with_reducible first | exact HB.out | apply below_alloc | apply pw_below_drewN | apply below_drew1) | exact HB.out))) | (with_reducible refine Kd.C_alloc ?_ _) | (with_reducible refine Kd.C_drewN ?_ _) | (with_reducible refine Kd.C_drew ?_))); (case side2 => exact HC0.out); rintro e w' ⟨rfl, ⟨nd, rfl⟩⟩; refine ⟨_, rfl, ?_⟩))
                  go_ret2
                  exact ⟨_, by first | rfl | (simp [errW_none, errW_some] <;> rfl) | (simp [*, errW_none, errW_some] <;> rfl), by first | exact Kd.R_nil _ _ _ _ _ | exact Kd.N_nil _ _ _ _ _ | exact Kd.V_nil _ _ _ _ _ | exact Kd.Q_nil _ _ _ _ _ | exact Kd.S_nil _ _ _ _ _, by repeat (first | (with_reducible first | exact HB.out | apply below_alloc | apply pw_below_drewN | apply below_drew1) | exact HB.out)⟩
                · as_aux_lemma =>
                  rw [if_neg c17] at H
                  have c17b0 : ((l0.length : Int) == 12) = false := beq_eq_false_iff_ne.mpr c17
                  have c17b1 : ((l0.length : Int) != 12) = true := bne_iff_ne.mpr c17
                  by_cases c18 : 0 ≤ t118
                  · as_aux_lemma =>
                    rw [if_pos c18] at H
                    have c18b0 : decide (0 ≤ t118) = true := decide_eq_true c18
                    clear c18
                    by_cases c19 : t118 < (l0.length : Int)
                    · as_aux_lemma =>
                      rw [if_pos c19] at H
                      have c19b0 : decide (t118 < (l0.length : Int)) = true := decide_eq_true c19
                      clear c19
                      replace H := Option.bind_eq_some_iff.mp H
                      obtain ⟨t123, A200, H⟩ := H
                      replace H : (spec_MovedTenant.l0 kj6 l0 t118 (([] : List (S129))) false 0 ((rd_T129 l0 t118).f0) ((rd_T129 l0 t118).f1) t123 (a1 ++ (⟨#[98]⟩ : ByteArray)) ((rd_T129 l0 t118).f1) (wrap64 (((rd_T129 l0 t118).f2) - t123))) = some (r1, r2) := H
                      have A20 := Aside0.mk A200
                      clear A200
                      obtain ⟨y126, hy126⟩ : ∃ y_ : List (S129), y_ = (([] : List (S129))) := ⟨_, rfl⟩
                      replace H : (spec_MovedTenant.l0 kj6 l0 t118 y126 false 0 ((rd_T129 l0 t118).f0) ((rd_T129 l0 t118).f1) t123 (a1 ++ (⟨#[98]⟩ : ByteArray)) ((rd_T129 l0 t118).f1) (wrap64 (((rd_T129 l0 t118).f2) - t123))) = some (r1, r2) := by first | (rw [hy126]; with_reducible exact H) | (have H2_ := (Option.bind_some _ _).symm.trans H; rw [hy126]; with_reducible exact H2_) | (have H2_ := (Option.bind_some _ _).symm.trans H; with_reducible exact H2_) | with_reducible exact H | (rw [hy126]; exact H) | exact H
                      have Ny126 := Aside0.mk hy126
                      clear hy126
                      have H' := Aside0.mk H
                      clear H
                      try go_wp2_with (first | ((with_reducible refine gate_callee (f := 95) rfl ?_); refine goesL_ (some 30) rfl rfl Try.func95 (by kernel_rfl) rfl #[.slice A0 l0.length c0, .string a1] rfl (by (try simp only [List.map_toArray, List.map_cons, List.map_nil]); first | done | rfl | (simp only [List.length_drop, List.length_take]; rfl)) ?_; (with_reducible refine (spec_l22Find.calls kj6 _ _ l0 a1 t118 _ ?side1 ?side2 A12.out).mono ?_); (case side1 => repeat (first | exact (Kd.C_below HR0.out HB.out) | (with_reducible refine Kd.C_alloc ?_ _) | (with_reducible refine Kd.C_drewN ?_ _) | (with_reducible refine Kd.C_drew ?_))); (case side2 => exact HC0.out); rintro e w' ⟨rfl, ⟨nd, rfl⟩⟩; refine ⟨_, rfl, ?_⟩; (try (rw [drewN_self wc]; generalize hq_ : World.drewN wc _ = wc; have n0_ : Aside0 (Below w.heap.size w wc) := ⟨by rw [← hq_]; exact (by repeat (first | (with_reducible first | exact HB.out | apply below_alloc | apply pw_below_drewN | apply below_drew1) | exact HB.out))⟩; clear HB hq_; have HB := n0_; clear n0_))) | ((with_reducible refine gate_callee (f := 95) rfl ?_); refine goesL_ (some 36) rfl rfl Try.func95 (by kernel_rfl) rfl #[.slice A0 l0.length c0, .string (a1 ++ (⟨#[98]⟩ : ByteArray))] rfl (by (try simp only [List.map_toArray, List.map_cons, List.map_nil]); first | done | rfl | (simp only [List.length_drop, List.length_take]; rfl)) ?_; (with_reducible refine (spec_l22Find.calls kj6 _ _ l0 (a1 ++ (⟨#[98]⟩ : ByteArray)) t119 _ ?side1 ?side2 A15.out).mono ?_); (case side1 => repeat (first | exact (Kd.C_below HR0.out HB.out) | (with_reducible refine Kd.C_alloc ?_ _) | (with_reducible refine Kd.C_drewN ?_ _) | (with_reducible refine Kd.C_drew ?_))); (case side2 => exact HC0.out); rintro e w' ⟨rfl, ⟨nd, rfl⟩⟩; refine ⟨_, rfl, ?_⟩; (try (rw [drewN_self wc]; generalize hq_ : World.drewN wc _ = wc; have n0_ : Aside0 (Below w.heap.size w wc) := ⟨by rw [← hq_]; exact (by repeat (first | (with_reducible first | exact HB.out | apply below_alloc | apply pw_below_drewN | apply below_drew1) | exact HB.out))⟩; clear HB hq_; have HB := n0_; clear n0_)); have p120 : 0 ≤ (t118 : Int) := of_decide_eq_true (by first | (with_reducible assumption) | assumption); have q120 : t118 < (l0.length : Int) := of_decide_eq_true (by first | (with_reducible assumption) | assumption); obtain ⟨ad120, e120, hx120_0, hx120_1, hx120_2⟩ := at_T129 HR0.out t118 p120 q120; cases e120; replace hx120_0 := (HB.out.cell (World.block_lt_of_cell? w _ hx120_0)).trans hx120_0; replace hx120_1 := (HB.out.cell (World.block_lt_of_cell? w _ hx120_1)).trans hx120_1; replace hx120_2 := (HB.out.cell (World.block_lt_of_cell? w _ hx120_2)).trans hx120_2; replace p120 := eq_true p120; replace q120 := eq_true q120) | ((with_reducible refine gate_dst (N := 11) rfl ?_); refine box_event ?hg (N := 11) ?hd (cs := #[.string (⟨#[]⟩ : ByteArray), .int .i64 0, .int .i64 0]) (t := 129) ?hr ?_; (case hd => rfl); (case hg => rfl); (case hr => first | (go_simp; done) | (go_simp; rfl)); intro gb121 hg w21 hbox hb; have n0_ := Aside0.mk (below_step (by repeat (first | (with_reducible first | exact HB.out | apply below_alloc | apply pw_below_drewN | apply below_drew1) | exact HB.out)) hb); have n1_ := Aside0.mk (hbox); have n2_ := Aside0.mk ((by rw [hg]; exact (below_size (by repeat (first | (with_reducible first | exact HB.out | apply below_alloc | apply pw_below_drewN | apply below_drew1) | exact HB.out))) : w.heap.size ≤ gb121)); have n3_ := Aside0.mk ((by rw [hg]; exact (below_size (by repeat (first | (with_reducible first | exact HB.out | apply below_alloc | apply pw_below_drewN | apply below_drew1) | exact HB.out))) : w.heap.size ≤ gb121)); clear HB; have HB := n0_; have BK121 := n1_; have GW121 := n2_; have GE121 := n3_; clear n0_ n1_ n2_ n3_; clear hb hbox hg; have hcz22_0 : w21.cell? ⟨gb121, 0, none⟩ = some (.string (⟨#[]⟩ : ByteArray)) := (blk_cell BK121.out 0).trans rfl; have hcz22_1 : w21.cell? ⟨gb121, 1, none⟩ = some (.int .i64 0) := (blk_cell BK121.out 1).trans rfl; have hcz22_2 : w21.cell? ⟨gb121, 2, none⟩ = some (.int .i64 0) := (blk_cell BK121.out 2).trans rfl; have hfz22_0 := blk_frozen BK121.out 0; have hfz22_1 := blk_frozen BK121.out 1; have hfz22_2 := blk_frozen BK121.out 2; have p122 : 0 ≤ (t118 : Int) := of_decide_eq_true (by first | (with_reducible assumption) | assumption); have q122 : t118 < (l0.length : Int) := of_decide_eq_true (by first | (with_reducible assumption) | assumption); obtain ⟨ad122, e122, hx122_0, hx122_1, hx122_2⟩ := at_T129 HR0.out t118 p122 q122; obtain rfl : ad120 = ad122 := (by injection e122); have hn122_0 : ad120.block ≠ gb121 := Nat.ne_of_lt (Nat.lt_of_lt_of_le (by have := World.block_lt_of_cell? _ _ hx122_0; first | rwa [add_block] at this | exact this) GW121.out); have hn122_1 : ad120.block ≠ gb121 := Nat.ne_of_lt (Nat.lt_of_lt_of_le (by have := World.block_lt_of_cell? _ _ hx122_0; first | rwa [add_block] at this | exact this) GW121.out); have hn122_2 : ad120.block ≠ gb121 := Nat.ne_of_lt (Nat.lt_of_lt_of_le (by have := World.block_lt_of_cell? _ _ hx122_0; first | rwa [add_block] at this | exact this) GW121.out); replace hx122_0 := (HB.out.cell (World.block_lt_of_cell? w _ hx122_0)).trans hx122_0; replace hx122_1 := (HB.out.cell (World.block_lt_of_cell? w _ hx122_1)).trans hx122_1; replace hx122_2 := (HB.out.cell (World.block_lt_of_cell? w _ hx122_2)).trans hx122_2; replace hx122_0 := (cell_far (p := ⟨gb121, 0, none⟩) (by first | (rw [add_block]; exact hn122_0) | (show (Addr.add _ _).block ≠ _; rw [add_block]; exact hn122_0) | exact hn122_0) (.string ((rd_T129 l0 t118).f0))).trans hx122_0; replace hx122_1 := (cell_far (p := ⟨gb121, 0, none⟩) (by first | (rw [add_block]; exact hn122_0) | (show (Addr.add _ _).block ≠ _; rw [add_block]; exact hn122_0) | exact hn122_0) (.string ((rd_T129 l0 t118).f0))).trans hx122_1; replace hx122_2 := (cell_far (p := ⟨gb121, 0, none⟩) (by first | (rw [add_block]; exact hn122_0) | (show (Addr.add _ _).block ≠ _; rw [add_block]; exact hn122_0) | exact hn122_0) (.string ((rd_T129 l0 t118).f0))).trans hx122_2; replace hx122_0 := (cell_far (p := ⟨gb121, 1, none⟩) (by first | (rw [add_block]; exact hn122_1) | (show (Addr.add _ _).block ≠ _; rw [add_block]; exact hn122_1) | exact hn122_1) (.int .i64 ((rd_T129 l0 t118).f1))).trans hx122_0; replace hx122_1 := (cell_far (p := ⟨gb121, 1, none⟩) (by first | (rw [add_block]; exact hn122_1) | (show (Addr.add _ _).block ≠ _; rw [add_block]; exact hn122_1) | exact hn122_1) (.int .i64 ((rd_T129 l0 t118).f1))).trans hx122_1; replace hx122_2 := (cell_far (p := ⟨gb121, 1, none⟩) (by first | (rw [add_block]; exact hn122_1) | (show (Addr.add _ _).block ≠ _; rw [add_block]; exact hn122_1) | exact hn122_1) (.int .i64 ((rd_T129 l0 t118).f1))).trans hx122_2; replace hx122_0 := (cell_far (p := ⟨gb121, 2, none⟩) (by first | (rw [add_block]; exact hn122_2) | (show (Addr.add _ _).block ≠ _; rw [add_block]; exact hn122_2) | exact hn122_2) (.int .i64 ((rd_T129 l0 t118).f2))).trans hx122_0; replace hx122_1 := (cell_far (p := ⟨gb121, 2, none⟩) (by first | (rw [add_block]; exact hn122_2) | (show (Addr.add _ _).block ≠ _; rw [add_block]; exact hn122_2) | exact hn122_2) (.int .i64 ((rd_T129 l0 t118).f2))).trans hx122_1; replace hx122_2 := (cell_far (p := ⟨gb121, 2, none⟩) (by first | (rw [add_block]; exact hn122_2) | (show (Addr.add _ _).block ≠ _; rw [add_block]; exact hn122_2) | exact hn122_2) (.int .i64 ((rd_T129 l0 t118).f2))).trans hx122_2; clear hn122_0; clear hn122_1; clear hn122_2; replace p122 := eq_true p122; replace q122 := eq_true q122) | ((with_reducible refine gate_callee (f := 96) rfl ?_); refine goesL_ (some 53) rfl rfl Try.func96 (by kernel_rfl) rfl #[.int .i64 (wrap64 (((rd_T129 l0 t118).f2) * a2)), .int .i64 a3] rfl (by (try simp only [List.map_toArray, List.map_cons, List.map_nil]); first | done | rfl | (simp only [List.length_drop, List.length_take]; rfl)) ?_; (with_reducible refine (spec_l01Div.calls (wrap64 (((rd_T129 l0 t118).f2) * a2)) a3 t123 _ A20.out).mono ?_); rintro e w' ⟨rfl, ⟨nd, rfl⟩⟩; refine ⟨_, rfl, ?_⟩))
                      have n0_ : Aside0 ((((((w21.setCell ⟨gb121, 0, none⟩ (.string ((rd_T129 l0 t118).f0))).setCell ⟨gb121, 1, none⟩ (.int .i64 ((rd_T129 l0 t118).f1))).setCell ⟨gb121, 2, none⟩ (.int .i64 ((rd_T129 l0 t118).f2))).drewN nd).setCell ⟨gb121, 2, none⟩ (.int .i64 t123)).heap[gb121]? = some (.cells #[.string ((rd_T129 l0 t118).f0), .int .i64 ((rd_T129 l0 t118).f1), .int .i64 t123] 129 (0, 0))) := ⟨by (with_reducible repeat (first | refine blk_drewN ?_ _ | refine blk_drew ?_ | refine blk_alloc ?_ _)); refine blk_put (cs := #[.string ((rd_T129 l0 t118).f0), .int .i64 ((rd_T129 l0 t118).f1), .int .i64 ((rd_T129 l0 t118).f2)]) ?_ 2 _ rfl; (with_reducible repeat (first | refine blk_drewN ?_ _ | refine blk_drew ?_ | refine blk_alloc ?_ _)); refine blk_put (cs := #[.string ((rd_T129 l0 t118).f0), .int .i64 ((rd_T129 l0 t118).f1), .int .i64 0]) ?_ 2 _ rfl; (with_reducible repeat (first | refine blk_drewN ?_ _ | refine blk_drew ?_ | refine blk_alloc ?_ _)); refine blk_put (cs := #[.string ((rd_T129 l0 t118).f0), .int .i64 0, .int .i64 0]) ?_ 1 _ rfl; (with_reducible repeat (first | refine blk_drewN ?_ _ | refine blk_drew ?_ | refine blk_alloc ?_ _)); refine blk_put (cs := #[.string (⟨#[]⟩ : ByteArray), .int .i64 0, .int .i64 0]) ?_ 0 _ rfl; (with_reducible repeat (first | refine blk_drewN ?_ _ | refine blk_drew ?_ | refine blk_alloc ?_ _)); exact BK121.out⟩
                      have n1_ : Aside0 (Below w.heap.size w (((((w21.setCell ⟨gb121, 0, none⟩ (.string ((rd_T129 l0 t118).f0))).setCell ⟨gb121, 1, none⟩ (.int .i64 ((rd_T129 l0 t118).f1))).setCell ⟨gb121, 2, none⟩ (.int .i64 ((rd_T129 l0 t118).f2))).drewN nd).setCell ⟨gb121, 2, none⟩ (.int .i64 t123))) := ⟨by repeat (first | (with_reducible first | exact HB.out | apply below_alloc | apply pw_below_drewN | apply below_drew1 | refine below_set ?_ GE121.out) | exact HB.out)⟩
                      (try clear BK121)
                      (try clear HB)
                      generalize (((((w21.setCell ⟨gb121, 0, none⟩ (.string ((rd_T129 l0 t118).f0))).setCell ⟨gb121, 1, none⟩ (.int .i64 ((rd_T129 l0 t118).f1))).setCell ⟨gb121, 2, none⟩ (.int .i64 ((rd_T129 l0 t118).f2))).drewN nd).setCell ⟨gb121, 2, none⟩ (.int .i64 t123)) = w23 at n0_ n1_ ⊢
                      have BK121 := n0_
                      have HB := n1_
                      clear n0_ n1_
                      (try (rw [drewN_self w23]; generalize hq_ : World.drewN w23 _ = w23; have n0_ : Aside0 (w23.heap[gb121]? = some (.cells #[.string ((rd_T129 l0 t118).f0), .int .i64 ((rd_T129 l0 t118).f1), .int .i64 t123] 129 (0, 0))) := ⟨by rw [← hq_]; exact (by (with_reducible repeat (first | refine blk_drewN ?_ _ | refine blk_drew ?_ | refine blk_alloc ?_ _)); exact BK121.out)⟩; have n1_ : Aside0 (Below w.heap.size w w23) := ⟨by rw [← hq_]; exact (by repeat (first | (with_reducible first | exact HB.out | apply below_alloc | apply pw_below_drewN | apply below_drew1 | refine below_set ?_ GE121.out) | exact HB.out))⟩; clear BK121 HB hq_; have BK121 := n0_; have HB := n1_; clear n0_ n1_))
                      have n0_ := Aside0.mk (blk_drew BK121.out)
                      have n1_ := Aside0.mk (below_drew1 HB.out)
                      clear BK121
                      clear HB
                      have BK121 := n0_
                      have HB := n1_
                      clear n0_ n1_
                      have p124 : 0 ≤ (t118 : Int) := of_decide_eq_true (by first | (with_reducible assumption) | assumption)
                      have q124 : t118 < (l0.length : Int) := of_decide_eq_true (by first | (with_reducible assumption) | assumption)
                      obtain ⟨ad124, e124, hx124_0, hx124_1, hx124_2⟩ := at_T129 HR0.out t118 p124 q124
                      have hw124_2 := hx124_2
                      have hw124_1 := hx124_1
                      have hw124_0 := hx124_0
                      obtain rfl : ad120 = ad124 := (by injection e124)
                      replace hx124_0 := (HB.out.cell (World.block_lt_of_cell? w _ hx124_0)).trans hx124_0
                      replace hx124_1 := (HB.out.cell (World.block_lt_of_cell? w _ hx124_1)).trans hx124_1
                      replace hx124_2 := (HB.out.cell (World.block_lt_of_cell? w _ hx124_2)).trans hx124_2
                      replace p124 := eq_true p124
                      replace q124 := eq_true q124
                      refine start_ (n := 15) (S := fun w' => w'.cell? ⟨gb121, 0, none⟩ = some (.string ((rd_T129 l0 t118).f0)) ∧ w'.cell? ⟨gb121, 1, none⟩ = some (.int .i64 ((rd_T129 l0 t118).f1)) ∧ w'.cell? ⟨gb121, 2, none⟩ = some (.int .i64 t123) ∧ w'.cell? (ad120.add ((t118).toNat * 3)) = some (.string ((rd_T129 l0 t118).f0)) ∧ w'.cell? ⟨(ad120.add ((t118).toNat * 3)).block, (ad120.add ((t118).toNat * 3)).off + 1, none⟩ = some (.int .i64 ((rd_T129 l0 t118).f1)) ∧ w'.cell? ⟨(ad120.add ((t118).toNat * 3)).block, (ad120.add ((t118).toNat * 3)).off + 2, none⟩ = some (.int .i64 ((rd_T129 l0 t118).f2))) (ds := []) #[false, false, false, false, false, false, false, false, false, false, false, false, false, false, false] (by kernel_rfl) rfl rfl ⟨(blk_cell BK121.out 0).trans rfl, (blk_cell BK121.out 1).trans rfl, (blk_cell BK121.out 2).trans rfl, ((HB.out.cell (World.block_lt_of_cell? w _ hw124_0)).trans hw124_0), ((HB.out.cell (World.block_lt_of_cell? w _ hw124_1)).trans hw124_1), ((HB.out.cell (World.block_lt_of_cell? w _ hw124_2)).trans hw124_2)⟩ (fun hHeld => ?_); refine with_tabW spec_MovedTenant.tab14 spec_MovedTenant.bits14 (fun HT_ HW_ => ?_)
                      generalize w23.drew = w24 at BK121 HB hx124_0 hx124_1 hx124_2 hHeld ⊢
                      refine pure_ (i := 0) (N := some 55) (v := ?_) (a' := ?_) #[true, false, false, false, false, false, false, false, false, false, false, false, false, false, false] rfl rfl (any_of HT_.out (by kernel_rfl)) (fun _ _ _ h => h) (Or.inl ⟨by rfl, ?_⟩) ?_ ?_
                      rotate_left
                      · intro w'
                        go_simp
                        with_reducible rfl
                      rotate_left
                      · simp only [Act.put, List.setIfInBounds_toArray, List.set_cons_zero, List.set_cons_succ, i64_w, i32_w]
                        rfl
                      refine pure_ (i := 1) (N := some 56) (v := ?_) (a' := ?_) #[true, true, false, false, false, false, false, false, false, false, false, false, false, false, false] rfl rfl (any_of HT_.out (by kernel_rfl)) (fun _ _ _ h => h) (Or.inl ⟨by rfl, ?_⟩) ?_ ?_
                      rotate_left
                      · intro w'
                        go_simp
                        with_reducible rfl
                      rotate_left
                      · simp only [Act.put, List.setIfInBounds_toArray, List.set_cons_zero, List.set_cons_succ, i64_w, i32_w]
                        rfl
                      refine pure_ (i := 2) (N := some 57) (v := ?_) (a' := ?_) #[true, true, true, false, false, false, false, false, false, false, false, false, false, false, false] rfl rfl (any_of HT_.out (by kernel_rfl)) (fun _ _ _ h => h) (Or.inl ⟨by rfl, ?_⟩) ?_ ?_
                      rotate_left
                      · intro w'
                        go_simp
                        with_reducible rfl
                      rotate_left
                      · simp only [Act.put, List.setIfInBounds_toArray, List.set_cons_zero, List.set_cons_succ, i64_w, i32_w]
                        rfl
                      refine pure_ (i := 4) (N := some 59) (v := ?_) (a' := ?_) #[true, true, true, false, true, false, false, false, false, false, false, false, false, false, false] rfl rfl (any_of HT_.out (by kernel_rfl)) (fun _ _ _ h => h) (Or.inl ⟨by rfl, ?_⟩) ?_ ?_
                      rotate_left
                      · intro w'
                        go_simp
                        with_reducible rfl
                      rotate_left
                      · simp only [Act.put, List.setIfInBounds_toArray, List.set_cons_zero, List.set_cons_succ, i64_w, i32_w]
                        rfl
                      refine pure_ (i := 5) (N := some 60) (v := ?_) (a' := ?_) #[true, true, true, false, true, true, false, false, false, false, false, false, false, false, false] rfl rfl (any_of HT_.out (by kernel_rfl)) (fun _ _ _ h => h) (Or.inl ⟨by rfl, ?_⟩) ?_ ?_
                      rotate_left
                      · intro w'
                        go_simp
                        with_reducible rfl
                      rotate_left
                      · simp only [Act.put, List.setIfInBounds_toArray, List.set_cons_zero, List.set_cons_succ, i64_w, i32_w]
                        rfl
                      refine pure_ (i := 6) (N := some 61) (v := ?_) (a' := ?_) #[true, true, true, false, true, true, true, false, false, false, false, false, false, false, false] rfl rfl (any_of HT_.out (by kernel_rfl)) (fun _ _ _ h => h) (Or.inl ⟨by rfl, ?_⟩) ?_ ?_
                      rotate_left
                      · intro w'
                        go_simp
                        with_reducible rfl
                      rotate_left
                      · simp only [Act.put, List.setIfInBounds_toArray, List.set_cons_zero, List.set_cons_succ, i64_w, i32_w]
                        rfl
                      refine pure_ (i := 7) (N := some 62) (v := ?_) (a' := ?_) #[true, true, true, false, true, true, true, true, false, false, false, false, false, false, false] rfl rfl (any_of HT_.out (by kernel_rfl)) (fun _ _ _ h => h) (Or.inl ⟨by rfl, ?_⟩) ?_ ?_
                      rotate_left
                      · intro w'
                        go_simp
                        with_reducible rfl
                      rotate_left
                      · simp only [Act.put, List.setIfInBounds_toArray, List.set_cons_zero, List.set_cons_succ, i64_w, i32_w]
                        rfl
                      refine pure_ (i := 9) (N := some 64) (v := ?_) (a' := ?_) #[true, true, true, false, true, true, true, true, false, true, false, false, false, false, false] rfl rfl (any_of HT_.out (by kernel_rfl)) (fun _ _ _ h => h) (Or.inl ⟨by rfl, ?_⟩) ?_ ?_
                      rotate_left
                      · intro w'
                        go_simp
                        with_reducible rfl
                      rotate_left
                      · simp only [Act.put, List.setIfInBounds_toArray, List.set_cons_zero, List.set_cons_succ, i64_w, i32_w]
                        rfl
                      refine take_ (i := 3) (N := some 58) (v := ?_) (a' := ?_) #[true, true, true, true, true, true, true, true, false, true, false, false, false, false, false] rfl rfl (take_ofW HT_.out HW_.out (by kernel_rfl)) (fun _ _ _ h => h) (Or.inl ⟨by rfl, ?_⟩) hHeld ?_ ?_
                      rotate_left
                      · rintro w' ⟨s0, s1, s2, s3, s4, s5⟩
                        go_simp
                        with_reducible rfl
                      rotate_left
                      · simp only [Act.put, List.setIfInBounds_toArray, List.set_cons_zero, List.set_cons_succ, i64_w, i32_w]
                        rfl
                      refine take_ (i := 8) (N := some 63) (v := ?_) (a' := ?_) #[true, true, true, true, true, true, true, true, true, true, false, false, false, false, false] rfl rfl (take_ofW HT_.out HW_.out (by kernel_rfl)) (fun _ _ _ h => h) (Or.inl ⟨by rfl, ?_⟩) hHeld ?_ ?_
                      rotate_left
                      · rintro w' ⟨s0, s1, s2, s3, s4, s5⟩
                        go_simp
                        with_reducible rfl
                      rotate_left
                      · simp only [Act.put, List.setIfInBounds_toArray, List.set_cons_zero, List.set_cons_succ, i64_w, i32_w]
                        rfl
                      refine take_ (i := 10) (N := some 65) (v := ?_) (a' := ?_) #[true, true, true, true, true, true, true, true, true, true, true, false, false, false, false] rfl rfl (take_ofW HT_.out HW_.out (by kernel_rfl)) (fun _ _ _ h => h) (Or.inl ⟨by rfl, ?_⟩) hHeld ?_ ?_
                      rotate_left
                      · rintro w' ⟨s0, s1, s2, s3, s4, s5⟩
                        go_simp
                        with_reducible rfl
                      rotate_left
                      · simp only [Act.put, List.setIfInBounds_toArray, List.set_cons_zero, List.set_cons_succ, i64_w, i32_w]
                        rfl
                      refine pure_ (i := 11) (N := some 66) (v := ?_) (a' := ?_) #[true, true, true, true, true, true, true, true, true, true, true, true, false, false, false] rfl rfl (any_of HT_.out (by kernel_rfl)) (fun _ _ _ h => h) (Or.inl ⟨by rfl, ?_⟩) ?_ ?_
                      rotate_left
                      · intro w'
                        go_simp
                        with_reducible rfl
                      rotate_left
                      · simp only [Act.put, List.setIfInBounds_toArray, List.set_cons_zero, List.set_cons_succ, i64_w, i32_w]
                        rfl
                      refine pure_ (i := 12) (N := some 67) (v := ?_) (a' := ?_) #[true, true, true, true, true, true, true, true, true, true, true, true, true, false, false] rfl rfl (any_of HT_.out (by kernel_rfl)) (fun _ _ _ h => h) (Or.inl ⟨by rfl, ?_⟩) ?_ ?_
                      rotate_left
                      · intro w'
                        go_simp
                        with_reducible rfl
                      rotate_left
                      · simp only [Act.put, List.setIfInBounds_toArray, List.set_cons_zero, List.set_cons_succ, i64_w, i32_w]
                        rfl
                      refine one_ (i := 13) (N := some 12) #[true, true, true, true, true, true, true, true, true, true, true, true, true, true, false] rfl rfl (one_of HT_.out (by kernel_rfl)) (by decide) (fun K hK => ?_)
                      refine box_step ?hg (N := 12) ?hd (cs := #[.string (⟨#[]⟩ : ByteArray), .int .i64 0, .int .i64 0]) (t := 129) ?hr ?_; (case hd => rfl); (case hg => rfl); (case hr => first | (go_simp; done) | (go_simp; rfl))
                      intro gb125 hg w25 hbox hb
                      have n0_ := Aside0.mk (blk_below (g := gb121) (o := .cells #[.string ((rd_T129 l0 t118).f0), .int .i64 ((rd_T129 l0 t118).f1), .int .i64 t123] 129 (0, 0)) (by (with_reducible repeat (first | refine blk_drewN ?_ _ | refine blk_drew ?_ | refine blk_alloc ?_ _)); exact BK121.out) hb)
                      have n1_ := Aside0.mk (below_step (by repeat (first | (with_reducible first | exact HB.out | apply below_alloc | apply pw_below_drewN | apply below_drew1 | refine below_set ?_ GE121.out) | exact HB.out)) hb)
                      have n2_ := Aside0.mk (hbox)
                      have n3_ := Aside0.mk ((by rw [hg]; exact (below_size (by repeat (first | (with_reducible first | exact HB.out | apply below_alloc | apply pw_below_drewN | apply below_drew1 | refine below_set ?_ GE121.out) | exact HB.out))) : w.heap.size ≤ gb125))
                      have n4_ := Aside0.mk ((by rw [hg]; exact (below_size (by repeat (first | (with_reducible first | exact HB.out | apply below_alloc | apply pw_below_drewN | apply below_drew1 | refine below_set ?_ GE121.out) | exact HB.out))) : w.heap.size ≤ gb125))
                      have n5_ := Aside0.mk ((by rw [hg]; exact Nat.ne_of_lt (blk_lt (g := gb121) (o := .cells #[.string ((rd_T129 l0 t118).f0), .int .i64 ((rd_T129 l0 t118).f1), .int .i64 t123] 129 (0, 0)) (by (with_reducible repeat (first | refine blk_drewN ?_ _ | refine blk_drew ?_ | refine blk_alloc ?_ _)); exact BK121.out)) : gb121 ≠ gb125))
                      have n6_ := Aside0.mk ((by rw [hg]; exact Nat.ne_of_gt (blk_lt (g := gb121) (o := .cells #[.string ((rd_T129 l0 t118).f0), .int .i64 ((rd_T129 l0 t118).f1), .int .i64 t123] 129 (0, 0)) (by (with_reducible repeat (first | refine blk_drewN ?_ _ | refine blk_drew ?_ | refine blk_alloc ?_ _)); exact BK121.out)) : gb125 ≠ gb121))
                      clear BK121
                      clear HB
                      have BK121 := n0_
                      have HB := n1_
                      have BK125 := n2_
                      have GW125 := n3_
                      have GE125 := n4_
                      have NB121_125 := n5_
                      have NB125_121 := n6_
                      clear n0_ n1_ n2_ n3_ n4_ n5_ n6_
                      clear hb hbox hg
                      refine hK.out _ _ ⟨(blk_cell BK121.out 0).trans rfl, (blk_cell BK121.out 1).trans rfl, (blk_cell BK121.out 2).trans rfl, ((HB.out.cell (World.block_lt_of_cell? w _ hw124_0)).trans hw124_0), ((HB.out.cell (World.block_lt_of_cell? w _ hw124_1)).trans hw124_1), ((HB.out.cell (World.block_lt_of_cell? w _ hw124_2)).trans hw124_2)⟩ (fun hHeld => ?_)
                      clear hK K
                      refine norm_ (a' := ?_) ?_ ?_
                      rotate_left
                      · show Act.put _ (some 12) _ = _
                        simp only [Act.put, List.setIfInBounds_toArray, List.set_cons_zero, List.set_cons_succ, i64_w, i32_w]
                        rfl
                      refine one_ (i := 14) (N := none) #[true, true, true, true, true, true, true, true, true, true, true, true, true, true, true] rfl rfl (one_of HT_.out (by kernel_rfl)) (by decide) (fun K hK => ?_)
                      have hs26 : w25.cell? ⟨gb125, 0, none⟩ = some (.string (⟨#[]⟩ : ByteArray)) := (blk_cell BK125.out 0).trans rfl
                      have hfs26 := blk_frozen BK125.out 0
                      have hns26_0 := NB121_125.out
                      have hms26_0 := NB125_121.out
                      have hs27 : w25.cell? ⟨gb125, 1, none⟩ = some (.int .i64 0) := (blk_cell BK125.out 1).trans rfl
                      have hfs27 := blk_frozen BK125.out 1
                      have hns27_0 := NB121_125.out
                      have hms27_0 := NB125_121.out
                      have hs28 : w25.cell? ⟨gb125, 2, none⟩ = some (.int .i64 0) := (blk_cell BK125.out 2).trans rfl
                      have hfs28 := blk_frozen BK125.out 2
                      have hns28_0 := NB121_125.out
                      have hms28_0 := NB125_121.out
                      refine skip_ (w1 := ?_) (by rfl) rfl ?_ ?_
                      rotate_left
                      · go_simp
                        rfl
                      refine hK.out _ _ ⟨((cell_far (p := ⟨gb125, _, none⟩) NB121_125.out _).trans (((cell_far (p := ⟨gb125, _, none⟩) NB121_125.out _).trans (((cell_far (p := ⟨gb125, _, none⟩) NB121_125.out _).trans (hHeld.1)))))), ((cell_far (p := ⟨gb125, _, none⟩) NB121_125.out _).trans (((cell_far (p := ⟨gb125, _, none⟩) NB121_125.out _).trans (((cell_far (p := ⟨gb125, _, none⟩) NB121_125.out _).trans (hHeld.2.1)))))), ((cell_far (p := ⟨gb125, _, none⟩) NB121_125.out _).trans (((cell_far (p := ⟨gb125, _, none⟩) NB121_125.out _).trans (((cell_far (p := ⟨gb125, _, none⟩) NB121_125.out _).trans (hHeld.2.2.1)))))), ((cell_far (p := ⟨gb125, _, none⟩) (by first | exact Nat.ne_of_lt (Nat.lt_of_lt_of_le (by have := World.block_lt_of_cell? _ _ hw124_0; first | rwa [add_block] at this | exact this) GW125.out) | (rw [add_block]; exact Nat.ne_of_lt (Nat.lt_of_lt_of_le (by have := World.block_lt_of_cell? _ _ hw124_0; first | rwa [add_block] at this | exact this) GW125.out)) | (show (Addr.add _ _).block ≠ _; rw [add_block]; exact Nat.ne_of_lt (Nat.lt_of_lt_of_le (by have := World.block_lt_of_cell? _ _ hw124_0; first | rwa [add_block] at this | exact this) GW125.out)) | (dsimp only; exact Nat.ne_of_lt (Nat.lt_of_lt_of_le (by have := World.block_lt_of_cell? _ _ hw124_0; first | rwa [add_block] at this | exact this) GW125.out))) _).trans (((cell_far (p := ⟨gb125, _, none⟩) (by first | exact Nat.ne_of_lt (Nat.lt_of_lt_of_le (by have := World.block_lt_of_cell? _ _ hw124_0; first | rwa [add_block] at this | exact this) GW125.out) | (rw [add_block]; exact Nat.ne_of_lt (Nat.lt_of_lt_of_le (by have := World.block_lt_of_cell? _ _ hw124_0; first | rwa [add_block] at this | exact this) GW125.out)) | (show (Addr.add _ _).block ≠ _; rw [add_block]; exact Nat.ne_of_lt (Nat.lt_of_lt_of_le (by have := World.block_lt_of_cell? _ _ hw124_0; first | rwa [add_block] at this | exact this) GW125.out)) | (dsimp only; exact Nat.ne_of_lt (Nat.lt_of_lt_of_le (by have := World.block_lt_of_cell? _ _ hw124_0; first | rwa [add_block] at this | exact this) GW125.out))) _).trans (((cell_far (p := ⟨gb125, _, none⟩) (by first | exact Nat.ne_of_lt (Nat.lt_of_lt_of_le (by have := World.block_lt_of_cell? _ _ hw124_0; first | rwa [add_block] at this | exact this) GW125.out) | (rw [add_block]; exact Nat.ne_of_lt (Nat.lt_of_lt_of_le (by have := World.block_lt_of_cell? _ _ hw124_0; first | rwa [add_block] at this | exact this) GW125.out)) | (show (Addr.add _ _).block ≠ _; rw [add_block]; exact Nat.ne_of_lt (Nat.lt_of_lt_of_le (by have := World.block_lt_of_cell? _ _ hw124_0; first | rwa [add_block] at this | exact this) GW125.out)) | (dsimp only; exact Nat.ne_of_lt (Nat.lt_of_lt_of_le (by have := World.block_lt_of_cell? _ _ hw124_0; first | rwa [add_block] at this | exact this) GW125.out))) _).trans (hHeld.2.2.2.1)))))), ((cell_far (p := ⟨gb125, _, none⟩) (by first | exact Nat.ne_of_lt (Nat.lt_of_lt_of_le (by have := World.block_lt_of_cell? _ _ hw124_1; first | rwa [add_block] at this | exact this) GW125.out) | (rw [add_block]; exact Nat.ne_of_lt (Nat.lt_of_lt_of_le (by have := World.block_lt_of_cell? _ _ hw124_1; first | rwa [add_block] at this | exact this) GW125.out)) | (show (Addr.add _ _).block ≠ _; rw [add_block]; exact Nat.ne_of_lt (Nat.lt_of_lt_of_le (by have := World.block_lt_of_cell? _ _ hw124_1; first | rwa [add_block] at this | exact this) GW125.out)) | (dsimp only; exact Nat.ne_of_lt (Nat.lt_of_lt_of_le (by have := World.block_lt_of_cell? _ _ hw124_1; first | rwa [add_block] at this | exact this) GW125.out))) _).trans (((cell_far (p := ⟨gb125, _, none⟩) (by first | exact Nat.ne_of_lt (Nat.lt_of_lt_of_le (by have := World.block_lt_of_cell? _ _ hw124_1; first | rwa [add_block] at this | exact this) GW125.out) | (rw [add_block]; exact Nat.ne_of_lt (Nat.lt_of_lt_of_le (by have := World.block_lt_of_cell? _ _ hw124_1; first | rwa [add_block] at this | exact this) GW125.out)) | (show (Addr.add _ _).block ≠ _; rw [add_block]; exact Nat.ne_of_lt (Nat.lt_of_lt_of_le (by have := World.block_lt_of_cell? _ _ hw124_1; first | rwa [add_block] at this | exact this) GW125.out)) | (dsimp only; exact Nat.ne_of_lt (Nat.lt_of_lt_of_le (by have := World.block_lt_of_cell? _ _ hw124_1; first | rwa [add_block] at this | exact this) GW125.out))) _).trans (((cell_far (p := ⟨gb125, _, none⟩) (by first | exact Nat.ne_of_lt (Nat.lt_of_lt_of_le (by have := World.block_lt_of_cell? _ _ hw124_1; first | rwa [add_block] at this | exact this) GW125.out) | (rw [add_block]; exact Nat.ne_of_lt (Nat.lt_of_lt_of_le (by have := World.block_lt_of_cell? _ _ hw124_1; first | rwa [add_block] at this | exact this) GW125.out)) | (show (Addr.add _ _).block ≠ _; rw [add_block]; exact Nat.ne_of_lt (Nat.lt_of_lt_of_le (by have := World.block_lt_of_cell? _ _ hw124_1; first | rwa [add_block] at this | exact this) GW125.out)) | (dsimp only; exact Nat.ne_of_lt (Nat.lt_of_lt_of_le (by have := World.block_lt_of_cell? _ _ hw124_1; first | rwa [add_block] at this | exact this) GW125.out))) _).trans (hHeld.2.2.2.2.1)))))), ((cell_far (p := ⟨gb125, _, none⟩) (by first | exact Nat.ne_of_lt (Nat.lt_of_lt_of_le (by have := World.block_lt_of_cell? _ _ hw124_2; first | rwa [add_block] at this | exact this) GW125.out) | (rw [add_block]; exact Nat.ne_of_lt (Nat.lt_of_lt_of_le (by have := World.block_lt_of_cell? _ _ hw124_2; first | rwa [add_block] at this | exact this) GW125.out)) | (show (Addr.add _ _).block ≠ _; rw [add_block]; exact Nat.ne_of_lt (Nat.lt_of_lt_of_le (by have := World.block_lt_of_cell? _ _ hw124_2; first | rwa [add_block] at this | exact this) GW125.out)) | (dsimp only; exact Nat.ne_of_lt (Nat.lt_of_lt_of_le (by have := World.block_lt_of_cell? _ _ hw124_2; first | rwa [add_block] at this | exact this) GW125.out))) _).trans (((cell_far (p := ⟨gb125, _, none⟩) (by first | exact Nat.ne_of_lt (Nat.lt_of_lt_of_le (by have := World.block_lt_of_cell? _ _ hw124_2; first | rwa [add_block] at this | exact this) GW125.out) | (rw [add_block]; exact Nat.ne_of_lt (Nat.lt_of_lt_of_le (by have := World.block_lt_of_cell? _ _ hw124_2; first | rwa [add_block] at this | exact this) GW125.out)) | (show (Addr.add _ _).block ≠ _; rw [add_block]; exact Nat.ne_of_lt (Nat.lt_of_lt_of_le (by have := World.block_lt_of_cell? _ _ hw124_2; first | rwa [add_block] at this | exact this) GW125.out)) | (dsimp only; exact Nat.ne_of_lt (Nat.lt_of_lt_of_le (by have := World.block_lt_of_cell? _ _ hw124_2; first | rwa [add_block] at this | exact this) GW125.out))) _).trans (((cell_far (p := ⟨gb125, _, none⟩) (by first | exact Nat.ne_of_lt (Nat.lt_of_lt_of_le (by have := World.block_lt_of_cell? _ _ hw124_2; first | rwa [add_block] at this | exact this) GW125.out) | (rw [add_block]; exact Nat.ne_of_lt (Nat.lt_of_lt_of_le (by have := World.block_lt_of_cell? _ _ hw124_2; first | rwa [add_block] at this | exact this) GW125.out)) | (show (Addr.add _ _).block ≠ _; rw [add_block]; exact Nat.ne_of_lt (Nat.lt_of_lt_of_le (by have := World.block_lt_of_cell? _ _ hw124_2; first | rwa [add_block] at this | exact this) GW125.out)) | (dsimp only; exact Nat.ne_of_lt (Nat.lt_of_lt_of_le (by have := World.block_lt_of_cell? _ _ hw124_2; first | rwa [add_block] at this | exact this) GW125.out))) _).trans (hHeld.2.2.2.2.2))))))⟩ (fun hHeld => ?_)
                      clear hK K
                      refine done_ (done_of HT_.out (by kernel_rfl)) ?_
                      try go_wp2_with (first | ((with_reducible refine gate_dst (N := 68) rfl ?_); refine Kd.R_lit k129 _ 129 ?hg (N := 68) ?hd (xs := ([] : List (S129))) (inner := []) (ok := fun _ => True) (okp := fun _ => True) ?hr ?hp (fun _ hk => hk) trivial (Below.refl _ _) (Nat.le_refl _) (by simp) ?_; (case hd => rfl); (case hg => rfl); (case hr => first | (go_simp; done) | (go_simp; rfl)); (case hp => exact (Reps.none _ _)); intro v127 w29 ho30 hb hg_ hnew_; clear hg_ hnew_; (first | rw [← Ny126.out] at ho30 | (simp only [Int.reduceToNat] at ho30; rw [← Ny126.out] at ho30)); have n0_ := Aside0.mk (Kd.R_lower (Kd.R_newB (Kd.R_newB ho30 (g := gb121) (o := .cells #[.string ((rd_T129 l0 t118).f0), .int .i64 ((rd_T129 l0 t118).f1), .int .i64 t123] 129 (0, 0)) (by (with_reducible repeat (first | refine blk_drewN ?_ _ | refine blk_drew ?_ | refine blk_alloc ?_ _)); refine blk_far ?_ NB121_125.out _; (with_reducible repeat (first | refine blk_drewN ?_ _ | refine blk_drew ?_ | refine blk_alloc ?_ _)); refine blk_far ?_ NB121_125.out _; (with_reducible repeat (first | refine blk_drewN ?_ _ | refine blk_drew ?_ | refine blk_alloc ?_ _)); refine blk_far ?_ NB121_125.out _; (with_reducible repeat (first | refine blk_drewN ?_ _ | refine blk_drew ?_ | refine blk_alloc ?_ _)); exact BK121.out)) (g := gb125) (o := .cells #[.string (a1 ++ (⟨#[98]⟩ : ByteArray)), .int .i64 ((rd_T129 l0 t118).f1), .int .i64 (wrap64 (((rd_T129 l0 t118).f2) - t123))] 129 (0, 0)) (by (with_reducible repeat (first | refine blk_drewN ?_ _ | refine blk_drew ?_ | refine blk_alloc ?_ _)); refine blk_put (cs := #[.string (a1 ++ (⟨#[98]⟩ : ByteArray)), .int .i64 ((rd_T129 l0 t118).f1), .int .i64 0]) ?_ 2 _ rfl; (with_reducible repeat (first | refine blk_drewN ?_ _ | refine blk_drew ?_ | refine blk_alloc ?_ _)); refine blk_put (cs := #[.string (a1 ++ (⟨#[98]⟩ : ByteArray)), .int .i64 0, .int .i64 0]) ?_ 1 _ rfl; (with_reducible repeat (first | refine blk_drewN ?_ _ | refine blk_drew ?_ | refine blk_alloc ?_ _)); refine blk_put (cs := #[.string (⟨#[]⟩ : ByteArray), .int .i64 0, .int .i64 0]) ?_ 0 _ rfl; (with_reducible repeat (first | refine blk_drewN ?_ _ | refine blk_drew ?_ | refine blk_alloc ?_ _)); exact BK125.out)) (below_size (by repeat (first | (with_reducible first | exact HB.out | apply below_alloc | apply pw_below_drewN | apply below_drew1 | refine below_set ?_ GE121.out | refine below_set ?_ GE125.out) | exact HB.out)))); have n1_ := Aside0.mk (blk_below (g := gb121) (o := .cells #[.string ((rd_T129 l0 t118).f0), .int .i64 ((rd_T129 l0 t118).f1), .int .i64 t123] 129 (0, 0)) (by (with_reducible repeat (first | refine blk_drewN ?_ _ | refine blk_drew ?_ | refine blk_alloc ?_ _)); refine blk_far ?_ NB121_125.out _; (with_reducible repeat (first | refine blk_drewN ?_ _ | refine blk_drew ?_ | refine blk_alloc ?_ _)); refine blk_far ?_ NB121_125.out _; (with_reducible repeat (first | refine blk_drewN ?_ _ | refine blk_drew ?_ | refine blk_alloc ?_ _)); refine blk_far ?_ NB121_125.out _; (with_reducible repeat (first | refine blk_drewN ?_ _ | refine blk_drew ?_ | refine blk_alloc ?_ _)); exact BK121.out) hb); have n2_ := Aside0.mk (blk_below (g := gb125) (o := .cells #[.string (a1 ++ (⟨#[98]⟩ : ByteArray)), .int .i64 ((rd_T129 l0 t118).f1), .int .i64 (wrap64 (((rd_T129 l0 t118).f2) - t123))] 129 (0, 0)) (by (with_reducible repeat (first | refine blk_drewN ?_ _ | refine blk_drew ?_ | refine blk_alloc ?_ _)); refine blk_put (cs := #[.string (a1 ++ (⟨#[98]⟩ : ByteArray)), .int .i64 ((rd_T129 l0 t118).f1), .int .i64 0]) ?_ 2 _ rfl; (with_reducible repeat (first | refine blk_drewN ?_ _ | refine blk_drew ?_ | refine blk_alloc ?_ _)); refine blk_put (cs := #[.string (a1 ++ (⟨#[98]⟩ : ByteArray)), .int .i64 0, .int .i64 0]) ?_ 1 _ rfl; (with_reducible repeat (first | refine blk_drewN ?_ _ | refine blk_drew ?_ | refine blk_alloc ?_ _)); refine blk_put (cs := #[.string (⟨#[]⟩ : ByteArray), .int .i64 0, .int .i64 0]) ?_ 0 _ rfl; (with_reducible repeat (first | refine blk_drewN ?_ _ | refine blk_drew ?_ | refine blk_alloc ?_ _)); exact BK125.out) hb); have n3_ := Aside0.mk (below_step (by repeat (first | (with_reducible first | exact HB.out | apply below_alloc | apply pw_below_drewN | apply below_drew1 | refine below_set ?_ GE121.out | refine below_set ?_ GE125.out) | exact HB.out)) hb); clear BK121; clear BK125; clear HB; have HO128 := n0_; have BK121 := n1_; have BK125 := n2_; have HB := n3_; clear n0_ n1_ n2_ n3_; clear hb ho30))
                      go_loopg [13, 14, 15] kj6 (fun kq v13 v14 v15 w' => ∃ (x13_2 : List (S129)) (x14_2 : Bool) (x15_2 : Int), v14 = .bool x14_2 ∧ v15 = .int .i64 x15_2 ∧ Aside0 (spec_MovedTenant.l0 kq l0 t118 x13_2 x14_2 x15_2 ((rd_T129 l0 t118).f0) ((rd_T129 l0 t118).f1) t123 (a1 ++ (⟨#[98]⟩ : ByteArray)) ((rd_T129 l0 t118).f1) (wrap64 (((rd_T129 l0 t118).f2) - t123)) = some (r1, r2)) ∧ Aside0 (kq ≤ kj6) ∧ Aside0 (Kd.R k129 129 w' w.heap.size (fun k_ => k_ ≠ gb121 ∧ k_ ≠ gb125) v13 x13_2) ∧ Aside0 (w'.heap[gb121]? = some (.cells #[.string ((rd_T129 l0 t118).f0), .int .i64 ((rd_T129 l0 t118).f1), .int .i64 t123] 129 (0, 0))) ∧ Aside0 (w'.heap[gb125]? = some (.cells #[.string (a1 ++ (⟨#[98]⟩ : ByteArray)), .int .i64 ((rd_T129 l0 t118).f1), .int .i64 (wrap64 (((rd_T129 l0 t118).f2) - t123))] 129 (0, 0))) ∧ Aside0 (Below w.heap.size w w'))
                      case atStart => exact ⟨(y126), (false), (0), (by first | rfl | (simp; done) | (simp [*]; done)), (by first | rfl | (simp; done) | (simp [*]; done)), H', ⟨Nat.le_refl _⟩, ⟨by (with_reducible repeat (first | apply Kd.R_alloc | apply Kd.R_drewN | apply Kd.R_drew)); exact Kd.R_mono HO128.out (fun _ hk => ⟨hk.1.2, hk.2⟩)⟩, ⟨by (with_reducible repeat (first | refine blk_drewN ?_ _ | refine blk_drew ?_ | refine blk_alloc ?_ _)); exact BK121.out⟩, ⟨by (with_reducible repeat (first | refine blk_drewN ?_ _ | refine blk_drew ?_ | refine blk_alloc ?_ _)); exact BK125.out⟩, ⟨by repeat (first | (with_reducible first | exact HB.out | apply below_alloc | apply pw_below_drewN | apply below_drew1 | refine below_set ?_ GE121.out | refine below_set ?_ GE125.out) | exact HB.out)⟩⟩
                      case round =>
                        clear H'
                        try clear c1
                        try clear p1
                        try clear q1
                        try clear hx1
                        try clear p2
                        try clear c3
                        try clear c6
                        try clear p6
                        try clear c9
                        try clear c11
                        try clear p12
                        try clear q12
                        try clear hx12
                        try clear c13
                        try clear c13b0
                        try clear c14
                        try clear c14b0
                        try clear c14b1
                        try clear c14b2
                        try clear c16
                        try clear c16b0
                        try clear c17
                        try clear c17b0
                        try clear c17b1
                        try clear c18
                        try clear c18b0
                        try clear c19
                        try clear c19b0
                        try clear c30
                        try clear hcz22_0
                        try clear hcz22_1
                        try clear hcz22_2
                        try clear hfz22_0
                        try clear hfz22_1
                        try clear hfz22_2
                        try clear hx120_0
                        try clear hx120_1
                        try clear hx120_2
                        try clear hx122_0
                        try clear hx122_1
                        try clear hx122_2
                        try clear hx124_0
                        try clear hx124_1
                        try clear hx124_2
                        try clear p120
                        try clear p122
                        try clear p124
                        try clear p2
                        try clear q120
                        try clear q122
                        try clear q124
                        obtain ⟨x13_2, x14_2, x15_2, rfl, rfl, HA, HK2, HO_13, BK121, BK125, HB⟩ := hrel
                        cases gk with
                        | zero => exact absurd HA.out (by simp [spec_MovedTenant.l0])
                        | succ k2 =>
                          have H := HA.out
                          clear HA
                          simp only [spec_MovedTenant.l0] at H
                          by_cases c31 : x15_2 < (l0.length : Int)
                          · as_aux_lemma =>
                            rw [if_pos c31] at H
                            have c31b0 : decide (x15_2 < (l0.length : Int)) = true := decide_eq_true c31
                            clear c31
                            have HC32 := Aside0.mk H
                            clear H
                            go_upto_region 20 with (fail)
                            go_cut [86] (fun v86 wc => ∃ (kq : Nat) (x86_31 : Bool), v86 = .bool x86_31 ∧ Aside0 (spec_MovedTenant.j2 kq l0 t118 x13_2 x14_2 x15_2 x86_31 ((rd_T129 l0 t118).f0) ((rd_T129 l0 t118).f1) t123 (a1 ++ (⟨#[98]⟩ : ByteArray)) ((rd_T129 l0 t118).f1) (wrap64 (((rd_T129 l0 t118).f2) - t123)) = some (r1, r2)) ∧ Aside0 (kq ≤ k2) ∧ Aside0 (Kd.R k129 129 wc w.heap.size (fun k_ => k_ ≠ gb121 ∧ k_ ≠ gb125) u13 x13_2) ∧ Aside0 (wc.heap[gb121]? = some (.cells #[.string ((rd_T129 l0 t118).f0), .int .i64 ((rd_T129 l0 t118).f1), .int .i64 t123] 129 (0, 0))) ∧ Aside0 (wc.heap[gb125]? = some (.cells #[.string (a1 ++ (⟨#[98]⟩ : ByteArray)), .int .i64 ((rd_T129 l0 t118).f1), .int .i64 (wrap64 (((rd_T129 l0 t118).f2) - t123))] 129 (0, 0))) ∧ Aside0 (Below w.heap.size w wc))
                            case first =>
                              have H := HC32.out
                              clear HC32
                              by_cases c33 : x14_2 = true
                              · as_aux_lemma =>
                                subst c33
                                have H1 : (spec_MovedTenant.j2 k2 l0 t118 x13_2 true x15_2 false ((rd_T129 l0 t118).f0) ((rd_T129 l0 t118).f1) t123 (a1 ++ (⟨#[98]⟩ : ByteArray)) ((rd_T129 l0 t118).f1) (wrap64 (((rd_T129 l0 t118).f2) - t123))) = some (r1, r2) := by rw [if_pos rfl] at H; exact H
                                clear H
                                have H := H1
                                clear H1
                                have H' := Aside0.mk H
                                clear H
                                try go_wp2
                                have n0_ := Aside0.mk (Kd.R_drew HO_13.out)
                                have n1_ := Aside0.mk (blk_drew BK121.out)
                                have n2_ := Aside0.mk (blk_drew BK125.out)
                                have n3_ := Aside0.mk (below_drew1 HB.out)
                                clear HO_13
                                clear BK121
                                clear BK125
                                clear HB
                                have HO_13 := n0_
                                have BK121 := n1_
                                have BK125 := n2_
                                have HB := n3_
                                clear n0_ n1_ n2_ n3_
                                refine start_ (n := 12) (S := fun w' => True) (ds := []) #[false, false, false, false, false, false, false, false, false, false, false, false] (by kernel_rfl) rfl rfl trivial (fun hHeld => ?_); refine with_tabW spec_MovedTenant.tab20 spec_MovedTenant.bits20 (fun HT_ HW_ => ?_)
                                generalize wr.drew = w34 at HO_13 BK121 BK125 HB hHeld ⊢
                                refine pure_ (i := 0) (N := some 75) (v := ?_) (a' := ?_) #[true, false, false, false, false, false, false, false, false, false, false, false] rfl rfl (any_of HT_.out (by kernel_rfl)) (fun _ _ _ h => h) (Or.inl ⟨by rfl, ?_⟩) ?_ ?_
                                rotate_left
                                · intro w'
                                  go_simp
                                  with_reducible rfl
                                rotate_left
                                · simp only [Act.put, List.setIfInBounds_toArray, List.set_cons_zero, List.set_cons_succ, i64_w, i32_w]
                                  rfl
                                refine pure_ (i := 1) (N := some 76) (v := ?_) (a' := ?_) #[true, true, false, false, false, false, false, false, false, false, false, false] rfl rfl (any_of HT_.out (by kernel_rfl)) (fun _ _ _ h => h) (Or.inl ⟨by rfl, ?_⟩) ?_ ?_
                                rotate_left
                                · intro w'
                                  go_simp
                                  with_reducible rfl
                                rotate_left
                                · simp only [Act.put, List.setIfInBounds_toArray, List.set_cons_zero, List.set_cons_succ, i64_w, i32_w]
                                  rfl
                                refine pure_ (i := 2) (N := some 77) (v := ?_) (a' := ?_) #[true, true, true, false, false, false, false, false, false, false, false, false] rfl rfl (any_of HT_.out (by kernel_rfl)) (fun _ _ _ h => h) (Or.inl ⟨by rfl, ?_⟩) ?_ ?_
                                rotate_left
                                · intro w'
                                  go_simp
                                  with_reducible rfl
                                rotate_left
                                · simp only [Act.put, List.setIfInBounds_toArray, List.set_cons_zero, List.set_cons_succ, i64_w, i32_w]
                                  rfl
                                refine pure_ (i := 3) (N := some 78) (v := undef) (a' := ?_) #[true, true, true, true, false, false, false, false, false, false, false, false] rfl rfl (any_of HT_.out (by kernel_rfl)) (fun _ _ _ h => h) (Or.inr ⟨by rfl, rfl⟩) ?_ ?_
                                rotate_left
                                · simp only [Act.put, List.setIfInBounds_toArray, List.set_cons_zero, List.set_cons_succ, i64_w, i32_w]
                                  rfl
                                refine pure_ (i := 4) (N := some 79) (v := undef) (a' := ?_) #[true, true, true, true, true, false, false, false, false, false, false, false] rfl rfl (any_of HT_.out (by kernel_rfl)) (fun _ _ _ h => h) (Or.inr ⟨by rfl, rfl⟩) ?_ ?_
                                rotate_left
                                · simp only [Act.put, List.setIfInBounds_toArray, List.set_cons_zero, List.set_cons_succ, i64_w, i32_w]
                                  rfl
                                refine pure_ (i := 5) (N := some 80) (v := undef) (a' := ?_) #[true, true, true, true, true, true, false, false, false, false, false, false] rfl rfl (any_of HT_.out (by kernel_rfl)) (fun _ _ _ h => h) (Or.inr ⟨by rfl, rfl⟩) ?_ ?_
                                rotate_left
                                · simp only [Act.put, List.setIfInBounds_toArray, List.set_cons_zero, List.set_cons_succ, i64_w, i32_w]
                                  rfl
                                refine pure_ (i := 6) (N := some 81) (v := undef) (a' := ?_) #[true, true, true, true, true, true, true, false, false, false, false, false] rfl rfl (any_of HT_.out (by kernel_rfl)) (fun _ _ _ h => h) (Or.inr ⟨by rfl, rfl⟩) ?_ ?_
                                rotate_left
                                · simp only [Act.put, List.setIfInBounds_toArray, List.set_cons_zero, List.set_cons_succ, i64_w, i32_w]
                                  rfl
                                refine pure_ (i := 7) (N := some 82) (v := undef) (a' := ?_) #[true, true, true, true, true, true, true, true, false, false, false, false] rfl rfl (any_of HT_.out (by kernel_rfl)) (fun _ _ _ h => h) (Or.inr ⟨by rfl, rfl⟩) ?_ ?_
                                rotate_left
                                · simp only [Act.put, List.setIfInBounds_toArray, List.set_cons_zero, List.set_cons_succ, i64_w, i32_w]
                                  rfl
                                refine pure_ (i := 8) (N := some 83) (v := undef) (a' := ?_) #[true, true, true, true, true, true, true, true, true, false, false, false] rfl rfl (any_of HT_.out (by kernel_rfl)) (fun _ _ _ h => h) (Or.inr ⟨by rfl, rfl⟩) ?_ ?_
                                rotate_left
                                · simp only [Act.put, List.setIfInBounds_toArray, List.set_cons_zero, List.set_cons_succ, i64_w, i32_w]
                                  rfl
                                refine pure_ (i := 9) (N := some 84) (v := undef) (a' := ?_) #[true, true, true, true, true, true, true, true, true, true, false, false] rfl rfl (any_of HT_.out (by kernel_rfl)) (fun _ _ _ h => h) (Or.inr ⟨by rfl, rfl⟩) ?_ ?_
                                rotate_left
                                · simp only [Act.put, List.setIfInBounds_toArray, List.set_cons_zero, List.set_cons_succ, i64_w, i32_w]
                                  rfl
                                refine pure_ (i := 10) (N := some 85) (v := undef) (a' := ?_) #[true, true, true, true, true, true, true, true, true, true, true, false] rfl rfl (any_of HT_.out (by kernel_rfl)) (fun _ _ _ h => h) (Or.inr ⟨by rfl, rfl⟩) ?_ ?_
                                rotate_left
                                · simp only [Act.put, List.setIfInBounds_toArray, List.set_cons_zero, List.set_cons_succ, i64_w, i32_w]
                                  rfl
                                refine pure_ (i := 11) (N := some 86) (v := ?_) (a' := ?_) #[true, true, true, true, true, true, true, true, true, true, true, true] rfl rfl (any_of HT_.out (by kernel_rfl)) (fun _ _ _ h => h) (Or.inl ⟨by rfl, ?_⟩) ?_ ?_
                                rotate_left
                                · intro w'
                                  go_simp
                                  with_reducible rfl
                                rotate_left
                                · simp only [Act.put, List.setIfInBounds_toArray, List.set_cons_zero, List.set_cons_succ, i64_w, i32_w]
                                  rfl
                                refine done_ (done_of HT_.out (by kernel_rfl)) ?_
                                try go_wp2
                                go_meet
                                case rel => exact ⟨_, (false), (by first | rfl | (simp; done) | (simp [*]; done)), H', ⟨by have := HJ6.out; have := HK2.out; first | omega | exact Nat.le_refl _⟩, ⟨by (with_reducible repeat (first | apply Kd.R_alloc | apply Kd.R_drewN | apply Kd.R_drew)); exact HO_13.out⟩, ⟨by (with_reducible repeat (first | refine blk_drewN ?_ _ | refine blk_drew ?_ | refine blk_alloc ?_ _)); exact BK121.out⟩, ⟨by (with_reducible repeat (first | refine blk_drewN ?_ _ | refine blk_drew ?_ | refine blk_alloc ?_ _)); exact BK125.out⟩, ⟨by repeat (first | (with_reducible first | exact HB.out | apply below_alloc | apply pw_below_drewN | apply below_drew1 | refine below_set ?_ GE121.out | refine below_set ?_ GE125.out) | exact HB.out)⟩⟩
                              · as_aux_lemma =>
                                replace c33 := Bool.eq_false_iff.mpr c33
                                subst c33
                                have H1 : (if 0 ≤ x15_2 then (spec_MovedTenant.j2 k2 l0 t118 x13_2 false x15_2 (Op.bytesLess (a1 ++ (⟨#[98]⟩ : ByteArray)).toList (((rd_T129 l0 x15_2).f0).toList)) ((rd_T129 l0 t118).f0) ((rd_T129 l0 t118).f1) t123 (a1 ++ (⟨#[98]⟩ : ByteArray)) ((rd_T129 l0 t118).f1) (wrap64 (((rd_T129 l0 t118).f2) - t123))) else (none)) = some (r1, r2) := by rw [if_neg (show ¬ (false = true) by decide)] at H; exact H
                                clear H
                                have H := H1
                                clear H1
                                by_cases c35 : 0 ≤ x15_2
                                · as_aux_lemma =>
                                  rw [if_pos c35] at H
                                  have c35b0 : decide (0 ≤ x15_2) = true := decide_eq_true c35
                                  clear c35
                                  (first | rw [c35b0] | (simp only [i64_w, i32_w]; rw [c35b0]) | skip)
                                  have H' := Aside0.mk H
                                  clear H
                                  try go_wp2
                                  have n0_ := Aside0.mk (Kd.R_drew HO_13.out)
                                  have n1_ := Aside0.mk (blk_drew BK121.out)
                                  have n2_ := Aside0.mk (blk_drew BK125.out)
                                  have n3_ := Aside0.mk (below_drew1 HB.out)
                                  clear HO_13
                                  clear BK121
                                  clear BK125
                                  clear HB
                                  have HO_13 := n0_
                                  have BK121 := n1_
                                  have BK125 := n2_
                                  have HB := n3_
                                  clear n0_ n1_ n2_ n3_
                                  have p129 : 0 ≤ (x15_2 : Int) := of_decide_eq_true (by first | (with_reducible assumption) | assumption)
                                  have q129 : x15_2 < (l0.length : Int) := of_decide_eq_true (by first | (with_reducible assumption) | assumption)
                                  obtain ⟨ad129, e129, hx129_0, hx129_1, hx129_2⟩ := at_T129 HR0.out x15_2 p129 q129
                                  have hw129_2 := hx129_2
                                  have hw129_1 := hx129_1
                                  have hw129_0 := hx129_0
                                  obtain rfl : ad120 = ad129 := (by injection e129)
                                  replace hx129_0 := (HB.out.cell (World.block_lt_of_cell? w _ hx129_0)).trans hx129_0
                                  replace hx129_1 := (HB.out.cell (World.block_lt_of_cell? w _ hx129_1)).trans hx129_1
                                  replace hx129_2 := (HB.out.cell (World.block_lt_of_cell? w _ hx129_2)).trans hx129_2
                                  replace p129 := eq_true p129
                                  replace q129 := eq_true q129
                                  refine start_ (n := 12) (S := fun w' => w'.cell? ⟨gb125, 0, none⟩ = some (.string (a1 ++ (⟨#[98]⟩ : ByteArray))) ∧ w'.cell? ⟨gb125, 1, none⟩ = some (.int .i64 ((rd_T129 l0 t118).f1)) ∧ w'.cell? ⟨gb125, 2, none⟩ = some (.int .i64 (wrap64 (((rd_T129 l0 t118).f2) - t123))) ∧ w'.cell? (ad120.add ((x15_2).toNat * 3)) = some (.string ((rd_T129 l0 x15_2).f0)) ∧ w'.cell? ⟨(ad120.add ((x15_2).toNat * 3)).block, (ad120.add ((x15_2).toNat * 3)).off + 1, none⟩ = some (.int .i64 ((rd_T129 l0 x15_2).f1)) ∧ w'.cell? ⟨(ad120.add ((x15_2).toNat * 3)).block, (ad120.add ((x15_2).toNat * 3)).off + 2, none⟩ = some (.int .i64 ((rd_T129 l0 x15_2).f2))) (ds := []) #[false, false, false, false, false, false, false, false, false, false, false, false] (by kernel_rfl) rfl rfl ⟨(blk_cell BK125.out 0).trans rfl, (blk_cell BK125.out 1).trans rfl, (blk_cell BK125.out 2).trans rfl, ((HB.out.cell (World.block_lt_of_cell? w _ hw129_0)).trans hw129_0), ((HB.out.cell (World.block_lt_of_cell? w _ hw129_1)).trans hw129_1), ((HB.out.cell (World.block_lt_of_cell? w _ hw129_2)).trans hw129_2)⟩ (fun hHeld => ?_); refine with_tabW spec_MovedTenant.tab20 spec_MovedTenant.bits20 (fun HT_ HW_ => ?_)
                                  generalize wr.drew = w36 at HO_13 BK121 BK125 HB hx129_0 hx129_1 hx129_2 hHeld ⊢
                                  refine pure_ (i := 0) (N := some 75) (v := ?_) (a' := ?_) #[true, false, false, false, false, false, false, false, false, false, false, false] rfl rfl (any_of HT_.out (by kernel_rfl)) (fun _ _ _ h => h) (Or.inl ⟨by rfl, ?_⟩) ?_ ?_
                                  rotate_left
                                  · intro w'
                                    go_simp
                                    with_reducible rfl
                                  rotate_left
                                  · simp only [Act.put, List.setIfInBounds_toArray, List.set_cons_zero, List.set_cons_succ, i64_w, i32_w]
                                    rfl
                                  refine pure_ (i := 1) (N := some 76) (v := ?_) (a' := ?_) #[true, true, false, false, false, false, false, false, false, false, false, false] rfl rfl (any_of HT_.out (by kernel_rfl)) (fun _ _ _ h => h) (Or.inl ⟨by rfl, ?_⟩) ?_ ?_
                                  rotate_left
                                  · intro w'
                                    go_simp
                                    with_reducible rfl
                                  rotate_left
                                  · simp only [Act.put, List.setIfInBounds_toArray, List.set_cons_zero, List.set_cons_succ, i64_w, i32_w]
                                    rfl
                                  refine pure_ (i := 2) (N := some 77) (v := ?_) (a' := ?_) #[true, true, true, false, false, false, false, false, false, false, false, false] rfl rfl (any_of HT_.out (by kernel_rfl)) (fun _ _ _ h => h) (Or.inl ⟨by rfl, ?_⟩) ?_ ?_
                                  rotate_left
                                  · intro w'
                                    go_simp
                                    with_reducible rfl
                                  rotate_left
                                  · simp only [Act.put, List.setIfInBounds_toArray, List.set_cons_zero, List.set_cons_succ, i64_w, i32_w]
                                    rfl
                                  refine pure_ (i := 3) (N := some 78) (v := ?_) (a' := ?_) #[true, true, true, true, false, false, false, false, false, false, false, false] rfl rfl (any_of HT_.out (by kernel_rfl)) (fun _ _ _ h => h) (Or.inl ⟨by rfl, ?_⟩) ?_ ?_
                                  rotate_left
                                  · intro w'
                                    go_simp
                                    with_reducible rfl
                                  rotate_left
                                  · simp only [Act.put, List.setIfInBounds_toArray, List.set_cons_zero, List.set_cons_succ, i64_w, i32_w]
                                    rfl
                                  refine pure_ (i := 4) (N := some 79) (v := ?_) (a' := ?_) #[true, true, true, true, true, false, false, false, false, false, false, false] rfl rfl (any_of HT_.out (by kernel_rfl)) (fun _ _ _ h => h) (Or.inl ⟨by rfl, ?_⟩) ?_ ?_
                                  rotate_left
                                  · intro w'
                                    go_simp
                                    with_reducible rfl
                                  rotate_left
                                  · simp only [Act.put, List.setIfInBounds_toArray, List.set_cons_zero, List.set_cons_succ, i64_w, i32_w]
                                    rfl
                                  refine pure_ (i := 5) (N := some 80) (v := ?_) (a' := ?_) #[true, true, true, true, true, true, false, false, false, false, false, false] rfl rfl (any_of HT_.out (by kernel_rfl)) (fun _ _ _ h => h) (Or.inl ⟨by rfl, ?_⟩) ?_ ?_
                                  rotate_left
                                  · intro w'
                                    go_simp
                                    with_reducible rfl
                                  rotate_left
                                  · simp only [Act.put, List.setIfInBounds_toArray, List.set_cons_zero, List.set_cons_succ, i64_w, i32_w]
                                    rfl
                                  refine pure_ (i := 6) (N := some 81) (v := ?_) (a' := ?_) #[true, true, true, true, true, true, true, false, false, false, false, false] rfl rfl (any_of HT_.out (by kernel_rfl)) (fun _ _ _ h => h) (Or.inl ⟨by rfl, ?_⟩) ?_ ?_
                                  rotate_left
                                  · intro w'
                                    go_simp
                                    with_reducible rfl
                                  rotate_left
                                  · simp only [Act.put, List.setIfInBounds_toArray, List.set_cons_zero, List.set_cons_succ, i64_w, i32_w]
                                    rfl
                                  refine pure_ (i := 8) (N := some 83) (v := ?_) (a' := ?_) #[true, true, true, true, true, true, true, false, true, false, false, false] rfl rfl (any_of HT_.out (by kernel_rfl)) (fun _ _ _ h => h) (Or.inl ⟨by rfl, ?_⟩) ?_ ?_
                                  rotate_left
                                  · intro w'
                                    go_simp
                                    with_reducible rfl
                                  rotate_left
                                  · simp only [Act.put, List.setIfInBounds_toArray, List.set_cons_zero, List.set_cons_succ, i64_w, i32_w]
                                    rfl
                                  refine take_ (i := 7) (N := some 82) (v := ?_) (a' := ?_) #[true, true, true, true, true, true, true, true, true, false, false, false] rfl rfl (take_ofW HT_.out HW_.out (by kernel_rfl)) (fun _ _ _ h => h) (Or.inl ⟨by rfl, ?_⟩) hHeld ?_ ?_
                                  rotate_left
                                  · rintro w' ⟨s0, s1, s2, s3, s4, s5⟩
                                    go_simp
                                    with_reducible rfl
                                  rotate_left
                                  · simp only [Act.put, List.setIfInBounds_toArray, List.set_cons_zero, List.set_cons_succ, i64_w, i32_w]
                                    rfl
                                  refine take_ (i := 9) (N := some 84) (v := ?_) (a' := ?_) #[true, true, true, true, true, true, true, true, true, true, false, false] rfl rfl (take_ofW HT_.out HW_.out (by kernel_rfl)) (fun _ _ _ h => h) (Or.inl ⟨by rfl, ?_⟩) hHeld ?_ ?_
                                  rotate_left
                                  · rintro w' ⟨s0, s1, s2, s3, s4, s5⟩
                                    go_simp
                                    with_reducible rfl
                                  rotate_left
                                  · simp only [Act.put, List.setIfInBounds_toArray, List.set_cons_zero, List.set_cons_succ, i64_w, i32_w]
                                    rfl
                                  refine pure_ (i := 10) (N := some 85) (v := ?_) (a' := ?_) #[true, true, true, true, true, true, true, true, true, true, true, false] rfl rfl (any_of HT_.out (by kernel_rfl)) (fun _ _ _ h => h) (Or.inl ⟨by rfl, ?_⟩) ?_ ?_
                                  rotate_left
                                  · intro w'
                                    go_simp
                                    with_reducible rfl
                                  rotate_left
                                  · simp only [Act.put, List.setIfInBounds_toArray, List.set_cons_zero, List.set_cons_succ, i64_w, i32_w]
                                    rfl
                                  refine pure_ (i := 11) (N := some 86) (v := ?_) (a' := ?_) #[true, true, true, true, true, true, true, true, true, true, true, true] rfl rfl (any_of HT_.out (by kernel_rfl)) (fun _ _ _ h => h) (Or.inl ⟨by rfl, ?_⟩) ?_ ?_
                                  rotate_left
                                  · intro w'
                                    go_simp
                                    with_reducible rfl
                                  rotate_left
                                  · simp only [Act.put, List.setIfInBounds_toArray, List.set_cons_zero, List.set_cons_succ, i64_w, i32_w]
                                    rfl
                                  refine done_ (done_of HT_.out (by kernel_rfl)) ?_
                                  try go_wp2
                                  go_meet
                                  case rel => exact ⟨_, ((Op.bytesLess (a1 ++ (⟨#[98]⟩ : ByteArray)).toList (((rd_T129 l0 x15_2).f0).toList))), (by first | rfl | (simp; done) | (simp [*]; done)), H', ⟨by have := HJ6.out; have := HK2.out; first | omega | exact Nat.le_refl _⟩, ⟨by (with_reducible repeat (first | apply Kd.R_alloc | apply Kd.R_drewN | apply Kd.R_drew)); exact HO_13.out⟩, ⟨by (with_reducible repeat (first | refine blk_drewN ?_ _ | refine blk_drew ?_ | refine blk_alloc ?_ _)); exact BK121.out⟩, ⟨by (with_reducible repeat (first | refine blk_drewN ?_ _ | refine blk_drew ?_ | refine blk_alloc ?_ _)); exact BK125.out⟩, ⟨by repeat (first | (with_reducible first | exact HB.out | apply below_alloc | apply pw_below_drewN | apply below_drew1 | refine below_set ?_ GE121.out | refine below_set ?_ GE125.out) | exact HB.out)⟩⟩
                                · rw [if_neg c35] at H
                                  exact absurd H (by simp)
                            case rest =>
                              clear HC32
                              try clear c1
                              try clear p1
                              try clear q1
                              try clear hx1
                              try clear p2
                              try clear c3
                              try clear c6
                              try clear p6
                              try clear c9
                              try clear c11
                              try clear p12
                              try clear q12
                              try clear hx12
                              try clear c13
                              try clear c13b0
                              try clear c14
                              try clear c14b0
                              try clear c14b1
                              try clear c14b2
                              try clear c16
                              try clear c16b0
                              try clear c17
                              try clear c17b0
                              try clear c17b1
                              try clear c18
                              try clear c18b0
                              try clear c19
                              try clear c19b0
                              try clear c30
                              try clear c31
                              try clear c31b0
                              try clear c33
                              try clear c35
                              try clear c35b0
                              try clear hcz22_0
                              try clear hcz22_1
                              try clear hcz22_2
                              try clear hfz22_0
                              try clear hfz22_1
                              try clear hfz22_2
                              try clear hx120_0
                              try clear hx120_1
                              try clear hx120_2
                              try clear hx122_0
                              try clear hx122_1
                              try clear hx122_2
                              try clear hx124_0
                              try clear hx124_1
                              try clear hx124_2
                              try clear hx129_0
                              try clear hx129_1
                              try clear hx129_2
                              try clear p1
                              try clear p12
                              try clear p120
                              try clear p122
                              try clear p124
                              try clear p129
                              try clear p2
                              try clear p6
                              try clear q1
                              try clear q12
                              try clear q120
                              try clear q122
                              try clear q124
                              try clear q129
                              obtain ⟨kq, x86_31, rfl, HA, HJ31, HO_13, BK121, BK125, HB⟩ := hcut
                              cases kq with
                              | zero => exact absurd HA.out (by simp [spec_MovedTenant.j2])
                              | succ kj31 =>
                                have H := HA.out
                                clear HA
                                simp only [spec_MovedTenant.j2] at H
                                by_cases c37 : x86_31 = true
                                · as_aux_lemma =>
                                  subst c37
                                  have H1 : (if x13_2.length < 4398046511104 then ((some (x13_2 ++ [(⟨(a1 ++ (⟨#[98]⟩ : ByteArray)), ((rd_T129 l0 t118).f1), (wrap64 (((rd_T129 l0 t118).f2) - t123))⟩ : S129)] : List (S129))).bind fun y130 => (if x15_2 = t118 then (if y130.length < 4398046511104 then (spec_MovedTenant.l0 kj31 l0 t118 (y130 ++ [(⟨((rd_T129 l0 t118).f0), ((rd_T129 l0 t118).f1), t123⟩ : S129)]) true (wrap64 (x15_2 + 1)) ((rd_T129 l0 t118).f0) ((rd_T129 l0 t118).f1) t123 (a1 ++ (⟨#[98]⟩ : ByteArray)) ((rd_T129 l0 t118).f1) (wrap64 (((rd_T129 l0 t118).f2) - t123))) else (none)) else (if 0 ≤ x15_2 then (if x15_2 < (l0.length : Int) then (if y130.length < 4398046511104 then (spec_MovedTenant.l0 kj31 l0 t118 (y130 ++ [(⟨(rd_T129 l0 x15_2).f0, (rd_T129 l0 x15_2).f1, (rd_T129 l0 x15_2).f2⟩ : S129)]) true (wrap64 (x15_2 + 1)) ((rd_T129 l0 t118).f0) ((rd_T129 l0 t118).f1) t123 (a1 ++ (⟨#[98]⟩ : ByteArray)) ((rd_T129 l0 t118).f1) (wrap64 (((rd_T129 l0 t118).f2) - t123))) else (none)) else (none)) else (none)))) else (none)) = some (r1, r2) := by rw [if_pos rfl] at H; exact H
                                  clear H
                                  have H := H1
                                  clear H1
                                  by_cases c38 : x13_2.length < 4398046511104
                                  · as_aux_lemma =>
                                    rw [if_pos c38] at H
                                    have LMc38 := Aside0.mk c38
                                    clear c38
                                    obtain ⟨y130, hy130⟩ : ∃ y_ : List (S129), y_ = (x13_2 ++ [(⟨(a1 ++ (⟨#[98]⟩ : ByteArray)), ((rd_T129 l0 t118).f1), (wrap64 (((rd_T129 l0 t118).f2) - t123))⟩ : S129)]) := ⟨_, rfl⟩
                                    replace H : (if x15_2 = t118 then (if y130.length < 4398046511104 then (spec_MovedTenant.l0 kj31 l0 t118 (y130 ++ [(⟨((rd_T129 l0 t118).f0), ((rd_T129 l0 t118).f1), t123⟩ : S129)]) true (wrap64 (x15_2 + 1)) ((rd_T129 l0 t118).f0) ((rd_T129 l0 t118).f1) t123 (a1 ++ (⟨#[98]⟩ : ByteArray)) ((rd_T129 l0 t118).f1) (wrap64 (((rd_T129 l0 t118).f2) - t123))) else (none)) else (if 0 ≤ x15_2 then (if x15_2 < (l0.length : Int) then (if y130.length < 4398046511104 then (spec_MovedTenant.l0 kj31 l0 t118 (y130 ++ [(⟨(rd_T129 l0 x15_2).f0, (rd_T129 l0 x15_2).f1, (rd_T129 l0 x15_2).f2⟩ : S129)]) true (wrap64 (x15_2 + 1)) ((rd_T129 l0 t118).f0) ((rd_T129 l0 t118).f1) t123 (a1 ++ (⟨#[98]⟩ : ByteArray)) ((rd_T129 l0 t118).f1) (wrap64 (((rd_T129 l0 t118).f2) - t123))) else (none)) else (none)) else (none))) = some (r1, r2) := by first | (rw [hy130]; with_reducible exact H) | (have H2_ := (Option.bind_some _ _).symm.trans H; rw [hy130]; with_reducible exact H2_) | (have H2_ := (Option.bind_some _ _).symm.trans H; with_reducible exact H2_) | with_reducible exact H | (rw [hy130]; exact H) | exact H
                                    have Ny130 := Aside0.mk hy130
                                    clear hy130
                                    by_cases c39 : x15_2 = t118
                                    · rw [if_pos c39] at H
                                      have c39b0 : (x15_2 == t118) = true := beq_iff_eq.mpr c39
                                      have c39b1 : (x15_2 != t118) = false := bne_eq_false_iff_eq.mpr c39
                                      clear c39
                                      by_cases c40 : y130.length < 4398046511104
                                      · rw [if_pos c40] at H
                                        have LMc40 := Aside0.mk c40
                                        clear c40
                                        obtain ⟨y133, hy133⟩ : ∃ y_ : List (S129), y_ = (y130 ++ [(⟨((rd_T129 l0 t118).f0), ((rd_T129 l0 t118).f1), t123⟩ : S129)]) := ⟨_, rfl⟩
                                        replace H : (spec_MovedTenant.l0 kj31 l0 t118 y133 true (wrap64 (x15_2 + 1)) ((rd_T129 l0 t118).f0) ((rd_T129 l0 t118).f1) t123 (a1 ++ (⟨#[98]⟩ : ByteArray)) ((rd_T129 l0 t118).f1) (wrap64 (((rd_T129 l0 t118).f2) - t123))) = some (r1, r2) := by first | (rw [hy133]; with_reducible exact H) | (have H2_ := (Option.bind_some _ _).symm.trans H; rw [hy133]; with_reducible exact H2_) | (have H2_ := (Option.bind_some _ _).symm.trans H; with_reducible exact H2_) | with_reducible exact H | (rw [hy133]; exact H) | exact H
                                        have Ny133 := Aside0.mk hy133
                                        clear hy133
                                        have H' := Aside0.mk H
                                        clear H
                                        have hnb41 := NB125_121.out
                                        have hnc41 := NB121_125.out
                                        have hcz42_0 : wc.cell? ⟨gb125, 0, none⟩ = some (.string (a1 ++ (⟨#[98]⟩ : ByteArray))) := (blk_cell BK125.out 0).trans rfl
                                        have hcz42_1 : wc.cell? ⟨gb125, 1, none⟩ = some (.int .i64 ((rd_T129 l0 t118).f1)) := (blk_cell BK125.out 1).trans rfl
                                        have hcz42_2 : wc.cell? ⟨gb125, 2, none⟩ = some (.int .i64 (wrap64 (((rd_T129 l0 t118).f2) - t123))) := (blk_cell BK125.out 2).trans rfl
                                        have hfz42_0 := blk_frozen BK125.out 0
                                        have hfz42_1 := blk_frozen BK125.out 1
                                        have hfz42_2 := blk_frozen BK125.out 2
                                        go_wp2_with (first | ((with_reducible refine gate_builtin (b := .append) (xs := #[.tmp 87, .tmp 89]) rfl ?_); at_builtin; refine Kd.R_append k129 (w0 := w) w.heap.size rfl (.tmp 87) (.tmp 89) 51 129 (.agg #[(.string ⟨#[]⟩), (.int .i64 0), (.int .i64 0)]) 32 rfl Try.underlying51 info129 rfl (by decide) (by omega) u13 x13_2 (⟨(a1 ++ (⟨#[98]⟩ : ByteArray)), ((rd_T129 l0 t118).f1), (wrap64 (((rd_T129 l0 t118).f2) - t123))⟩ : S129) [.string (a1 ++ (⟨#[98]⟩ : ByteArray)), .int .i64 ((rd_T129 l0 t118).f1), .int .i64 (wrap64 (((rd_T129 l0 t118).f2) - t123))] (fun k_ => k_ ≠ gb121 ∧ k_ ≠ gb125) (fun _ => False) rfl rfl ?aP (fun _ hk => hk.elim) ?aF ?aO ?aB ?aS ?aL ?_; (case aP => exact k129_mkM _ _ _ (⟨(a1 ++ (⟨#[98]⟩ : ByteArray)), ((rd_T129 l0 t118).f1), (wrap64 (((rd_T129 l0 t118).f2) - t123))⟩ : S129)); (case aB => exact (by repeat (first | (with_reducible first | exact HB.out | apply below_alloc | apply pw_below_drewN | apply below_drew1 | refine below_set ?_ GE121.out | refine below_set ?_ GE125.out) | exact HB.out))); (case aF => exact (fun k_ hk => ⟨Kd.freshB (g := gb121) (o := .cells #[.string ((rd_T129 l0 t118).f0), .int .i64 ((rd_T129 l0 t118).f1), .int .i64 t123] 129 (0, 0)) (by (with_reducible repeat (first | refine blk_drewN ?_ _ | refine blk_drew ?_ | refine blk_alloc ?_ _)); exact BK121.out) k_ hk, Kd.freshB (g := gb125) (o := .cells #[.string (a1 ++ (⟨#[98]⟩ : ByteArray)), .int .i64 ((rd_T129 l0 t118).f1), .int .i64 (wrap64 (((rd_T129 l0 t118).f2) - t123))] 129 (0, 0)) (by (with_reducible repeat (first | refine blk_drewN ?_ _ | refine blk_drew ?_ | refine blk_alloc ?_ _)); exact BK125.out) k_ hk⟩)); (case aO => exact (by (with_reducible repeat (first | apply Kd.R_alloc | apply Kd.R_drewN | apply Kd.R_drew)); exact HO_13.out)); (case aS => exact (below_size (by repeat (first | (with_reducible first | exact HB.out | apply below_alloc | apply pw_below_drewN | apply below_drew1 | refine below_set ?_ GE121.out | refine below_set ?_ GE125.out) | exact HB.out)))); (case aL => have := LMc38.out; omega); intro v131 w43 ho hb hg hat; rw [← Ny130.out] at ho; have n0_ := Aside0.mk (blk_grown (g := gb121) (o := .cells #[.string ((rd_T129 l0 t118).f0), .int .i64 ((rd_T129 l0 t118).f1), .int .i64 t123] 129 (0, 0)) (by (with_reducible repeat (first | refine blk_drewN ?_ _ | refine blk_drew ?_ | refine blk_alloc ?_ _)); exact BK121.out) hg (Kd.R_away HO_13.out (fun _ hk => hk.1))); have n1_ := Aside0.mk (blk_grown (g := gb125) (o := .cells #[.string (a1 ++ (⟨#[98]⟩ : ByteArray)), .int .i64 ((rd_T129 l0 t118).f1), .int .i64 (wrap64 (((rd_T129 l0 t118).f2) - t123))] 129 (0, 0)) (by (with_reducible repeat (first | refine blk_drewN ?_ _ | refine blk_drew ?_ | refine blk_alloc ?_ _)); exact BK125.out) hg (Kd.R_away HO_13.out (fun _ hk => hk.2))); have n2_ := Aside0.mk (hb); have n3_ := Aside0.mk (ho); clear BK121; clear BK125; clear HB; clear HO_13; have BK121 := n0_; have BK125 := n1_; have HB := n2_; have HO132 := n3_; clear n0_ n1_ n2_ n3_; clear ho hb hg hat; have hcz44_0 : w43.cell? ⟨gb121, 0, none⟩ = some (.string ((rd_T129 l0 t118).f0)) := (blk_cell BK121.out 0).trans rfl; have hcz44_1 : w43.cell? ⟨gb121, 1, none⟩ = some (.int .i64 ((rd_T129 l0 t118).f1)) := (blk_cell BK121.out 1).trans rfl; have hcz44_2 : w43.cell? ⟨gb121, 2, none⟩ = some (.int .i64 t123) := (blk_cell BK121.out 2).trans rfl; have hfz44_0 := blk_frozen BK121.out 0; have hfz44_1 := blk_frozen BK121.out 1; have hfz44_2 := blk_frozen BK121.out 2) | ((with_reducible refine gate_builtin (b := .append) (xs := #[.tmp 94, .tmp 96]) rfl ?_); at_builtin; refine Kd.R_append k129 (w0 := w) w.heap.size rfl (.tmp 94) (.tmp 96) 51 129 (.agg #[(.string ⟨#[]⟩), (.int .i64 0), (.int .i64 0)]) 32 rfl Try.underlying51 info129 rfl (by decide) (by omega) v131 y130 (⟨((rd_T129 l0 t118).f0), ((rd_T129 l0 t118).f1), t123⟩ : S129) [.string ((rd_T129 l0 t118).f0), .int .i64 ((rd_T129 l0 t118).f1), .int .i64 t123] (fun k_ => k_ ≠ gb121 ∧ k_ ≠ gb125) (fun _ => False) rfl rfl ?aP (fun _ hk => hk.elim) ?aF ?aO ?aB ?aS ?aL ?_; (case aP => exact k129_mkM _ _ _ (⟨((rd_T129 l0 t118).f0), ((rd_T129 l0 t118).f1), t123⟩ : S129)); (case aB => exact (by repeat (first | (with_reducible first | exact HB.out | apply below_alloc | apply pw_below_drewN | apply below_drew1 | refine below_set ?_ GE121.out | refine below_set ?_ GE125.out) | exact HB.out))); (case aF => exact (fun k_ hk => ⟨Kd.freshB (g := gb121) (o := .cells #[.string ((rd_T129 l0 t118).f0), .int .i64 ((rd_T129 l0 t118).f1), .int .i64 t123] 129 (0, 0)) (by (with_reducible repeat (first | refine blk_drewN ?_ _ | refine blk_drew ?_ | refine blk_alloc ?_ _)); exact BK121.out) k_ hk, Kd.freshB (g := gb125) (o := .cells #[.string (a1 ++ (⟨#[98]⟩ : ByteArray)), .int .i64 ((rd_T129 l0 t118).f1), .int .i64 (wrap64 (((rd_T129 l0 t118).f2) - t123))] 129 (0, 0)) (by (with_reducible repeat (first | refine blk_drewN ?_ _ | refine blk_drew ?_ | refine blk_alloc ?_ _)); exact BK125.out) k_ hk⟩)); (case aO => exact (by (with_reducible repeat (first | apply Kd.R_alloc | apply Kd.R_drewN | apply Kd.R_drew)); exact HO132.out)); (case aS => exact (below_size (by repeat (first | (with_reducible first | exact HB.out | apply below_alloc | apply pw_below_drewN | apply below_drew1 | refine below_set ?_ GE121.out | refine below_set ?_ GE125.out) | exact HB.out)))); (case aL => have := LMc40.out; omega); intro v134 w45 ho hb hg hat; rw [← Ny133.out] at ho; have n0_ := Aside0.mk (blk_grown (g := gb121) (o := .cells #[.string ((rd_T129 l0 t118).f0), .int .i64 ((rd_T129 l0 t118).f1), .int .i64 t123] 129 (0, 0)) (by (with_reducible repeat (first | refine blk_drewN ?_ _ | refine blk_drew ?_ | refine blk_alloc ?_ _)); exact BK121.out) hg (Kd.R_away HO132.out (fun _ hk => hk.1))); have n1_ := Aside0.mk (blk_grown (g := gb125) (o := .cells #[.string (a1 ++ (⟨#[98]⟩ : ByteArray)), .int .i64 ((rd_T129 l0 t118).f1), .int .i64 (wrap64 (((rd_T129 l0 t118).f2) - t123))] 129 (0, 0)) (by (with_reducible repeat (first | refine blk_drewN ?_ _ | refine blk_drew ?_ | refine blk_alloc ?_ _)); exact BK125.out) hg (Kd.R_away HO132.out (fun _ hk => hk.2))); have n2_ := Aside0.mk (hb); have n3_ := Aside0.mk (ho); clear BK121; clear BK125; clear HB; clear HO132; have BK121 := n0_; have BK125 := n1_; have HB := n2_; have HO135 := n3_; clear n0_ n1_ n2_ n3_; clear ho hb hg hat))
                                        go_roundg kj31
                                        case measure => have := HJ6.out; have := HK2.out; have := HJ31.out; omega
                                        case rel => exact ⟨(y133), (true), (wrap64 (x15_2 + 1)), (by first | rfl | (simp; done) | (simp [*]; done)), (by first | rfl | (simp; done) | (simp [*]; done)), H', ⟨by have := HJ6.out; have := HK2.out; have := HJ31.out; omega⟩, ⟨by (with_reducible repeat (first | apply Kd.R_alloc | apply Kd.R_drewN | apply Kd.R_drew)); exact HO135.out⟩, ⟨by (with_reducible repeat (first | refine blk_drewN ?_ _ | refine blk_drew ?_ | refine blk_alloc ?_ _)); exact BK121.out⟩, ⟨by (with_reducible repeat (first | refine blk_drewN ?_ _ | refine blk_drew ?_ | refine blk_alloc ?_ _)); exact BK125.out⟩, ⟨by repeat (first | (with_reducible first | exact HB.out | apply below_alloc | apply pw_below_drewN | apply below_drew1 | refine below_set ?_ GE121.out | refine below_set ?_ GE125.out) | exact HB.out)⟩⟩
                                      · rw [if_neg c40] at H
                                        exact absurd H (by simp)
                                    · rw [if_neg c39] at H
                                      have c39b0 : (x15_2 == t118) = false := beq_eq_false_iff_ne.mpr c39
                                      have c39b1 : (x15_2 != t118) = true := bne_iff_ne.mpr c39
                                      by_cases c46 : 0 ≤ x15_2
                                      · rw [if_pos c46] at H
                                        have c46b0 : decide (0 ≤ x15_2) = true := decide_eq_true c46
                                        clear c46
                                        by_cases c47 : x15_2 < (l0.length : Int)
                                        · rw [if_pos c47] at H
                                          have c47b0 : decide (x15_2 < (l0.length : Int)) = true := decide_eq_true c47
                                          clear c47
                                          by_cases c48 : y130.length < 4398046511104
                                          · rw [if_pos c48] at H
                                            have LMc48 := Aside0.mk c48
                                            clear c48
                                            obtain ⟨y137, hy137⟩ : ∃ y_ : List (S129), y_ = (y130 ++ [(⟨(rd_T129 l0 x15_2).f0, (rd_T129 l0 x15_2).f1, (rd_T129 l0 x15_2).f2⟩ : S129)]) := ⟨_, rfl⟩
                                            replace H : (spec_MovedTenant.l0 kj31 l0 t118 y137 true (wrap64 (x15_2 + 1)) ((rd_T129 l0 t118).f0) ((rd_T129 l0 t118).f1) t123 (a1 ++ (⟨#[98]⟩ : ByteArray)) ((rd_T129 l0 t118).f1) (wrap64 (((rd_T129 l0 t118).f2) - t123))) = some (r1, r2) := by first | (rw [hy137]; with_reducible exact H) | (have H2_ := (Option.bind_some _ _).symm.trans H; rw [hy137]; with_reducible exact H2_) | (have H2_ := (Option.bind_some _ _).symm.trans H; with_reducible exact H2_) | with_reducible exact H | (rw [hy137]; exact H) | exact H
                                            have Ny137 := Aside0.mk hy137
                                            clear hy137
                                            have H' := Aside0.mk H
                                            clear H
                                            have hnb49 := NB125_121.out
                                            have hnc49 := NB121_125.out
                                            have hcz50_0 : wc.cell? ⟨gb125, 0, none⟩ = some (.string (a1 ++ (⟨#[98]⟩ : ByteArray))) := (blk_cell BK125.out 0).trans rfl
                                            have hcz50_1 : wc.cell? ⟨gb125, 1, none⟩ = some (.int .i64 ((rd_T129 l0 t118).f1)) := (blk_cell BK125.out 1).trans rfl
                                            have hcz50_2 : wc.cell? ⟨gb125, 2, none⟩ = some (.int .i64 (wrap64 (((rd_T129 l0 t118).f2) - t123))) := (blk_cell BK125.out 2).trans rfl
                                            have hfz50_0 := blk_frozen BK125.out 0
                                            have hfz50_1 := blk_frozen BK125.out 1
                                            have hfz50_2 := blk_frozen BK125.out 2
                                            go_wp2_with (first | ((with_reducible refine gate_builtin (b := .append) (xs := #[.tmp 87, .tmp 89]) rfl ?_); at_builtin; refine Kd.R_append k129 (w0 := w) w.heap.size rfl (.tmp 87) (.tmp 89) 51 129 (.agg #[(.string ⟨#[]⟩), (.int .i64 0), (.int .i64 0)]) 32 rfl Try.underlying51 info129 rfl (by decide) (by omega) u13 x13_2 (⟨(a1 ++ (⟨#[98]⟩ : ByteArray)), ((rd_T129 l0 t118).f1), (wrap64 (((rd_T129 l0 t118).f2) - t123))⟩ : S129) [.string (a1 ++ (⟨#[98]⟩ : ByteArray)), .int .i64 ((rd_T129 l0 t118).f1), .int .i64 (wrap64 (((rd_T129 l0 t118).f2) - t123))] (fun k_ => k_ ≠ gb121 ∧ k_ ≠ gb125) (fun _ => False) rfl rfl ?aP (fun _ hk => hk.elim) ?aF ?aO ?aB ?aS ?aL ?_; (case aP => exact k129_mkM _ _ _ (⟨(a1 ++ (⟨#[98]⟩ : ByteArray)), ((rd_T129 l0 t118).f1), (wrap64 (((rd_T129 l0 t118).f2) - t123))⟩ : S129)); (case aB => exact (by repeat (first | (with_reducible first | exact HB.out | apply below_alloc | apply pw_below_drewN | apply below_drew1 | refine below_set ?_ GE121.out | refine below_set ?_ GE125.out) | exact HB.out))); (case aF => exact (fun k_ hk => ⟨Kd.freshB (g := gb121) (o := .cells #[.string ((rd_T129 l0 t118).f0), .int .i64 ((rd_T129 l0 t118).f1), .int .i64 t123] 129 (0, 0)) (by (with_reducible repeat (first | refine blk_drewN ?_ _ | refine blk_drew ?_ | refine blk_alloc ?_ _)); exact BK121.out) k_ hk, Kd.freshB (g := gb125) (o := .cells #[.string (a1 ++ (⟨#[98]⟩ : ByteArray)), .int .i64 ((rd_T129 l0 t118).f1), .int .i64 (wrap64 (((rd_T129 l0 t118).f2) - t123))] 129 (0, 0)) (by (with_reducible repeat (first | refine blk_drewN ?_ _ | refine blk_drew ?_ | refine blk_alloc ?_ _)); exact BK125.out) k_ hk⟩)); (case aO => exact (by (with_reducible repeat (first | apply Kd.R_alloc | apply Kd.R_drewN | apply Kd.R_drew)); exact HO_13.out)); (case aS => exact (below_size (by repeat (first | (with_reducible first | exact HB.out | apply below_alloc | apply pw_below_drewN | apply below_drew1 | refine below_set ?_ GE121.out | refine below_set ?_ GE125.out) | exact HB.out)))); (case aL => have := LMc38.out; omega); intro v131 w51 ho hb hg hat; rw [← Ny130.out] at ho; have n0_ := Aside0.mk (blk_grown (g := gb121) (o := .cells #[.string ((rd_T129 l0 t118).f0), .int .i64 ((rd_T129 l0 t118).f1), .int .i64 t123] 129 (0, 0)) (by (with_reducible repeat (first | refine blk_drewN ?_ _ | refine blk_drew ?_ | refine blk_alloc ?_ _)); exact BK121.out) hg (Kd.R_away HO_13.out (fun _ hk => hk.1))); have n1_ := Aside0.mk (blk_grown (g := gb125) (o := .cells #[.string (a1 ++ (⟨#[98]⟩ : ByteArray)), .int .i64 ((rd_T129 l0 t118).f1), .int .i64 (wrap64 (((rd_T129 l0 t118).f2) - t123))] 129 (0, 0)) (by (with_reducible repeat (first | refine blk_drewN ?_ _ | refine blk_drew ?_ | refine blk_alloc ?_ _)); exact BK125.out) hg (Kd.R_away HO_13.out (fun _ hk => hk.2))); have n2_ := Aside0.mk (hb); have n3_ := Aside0.mk (ho); clear BK121; clear BK125; clear HB; clear HO_13; have BK121 := n0_; have BK125 := n1_; have HB := n2_; have HO132 := n3_; clear n0_ n1_ n2_ n3_; clear ho hb hg hat; have p136 : 0 ≤ (x15_2 : Int) := of_decide_eq_true (by first | (with_reducible assumption) | assumption); have q136 : x15_2 < (l0.length : Int) := of_decide_eq_true (by first | (with_reducible assumption) | assumption); obtain ⟨ad136, e136, hx136_0, hx136_1, hx136_2⟩ := at_T129 HR0.out x15_2 p136 q136; obtain rfl : ad120 = ad136 := (by injection e136); replace hx136_0 := (HB.out.cell (World.block_lt_of_cell? w _ hx136_0)).trans hx136_0; replace hx136_1 := (HB.out.cell (World.block_lt_of_cell? w _ hx136_1)).trans hx136_1; replace hx136_2 := (HB.out.cell (World.block_lt_of_cell? w _ hx136_2)).trans hx136_2; replace p136 := eq_true p136; replace q136 := eq_true q136) | ((with_reducible refine gate_builtin (b := .append) (xs := #[.tmp 98, .tmp 103]) rfl ?_); at_builtin; refine Kd.R_append k129 (w0 := w) w.heap.size rfl (.tmp 98) (.tmp 103) 51 129 (.agg #[(.string ⟨#[]⟩), (.int .i64 0), (.int .i64 0)]) 32 rfl Try.underlying51 info129 rfl (by decide) (by omega) v131 y130 (⟨(rd_T129 l0 x15_2).f0, (rd_T129 l0 x15_2).f1, (rd_T129 l0 x15_2).f2⟩ : S129) [.string ((rd_T129 l0 x15_2).f0), .int .i64 ((rd_T129 l0 x15_2).f1), .int .i64 ((rd_T129 l0 x15_2).f2)] (fun k_ => k_ ≠ gb121 ∧ k_ ≠ gb125) (fun _ => False) rfl rfl ?aP (fun _ hk => hk.elim) ?aF ?aO ?aB ?aS ?aL ?_; (case aP => exact k129_mkM _ _ _ (⟨(rd_T129 l0 x15_2).f0, (rd_T129 l0 x15_2).f1, (rd_T129 l0 x15_2).f2⟩ : S129)); (case aB => exact (by repeat (first | (with_reducible first | exact HB.out | apply below_alloc | apply pw_below_drewN | apply below_drew1 | refine below_set ?_ GE121.out | refine below_set ?_ GE125.out) | exact HB.out))); (case aF => exact (fun k_ hk => ⟨Kd.freshB (g := gb121) (o := .cells #[.string ((rd_T129 l0 t118).f0), .int .i64 ((rd_T129 l0 t118).f1), .int .i64 t123] 129 (0, 0)) (by (with_reducible repeat (first | refine blk_drewN ?_ _ | refine blk_drew ?_ | refine blk_alloc ?_ _)); exact BK121.out) k_ hk, Kd.freshB (g := gb125) (o := .cells #[.string (a1 ++ (⟨#[98]⟩ : ByteArray)), .int .i64 ((rd_T129 l0 t118).f1), .int .i64 (wrap64 (((rd_T129 l0 t118).f2) - t123))] 129 (0, 0)) (by (with_reducible repeat (first | refine blk_drewN ?_ _ | refine blk_drew ?_ | refine blk_alloc ?_ _)); exact BK125.out) k_ hk⟩)); (case aO => exact (by (with_reducible repeat (first | apply Kd.R_alloc | apply Kd.R_drewN | apply Kd.R_drew)); exact HO132.out)); (case aS => exact (below_size (by repeat (first | (with_reducible first | exact HB.out | apply below_alloc | apply pw_below_drewN | apply below_drew1 | refine below_set ?_ GE121.out | refine below_set ?_ GE125.out) | exact HB.out)))); (case aL => have := LMc48.out; omega); intro v138 w52 ho hb hg hat; rw [← Ny137.out] at ho; have n0_ := Aside0.mk (blk_grown (g := gb121) (o := .cells #[.string ((rd_T129 l0 t118).f0), .int .i64 ((rd_T129 l0 t118).f1), .int .i64 t123] 129 (0, 0)) (by (with_reducible repeat (first | refine blk_drewN ?_ _ | refine blk_drew ?_ | refine blk_alloc ?_ _)); exact BK121.out) hg (Kd.R_away HO132.out (fun _ hk => hk.1))); have n1_ := Aside0.mk (blk_grown (g := gb125) (o := .cells #[.string (a1 ++ (⟨#[98]⟩ : ByteArray)), .int .i64 ((rd_T129 l0 t118).f1), .int .i64 (wrap64 (((rd_T129 l0 t118).f2) - t123))] 129 (0, 0)) (by (with_reducible repeat (first | refine blk_drewN ?_ _ | refine blk_drew ?_ | refine blk_alloc ?_ _)); exact BK125.out) hg (Kd.R_away HO132.out (fun _ hk => hk.2))); have n2_ := Aside0.mk (hb); have n3_ := Aside0.mk (ho); clear BK121; clear BK125; clear HB; clear HO132; have BK121 := n0_; have BK125 := n1_; have HB := n2_; have HO139 := n3_; clear n0_ n1_ n2_ n3_; clear ho hb hg hat))
                                            go_roundg kj31
                                            case measure => have := HJ6.out; have := HK2.out; have := HJ31.out; omega
                                            case rel => exact ⟨(y137), (true), (wrap64 (x15_2 + 1)), (by first | rfl | (simp; done) | (simp [*]; done)), (by first | rfl | (simp; done) | (simp [*]; done)), H', ⟨by have := HJ6.out; have := HK2.out; have := HJ31.out; omega⟩, ⟨by (with_reducible repeat (first | apply Kd.R_alloc | apply Kd.R_drewN | apply Kd.R_drew)); exact HO139.out⟩, ⟨by (with_reducible repeat (first | refine blk_drewN ?_ _ | refine blk_drew ?_ | refine blk_alloc ?_ _)); exact BK121.out⟩, ⟨by (with_reducible repeat (first | refine blk_drewN ?_ _ | refine blk_drew ?_ | refine blk_alloc ?_ _)); exact BK125.out⟩, ⟨by repeat (first | (with_reducible first | exact HB.out | apply below_alloc | apply pw_below_drewN | apply below_drew1 | refine below_set ?_ GE121.out | refine below_set ?_ GE125.out) | exact HB.out)⟩⟩
                                          · rw [if_neg c48] at H
                                            exact absurd H (by simp)
                                        · rw [if_neg c47] at H
                                          exact absurd H (by simp)
                                      · rw [if_neg c46] at H
                                        exact absurd H (by simp)
                                  · rw [if_neg c38] at H
                                    exact absurd H (by simp)
                                · as_aux_lemma =>
                                  replace c37 := Bool.eq_false_iff.mpr c37
                                  subst c37
                                  have H1 : (if x15_2 = t118 then (if x13_2.length < 4398046511104 then (spec_MovedTenant.l0 kj31 l0 t118 (x13_2 ++ [(⟨((rd_T129 l0 t118).f0), ((rd_T129 l0 t118).f1), t123⟩ : S129)]) x14_2 (wrap64 (x15_2 + 1)) ((rd_T129 l0 t118).f0) ((rd_T129 l0 t118).f1) t123 (a1 ++ (⟨#[98]⟩ : ByteArray)) ((rd_T129 l0 t118).f1) (wrap64 (((rd_T129 l0 t118).f2) - t123))) else (none)) else (if 0 ≤ x15_2 then (if x15_2 < (l0.length : Int) then (if x13_2.length < 4398046511104 then (spec_MovedTenant.l0 kj31 l0 t118 (x13_2 ++ [(⟨(rd_T129 l0 x15_2).f0, (rd_T129 l0 x15_2).f1, (rd_T129 l0 x15_2).f2⟩ : S129)]) x14_2 (wrap64 (x15_2 + 1)) ((rd_T129 l0 t118).f0) ((rd_T129 l0 t118).f1) t123 (a1 ++ (⟨#[98]⟩ : ByteArray)) ((rd_T129 l0 t118).f1) (wrap64 (((rd_T129 l0 t118).f2) - t123))) else (none)) else (none)) else (none))) = some (r1, r2) := by rw [if_neg (show ¬ (false = true) by decide)] at H; exact H
                                  clear H
                                  have H := H1
                                  clear H1
                                  by_cases c53 : x15_2 = t118
                                  · rw [if_pos c53] at H
                                    have c53b0 : (x15_2 == t118) = true := beq_iff_eq.mpr c53
                                    have c53b1 : (x15_2 != t118) = false := bne_eq_false_iff_eq.mpr c53
                                    clear c53
                                    by_cases c54 : x13_2.length < 4398046511104
                                    · rw [if_pos c54] at H
                                      have LMc54 := Aside0.mk c54
                                      clear c54
                                      obtain ⟨y140, hy140⟩ : ∃ y_ : List (S129), y_ = (x13_2 ++ [(⟨((rd_T129 l0 t118).f0), ((rd_T129 l0 t118).f1), t123⟩ : S129)]) := ⟨_, rfl⟩
                                      replace H : (spec_MovedTenant.l0 kj31 l0 t118 y140 x14_2 (wrap64 (x15_2 + 1)) ((rd_T129 l0 t118).f0) ((rd_T129 l0 t118).f1) t123 (a1 ++ (⟨#[98]⟩ : ByteArray)) ((rd_T129 l0 t118).f1) (wrap64 (((rd_T129 l0 t118).f2) - t123))) = some (r1, r2) := by first | (rw [hy140]; with_reducible exact H) | (have H2_ := (Option.bind_some _ _).symm.trans H; rw [hy140]; with_reducible exact H2_) | (have H2_ := (Option.bind_some _ _).symm.trans H; with_reducible exact H2_) | with_reducible exact H | (rw [hy140]; exact H) | exact H
                                      have Ny140 := Aside0.mk hy140
                                      clear hy140
                                      have H' := Aside0.mk H
                                      clear H
                                      have hnb55 := NB121_125.out
                                      have hnc55 := NB125_121.out
                                      have hcz56_0 : wc.cell? ⟨gb121, 0, none⟩ = some (.string ((rd_T129 l0 t118).f0)) := (blk_cell BK121.out 0).trans rfl
                                      have hcz56_1 : wc.cell? ⟨gb121, 1, none⟩ = some (.int .i64 ((rd_T129 l0 t118).f1)) := (blk_cell BK121.out 1).trans rfl
                                      have hcz56_2 : wc.cell? ⟨gb121, 2, none⟩ = some (.int .i64 t123) := (blk_cell BK121.out 2).trans rfl
                                      have hfz56_0 := blk_frozen BK121.out 0
                                      have hfz56_1 := blk_frozen BK121.out 1
                                      have hfz56_2 := blk_frozen BK121.out 2
                                      go_wp2_with (first | ((with_reducible refine gate_builtin (b := .append) (xs := #[.tmp 94, .tmp 96]) rfl ?_); at_builtin; refine Kd.R_append k129 (w0 := w) w.heap.size rfl (.tmp 94) (.tmp 96) 51 129 (.agg #[(.string ⟨#[]⟩), (.int .i64 0), (.int .i64 0)]) 32 rfl Try.underlying51 info129 rfl (by decide) (by omega) u13 x13_2 (⟨((rd_T129 l0 t118).f0), ((rd_T129 l0 t118).f1), t123⟩ : S129) [.string ((rd_T129 l0 t118).f0), .int .i64 ((rd_T129 l0 t118).f1), .int .i64 t123] (fun k_ => k_ ≠ gb121 ∧ k_ ≠ gb125) (fun _ => False) rfl rfl ?aP (fun _ hk => hk.elim) ?aF ?aO ?aB ?aS ?aL ?_; (case aP => exact k129_mkM _ _ _ (⟨((rd_T129 l0 t118).f0), ((rd_T129 l0 t118).f1), t123⟩ : S129)); (case aB => exact (by repeat (first | (with_reducible first | exact HB.out | apply below_alloc | apply pw_below_drewN | apply below_drew1 | refine below_set ?_ GE121.out | refine below_set ?_ GE125.out) | exact HB.out))); (case aF => exact (fun k_ hk => ⟨Kd.freshB (g := gb121) (o := .cells #[.string ((rd_T129 l0 t118).f0), .int .i64 ((rd_T129 l0 t118).f1), .int .i64 t123] 129 (0, 0)) (by (with_reducible repeat (first | refine blk_drewN ?_ _ | refine blk_drew ?_ | refine blk_alloc ?_ _)); exact BK121.out) k_ hk, Kd.freshB (g := gb125) (o := .cells #[.string (a1 ++ (⟨#[98]⟩ : ByteArray)), .int .i64 ((rd_T129 l0 t118).f1), .int .i64 (wrap64 (((rd_T129 l0 t118).f2) - t123))] 129 (0, 0)) (by (with_reducible repeat (first | refine blk_drewN ?_ _ | refine blk_drew ?_ | refine blk_alloc ?_ _)); exact BK125.out) k_ hk⟩)); (case aO => exact (by (with_reducible repeat (first | apply Kd.R_alloc | apply Kd.R_drewN | apply Kd.R_drew)); exact HO_13.out)); (case aS => exact (below_size (by repeat (first | (with_reducible first | exact HB.out | apply below_alloc | apply pw_below_drewN | apply below_drew1 | refine below_set ?_ GE121.out | refine below_set ?_ GE125.out) | exact HB.out)))); (case aL => have := LMc54.out; omega); intro v141 w57 ho hb hg hat; rw [← Ny140.out] at ho; have n0_ := Aside0.mk (blk_grown (g := gb121) (o := .cells #[.string ((rd_T129 l0 t118).f0), .int .i64 ((rd_T129 l0 t118).f1), .int .i64 t123] 129 (0, 0)) (by (with_reducible repeat (first | refine blk_drewN ?_ _ | refine blk_drew ?_ | refine blk_alloc ?_ _)); exact BK121.out) hg (Kd.R_away HO_13.out (fun _ hk => hk.1))); have n1_ := Aside0.mk (blk_grown (g := gb125) (o := .cells #[.string (a1 ++ (⟨#[98]⟩ : ByteArray)), .int .i64 ((rd_T129 l0 t118).f1), .int .i64 (wrap64 (((rd_T129 l0 t118).f2) - t123))] 129 (0, 0)) (by (with_reducible repeat (first | refine blk_drewN ?_ _ | refine blk_drew ?_ | refine blk_alloc ?_ _)); exact BK125.out) hg (Kd.R_away HO_13.out (fun _ hk => hk.2))); have n2_ := Aside0.mk (hb); have n3_ := Aside0.mk (ho); clear BK121; clear BK125; clear HB; clear HO_13; have BK121 := n0_; have BK125 := n1_; have HB := n2_; have HO142 := n3_; clear n0_ n1_ n2_ n3_; clear ho hb hg hat))
                                      go_roundg kj31
                                      case measure => have := HJ6.out; have := HK2.out; have := HJ31.out; omega
                                      case rel => exact ⟨(y140), (x14_2), (wrap64 (x15_2 + 1)), (by first | rfl | (simp; done) | (simp [*]; done)), (by first | rfl | (simp; done) | (simp [*]; done)), H', ⟨by have := HJ6.out; have := HK2.out; have := HJ31.out; omega⟩, ⟨by (with_reducible repeat (first | apply Kd.R_alloc | apply Kd.R_drewN | apply Kd.R_drew)); exact HO142.out⟩, ⟨by (with_reducible repeat (first | refine blk_drewN ?_ _ | refine blk_drew ?_ | refine blk_alloc ?_ _)); exact BK121.out⟩, ⟨by (with_reducible repeat (first | refine blk_drewN ?_ _ | refine blk_drew ?_ | refine blk_alloc ?_ _)); exact BK125.out⟩, ⟨by repeat (first | (with_reducible first | exact HB.out | apply below_alloc | apply pw_below_drewN | apply below_drew1 | refine below_set ?_ GE121.out | refine below_set ?_ GE125.out) | exact HB.out)⟩⟩
                                    · rw [if_neg c54] at H
                                      exact absurd H (by simp)
                                  · rw [if_neg c53] at H
                                    have c53b0 : (x15_2 == t118) = false := beq_eq_false_iff_ne.mpr c53
                                    have c53b1 : (x15_2 != t118) = true := bne_iff_ne.mpr c53
                                    by_cases c58 : 0 ≤ x15_2
                                    · rw [if_pos c58] at H
                                      have c58b0 : decide (0 ≤ x15_2) = true := decide_eq_true c58
                                      clear c58
                                      by_cases c59 : x15_2 < (l0.length : Int)
                                      · rw [if_pos c59] at H
                                        have c59b0 : decide (x15_2 < (l0.length : Int)) = true := decide_eq_true c59
                                        clear c59
                                        by_cases c60 : x13_2.length < 4398046511104
                                        · rw [if_pos c60] at H
                                          have LMc60 := Aside0.mk c60
                                          clear c60
                                          obtain ⟨y144, hy144⟩ : ∃ y_ : List (S129), y_ = (x13_2 ++ [(⟨(rd_T129 l0 x15_2).f0, (rd_T129 l0 x15_2).f1, (rd_T129 l0 x15_2).f2⟩ : S129)]) := ⟨_, rfl⟩
                                          replace H : (spec_MovedTenant.l0 kj31 l0 t118 y144 x14_2 (wrap64 (x15_2 + 1)) ((rd_T129 l0 t118).f0) ((rd_T129 l0 t118).f1) t123 (a1 ++ (⟨#[98]⟩ : ByteArray)) ((rd_T129 l0 t118).f1) (wrap64 (((rd_T129 l0 t118).f2) - t123))) = some (r1, r2) := by first | (rw [hy144]; with_reducible exact H) | (have H2_ := (Option.bind_some _ _).symm.trans H; rw [hy144]; with_reducible exact H2_) | (have H2_ := (Option.bind_some _ _).symm.trans H; with_reducible exact H2_) | with_reducible exact H | (rw [hy144]; exact H) | exact H
                                          have Ny144 := Aside0.mk hy144
                                          clear hy144
                                          have H' := Aside0.mk H
                                          clear H
                                          have p143 : 0 ≤ (x15_2 : Int) := of_decide_eq_true (by first | (with_reducible assumption) | assumption)
                                          have q143 : x15_2 < (l0.length : Int) := of_decide_eq_true (by first | (with_reducible assumption) | assumption)
                                          obtain ⟨ad143, e143, hx143_0, hx143_1, hx143_2⟩ := at_T129 HR0.out x15_2 p143 q143
                                          obtain rfl : ad120 = ad143 := (by injection e143)
                                          replace hx143_0 := (HB.out.cell (World.block_lt_of_cell? w _ hx143_0)).trans hx143_0
                                          replace hx143_1 := (HB.out.cell (World.block_lt_of_cell? w _ hx143_1)).trans hx143_1
                                          replace hx143_2 := (HB.out.cell (World.block_lt_of_cell? w _ hx143_2)).trans hx143_2
                                          replace p143 := eq_true p143
                                          replace q143 := eq_true q143
                                          go_wp2_with (first | ((with_reducible refine gate_builtin (b := .append) (xs := #[.tmp 98, .tmp 103]) rfl ?_); at_builtin; refine Kd.R_append k129 (w0 := w) w.heap.size rfl (.tmp 98) (.tmp 103) 51 129 (.agg #[(.string ⟨#[]⟩), (.int .i64 0), (.int .i64 0)]) 32 rfl Try.underlying51 info129 rfl (by decide) (by omega) u13 x13_2 (⟨(rd_T129 l0 x15_2).f0, (rd_T129 l0 x15_2).f1, (rd_T129 l0 x15_2).f2⟩ : S129) [.string ((rd_T129 l0 x15_2).f0), .int .i64 ((rd_T129 l0 x15_2).f1), .int .i64 ((rd_T129 l0 x15_2).f2)] (fun k_ => k_ ≠ gb121 ∧ k_ ≠ gb125) (fun _ => False) rfl rfl ?aP (fun _ hk => hk.elim) ?aF ?aO ?aB ?aS ?aL ?_; (case aP => exact k129_mkM _ _ _ (⟨(rd_T129 l0 x15_2).f0, (rd_T129 l0 x15_2).f1, (rd_T129 l0 x15_2).f2⟩ : S129)); (case aB => exact (by repeat (first | (with_reducible first | exact HB.out | apply below_alloc | apply pw_below_drewN | apply below_drew1 | refine below_set ?_ GE121.out | refine below_set ?_ GE125.out) | exact HB.out))); (case aF => exact (fun k_ hk => ⟨Kd.freshB (g := gb121) (o := .cells #[.string ((rd_T129 l0 t118).f0), .int .i64 ((rd_T129 l0 t118).f1), .int .i64 t123] 129 (0, 0)) (by (with_reducible repeat (first | refine blk_drewN ?_ _ | refine blk_drew ?_ | refine blk_alloc ?_ _)); exact BK121.out) k_ hk, Kd.freshB (g := gb125) (o := .cells #[.string (a1 ++ (⟨#[98]⟩ : ByteArray)), .int .i64 ((rd_T129 l0 t118).f1), .int .i64 (wrap64 (((rd_T129 l0 t118).f2) - t123))] 129 (0, 0)) (by (with_reducible repeat (first | refine blk_drewN ?_ _ | refine blk_drew ?_ | refine blk_alloc ?_ _)); exact BK125.out) k_ hk⟩)); (case aO => exact (by (with_reducible repeat (first | apply Kd.R_alloc | apply Kd.R_drewN | apply Kd.R_drew)); exact HO_13.out)); (case aS => exact (below_size (by repeat (first | (with_reducible first | exact HB.out | apply below_alloc | apply pw_below_drewN | apply below_drew1 | refine below_set ?_ GE121.out | refine below_set ?_ GE125.out) | exact HB.out)))); (case aL => have := LMc60.out; omega); intro v145 w61 ho hb hg hat; rw [← Ny144.out] at ho; have n0_ := Aside0.mk (blk_grown (g := gb121) (o := .cells #[.string ((rd_T129 l0 t118).f0), .int .i64 ((rd_T129 l0 t118).f1), .int .i64 t123] 129 (0, 0)) (by (with_reducible repeat (first | refine blk_drewN ?_ _ | refine blk_drew ?_ | refine blk_alloc ?_ _)); exact BK121.out) hg (Kd.R_away HO_13.out (fun _ hk => hk.1))); have n1_ := Aside0.mk (blk_grown (g := gb125) (o := .cells #[.string (a1 ++ (⟨#[98]⟩ : ByteArray)), .int .i64 ((rd_T129 l0 t118).f1), .int .i64 (wrap64 (((rd_T129 l0 t118).f2) - t123))] 129 (0, 0)) (by (with_reducible repeat (first | refine blk_drewN ?_ _ | refine blk_drew ?_ | refine blk_alloc ?_ _)); exact BK125.out) hg (Kd.R_away HO_13.out (fun _ hk => hk.2))); have n2_ := Aside0.mk (hb); have n3_ := Aside0.mk (ho); clear BK121; clear BK125; clear HB; clear HO_13; have BK121 := n0_; have BK125 := n1_; have HB := n2_; have HO146 := n3_; clear n0_ n1_ n2_ n3_; clear ho hb hg hat))
                                          go_roundg kj31
                                          case measure => have := HJ6.out; have := HK2.out; have := HJ31.out; omega
                                          case rel => exact ⟨(y144), (x14_2), (wrap64 (x15_2 + 1)), (by first | rfl | (simp; done) | (simp [*]; done)), (by first | rfl | (simp; done) | (simp [*]; done)), H', ⟨by have := HJ6.out; have := HK2.out; have := HJ31.out; omega⟩, ⟨by (with_reducible repeat (first | apply Kd.R_alloc | apply Kd.R_drewN | apply Kd.R_drew)); exact HO146.out⟩, ⟨by (with_reducible repeat (first | refine blk_drewN ?_ _ | refine blk_drew ?_ | refine blk_alloc ?_ _)); exact BK121.out⟩, ⟨by (with_reducible repeat (first | refine blk_drewN ?_ _ | refine blk_drew ?_ | refine blk_alloc ?_ _)); exact BK125.out⟩, ⟨by repeat (first | (with_reducible first | exact HB.out | apply below_alloc | apply pw_below_drewN | apply below_drew1 | refine below_set ?_ GE121.out | refine below_set ?_ GE125.out) | exact HB.out)⟩⟩
                                        · rw [if_neg c60] at H
                                          exact absurd H (by simp)
                                      · rw [if_neg c59] at H
                                        exact absurd H (by simp)
                                    · rw [if_neg c58] at H
                                      exact absurd H (by simp)
                          · as_aux_lemma =>
                            rw [if_neg c31] at H
                            have c31b0 : decide (x15_2 < (l0.length : Int)) = false := decide_eq_false c31
                            clear c31
                            by_cases c62 : x14_2 = true
                            · subst c62
                              have H1 : ((spec_l22Ok.f k2 x13_2).bind fun t147 => (if t147 = true then (some (x13_2, 0)) else (some (([] : List (S129)), 6)))) = some (r1, r2) := by rw [if_pos rfl] at H; exact H
                              clear H
                              have H := H1
                              clear H1
                              replace H := Option.bind_eq_some_iff.mp H
                              obtain ⟨t147, A630, H⟩ := H
                              replace H : (if t147 = true then (some (x13_2, 0)) else (some (([] : List (S129)), 6))) = some (r1, r2) := H
                              have A63 := Aside0.mk A630
                              clear A630
                              by_cases c64 : t147 = true
                              · subst c64
                                have H1 : (some (x13_2, 0)) = some (r1, r2) := by rw [if_pos rfl] at H; exact H
                                clear H
                                have H := H1
                                clear H1
                                simp only [Option.some.injEq, Prod.mk.injEq] at H
                                obtain ⟨rfl, rfl⟩ := H
                                obtain ⟨Ao65, co65, eo65⟩ := Kd.R_slice HO_13.out
                                subst eo65
                                go_wp2_with (first | ((with_reducible refine gate_callee (f := 93) rfl ?_); refine goesL_ (some 112) rfl rfl Try.func93 (by kernel_rfl) rfl #[.slice Ao65 x13_2.length co65] rfl (by (try simp only [List.map_toArray, List.map_cons, List.map_nil]); first | done | rfl | (simp only [List.length_drop, List.length_take]; rfl)) ?_; (with_reducible refine (spec_l22Ok.calls k2 _ _ x13_2 true _ ?side1 ?side2 A63.out).mono ?_); (case side1 => repeat (first | exact (Kd.R_reads' HO_13.out).2.2 | (with_reducible refine Kd.C_alloc ?_ _) | (with_reducible refine Kd.C_drewN ?_ _) | (with_reducible refine Kd.C_drew ?_))); (case side2 => exact (Kd.R_reads' HO_13.out).2.1); rintro e w' ⟨rfl, ⟨nd, rfl⟩⟩; refine ⟨_, rfl, ?_⟩))
                                go_ret2
                                exact ⟨_, by first | rfl | (simp [errW_none, errW_some] <;> rfl) | (simp [*, errW_none, errW_some] <;> rfl), by (with_reducible repeat (first | apply Kd.R_alloc | apply Kd.R_drewN | apply Kd.R_drew)); exact Kd.R_mono HO_13.out (fun _ hk => trivial), by repeat (first | (with_reducible first | exact HB.out | apply below_alloc | apply pw_below_drewN | apply below_drew1 | refine below_set ?_ GE121.out | refine below_set ?_ GE125.out) | exact HB.out)⟩
                              · replace c64 := Bool.eq_false_iff.mpr c64
                                subst c64
                                have H1 : (some (([] : List (S129)), 6)) = some (r1, r2) := by rw [if_neg (show ¬ (false = true) by decide)] at H; exact H
                                clear H
                                have H := H1
                                clear H1
                                simp only [Option.some.injEq, Prod.mk.injEq] at H
                                obtain ⟨rfl, rfl⟩ := H
                                obtain ⟨Ao66, co66, eo66⟩ := Kd.R_slice HO_13.out
                                subst eo66
                                go_wp2_with (first | ((with_reducible refine gate_callee (f := 93) rfl ?_); refine goesL_ (some 112) rfl rfl Try.func93 (by kernel_rfl) rfl #[.slice Ao66 x13_2.length co66] rfl (by (try simp only [List.map_toArray, List.map_cons, List.map_nil]); first | done | rfl | (simp only [List.length_drop, List.length_take]; rfl)) ?_; (with_reducible refine (spec_l22Ok.calls k2 _ _ x13_2 false _ ?side1 ?side2 A63.out).mono ?_); (case side1 => repeat (first | exact (Kd.R_reads' HO_13.out).2.2 | (with_reducible refine Kd.C_alloc ?_ _) | (with_reducible refine Kd.C_drewN ?_ _) | (with_reducible refine Kd.C_drew ?_))); (case side2 => exact (Kd.R_reads' HO_13.out).2.1); rintro e w' ⟨rfl, ⟨nd, rfl⟩⟩; refine ⟨_, rfl, ?_⟩))
                                go_ret2
                                exact ⟨_, by first | rfl | (simp [errW_none, errW_some] <;> rfl) | (simp [*, errW_none, errW_some] <;> rfl), by first | exact Kd.R_nil _ _ _ _ _ | exact Kd.N_nil _ _ _ _ _ | exact Kd.V_nil _ _ _ _ _ | exact Kd.Q_nil _ _ _ _ _ | exact Kd.S_nil _ _ _ _ _, by repeat (first | (with_reducible first | exact HB.out | apply below_alloc | apply pw_below_drewN | apply below_drew1 | refine below_set ?_ GE121.out | refine below_set ?_ GE125.out) | exact HB.out)⟩
                            · replace c62 := Bool.eq_false_iff.mpr c62
                              subst c62
                              have H1 : (if x13_2.length < 4398046511104 then ((some (x13_2 ++ [(⟨(a1 ++ (⟨#[98]⟩ : ByteArray)), ((rd_T129 l0 t118).f1), (wrap64 (((rd_T129 l0 t118).f2) - t123))⟩ : S129)] : List (S129))).bind fun y148 => ((spec_l22Ok.f k2 y148).bind fun t151 => (if t151 = true then (some (y148, 0)) else (some (([] : List (S129)), 6))))) else (none)) = some (r1, r2) := by rw [if_neg (show ¬ (false = true) by decide)] at H; exact H
                              clear H
                              have H := H1
                              clear H1
                              by_cases c67 : x13_2.length < 4398046511104
                              · rw [if_pos c67] at H
                                have LMc67 := Aside0.mk c67
                                clear c67
                                obtain ⟨y148, hy148⟩ : ∃ y_ : List (S129), y_ = (x13_2 ++ [(⟨(a1 ++ (⟨#[98]⟩ : ByteArray)), ((rd_T129 l0 t118).f1), (wrap64 (((rd_T129 l0 t118).f2) - t123))⟩ : S129)]) := ⟨_, rfl⟩
                                replace H : ((spec_l22Ok.f k2 y148).bind fun t151 => (if t151 = true then (some (y148, 0)) else (some (([] : List (S129)), 6)))) = some (r1, r2) := by first | (rw [hy148]; with_reducible exact H) | (have H2_ := (Option.bind_some _ _).symm.trans H; rw [hy148]; with_reducible exact H2_) | (have H2_ := (Option.bind_some _ _).symm.trans H; with_reducible exact H2_) | with_reducible exact H | (rw [hy148]; exact H) | exact H
                                have Ny148 := Aside0.mk hy148
                                clear hy148
                                replace H := Option.bind_eq_some_iff.mp H
                                obtain ⟨t151, A680, H⟩ := H
                                replace H : (if t151 = true then (some (y148, 0)) else (some (([] : List (S129)), 6))) = some (r1, r2) := H
                                have A68 := Aside0.mk A680
                                clear A680
                                by_cases c69 : t151 = true
                                · subst c69
                                  have H1 : (some (y148, 0)) = some (r1, r2) := by rw [if_pos rfl] at H; exact H
                                  clear H
                                  have H := H1
                                  clear H1
                                  simp only [Option.some.injEq, Prod.mk.injEq] at H
                                  obtain ⟨rfl, rfl⟩ := H
                                  have hnb70 := NB125_121.out
                                  have hnc70 := NB121_125.out
                                  have hcz71_0 : wr.cell? ⟨gb125, 0, none⟩ = some (.string (a1 ++ (⟨#[98]⟩ : ByteArray))) := (blk_cell BK125.out 0).trans rfl
                                  have hcz71_1 : wr.cell? ⟨gb125, 1, none⟩ = some (.int .i64 ((rd_T129 l0 t118).f1)) := (blk_cell BK125.out 1).trans rfl
                                  have hcz71_2 : wr.cell? ⟨gb125, 2, none⟩ = some (.int .i64 (wrap64 (((rd_T129 l0 t118).f2) - t123))) := (blk_cell BK125.out 2).trans rfl
                                  have hfz71_0 := blk_frozen BK125.out 0
                                  have hfz71_1 := blk_frozen BK125.out 1
                                  have hfz71_2 := blk_frozen BK125.out 2
                                  go_wp2_with (first | ((with_reducible refine gate_builtin (b := .append) (xs := #[.tmp 107, .tmp 109]) rfl ?_); at_builtin; refine Kd.R_append k129 (w0 := w) w.heap.size rfl (.tmp 107) (.tmp 109) 51 129 (.agg #[(.string ⟨#[]⟩), (.int .i64 0), (.int .i64 0)]) 32 rfl Try.underlying51 info129 rfl (by decide) (by omega) u13 x13_2 (⟨(a1 ++ (⟨#[98]⟩ : ByteArray)), ((rd_T129 l0 t118).f1), (wrap64 (((rd_T129 l0 t118).f2) - t123))⟩ : S129) [.string (a1 ++ (⟨#[98]⟩ : ByteArray)), .int .i64 ((rd_T129 l0 t118).f1), .int .i64 (wrap64 (((rd_T129 l0 t118).f2) - t123))] (fun k_ => k_ ≠ gb121 ∧ k_ ≠ gb125) (fun _ => False) rfl rfl ?aP (fun _ hk => hk.elim) ?aF ?aO ?aB ?aS ?aL ?_; (case aP => exact k129_mkM _ _ _ (⟨(a1 ++ (⟨#[98]⟩ : ByteArray)), ((rd_T129 l0 t118).f1), (wrap64 (((rd_T129 l0 t118).f2) - t123))⟩ : S129)); (case aB => exact (by repeat (first | (with_reducible first | exact HB.out | apply below_alloc | apply pw_below_drewN | apply below_drew1 | refine below_set ?_ GE121.out | refine below_set ?_ GE125.out) | exact HB.out))); (case aF => exact (fun k_ hk => ⟨Kd.freshB (g := gb121) (o := .cells #[.string ((rd_T129 l0 t118).f0), .int .i64 ((rd_T129 l0 t118).f1), .int .i64 t123] 129 (0, 0)) (by (with_reducible repeat (first | refine blk_drewN ?_ _ | refine blk_drew ?_ | refine blk_alloc ?_ _)); exact BK121.out) k_ hk, Kd.freshB (g := gb125) (o := .cells #[.string (a1 ++ (⟨#[98]⟩ : ByteArray)), .int .i64 ((rd_T129 l0 t118).f1), .int .i64 (wrap64 (((rd_T129 l0 t118).f2) - t123))] 129 (0, 0)) (by (with_reducible repeat (first | refine blk_drewN ?_ _ | refine blk_drew ?_ | refine blk_alloc ?_ _)); exact BK125.out) k_ hk⟩)); (case aO => exact (by (with_reducible repeat (first | apply Kd.R_alloc | apply Kd.R_drewN | apply Kd.R_drew)); exact HO_13.out)); (case aS => exact (below_size (by repeat (first | (with_reducible first | exact HB.out | apply below_alloc | apply pw_below_drewN | apply below_drew1 | refine below_set ?_ GE121.out | refine below_set ?_ GE125.out) | exact HB.out)))); (case aL => have := LMc67.out; omega); intro v149 w72 ho hb hg hat; rw [← Ny148.out] at ho; have n0_ := Aside0.mk (blk_grown (g := gb121) (o := .cells #[.string ((rd_T129 l0 t118).f0), .int .i64 ((rd_T129 l0 t118).f1), .int .i64 t123] 129 (0, 0)) (by (with_reducible repeat (first | refine blk_drewN ?_ _ | refine blk_drew ?_ | refine blk_alloc ?_ _)); exact BK121.out) hg (Kd.R_away HO_13.out (fun _ hk => hk.1))); have n1_ := Aside0.mk (blk_grown (g := gb125) (o := .cells #[.string (a1 ++ (⟨#[98]⟩ : ByteArray)), .int .i64 ((rd_T129 l0 t118).f1), .int .i64 (wrap64 (((rd_T129 l0 t118).f2) - t123))] 129 (0, 0)) (by (with_reducible repeat (first | refine blk_drewN ?_ _ | refine blk_drew ?_ | refine blk_alloc ?_ _)); exact BK125.out) hg (Kd.R_away HO_13.out (fun _ hk => hk.2))); have n2_ := Aside0.mk (hb); have n3_ := Aside0.mk (ho); clear BK121; clear BK125; clear HB; clear HO_13; have BK121 := n0_; have BK125 := n1_; have HB := n2_; have HO150 := n3_; clear n0_ n1_ n2_ n3_; clear ho hb hg hat; obtain ⟨Ao73, co73, eo73⟩ := Kd.R_slice HO150.out; subst eo73) | ((with_reducible refine gate_callee (f := 93) rfl ?_); refine goesL_ (some 112) rfl rfl Try.func93 (by kernel_rfl) rfl #[.slice Ao73 y148.length co73] rfl (by (try simp only [List.map_toArray, List.map_cons, List.map_nil]); first | done | rfl | (simp only [List.length_drop, List.length_take]; rfl)) ?_; (with_reducible refine (spec_l22Ok.calls k2 _ _ y148 true _ ?side1 ?side2 A68.out).mono ?_); (case side1 => repeat (first | exact (Kd.R_reads' HO150.out).2.2 | (with_reducible refine Kd.C_alloc ?_ _) | (with_reducible refine Kd.C_drewN ?_ _) | (with_reducible refine Kd.C_drew ?_))); (case side2 => exact (Kd.R_reads' HO150.out).2.1); rintro e w' ⟨rfl, ⟨nd, rfl⟩⟩; refine ⟨_, rfl, ?_⟩))
                                  go_ret2
                                  exact ⟨_, by first | rfl | (simp [errW_none, errW_some] <;> rfl) | (simp [*, errW_none, errW_some] <;> rfl), by (with_reducible repeat (first | apply Kd.R_alloc | apply Kd.R_drewN | apply Kd.R_drew)); exact Kd.R_mono HO150.out (fun _ hk => trivial), by repeat (first | (with_reducible first | exact HB.out | apply below_alloc | apply pw_below_drewN | apply below_drew1 | refine below_set ?_ GE121.out | refine below_set ?_ GE125.out) | exact HB.out)⟩
                                · replace c69 := Bool.eq_false_iff.mpr c69
                                  subst c69
                                  have H1 : (some (([] : List (S129)), 6)) = some (r1, r2) := by rw [if_neg (show ¬ (false = true) by decide)] at H; exact H
                                  clear H
                                  have H := H1
                                  clear H1
                                  simp only [Option.some.injEq, Prod.mk.injEq] at H
                                  obtain ⟨rfl, rfl⟩ := H
                                  have hnb74 := NB125_121.out
                                  have hnc74 := NB121_125.out
                                  have hcz75_0 : wr.cell? ⟨gb125, 0, none⟩ = some (.string (a1 ++ (⟨#[98]⟩ : ByteArray))) := (blk_cell BK125.out 0).trans rfl
                                  have hcz75_1 : wr.cell? ⟨gb125, 1, none⟩ = some (.int .i64 ((rd_T129 l0 t118).f1)) := (blk_cell BK125.out 1).trans rfl
                                  have hcz75_2 : wr.cell? ⟨gb125, 2, none⟩ = some (.int .i64 (wrap64 (((rd_T129 l0 t118).f2) - t123))) := (blk_cell BK125.out 2).trans rfl
                                  have hfz75_0 := blk_frozen BK125.out 0
                                  have hfz75_1 := blk_frozen BK125.out 1
                                  have hfz75_2 := blk_frozen BK125.out 2
                                  go_wp2_with (first | ((with_reducible refine gate_builtin (b := .append) (xs := #[.tmp 107, .tmp 109]) rfl ?_); at_builtin; refine Kd.R_append k129 (w0 := w) w.heap.size rfl (.tmp 107) (.tmp 109) 51 129 (.agg #[(.string ⟨#[]⟩), (.int .i64 0), (.int .i64 0)]) 32 rfl Try.underlying51 info129 rfl (by decide) (by omega) u13 x13_2 (⟨(a1 ++ (⟨#[98]⟩ : ByteArray)), ((rd_T129 l0 t118).f1), (wrap64 (((rd_T129 l0 t118).f2) - t123))⟩ : S129) [.string (a1 ++ (⟨#[98]⟩ : ByteArray)), .int .i64 ((rd_T129 l0 t118).f1), .int .i64 (wrap64 (((rd_T129 l0 t118).f2) - t123))] (fun k_ => k_ ≠ gb121 ∧ k_ ≠ gb125) (fun _ => False) rfl rfl ?aP (fun _ hk => hk.elim) ?aF ?aO ?aB ?aS ?aL ?_; (case aP => exact k129_mkM _ _ _ (⟨(a1 ++ (⟨#[98]⟩ : ByteArray)), ((rd_T129 l0 t118).f1), (wrap64 (((rd_T129 l0 t118).f2) - t123))⟩ : S129)); (case aB => exact (by repeat (first | (with_reducible first | exact HB.out | apply below_alloc | apply pw_below_drewN | apply below_drew1 | refine below_set ?_ GE121.out | refine below_set ?_ GE125.out) | exact HB.out))); (case aF => exact (fun k_ hk => ⟨Kd.freshB (g := gb121) (o := .cells #[.string ((rd_T129 l0 t118).f0), .int .i64 ((rd_T129 l0 t118).f1), .int .i64 t123] 129 (0, 0)) (by (with_reducible repeat (first | refine blk_drewN ?_ _ | refine blk_drew ?_ | refine blk_alloc ?_ _)); exact BK121.out) k_ hk, Kd.freshB (g := gb125) (o := .cells #[.string (a1 ++ (⟨#[98]⟩ : ByteArray)), .int .i64 ((rd_T129 l0 t118).f1), .int .i64 (wrap64 (((rd_T129 l0 t118).f2) - t123))] 129 (0, 0)) (by (with_reducible repeat (first | refine blk_drewN ?_ _ | refine blk_drew ?_ | refine blk_alloc ?_ _)); exact BK125.out) k_ hk⟩)); (case aO => exact (by (with_reducible repeat (first | apply Kd.R_alloc | apply Kd.R_drewN | apply Kd.R_drew)); exact HO_13.out)); (case aS => exact (below_size (by repeat (first | (with_reducible first | exact HB.out | apply below_alloc | apply pw_below_drewN | apply below_drew1 | refine below_set ?_ GE121.out | refine below_set ?_ GE125.out) | exact HB.out)))); (case aL => have := LMc67.out; omega); intro v149 w76 ho hb hg hat; rw [← Ny148.out] at ho; have n0_ := Aside0.mk (blk_grown (g := gb121) (o := .cells #[.string ((rd_T129 l0 t118).f0), .int .i64 ((rd_T129 l0 t118).f1), .int .i64 t123] 129 (0, 0)) (by (with_reducible repeat (first | refine blk_drewN ?_ _ | refine blk_drew ?_ | refine blk_alloc ?_ _)); exact BK121.out) hg (Kd.R_away HO_13.out (fun _ hk => hk.1))); have n1_ := Aside0.mk (blk_grown (g := gb125) (o := .cells #[.string (a1 ++ (⟨#[98]⟩ : ByteArray)), .int .i64 ((rd_T129 l0 t118).f1), .int .i64 (wrap64 (((rd_T129 l0 t118).f2) - t123))] 129 (0, 0)) (by (with_reducible repeat (first | refine blk_drewN ?_ _ | refine blk_drew ?_ | refine blk_alloc ?_ _)); exact BK125.out) hg (Kd.R_away HO_13.out (fun _ hk => hk.2))); have n2_ := Aside0.mk (hb); have n3_ := Aside0.mk (ho); clear BK121; clear BK125; clear HB; clear HO_13; have BK121 := n0_; have BK125 := n1_; have HB := n2_; have HO150 := n3_; clear n0_ n1_ n2_ n3_; clear ho hb hg hat; obtain ⟨Ao77, co77, eo77⟩ := Kd.R_slice HO150.out; subst eo77) | ((with_reducible refine gate_callee (f := 93) rfl ?_); refine goesL_ (some 112) rfl rfl Try.func93 (by kernel_rfl) rfl #[.slice Ao77 y148.length co77] rfl (by (try simp only [List.map_toArray, List.map_cons, List.map_nil]); first | done | rfl | (simp only [List.length_drop, List.length_take]; rfl)) ?_; (with_reducible refine (spec_l22Ok.calls k2 _ _ y148 false _ ?side1 ?side2 A68.out).mono ?_); (case side1 => repeat (first | exact (Kd.R_reads' HO150.out).2.2 | (with_reducible refine Kd.C_alloc ?_ _) | (with_reducible refine Kd.C_drewN ?_ _) | (with_reducible refine Kd.C_drew ?_))); (case side2 => exact (Kd.R_reads' HO150.out).2.1); rintro e w' ⟨rfl, ⟨nd, rfl⟩⟩; refine ⟨_, rfl, ?_⟩))
                                  go_ret2
                                  exact ⟨_, by first | rfl | (simp [errW_none, errW_some] <;> rfl) | (simp [*, errW_none, errW_some] <;> rfl), by first | exact Kd.R_nil _ _ _ _ _ | exact Kd.N_nil _ _ _ _ _ | exact Kd.V_nil _ _ _ _ _ | exact Kd.Q_nil _ _ _ _ _ | exact Kd.S_nil _ _ _ _ _, by repeat (first | (with_reducible first | exact HB.out | apply below_alloc | apply pw_below_drewN | apply below_drew1 | refine below_set ?_ GE121.out | refine below_set ?_ GE125.out) | exact HB.out)⟩
                              · rw [if_neg c67] at H
                                exact absurd H (by simp)
                    · rw [if_neg c19] at H
                      exact absurd H (by simp)
                  · rw [if_neg c18] at H
                    exact absurd H (by simp)
            · rw [if_neg c14] at H
              exact absurd H (by simp)
  · replace c6 := Bool.eq_false_iff.mpr c6
    subst c6
    have H1 : (some (([] : List (S129)), 1)) = some (r1, r2) := by rw [if_neg (show ¬ (false = true) by decide)] at H; exact H
    clear H
    have H := H1
    clear H1
    simp only [Option.some.injEq, Prod.mk.injEq] at H
    obtain ⟨rfl, rfl⟩ := H
    go_enter Try.func30, Try.ntmps30
    go_wp2_with (first | ((with_reducible refine gate_callee (f := 93) rfl ?_); refine goesL_ (some 17) rfl rfl Try.func93 (by kernel_rfl) rfl #[.slice A0 l0.length c0] rfl (by (try simp only [List.map_toArray, List.map_cons, List.map_nil]); first | done | rfl | (simp only [List.length_drop, List.length_take]; rfl)) ?_; (with_reducible refine (spec_l22Ok.calls k _ _ l0 false _ ?side1 ?side2 A5.out).mono ?_); (case side1 => repeat (first | exact HR0.out | (with_reducible refine Kd.C_alloc ?_ _) | (with_reducible refine Kd.C_drewN ?_ _) | (with_reducible refine Kd.C_drew ?_))); (case side2 => exact HC0.out); rintro e w' ⟨rfl, ⟨nd, rfl⟩⟩; refine ⟨_, rfl, ?_⟩))
    go_ret2
    exact ⟨_, by first | rfl | (simp [errW_none, errW_some] <;> rfl) | (simp [*, errW_none, errW_some] <;> rfl), by first | exact Kd.R_nil _ _ _ _ _ | exact Kd.N_nil _ _ _ _ _ | exact Kd.V_nil _ _ _ _ _ | exact Kd.Q_nil _ _ _ _ _ | exact Kd.S_nil _ _ _ _ _, by repeat (first | (with_reducible first | exact HB.out | apply below_alloc | apply pw_below_drewN | apply below_drew1) | exact HB.out)⟩

end Go.Proofs.Ytjccjmjnlblhaaa.QMovedTenant
