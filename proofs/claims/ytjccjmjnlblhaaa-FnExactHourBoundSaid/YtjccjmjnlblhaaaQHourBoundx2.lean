-- Written by press.py, a program of this session, round the kit's print.py (functions and contracts; Lean checks them).
import Derived.Test.YtjccjmjnlblhaaaQHourBoundx0
import Derived.Test.YtjccjmjnlblhaaaQHourBoundx1
namespace Go.Proofs.Ytjccjmjnlblhaaa.QHourBound
open Go.Proofs.Ytjccjmjnlblhaaa.QWords
attribute [local go_sem high] binOp_string_geq_q binOp_string_leq_q binOp_string_gtr_q
open Go.RowKit Go.Proofs.YtjccjmjnlblhaaaW.PrintWords Go.Proofs.YtjccjmjnlblhaaaW.PrintLast Go.Proofs.YtjccjmjnlblhaaaW.PrintMore
attribute [local go_sem] max2_int min2_int max_two min_two max_three min_three max_four min_four   -- for this text's walks alone
set_option linter.unusedVariables false
set_option linter.unusedSimpArgs false

/-! ### spec_l01Digit: function 188 -/
def spec_l01Digit.f (a0 : Int) : Option (Bool) := if a0 ≥ 48 then (some (decide (a0 ≤ 57))) else (some false)
set_option maxHeartbeats 8000000 in
set_option maxRecDepth 100000 in
theorem spec_l01Digit.calls (a0 : Int) (r : Bool) (w : World) (h : spec_l01Digit.f a0 = some r) :
    Calls Try.prog 188 #[.int .u8 a0] w fun e w' => e = .returned (.bool r) ∧ Drawn0 w w' := by
  have H : (if a0 ≥ 48 then (some (decide (a0 ≤ 57))) else (some false)) = some r := h
  clear h
  by_cases c2 : a0 ≥ 48
  · rw [if_pos c2] at H
    have c2b0 : decide (48 ≤ a0) = true := decide_eq_true c2
    clear c2
    obtain rfl := Option.some.inj H
    go_enter Try.func188, Try.ntmps188
    go_wp2
    go_ret
    exact ⟨by first | rfl | (simp; done) | (simp [*]; done), by repeat (first | exact Drawn0.refl _ | apply Drawn0.step)⟩
  · rw [if_neg c2] at H
    have c2b0 : decide (48 ≤ a0) = false := decide_eq_false c2
    clear c2
    obtain rfl := Option.some.inj H
    go_enter Try.func188, Try.ntmps188
    go_wp2
    go_ret
    exact ⟨by first | rfl | (simp; done) | (simp [*]; done), by repeat (first | exact Drawn0.refl _ | apply Drawn0.step)⟩

/-! ### spec_l01Name: function 153 -/
mutual
def spec_l01Name.j0 : Nat → ByteArray → Bool → Option (Bool)
  | 0, _, _ => none
  | k + 1, x0, x16 => if x16 = true then (some false) else (spec_l01Name.l0 k x0 0)
def spec_l01Name.l0 : Nat → ByteArray → Int → Option (Bool)
  | 0, _, _ => none
  | k + 1, x0, x3 => if x3 < (x0.size : Int) then (if 0 ≤ x3 then ((spec_l01Small.f (bt x0 x3)).bind fun t125 => (if t125 = true then (spec_l01Name.l0 k x0 (wrap64 (x3 + 1))) else ((spec_l01Digit.f (bt x0 x3)).bind fun t126 => (if t126 = true then (spec_l01Name.l0 k x0 (wrap64 (x3 + 1))) else (some false))))) else (none)) else (some true)
end
def spec_l01Name.f (k : Nat) (a0 : ByteArray) : Option (Bool) := if a0.toList = ([] : List UInt8) then (spec_l01Name.j0 k a0 true) else (if (a0.size : Int) > 10 then (spec_l01Name.j0 k a0 true) else (if 0 < (a0.size : Int) then ((spec_l01Small.f (bt a0 0)).bind fun t124 => (spec_l01Name.j0 k a0 (!t124))) else (none)))
theorem spec_l01Name.mono_l : ∀ k, (∀ y0 y1, LeO (spec_l01Name.j0 k y0 y1) (spec_l01Name.j0 (k + 1) y0 y1)) ∧ (∀ y0 y1, LeO (spec_l01Name.l0 k y0 y1) (spec_l01Name.l0 (k + 1) y0 y1))
  | 0 => ⟨fun _ _ r h => by simp [spec_l01Name.j0] at h, fun _ _ r h => by simp [spec_l01Name.l0] at h⟩
  | k + 1 => by
    obtain ⟨ih0, ih1⟩ := spec_l01Name.mono_l k
    refine ⟨?_, ?_⟩
    · intro y0 y1
      unfold spec_l01Name.j0
      repeat' first
      | (with_reducible exact ih0 _ _)
      | (with_reducible exact ih1 _ _)
      | (with_reducible exact LeO.refl _)
      | (with_reducible exact LeO.none _)
      | (with_reducible refine LeO.ite ?_ ?_)
      | (with_reducible refine LeO.bind ?_ (fun _ => ?_))
      | exact ih0 _ _
      | exact ih1 _ _
      | exact LeO.none _
      | refine LeO.ite ?_ ?_
      | refine LeO.bind ?_ (fun _ => ?_)
    · intro y0 y1
      unfold spec_l01Name.l0
      repeat' first
      | (with_reducible exact ih0 _ _)
      | (with_reducible exact ih1 _ _)
      | (with_reducible exact LeO.refl _)
      | (with_reducible exact LeO.none _)
      | (with_reducible refine LeO.ite ?_ ?_)
      | (with_reducible refine LeO.bind ?_ (fun _ => ?_))
      | exact ih0 _ _
      | exact ih1 _ _
      | exact LeO.none _
      | refine LeO.ite ?_ ?_
      | refine LeO.bind ?_ (fun _ => ?_)
theorem spec_l01Name.mono : ∀ a0 k, LeO (spec_l01Name.f k a0) (spec_l01Name.f (k + 1) a0) := by
  intro a0 k
  obtain ⟨ih0, ih1⟩ := spec_l01Name.mono_l k
  unfold spec_l01Name.f
  repeat' first
      | (with_reducible exact ih0 _ _)
      | (with_reducible exact ih1 _ _)
      | (with_reducible exact LeO.refl _)
      | (with_reducible exact LeO.none _)
      | (with_reducible refine LeO.ite ?_ ?_)
      | (with_reducible refine LeO.bind ?_ (fun _ => ?_))
      | exact ih0 _ _
      | exact ih1 _ _
      | exact LeO.none _
      | refine LeO.ite ?_ ?_
      | refine LeO.bind ?_ (fun _ => ?_)
set_option maxHeartbeats 8000000 in
set_option maxRecDepth 100000 in
theorem spec_l01Name.calls (k : Nat) (a0 : ByteArray) (r : Bool) (w : World) (h : spec_l01Name.f k a0 = some r) :
    Calls Try.prog 153 #[.string a0] w fun e w' => e = .returned (.bool r) ∧ Drawn0 w w' := by
  have H : (if a0.toList = ([] : List UInt8) then (spec_l01Name.j0 k a0 true) else (if (a0.size : Int) > 10 then (spec_l01Name.j0 k a0 true) else (if 0 < (a0.size : Int) then ((spec_l01Small.f (bt a0 0)).bind fun t124 => (spec_l01Name.j0 k a0 (!t124))) else (none)))) = some r := h
  clear h
  have HC2 := Aside0.mk H
  clear H
  go_enter Try.func153, Try.ntmps153
  go_upto_region 1 with (fail)
  go_cut [16] (fun v16 wc => ∃ (kq : Nat) (x16_1 : Bool), v16 = .bool x16_1 ∧ Aside0 (spec_l01Name.j0 kq a0 x16_1 = some r) ∧ Aside0 (kq ≤ k) ∧ Drawn0 w wc)
  case first =>
    have H := HC2.out
    clear HC2
    by_cases c3 : a0.toList = ([] : List UInt8)
    · rw [if_pos c3] at H
      have c3b0 : (a0.toList == ([] : List UInt8)) = true := beq_iff_eq.mpr c3
      have c3b1 : (a0.toList != ([] : List UInt8)) = false := bne_eq_false_iff_eq.mpr c3
      clear c3
      (first | rw [c3b0] | (simp only [i64_w, i32_w]; rw [c3b0]) | skip)
      have H' := Aside0.mk H
      clear H
      go_wp2
      go_meet
      case rel => exact ⟨_, (true), (by first | rfl | (simp; done) | (simp [*]; done)), H', ⟨by first | omega | exact Nat.le_refl _⟩, by repeat (first | exact Drawn0.refl _ | apply Drawn0.step)⟩
    · rw [if_neg c3] at H
      have c3b0 : (a0.toList == ([] : List UInt8)) = false := beq_eq_false_iff_ne.mpr c3
      have c3b1 : (a0.toList != ([] : List UInt8)) = true := bne_iff_ne.mpr c3
      (first | rw [c3b0] | (simp only [i64_w, i32_w]; rw [c3b0]) | skip)
      by_cases c4 : (a0.size : Int) > 10
      · rw [if_pos c4] at H
        have c4b0 : decide (10 < (a0.size : Int)) = true := decide_eq_true c4
        have c4b1 : decide (10 < a0.size) = true := decide_eq_true (by omega)
        clear c4
        have H' := Aside0.mk H
        clear H
        go_wp2
        go_meet
        case rel => exact ⟨_, (true), (by first | rfl | (simp; done) | (simp [*]; done)), H', ⟨by first | omega | exact Nat.le_refl _⟩, by repeat (first | exact Drawn0.refl _ | apply Drawn0.step)⟩
      · rw [if_neg c4] at H
        have c4b0 : decide (10 < (a0.size : Int)) = false := decide_eq_false c4
        have c4b1 : decide (10 < a0.size) = false := decide_eq_false (by omega)
        clear c4
        by_cases c5 : 0 < (a0.size : Int)
        · rw [if_pos c5] at H
          have c5b0 : decide (0 < (a0.size : Int)) = true := decide_eq_true c5
          have c5b1 : decide (0 < a0.size) = true := decide_eq_true (by omega)
          clear c5
          replace H := Option.bind_eq_some_iff.mp H
          obtain ⟨t124, A70, H⟩ := H
          replace H : (spec_l01Name.j0 k a0 (!t124)) = some r := H
          have A7 := Aside0.mk A70
          clear A70
          have H' := Aside0.mk H
          clear H
          have p6 : 0 ≤ (0 : Int) := (by omega)
          have q6 : 0 < a0.size := (by have : (0 : Int) < (a0.size : Int) := of_decide_eq_true (by first | (with_reducible assumption) | assumption); omega)
          have hx6 : ∀ h : 0 < a0.size, ((a0[0]'h).toNat : Int) = bt a0 0 := bt_at a0 0
          clear p6
          have qi6 : (0 < (a0.size : Int)) = True := eq_true (of_decide_eq_true (by first | (with_reducible assumption) | assumption))
          replace q6 := eq_true q6
          go_wp2_with (first | (go_at_call 187; (first | (with_reducible refine (spec_l01Small.calls (bt a0 0) t124 _ A7.out).mono ?_) | ((try simp only [Go.IntWalk.i64_left]); (with_reducible refine (spec_l01Small.calls (bt a0 0) t124 _ A7.out).mono ?_))); rintro e w' ⟨rfl, ⟨nd, rfl⟩⟩))
          go_meet
          case rel => exact ⟨_, (!t124), (by first | rfl | (simp; done) | (simp [*]; done)), H', ⟨by first | omega | exact Nat.le_refl _⟩, by repeat (first | exact Drawn0.refl _ | apply Drawn0.step)⟩
        · rw [if_neg c5] at H
          exact absurd H (by simp)
  case rest =>
    clear HC2
    try clear c1
    try clear p2
    try clear c3
    try clear c3b0
    try clear c3b1
    try clear c4
    try clear c4b0
    try clear c4b1
    try clear c5
    try clear c5b0
    try clear c5b1
    try clear p6
    try clear q6
    try clear hx6
    try clear qi6
    try clear p6
    try clear q6
    obtain ⟨kq, x16_1, rfl, HA, HJ1, ⟨mc1, rfl⟩⟩ := hcut
    cases kq with
    | zero => exact absurd HA.out (by simp [spec_l01Name.j0])
    | succ kj1 =>
      have H := HA.out
      clear HA
      simp only [spec_l01Name.j0] at H
      by_cases c8 : x16_1 = true
      · subst c8
        have H1 : (some false) = some r := by rw [if_pos rfl] at H; exact H
        clear H
        have H := H1
        clear H1
        obtain rfl := Option.some.inj H
        go_wp2
        go_ret
        exact ⟨by first | rfl | (simp; done) | (simp [*]; done), by repeat (first | exact Drawn0.refl _ | apply Drawn0.step)⟩
      · replace c8 := Bool.eq_false_iff.mpr c8
        subst c8
        have H1 : (spec_l01Name.l0 kj1 a0 0) = some r := by rw [if_neg (show ¬ (false = true) by decide)] at H; exact H
        clear H
        have H := H1
        clear H1
        have H' := Aside0.mk H
        clear H
        go_wp2
        go_loopg [3] kj1 (fun kq v3 w' => ∃ (x3_2 : Int), v3 = .int .i64 x3_2 ∧ Aside0 (spec_l01Name.l0 kq a0 x3_2 = some r) ∧ Aside0 (kq ≤ kj1) ∧ Drawn0 w w')
        case atStart => exact ⟨(0), (by first | rfl | (simp; done) | (simp [*]; done)), H', ⟨Nat.le_refl _⟩, by repeat (first | exact Drawn0.refl _ | apply Drawn0.step)⟩
        case round =>
          clear H'
          try clear c1
          try clear p2
          try clear c3
          try clear c3b0
          try clear c3b1
          try clear c4
          try clear c4b0
          try clear c4b1
          try clear c5
          try clear c5b0
          try clear c5b1
          try clear p6
          try clear q6
          try clear hx6
          try clear qi6
          try clear c8
          try clear p2
          try clear p6
          try clear q6
          obtain ⟨x3_2, rfl, HA, HK2, ⟨m2, rfl⟩⟩ := hrel
          cases gk with
          | zero => exact absurd HA.out (by simp [spec_l01Name.l0])
          | succ k2 =>
            have H := HA.out
            clear HA
            simp only [spec_l01Name.l0] at H
            by_cases c9 : x3_2 < (a0.size : Int)
            · rw [if_pos c9] at H
              have c9b0 : decide (x3_2 < (a0.size : Int)) = true := decide_eq_true c9
              clear c9
              by_cases c10 : 0 ≤ x3_2
              · rw [if_pos c10] at H
                have c10b0 : decide (0 ≤ x3_2) = true := decide_eq_true c10
                clear c10
                replace H := Option.bind_eq_some_iff.mp H
                obtain ⟨t125, A120, H⟩ := H
                replace H : (if t125 = true then (spec_l01Name.l0 k2 a0 (wrap64 (x3_2 + 1))) else ((spec_l01Digit.f (bt a0 x3_2)).bind fun t126 => (if t126 = true then (spec_l01Name.l0 k2 a0 (wrap64 (x3_2 + 1))) else (some false)))) = some r := H
                have A12 := Aside0.mk A120
                clear A120
                by_cases c13 : t125 = true
                · subst c13
                  have H1 : (spec_l01Name.l0 k2 a0 (wrap64 (x3_2 + 1))) = some r := by rw [if_pos rfl] at H; exact H
                  clear H
                  have H := H1
                  clear H1
                  have H' := Aside0.mk H
                  clear H
                  have p11 : 0 ≤ (x3_2 : Int) := of_decide_eq_true (by first | (with_reducible assumption) | assumption)
                  have q11 : x3_2 < (a0.size : Int) := of_decide_eq_true (by first | (with_reducible assumption) | assumption)
                  have hx11 := bt_at a0 x3_2
                  replace p11 := eq_true p11
                  replace q11 := eq_true q11
                  go_wp2_with (first | ((with_reducible refine gate_callee (f := 187) rfl ?_); refine goesL_ (some 26) rfl rfl Try.func187 (by kernel_rfl) rfl #[.int .u8 (bt a0 x3_2)] rfl (by (try simp only [List.map_toArray, List.map_cons, List.map_nil]); first | done | rfl | (simp only [List.length_drop, List.length_take]; rfl)) ?_; (with_reducible refine (spec_l01Small.calls (bt a0 x3_2) true _ A12.out).mono ?_); rintro e w' ⟨rfl, ⟨nd, rfl⟩⟩; refine ⟨_, rfl, ?_⟩))
                  go_roundg k2
                  case measure => have := HJ1.out; have := HK2.out; omega
                  case rel => exact ⟨(wrap64 (x3_2 + 1)), (by first | rfl | (simp; done) | (simp [*]; done)), H', ⟨by have := HJ1.out; have := HK2.out; omega⟩, by repeat (first | exact Drawn0.refl _ | apply Drawn0.step)⟩
                · replace c13 := Bool.eq_false_iff.mpr c13
                  subst c13
                  have H1 : ((spec_l01Digit.f (bt a0 x3_2)).bind fun t126 => (if t126 = true then (spec_l01Name.l0 k2 a0 (wrap64 (x3_2 + 1))) else (some false))) = some r := by rw [if_neg (show ¬ (false = true) by decide)] at H; exact H
                  clear H
                  have H := H1
                  clear H1
                  replace H := Option.bind_eq_some_iff.mp H
                  obtain ⟨t126, A150, H⟩ := H
                  replace H : (if t126 = true then (spec_l01Name.l0 k2 a0 (wrap64 (x3_2 + 1))) else (some false)) = some r := H
                  have A15 := Aside0.mk A150
                  clear A150
                  by_cases c16 : t126 = true
                  · subst c16
                    have H1 : (spec_l01Name.l0 k2 a0 (wrap64 (x3_2 + 1))) = some r := by rw [if_pos rfl] at H; exact H
                    clear H
                    have H := H1
                    clear H1
                    have H' := Aside0.mk H
                    clear H
                    have p11 : 0 ≤ (x3_2 : Int) := of_decide_eq_true (by first | (with_reducible assumption) | assumption)
                    have q11 : x3_2 < (a0.size : Int) := of_decide_eq_true (by first | (with_reducible assumption) | assumption)
                    have hx11 := bt_at a0 x3_2
                    replace p11 := eq_true p11
                    replace q11 := eq_true q11
                    go_wp2_with (first | ((with_reducible refine gate_callee (f := 187) rfl ?_); refine goesL_ (some 26) rfl rfl Try.func187 (by kernel_rfl) rfl #[.int .u8 (bt a0 x3_2)] rfl (by (try simp only [List.map_toArray, List.map_cons, List.map_nil]); first | done | rfl | (simp only [List.length_drop, List.length_take]; rfl)) ?_; (with_reducible refine (spec_l01Small.calls (bt a0 x3_2) false _ A12.out).mono ?_); rintro e w' ⟨rfl, ⟨nd, rfl⟩⟩; refine ⟨_, rfl, ?_⟩; have p14 : 0 ≤ (x3_2 : Int) := of_decide_eq_true (by first | (with_reducible assumption) | assumption); have q14 : x3_2 < (a0.size : Int) := of_decide_eq_true (by first | (with_reducible assumption) | assumption); have hx14 := bt_at a0 x3_2; replace p14 := eq_true p14; replace q14 := eq_true q14) | (go_at_call 188; (first | (with_reducible refine (spec_l01Digit.calls (bt a0 x3_2) true _ A15.out).mono ?_) | ((try simp only [Go.IntWalk.i64_left]); (with_reducible refine (spec_l01Digit.calls (bt a0 x3_2) true _ A15.out).mono ?_))); rintro e w' ⟨rfl, ⟨nd, rfl⟩⟩))
                    go_roundg k2
                    case measure => have := HJ1.out; have := HK2.out; omega
                    case rel => exact ⟨(wrap64 (x3_2 + 1)), (by first | rfl | (simp; done) | (simp [*]; done)), H', ⟨by have := HJ1.out; have := HK2.out; omega⟩, by repeat (first | exact Drawn0.refl _ | apply Drawn0.step)⟩
                  · replace c16 := Bool.eq_false_iff.mpr c16
                    subst c16
                    have H1 : (some false) = some r := by rw [if_neg (show ¬ (false = true) by decide)] at H; exact H
                    clear H
                    have H := H1
                    clear H1
                    obtain rfl := Option.some.inj H
                    have p11 : 0 ≤ (x3_2 : Int) := of_decide_eq_true (by first | (with_reducible assumption) | assumption)
                    have q11 : x3_2 < (a0.size : Int) := of_decide_eq_true (by first | (with_reducible assumption) | assumption)
                    have hx11 := bt_at a0 x3_2
                    replace p11 := eq_true p11
                    replace q11 := eq_true q11
                    go_wp2_with (first | ((with_reducible refine gate_callee (f := 187) rfl ?_); refine goesL_ (some 26) rfl rfl Try.func187 (by kernel_rfl) rfl #[.int .u8 (bt a0 x3_2)] rfl (by (try simp only [List.map_toArray, List.map_cons, List.map_nil]); first | done | rfl | (simp only [List.length_drop, List.length_take]; rfl)) ?_; (with_reducible refine (spec_l01Small.calls (bt a0 x3_2) false _ A12.out).mono ?_); rintro e w' ⟨rfl, ⟨nd, rfl⟩⟩; refine ⟨_, rfl, ?_⟩; have p14 : 0 ≤ (x3_2 : Int) := of_decide_eq_true (by first | (with_reducible assumption) | assumption); have q14 : x3_2 < (a0.size : Int) := of_decide_eq_true (by first | (with_reducible assumption) | assumption); have hx14 := bt_at a0 x3_2; replace p14 := eq_true p14; replace q14 := eq_true q14) | (go_at_call 188; (first | (with_reducible refine (spec_l01Digit.calls (bt a0 x3_2) false _ A15.out).mono ?_) | ((try simp only [Go.IntWalk.i64_left]); (with_reducible refine (spec_l01Digit.calls (bt a0 x3_2) false _ A15.out).mono ?_))); rintro e w' ⟨rfl, ⟨nd, rfl⟩⟩))
                    go_ret
                    exact ⟨by first | rfl | (simp; done) | (simp [*]; done), by repeat (first | exact Drawn0.refl _ | apply Drawn0.step)⟩
              · rw [if_neg c10] at H
                exact absurd H (by simp)
            · rw [if_neg c9] at H
              have c9b0 : decide (x3_2 < (a0.size : Int)) = false := decide_eq_false c9
              clear c9
              obtain rfl := Option.some.inj H
              go_wp2
              go_ret
              exact ⟨by first | rfl | (simp; done) | (simp [*]; done), by repeat (first | exact Drawn0.refl _ | apply Drawn0.step)⟩

/-! ### spec_l00Max: function 180 -/
def spec_l00Max.f (a0 : Int) (a1 : Int) : Option (Int) := if a0 > a1 then (some a0) else (some a1)
set_option maxHeartbeats 8000000 in
set_option maxRecDepth 100000 in
theorem spec_l00Max.calls (a0 : Int) (a1 : Int) (r : Int) (w : World) (h : spec_l00Max.f a0 a1 = some r) :
    Calls Try.prog 180 #[.int .i64 a0, .int .i64 a1] w fun e w' => e = .returned (.int .i64 r) ∧ Drawn0 w w' := by
  have H : (if a0 > a1 then (some a0) else (some a1)) = some r := h
  clear h
  by_cases c3 : a0 > a1
  · rw [if_pos c3] at H
    have c3b0 : decide (a1 < a0) = true := decide_eq_true c3
    clear c3
    obtain rfl := Option.some.inj H
    go_enter Try.func180, Try.ntmps180
    go_wp2
    go_ret
    exact ⟨by first | rfl | (simp; done) | (simp [*]; done), by repeat (first | exact Drawn0.refl _ | apply Drawn0.step)⟩
  · rw [if_neg c3] at H
    have c3b0 : decide (a1 < a0) = false := decide_eq_false c3
    clear c3
    obtain rfl := Option.some.inj H
    go_enter Try.func180, Try.ntmps180
    go_wp2
    go_ret
    exact ⟨by first | rfl | (simp; done) | (simp [*]; done), by repeat (first | exact Drawn0.refl _ | apply Drawn0.step)⟩

/-! ### spec_l13One: function 167 -/
def spec_l13One.f (k : Nat) (a0_0 : ByteArray) (a0_1 : Int) (a0_2 : Int) (a0_3 : Int) (a0_4 : Int) (a0_5 : Int) (a0_6 : Int) : Option (Bool) := (spec_l01Name.f k a0_0).bind fun t127 => (if t127 = true then ((spec_l00In.f a0_1 0 100000).bind fun t128 => (if t128 = true then ((spec_l00Max.f 1 a0_1).bind fun t129 => ((spec_l00In.f a0_2 t129 100000).bind fun t130 => (if t130 = true then ((spec_l00In.f a0_3 0 100000).bind fun t131 => (if t131 = true then ((spec_l00In.f a0_4 0 100000000).bind fun t132 => (if t132 = true then ((spec_l00In.f a0_5 1 3).bind fun t133 => (if t133 = true then ((spec_l00In.f a0_6 1 3).bind fun t134 => (some t134)) else (some false))) else (some false))) else (some false))) else (some false)))) else (some false))) else (some false))
theorem spec_l13One.mono : ∀ a0 a1 a2 a3 a4 a5 a6 k, LeO (spec_l13One.f k a0 a1 a2 a3 a4 a5 a6) (spec_l13One.f (k + 1) a0 a1 a2 a3 a4 a5 a6) := by
  intro a0 a1 a2 a3 a4 a5 a6 k
  unfold spec_l13One.f
  repeat' first
      | (with_reducible exact spec_l01Name.mono _ _)
      | (with_reducible exact LeO.refl _)
      | (with_reducible exact LeO.none _)
      | (with_reducible refine LeO.ite ?_ ?_)
      | (with_reducible refine LeO.bind ?_ (fun _ => ?_))
      | exact spec_l01Name.mono _ _
      | exact LeO.none _
      | refine LeO.ite ?_ ?_
      | refine LeO.bind ?_ (fun _ => ?_)
set_option maxHeartbeats 8000000 in
set_option maxRecDepth 100000 in
theorem spec_l13One.calls (k : Nat) (ad0 : Addr) (a0_0 : ByteArray) (a0_1 : Int) (a0_2 : Int) (a0_3 : Int) (a0_4 : Int) (a0_5 : Int) (a0_6 : Int) (r : Bool) (w : World) (hx0 : w.cell? ad0 = some (.string a0_0) ∧ w.cell? ⟨ad0.block, ad0.off + 1, none⟩ = some (.int .i64 a0_1) ∧ w.cell? ⟨ad0.block, ad0.off + 2, none⟩ = some (.int .i64 a0_2) ∧ w.cell? ⟨ad0.block, ad0.off + 3, none⟩ = some (.int .i64 a0_3) ∧ w.cell? ⟨ad0.block, ad0.off + 4, none⟩ = some (.int .i64 a0_4) ∧ w.cell? ⟨ad0.block, ad0.off + 5, none⟩ = some (.int .i64 a0_5) ∧ w.cell? ⟨ad0.block, ad0.off + 6, none⟩ = some (.int .i64 a0_6)) (h : spec_l13One.f k a0_0 a0_1 a0_2 a0_3 a0_4 a0_5 a0_6 = some r) :
    Calls Try.prog 167 #[.pointer (some ad0)] w fun e w' => e = .returned (.bool r) ∧ Drawn0 w w' := by
  obtain ⟨hx0_0, hx0_1, hx0_2, hx0_3, hx0_4, hx0_5, hx0_6⟩ := hx0
  have HX0_0 := Aside0.mk hx0_0
  have HX0_1 := Aside0.mk hx0_1
  have HX0_2 := Aside0.mk hx0_2
  have HX0_3 := Aside0.mk hx0_3
  have HX0_4 := Aside0.mk hx0_4
  have HX0_5 := Aside0.mk hx0_5
  have HX0_6 := Aside0.mk hx0_6
  clear hx0_0 hx0_1 hx0_2 hx0_3 hx0_4 hx0_5 hx0_6
  have H : ((spec_l01Name.f k a0_0).bind fun t127 => (if t127 = true then ((spec_l00In.f a0_1 0 100000).bind fun t128 => (if t128 = true then ((spec_l00Max.f 1 a0_1).bind fun t129 => ((spec_l00In.f a0_2 t129 100000).bind fun t130 => (if t130 = true then ((spec_l00In.f a0_3 0 100000).bind fun t131 => (if t131 = true then ((spec_l00In.f a0_4 0 100000000).bind fun t132 => (if t132 = true then ((spec_l00In.f a0_5 1 3).bind fun t133 => (if t133 = true then ((spec_l00In.f a0_6 1 3).bind fun t134 => (some t134)) else (some false))) else (some false))) else (some false))) else (some false)))) else (some false))) else (some false))) = some r := h
  clear h
  replace H := Option.bind_eq_some_iff.mp H
  obtain ⟨t127, A20, H⟩ := H
  replace H : (if t127 = true then ((spec_l00In.f a0_1 0 100000).bind fun t128 => (if t128 = true then ((spec_l00Max.f 1 a0_1).bind fun t129 => ((spec_l00In.f a0_2 t129 100000).bind fun t130 => (if t130 = true then ((spec_l00In.f a0_3 0 100000).bind fun t131 => (if t131 = true then ((spec_l00In.f a0_4 0 100000000).bind fun t132 => (if t132 = true then ((spec_l00In.f a0_5 1 3).bind fun t133 => (if t133 = true then ((spec_l00In.f a0_6 1 3).bind fun t134 => (some t134)) else (some false))) else (some false))) else (some false))) else (some false)))) else (some false))) else (some false)) = some r := H
  have A2 := Aside0.mk A20
  clear A20
  by_cases c3 : t127 = true
  · subst c3
    have H1 : ((spec_l00In.f a0_1 0 100000).bind fun t128 => (if t128 = true then ((spec_l00Max.f 1 a0_1).bind fun t129 => ((spec_l00In.f a0_2 t129 100000).bind fun t130 => (if t130 = true then ((spec_l00In.f a0_3 0 100000).bind fun t131 => (if t131 = true then ((spec_l00In.f a0_4 0 100000000).bind fun t132 => (if t132 = true then ((spec_l00In.f a0_5 1 3).bind fun t133 => (if t133 = true then ((spec_l00In.f a0_6 1 3).bind fun t134 => (some t134)) else (some false))) else (some false))) else (some false))) else (some false)))) else (some false))) = some r := by rw [if_pos rfl] at H; exact H
    clear H
    have H := H1
    clear H1
    replace H := Option.bind_eq_some_iff.mp H
    obtain ⟨t128, A40, H⟩ := H
    replace H : (if t128 = true then ((spec_l00Max.f 1 a0_1).bind fun t129 => ((spec_l00In.f a0_2 t129 100000).bind fun t130 => (if t130 = true then ((spec_l00In.f a0_3 0 100000).bind fun t131 => (if t131 = true then ((spec_l00In.f a0_4 0 100000000).bind fun t132 => (if t132 = true then ((spec_l00In.f a0_5 1 3).bind fun t133 => (if t133 = true then ((spec_l00In.f a0_6 1 3).bind fun t134 => (some t134)) else (some false))) else (some false))) else (some false))) else (some false)))) else (some false)) = some r := H
    have A4 := Aside0.mk A40
    clear A40
    by_cases c5 : t128 = true
    · subst c5
      have H1 : ((spec_l00Max.f 1 a0_1).bind fun t129 => ((spec_l00In.f a0_2 t129 100000).bind fun t130 => (if t130 = true then ((spec_l00In.f a0_3 0 100000).bind fun t131 => (if t131 = true then ((spec_l00In.f a0_4 0 100000000).bind fun t132 => (if t132 = true then ((spec_l00In.f a0_5 1 3).bind fun t133 => (if t133 = true then ((spec_l00In.f a0_6 1 3).bind fun t134 => (some t134)) else (some false))) else (some false))) else (some false))) else (some false)))) = some r := by rw [if_pos rfl] at H; exact H
      clear H
      have H := H1
      clear H1
      replace H := Option.bind_eq_some_iff.mp H
      obtain ⟨t129, A60, H⟩ := H
      replace H : ((spec_l00In.f a0_2 t129 100000).bind fun t130 => (if t130 = true then ((spec_l00In.f a0_3 0 100000).bind fun t131 => (if t131 = true then ((spec_l00In.f a0_4 0 100000000).bind fun t132 => (if t132 = true then ((spec_l00In.f a0_5 1 3).bind fun t133 => (if t133 = true then ((spec_l00In.f a0_6 1 3).bind fun t134 => (some t134)) else (some false))) else (some false))) else (some false))) else (some false))) = some r := H
      have A6 := Aside0.mk A60
      clear A60
      replace H := Option.bind_eq_some_iff.mp H
      obtain ⟨t130, A70, H⟩ := H
      replace H : (if t130 = true then ((spec_l00In.f a0_3 0 100000).bind fun t131 => (if t131 = true then ((spec_l00In.f a0_4 0 100000000).bind fun t132 => (if t132 = true then ((spec_l00In.f a0_5 1 3).bind fun t133 => (if t133 = true then ((spec_l00In.f a0_6 1 3).bind fun t134 => (some t134)) else (some false))) else (some false))) else (some false))) else (some false)) = some r := H
      have A7 := Aside0.mk A70
      clear A70
      by_cases c8 : t130 = true
      · subst c8
        have H1 : ((spec_l00In.f a0_3 0 100000).bind fun t131 => (if t131 = true then ((spec_l00In.f a0_4 0 100000000).bind fun t132 => (if t132 = true then ((spec_l00In.f a0_5 1 3).bind fun t133 => (if t133 = true then ((spec_l00In.f a0_6 1 3).bind fun t134 => (some t134)) else (some false))) else (some false))) else (some false))) = some r := by rw [if_pos rfl] at H; exact H
        clear H
        have H := H1
        clear H1
        replace H := Option.bind_eq_some_iff.mp H
        obtain ⟨t131, A90, H⟩ := H
        replace H : (if t131 = true then ((spec_l00In.f a0_4 0 100000000).bind fun t132 => (if t132 = true then ((spec_l00In.f a0_5 1 3).bind fun t133 => (if t133 = true then ((spec_l00In.f a0_6 1 3).bind fun t134 => (some t134)) else (some false))) else (some false))) else (some false)) = some r := H
        have A9 := Aside0.mk A90
        clear A90
        by_cases c10 : t131 = true
        · subst c10
          have H1 : ((spec_l00In.f a0_4 0 100000000).bind fun t132 => (if t132 = true then ((spec_l00In.f a0_5 1 3).bind fun t133 => (if t133 = true then ((spec_l00In.f a0_6 1 3).bind fun t134 => (some t134)) else (some false))) else (some false))) = some r := by rw [if_pos rfl] at H; exact H
          clear H
          have H := H1
          clear H1
          replace H := Option.bind_eq_some_iff.mp H
          obtain ⟨t132, A110, H⟩ := H
          replace H : (if t132 = true then ((spec_l00In.f a0_5 1 3).bind fun t133 => (if t133 = true then ((spec_l00In.f a0_6 1 3).bind fun t134 => (some t134)) else (some false))) else (some false)) = some r := H
          have A11 := Aside0.mk A110
          clear A110
          by_cases c12 : t132 = true
          · subst c12
            have H1 : ((spec_l00In.f a0_5 1 3).bind fun t133 => (if t133 = true then ((spec_l00In.f a0_6 1 3).bind fun t134 => (some t134)) else (some false))) = some r := by rw [if_pos rfl] at H; exact H
            clear H
            have H := H1
            clear H1
            replace H := Option.bind_eq_some_iff.mp H
            obtain ⟨t133, A130, H⟩ := H
            replace H : (if t133 = true then ((spec_l00In.f a0_6 1 3).bind fun t134 => (some t134)) else (some false)) = some r := H
            have A13 := Aside0.mk A130
            clear A130
            by_cases c14 : t133 = true
            · subst c14
              have H1 : ((spec_l00In.f a0_6 1 3).bind fun t134 => (some t134)) = some r := by rw [if_pos rfl] at H; exact H
              clear H
              have H := H1
              clear H1
              replace H := Option.bind_eq_some_iff.mp H
              obtain ⟨t134, A150, H⟩ := H
              replace H : (some t134) = some r := H
              have A15 := Aside0.mk A150
              clear A150
              obtain rfl := Option.some.inj H
              have hz16_0 := HX0_0.out
              have hz16_1 := HX0_1.out
              have hz16_2 := HX0_2.out
              have hz16_3 := HX0_3.out
              have hz16_4 := HX0_4.out
              have hz16_5 := HX0_5.out
              have hz16_6 := HX0_6.out
              have hz17_0 := HX0_0.out
              have hz17_1 := HX0_1.out
              have hz17_2 := HX0_2.out
              have hz17_3 := HX0_3.out
              have hz17_4 := HX0_4.out
              have hz17_5 := HX0_5.out
              have hz17_6 := HX0_6.out
              have hz18_0 := HX0_0.out
              have hz18_1 := HX0_1.out
              have hz18_2 := HX0_2.out
              have hz18_3 := HX0_3.out
              have hz18_4 := HX0_4.out
              have hz18_5 := HX0_5.out
              have hz18_6 := HX0_6.out
              have hz19_0 := HX0_0.out
              have hz19_1 := HX0_1.out
              have hz19_2 := HX0_2.out
              have hz19_3 := HX0_3.out
              have hz19_4 := HX0_4.out
              have hz19_5 := HX0_5.out
              have hz19_6 := HX0_6.out
              have hz20_0 := HX0_0.out
              have hz20_1 := HX0_1.out
              have hz20_2 := HX0_2.out
              have hz20_3 := HX0_3.out
              have hz20_4 := HX0_4.out
              have hz20_5 := HX0_5.out
              have hz20_6 := HX0_6.out
              have hz21_0 := HX0_0.out
              have hz21_1 := HX0_1.out
              have hz21_2 := HX0_2.out
              have hz21_3 := HX0_3.out
              have hz21_4 := HX0_4.out
              have hz21_5 := HX0_5.out
              have hz21_6 := HX0_6.out
              have hz22_0 := HX0_0.out
              have hz22_1 := HX0_1.out
              have hz22_2 := HX0_2.out
              have hz22_3 := HX0_3.out
              have hz22_4 := HX0_4.out
              have hz22_5 := HX0_5.out
              have hz22_6 := HX0_6.out
              have hz23_0 := HX0_0.out
              have hz23_1 := HX0_1.out
              have hz23_2 := HX0_2.out
              have hz23_3 := HX0_3.out
              have hz23_4 := HX0_4.out
              have hz23_5 := HX0_5.out
              have hz23_6 := HX0_6.out
              go_enter Try.func167, Try.ntmps167
              go_wp2_with (first | (go_at_call 153; (first | (with_reducible refine (spec_l01Name.calls k a0_0 true _ A2.out).mono ?_) | ((try simp only [Go.IntWalk.i64_left]); (with_reducible refine (spec_l01Name.calls k a0_0 true _ A2.out).mono ?_))); rintro e w' ⟨rfl, ⟨nd, rfl⟩⟩; (try first | exact ⟨rfl, _, World.drewN_drewN _ _ _⟩ | exact ⟨rfl, _, Eq.trans (World.drewN_drewN _ _ _) (congrArg (World.drewN _) (Nat.add_assoc _ _ _))⟩)) | (go_at_call 94; (first | (with_reducible refine (spec_l00In.calls a0_1 0 100000 true _ A4.out).mono ?_) | ((try simp only [Go.IntWalk.i64_left]); (with_reducible refine (spec_l00In.calls a0_1 0 100000 true _ A4.out).mono ?_))); rintro e w' ⟨rfl, ⟨nd, rfl⟩⟩; (try first | exact ⟨rfl, _, World.drewN_drewN _ _ _⟩ | exact ⟨rfl, _, Eq.trans (World.drewN_drewN _ _ _) (congrArg (World.drewN _) (Nat.add_assoc _ _ _))⟩)) | (go_at_call 180; (first | (with_reducible refine (spec_l00Max.calls 1 a0_1 t129 _ A6.out).mono ?_) | ((try simp only [Go.IntWalk.i64_left]); (with_reducible refine (spec_l00Max.calls 1 a0_1 t129 _ A6.out).mono ?_))); rintro e w' ⟨rfl, ⟨nd, rfl⟩⟩; (try first | exact ⟨rfl, _, World.drewN_drewN _ _ _⟩ | exact ⟨rfl, _, Eq.trans (World.drewN_drewN _ _ _) (congrArg (World.drewN _) (Nat.add_assoc _ _ _))⟩)) | (go_at_call 94; (first | (with_reducible refine (spec_l00In.calls a0_2 t129 100000 true _ A7.out).mono ?_) | ((try simp only [Go.IntWalk.i64_left]); (with_reducible refine (spec_l00In.calls a0_2 t129 100000 true _ A7.out).mono ?_))); rintro e w' ⟨rfl, ⟨nd, rfl⟩⟩; (try first | exact ⟨rfl, _, World.drewN_drewN _ _ _⟩ | exact ⟨rfl, _, Eq.trans (World.drewN_drewN _ _ _) (congrArg (World.drewN _) (Nat.add_assoc _ _ _))⟩)) | (go_at_call 94; (first | (with_reducible refine (spec_l00In.calls a0_3 0 100000 true _ A9.out).mono ?_) | ((try simp only [Go.IntWalk.i64_left]); (with_reducible refine (spec_l00In.calls a0_3 0 100000 true _ A9.out).mono ?_))); rintro e w' ⟨rfl, ⟨nd, rfl⟩⟩; (try first | exact ⟨rfl, _, World.drewN_drewN _ _ _⟩ | exact ⟨rfl, _, Eq.trans (World.drewN_drewN _ _ _) (congrArg (World.drewN _) (Nat.add_assoc _ _ _))⟩)) | (go_at_call 94; (first | (with_reducible refine (spec_l00In.calls a0_4 0 100000000 true _ A11.out).mono ?_) | ((try simp only [Go.IntWalk.i64_left]); (with_reducible refine (spec_l00In.calls a0_4 0 100000000 true _ A11.out).mono ?_))); rintro e w' ⟨rfl, ⟨nd, rfl⟩⟩; (try first | exact ⟨rfl, _, World.drewN_drewN _ _ _⟩ | exact ⟨rfl, _, Eq.trans (World.drewN_drewN _ _ _) (congrArg (World.drewN _) (Nat.add_assoc _ _ _))⟩)) | (go_at_call 94; (first | (with_reducible refine (spec_l00In.calls a0_5 1 3 true _ A13.out).mono ?_) | ((try simp only [Go.IntWalk.i64_left]); (with_reducible refine (spec_l00In.calls a0_5 1 3 true _ A13.out).mono ?_))); rintro e w' ⟨rfl, ⟨nd, rfl⟩⟩; (try first | exact ⟨rfl, _, World.drewN_drewN _ _ _⟩ | exact ⟨rfl, _, Eq.trans (World.drewN_drewN _ _ _) (congrArg (World.drewN _) (Nat.add_assoc _ _ _))⟩)) | (go_at_call 94; (first | (with_reducible refine (spec_l00In.calls a0_6 1 3 t134 _ A15.out).mono ?_) | ((try simp only [Go.IntWalk.i64_left]); (with_reducible refine (spec_l00In.calls a0_6 1 3 t134 _ A15.out).mono ?_))); rintro e w' ⟨rfl, ⟨nd, rfl⟩⟩; (try first | exact ⟨rfl, _, World.drewN_drewN _ _ _⟩ | exact ⟨rfl, _, Eq.trans (World.drewN_drewN _ _ _) (congrArg (World.drewN _) (Nat.add_assoc _ _ _))⟩)))
              repeat (go_quiet (first | (go_at_call 153; (first | (with_reducible refine (spec_l01Name.calls k a0_0 true _ A2.out).mono ?_) | ((try simp only [Go.IntWalk.i64_left]); (with_reducible refine (spec_l01Name.calls k a0_0 true _ A2.out).mono ?_))); rintro e w' ⟨rfl, ⟨nd, rfl⟩⟩; (try first | exact ⟨rfl, _, World.drewN_drewN _ _ _⟩ | exact ⟨rfl, _, Eq.trans (World.drewN_drewN _ _ _) (congrArg (World.drewN _) (Nat.add_assoc _ _ _))⟩)) | (go_at_call 94; (first | (with_reducible refine (spec_l00In.calls a0_1 0 100000 true _ A4.out).mono ?_) | ((try simp only [Go.IntWalk.i64_left]); (with_reducible refine (spec_l00In.calls a0_1 0 100000 true _ A4.out).mono ?_))); rintro e w' ⟨rfl, ⟨nd, rfl⟩⟩; (try first | exact ⟨rfl, _, World.drewN_drewN _ _ _⟩ | exact ⟨rfl, _, Eq.trans (World.drewN_drewN _ _ _) (congrArg (World.drewN _) (Nat.add_assoc _ _ _))⟩)) | (go_at_call 180; (first | (with_reducible refine (spec_l00Max.calls 1 a0_1 t129 _ A6.out).mono ?_) | ((try simp only [Go.IntWalk.i64_left]); (with_reducible refine (spec_l00Max.calls 1 a0_1 t129 _ A6.out).mono ?_))); rintro e w' ⟨rfl, ⟨nd, rfl⟩⟩; (try first | exact ⟨rfl, _, World.drewN_drewN _ _ _⟩ | exact ⟨rfl, _, Eq.trans (World.drewN_drewN _ _ _) (congrArg (World.drewN _) (Nat.add_assoc _ _ _))⟩)) | (go_at_call 94; (first | (with_reducible refine (spec_l00In.calls a0_2 t129 100000 true _ A7.out).mono ?_) | ((try simp only [Go.IntWalk.i64_left]); (with_reducible refine (spec_l00In.calls a0_2 t129 100000 true _ A7.out).mono ?_))); rintro e w' ⟨rfl, ⟨nd, rfl⟩⟩; (try first | exact ⟨rfl, _, World.drewN_drewN _ _ _⟩ | exact ⟨rfl, _, Eq.trans (World.drewN_drewN _ _ _) (congrArg (World.drewN _) (Nat.add_assoc _ _ _))⟩)) | (go_at_call 94; (first | (with_reducible refine (spec_l00In.calls a0_3 0 100000 true _ A9.out).mono ?_) | ((try simp only [Go.IntWalk.i64_left]); (with_reducible refine (spec_l00In.calls a0_3 0 100000 true _ A9.out).mono ?_))); rintro e w' ⟨rfl, ⟨nd, rfl⟩⟩; (try first | exact ⟨rfl, _, World.drewN_drewN _ _ _⟩ | exact ⟨rfl, _, Eq.trans (World.drewN_drewN _ _ _) (congrArg (World.drewN _) (Nat.add_assoc _ _ _))⟩)) | (go_at_call 94; (first | (with_reducible refine (spec_l00In.calls a0_4 0 100000000 true _ A11.out).mono ?_) | ((try simp only [Go.IntWalk.i64_left]); (with_reducible refine (spec_l00In.calls a0_4 0 100000000 true _ A11.out).mono ?_))); rintro e w' ⟨rfl, ⟨nd, rfl⟩⟩; (try first | exact ⟨rfl, _, World.drewN_drewN _ _ _⟩ | exact ⟨rfl, _, Eq.trans (World.drewN_drewN _ _ _) (congrArg (World.drewN _) (Nat.add_assoc _ _ _))⟩)) | (go_at_call 94; (first | (with_reducible refine (spec_l00In.calls a0_5 1 3 true _ A13.out).mono ?_) | ((try simp only [Go.IntWalk.i64_left]); (with_reducible refine (spec_l00In.calls a0_5 1 3 true _ A13.out).mono ?_))); rintro e w' ⟨rfl, ⟨nd, rfl⟩⟩; (try first | exact ⟨rfl, _, World.drewN_drewN _ _ _⟩ | exact ⟨rfl, _, Eq.trans (World.drewN_drewN _ _ _) (congrArg (World.drewN _) (Nat.add_assoc _ _ _))⟩)) | (go_at_call 94; (first | (with_reducible refine (spec_l00In.calls a0_6 1 3 t134 _ A15.out).mono ?_) | ((try simp only [Go.IntWalk.i64_left]); (with_reducible refine (spec_l00In.calls a0_6 1 3 t134 _ A15.out).mono ?_))); rintro e w' ⟨rfl, ⟨nd, rfl⟩⟩; (try first | exact ⟨rfl, _, World.drewN_drewN _ _ _⟩ | exact ⟨rfl, _, Eq.trans (World.drewN_drewN _ _ _) (congrArg (World.drewN _) (Nat.add_assoc _ _ _))⟩))); try go_wp2_with (first | (go_at_call 153; (first | (with_reducible refine (spec_l01Name.calls k a0_0 true _ A2.out).mono ?_) | ((try simp only [Go.IntWalk.i64_left]); (with_reducible refine (spec_l01Name.calls k a0_0 true _ A2.out).mono ?_))); rintro e w' ⟨rfl, ⟨nd, rfl⟩⟩; (try first | exact ⟨rfl, _, World.drewN_drewN _ _ _⟩ | exact ⟨rfl, _, Eq.trans (World.drewN_drewN _ _ _) (congrArg (World.drewN _) (Nat.add_assoc _ _ _))⟩)) | (go_at_call 94; (first | (with_reducible refine (spec_l00In.calls a0_1 0 100000 true _ A4.out).mono ?_) | ((try simp only [Go.IntWalk.i64_left]); (with_reducible refine (spec_l00In.calls a0_1 0 100000 true _ A4.out).mono ?_))); rintro e w' ⟨rfl, ⟨nd, rfl⟩⟩; (try first | exact ⟨rfl, _, World.drewN_drewN _ _ _⟩ | exact ⟨rfl, _, Eq.trans (World.drewN_drewN _ _ _) (congrArg (World.drewN _) (Nat.add_assoc _ _ _))⟩)) | (go_at_call 180; (first | (with_reducible refine (spec_l00Max.calls 1 a0_1 t129 _ A6.out).mono ?_) | ((try simp only [Go.IntWalk.i64_left]); (with_reducible refine (spec_l00Max.calls 1 a0_1 t129 _ A6.out).mono ?_))); rintro e w' ⟨rfl, ⟨nd, rfl⟩⟩; (try first | exact ⟨rfl, _, World.drewN_drewN _ _ _⟩ | exact ⟨rfl, _, Eq.trans (World.drewN_drewN _ _ _) (congrArg (World.drewN _) (Nat.add_assoc _ _ _))⟩)) | (go_at_call 94; (first | (with_reducible refine (spec_l00In.calls a0_2 t129 100000 true _ A7.out).mono ?_) | ((try simp only [Go.IntWalk.i64_left]); (with_reducible refine (spec_l00In.calls a0_2 t129 100000 true _ A7.out).mono ?_))); rintro e w' ⟨rfl, ⟨nd, rfl⟩⟩; (try first | exact ⟨rfl, _, World.drewN_drewN _ _ _⟩ | exact ⟨rfl, _, Eq.trans (World.drewN_drewN _ _ _) (congrArg (World.drewN _) (Nat.add_assoc _ _ _))⟩)) | (go_at_call 94; (first | (with_reducible refine (spec_l00In.calls a0_3 0 100000 true _ A9.out).mono ?_) | ((try simp only [Go.IntWalk.i64_left]); (with_reducible refine (spec_l00In.calls a0_3 0 100000 true _ A9.out).mono ?_))); rintro e w' ⟨rfl, ⟨nd, rfl⟩⟩; (try first | exact ⟨rfl, _, World.drewN_drewN _ _ _⟩ | exact ⟨rfl, _, Eq.trans (World.drewN_drewN _ _ _) (congrArg (World.drewN _) (Nat.add_assoc _ _ _))⟩)) | (go_at_call 94; (first | (with_reducible refine (spec_l00In.calls a0_4 0 100000000 true _ A11.out).mono ?_) | ((try simp only [Go.IntWalk.i64_left]); (with_reducible refine (spec_l00In.calls a0_4 0 100000000 true _ A11.out).mono ?_))); rintro e w' ⟨rfl, ⟨nd, rfl⟩⟩; (try first | exact ⟨rfl, _, World.drewN_drewN _ _ _⟩ | exact ⟨rfl, _, Eq.trans (World.drewN_drewN _ _ _) (congrArg (World.drewN _) (Nat.add_assoc _ _ _))⟩)) | (go_at_call 94; (first | (with_reducible refine (spec_l00In.calls a0_5 1 3 true _ A13.out).mono ?_) | ((try simp only [Go.IntWalk.i64_left]); (with_reducible refine (spec_l00In.calls a0_5 1 3 true _ A13.out).mono ?_))); rintro e w' ⟨rfl, ⟨nd, rfl⟩⟩; (try first | exact ⟨rfl, _, World.drewN_drewN _ _ _⟩ | exact ⟨rfl, _, Eq.trans (World.drewN_drewN _ _ _) (congrArg (World.drewN _) (Nat.add_assoc _ _ _))⟩)) | (go_at_call 94; (first | (with_reducible refine (spec_l00In.calls a0_6 1 3 t134 _ A15.out).mono ?_) | ((try simp only [Go.IntWalk.i64_left]); (with_reducible refine (spec_l00In.calls a0_6 1 3 t134 _ A15.out).mono ?_))); rintro e w' ⟨rfl, ⟨nd, rfl⟩⟩; (try first | exact ⟨rfl, _, World.drewN_drewN _ _ _⟩ | exact ⟨rfl, _, Eq.trans (World.drewN_drewN _ _ _) (congrArg (World.drewN _) (Nat.add_assoc _ _ _))⟩))))
              go_ret
              exact ⟨by first | rfl | (simp; done) | (simp [*]; done), by repeat (first | exact Drawn0.refl _ | apply Drawn0.step)⟩
            · replace c14 := Bool.eq_false_iff.mpr c14
              subst c14
              have H1 : (some false) = some r := by rw [if_neg (show ¬ (false = true) by decide)] at H; exact H
              clear H
              have H := H1
              clear H1
              obtain rfl := Option.some.inj H
              have hz24_0 := HX0_0.out
              have hz24_1 := HX0_1.out
              have hz24_2 := HX0_2.out
              have hz24_3 := HX0_3.out
              have hz24_4 := HX0_4.out
              have hz24_5 := HX0_5.out
              have hz24_6 := HX0_6.out
              have hz25_0 := HX0_0.out
              have hz25_1 := HX0_1.out
              have hz25_2 := HX0_2.out
              have hz25_3 := HX0_3.out
              have hz25_4 := HX0_4.out
              have hz25_5 := HX0_5.out
              have hz25_6 := HX0_6.out
              have hz26_0 := HX0_0.out
              have hz26_1 := HX0_1.out
              have hz26_2 := HX0_2.out
              have hz26_3 := HX0_3.out
              have hz26_4 := HX0_4.out
              have hz26_5 := HX0_5.out
              have hz26_6 := HX0_6.out
              have hz27_0 := HX0_0.out
              have hz27_1 := HX0_1.out
              have hz27_2 := HX0_2.out
              have hz27_3 := HX0_3.out
              have hz27_4 := HX0_4.out
              have hz27_5 := HX0_5.out
              have hz27_6 := HX0_6.out
              have hz28_0 := HX0_0.out
              have hz28_1 := HX0_1.out
              have hz28_2 := HX0_2.out
              have hz28_3 := HX0_3.out
              have hz28_4 := HX0_4.out
              have hz28_5 := HX0_5.out
              have hz28_6 := HX0_6.out
              have hz29_0 := HX0_0.out
              have hz29_1 := HX0_1.out
              have hz29_2 := HX0_2.out
              have hz29_3 := HX0_3.out
              have hz29_4 := HX0_4.out
              have hz29_5 := HX0_5.out
              have hz29_6 := HX0_6.out
              have hz30_0 := HX0_0.out
              have hz30_1 := HX0_1.out
              have hz30_2 := HX0_2.out
              have hz30_3 := HX0_3.out
              have hz30_4 := HX0_4.out
              have hz30_5 := HX0_5.out
              have hz30_6 := HX0_6.out
              go_enter Try.func167, Try.ntmps167
              go_wp2_with (first | (go_at_call 153; (first | (with_reducible refine (spec_l01Name.calls k a0_0 true _ A2.out).mono ?_) | ((try simp only [Go.IntWalk.i64_left]); (with_reducible refine (spec_l01Name.calls k a0_0 true _ A2.out).mono ?_))); rintro e w' ⟨rfl, ⟨nd, rfl⟩⟩; (try first | exact ⟨rfl, _, World.drewN_drewN _ _ _⟩ | exact ⟨rfl, _, Eq.trans (World.drewN_drewN _ _ _) (congrArg (World.drewN _) (Nat.add_assoc _ _ _))⟩)) | (go_at_call 94; (first | (with_reducible refine (spec_l00In.calls a0_1 0 100000 true _ A4.out).mono ?_) | ((try simp only [Go.IntWalk.i64_left]); (with_reducible refine (spec_l00In.calls a0_1 0 100000 true _ A4.out).mono ?_))); rintro e w' ⟨rfl, ⟨nd, rfl⟩⟩; (try first | exact ⟨rfl, _, World.drewN_drewN _ _ _⟩ | exact ⟨rfl, _, Eq.trans (World.drewN_drewN _ _ _) (congrArg (World.drewN _) (Nat.add_assoc _ _ _))⟩)) | (go_at_call 180; (first | (with_reducible refine (spec_l00Max.calls 1 a0_1 t129 _ A6.out).mono ?_) | ((try simp only [Go.IntWalk.i64_left]); (with_reducible refine (spec_l00Max.calls 1 a0_1 t129 _ A6.out).mono ?_))); rintro e w' ⟨rfl, ⟨nd, rfl⟩⟩; (try first | exact ⟨rfl, _, World.drewN_drewN _ _ _⟩ | exact ⟨rfl, _, Eq.trans (World.drewN_drewN _ _ _) (congrArg (World.drewN _) (Nat.add_assoc _ _ _))⟩)) | (go_at_call 94; (first | (with_reducible refine (spec_l00In.calls a0_2 t129 100000 true _ A7.out).mono ?_) | ((try simp only [Go.IntWalk.i64_left]); (with_reducible refine (spec_l00In.calls a0_2 t129 100000 true _ A7.out).mono ?_))); rintro e w' ⟨rfl, ⟨nd, rfl⟩⟩; (try first | exact ⟨rfl, _, World.drewN_drewN _ _ _⟩ | exact ⟨rfl, _, Eq.trans (World.drewN_drewN _ _ _) (congrArg (World.drewN _) (Nat.add_assoc _ _ _))⟩)) | (go_at_call 94; (first | (with_reducible refine (spec_l00In.calls a0_3 0 100000 true _ A9.out).mono ?_) | ((try simp only [Go.IntWalk.i64_left]); (with_reducible refine (spec_l00In.calls a0_3 0 100000 true _ A9.out).mono ?_))); rintro e w' ⟨rfl, ⟨nd, rfl⟩⟩; (try first | exact ⟨rfl, _, World.drewN_drewN _ _ _⟩ | exact ⟨rfl, _, Eq.trans (World.drewN_drewN _ _ _) (congrArg (World.drewN _) (Nat.add_assoc _ _ _))⟩)) | (go_at_call 94; (first | (with_reducible refine (spec_l00In.calls a0_4 0 100000000 true _ A11.out).mono ?_) | ((try simp only [Go.IntWalk.i64_left]); (with_reducible refine (spec_l00In.calls a0_4 0 100000000 true _ A11.out).mono ?_))); rintro e w' ⟨rfl, ⟨nd, rfl⟩⟩; (try first | exact ⟨rfl, _, World.drewN_drewN _ _ _⟩ | exact ⟨rfl, _, Eq.trans (World.drewN_drewN _ _ _) (congrArg (World.drewN _) (Nat.add_assoc _ _ _))⟩)) | (go_at_call 94; (first | (with_reducible refine (spec_l00In.calls a0_5 1 3 false _ A13.out).mono ?_) | ((try simp only [Go.IntWalk.i64_left]); (with_reducible refine (spec_l00In.calls a0_5 1 3 false _ A13.out).mono ?_))); rintro e w' ⟨rfl, ⟨nd, rfl⟩⟩; (try first | exact ⟨rfl, _, World.drewN_drewN _ _ _⟩ | exact ⟨rfl, _, Eq.trans (World.drewN_drewN _ _ _) (congrArg (World.drewN _) (Nat.add_assoc _ _ _))⟩)))
              repeat (go_quiet (first | (go_at_call 153; (first | (with_reducible refine (spec_l01Name.calls k a0_0 true _ A2.out).mono ?_) | ((try simp only [Go.IntWalk.i64_left]); (with_reducible refine (spec_l01Name.calls k a0_0 true _ A2.out).mono ?_))); rintro e w' ⟨rfl, ⟨nd, rfl⟩⟩; (try first | exact ⟨rfl, _, World.drewN_drewN _ _ _⟩ | exact ⟨rfl, _, Eq.trans (World.drewN_drewN _ _ _) (congrArg (World.drewN _) (Nat.add_assoc _ _ _))⟩)) | (go_at_call 94; (first | (with_reducible refine (spec_l00In.calls a0_1 0 100000 true _ A4.out).mono ?_) | ((try simp only [Go.IntWalk.i64_left]); (with_reducible refine (spec_l00In.calls a0_1 0 100000 true _ A4.out).mono ?_))); rintro e w' ⟨rfl, ⟨nd, rfl⟩⟩; (try first | exact ⟨rfl, _, World.drewN_drewN _ _ _⟩ | exact ⟨rfl, _, Eq.trans (World.drewN_drewN _ _ _) (congrArg (World.drewN _) (Nat.add_assoc _ _ _))⟩)) | (go_at_call 180; (first | (with_reducible refine (spec_l00Max.calls 1 a0_1 t129 _ A6.out).mono ?_) | ((try simp only [Go.IntWalk.i64_left]); (with_reducible refine (spec_l00Max.calls 1 a0_1 t129 _ A6.out).mono ?_))); rintro e w' ⟨rfl, ⟨nd, rfl⟩⟩; (try first | exact ⟨rfl, _, World.drewN_drewN _ _ _⟩ | exact ⟨rfl, _, Eq.trans (World.drewN_drewN _ _ _) (congrArg (World.drewN _) (Nat.add_assoc _ _ _))⟩)) | (go_at_call 94; (first | (with_reducible refine (spec_l00In.calls a0_2 t129 100000 true _ A7.out).mono ?_) | ((try simp only [Go.IntWalk.i64_left]); (with_reducible refine (spec_l00In.calls a0_2 t129 100000 true _ A7.out).mono ?_))); rintro e w' ⟨rfl, ⟨nd, rfl⟩⟩; (try first | exact ⟨rfl, _, World.drewN_drewN _ _ _⟩ | exact ⟨rfl, _, Eq.trans (World.drewN_drewN _ _ _) (congrArg (World.drewN _) (Nat.add_assoc _ _ _))⟩)) | (go_at_call 94; (first | (with_reducible refine (spec_l00In.calls a0_3 0 100000 true _ A9.out).mono ?_) | ((try simp only [Go.IntWalk.i64_left]); (with_reducible refine (spec_l00In.calls a0_3 0 100000 true _ A9.out).mono ?_))); rintro e w' ⟨rfl, ⟨nd, rfl⟩⟩; (try first | exact ⟨rfl, _, World.drewN_drewN _ _ _⟩ | exact ⟨rfl, _, Eq.trans (World.drewN_drewN _ _ _) (congrArg (World.drewN _) (Nat.add_assoc _ _ _))⟩)) | (go_at_call 94; (first | (with_reducible refine (spec_l00In.calls a0_4 0 100000000 true _ A11.out).mono ?_) | ((try simp only [Go.IntWalk.i64_left]); (with_reducible refine (spec_l00In.calls a0_4 0 100000000 true _ A11.out).mono ?_))); rintro e w' ⟨rfl, ⟨nd, rfl⟩⟩; (try first | exact ⟨rfl, _, World.drewN_drewN _ _ _⟩ | exact ⟨rfl, _, Eq.trans (World.drewN_drewN _ _ _) (congrArg (World.drewN _) (Nat.add_assoc _ _ _))⟩)) | (go_at_call 94; (first | (with_reducible refine (spec_l00In.calls a0_5 1 3 false _ A13.out).mono ?_) | ((try simp only [Go.IntWalk.i64_left]); (with_reducible refine (spec_l00In.calls a0_5 1 3 false _ A13.out).mono ?_))); rintro e w' ⟨rfl, ⟨nd, rfl⟩⟩; (try first | exact ⟨rfl, _, World.drewN_drewN _ _ _⟩ | exact ⟨rfl, _, Eq.trans (World.drewN_drewN _ _ _) (congrArg (World.drewN _) (Nat.add_assoc _ _ _))⟩))); try go_wp2_with (first | (go_at_call 153; (first | (with_reducible refine (spec_l01Name.calls k a0_0 true _ A2.out).mono ?_) | ((try simp only [Go.IntWalk.i64_left]); (with_reducible refine (spec_l01Name.calls k a0_0 true _ A2.out).mono ?_))); rintro e w' ⟨rfl, ⟨nd, rfl⟩⟩; (try first | exact ⟨rfl, _, World.drewN_drewN _ _ _⟩ | exact ⟨rfl, _, Eq.trans (World.drewN_drewN _ _ _) (congrArg (World.drewN _) (Nat.add_assoc _ _ _))⟩)) | (go_at_call 94; (first | (with_reducible refine (spec_l00In.calls a0_1 0 100000 true _ A4.out).mono ?_) | ((try simp only [Go.IntWalk.i64_left]); (with_reducible refine (spec_l00In.calls a0_1 0 100000 true _ A4.out).mono ?_))); rintro e w' ⟨rfl, ⟨nd, rfl⟩⟩; (try first | exact ⟨rfl, _, World.drewN_drewN _ _ _⟩ | exact ⟨rfl, _, Eq.trans (World.drewN_drewN _ _ _) (congrArg (World.drewN _) (Nat.add_assoc _ _ _))⟩)) | (go_at_call 180; (first | (with_reducible refine (spec_l00Max.calls 1 a0_1 t129 _ A6.out).mono ?_) | ((try simp only [Go.IntWalk.i64_left]); (with_reducible refine (spec_l00Max.calls 1 a0_1 t129 _ A6.out).mono ?_))); rintro e w' ⟨rfl, ⟨nd, rfl⟩⟩; (try first | exact ⟨rfl, _, World.drewN_drewN _ _ _⟩ | exact ⟨rfl, _, Eq.trans (World.drewN_drewN _ _ _) (congrArg (World.drewN _) (Nat.add_assoc _ _ _))⟩)) | (go_at_call 94; (first | (with_reducible refine (spec_l00In.calls a0_2 t129 100000 true _ A7.out).mono ?_) | ((try simp only [Go.IntWalk.i64_left]); (with_reducible refine (spec_l00In.calls a0_2 t129 100000 true _ A7.out).mono ?_))); rintro e w' ⟨rfl, ⟨nd, rfl⟩⟩; (try first | exact ⟨rfl, _, World.drewN_drewN _ _ _⟩ | exact ⟨rfl, _, Eq.trans (World.drewN_drewN _ _ _) (congrArg (World.drewN _) (Nat.add_assoc _ _ _))⟩)) | (go_at_call 94; (first | (with_reducible refine (spec_l00In.calls a0_3 0 100000 true _ A9.out).mono ?_) | ((try simp only [Go.IntWalk.i64_left]); (with_reducible refine (spec_l00In.calls a0_3 0 100000 true _ A9.out).mono ?_))); rintro e w' ⟨rfl, ⟨nd, rfl⟩⟩; (try first | exact ⟨rfl, _, World.drewN_drewN _ _ _⟩ | exact ⟨rfl, _, Eq.trans (World.drewN_drewN _ _ _) (congrArg (World.drewN _) (Nat.add_assoc _ _ _))⟩)) | (go_at_call 94; (first | (with_reducible refine (spec_l00In.calls a0_4 0 100000000 true _ A11.out).mono ?_) | ((try simp only [Go.IntWalk.i64_left]); (with_reducible refine (spec_l00In.calls a0_4 0 100000000 true _ A11.out).mono ?_))); rintro e w' ⟨rfl, ⟨nd, rfl⟩⟩; (try first | exact ⟨rfl, _, World.drewN_drewN _ _ _⟩ | exact ⟨rfl, _, Eq.trans (World.drewN_drewN _ _ _) (congrArg (World.drewN _) (Nat.add_assoc _ _ _))⟩)) | (go_at_call 94; (first | (with_reducible refine (spec_l00In.calls a0_5 1 3 false _ A13.out).mono ?_) | ((try simp only [Go.IntWalk.i64_left]); (with_reducible refine (spec_l00In.calls a0_5 1 3 false _ A13.out).mono ?_))); rintro e w' ⟨rfl, ⟨nd, rfl⟩⟩; (try first | exact ⟨rfl, _, World.drewN_drewN _ _ _⟩ | exact ⟨rfl, _, Eq.trans (World.drewN_drewN _ _ _) (congrArg (World.drewN _) (Nat.add_assoc _ _ _))⟩))))
              go_ret
              exact ⟨by first | rfl | (simp; done) | (simp [*]; done), by repeat (first | exact Drawn0.refl _ | apply Drawn0.step)⟩
          · replace c12 := Bool.eq_false_iff.mpr c12
            subst c12
            have H1 : (some false) = some r := by rw [if_neg (show ¬ (false = true) by decide)] at H; exact H
            clear H
            have H := H1
            clear H1
            obtain rfl := Option.some.inj H
            have hz31_0 := HX0_0.out
            have hz31_1 := HX0_1.out
            have hz31_2 := HX0_2.out
            have hz31_3 := HX0_3.out
            have hz31_4 := HX0_4.out
            have hz31_5 := HX0_5.out
            have hz31_6 := HX0_6.out
            have hz32_0 := HX0_0.out
            have hz32_1 := HX0_1.out
            have hz32_2 := HX0_2.out
            have hz32_3 := HX0_3.out
            have hz32_4 := HX0_4.out
            have hz32_5 := HX0_5.out
            have hz32_6 := HX0_6.out
            have hz33_0 := HX0_0.out
            have hz33_1 := HX0_1.out
            have hz33_2 := HX0_2.out
            have hz33_3 := HX0_3.out
            have hz33_4 := HX0_4.out
            have hz33_5 := HX0_5.out
            have hz33_6 := HX0_6.out
            have hz34_0 := HX0_0.out
            have hz34_1 := HX0_1.out
            have hz34_2 := HX0_2.out
            have hz34_3 := HX0_3.out
            have hz34_4 := HX0_4.out
            have hz34_5 := HX0_5.out
            have hz34_6 := HX0_6.out
            have hz35_0 := HX0_0.out
            have hz35_1 := HX0_1.out
            have hz35_2 := HX0_2.out
            have hz35_3 := HX0_3.out
            have hz35_4 := HX0_4.out
            have hz35_5 := HX0_5.out
            have hz35_6 := HX0_6.out
            have hz36_0 := HX0_0.out
            have hz36_1 := HX0_1.out
            have hz36_2 := HX0_2.out
            have hz36_3 := HX0_3.out
            have hz36_4 := HX0_4.out
            have hz36_5 := HX0_5.out
            have hz36_6 := HX0_6.out
            go_enter Try.func167, Try.ntmps167
            go_wp2_with (first | (go_at_call 153; (first | (with_reducible refine (spec_l01Name.calls k a0_0 true _ A2.out).mono ?_) | ((try simp only [Go.IntWalk.i64_left]); (with_reducible refine (spec_l01Name.calls k a0_0 true _ A2.out).mono ?_))); rintro e w' ⟨rfl, ⟨nd, rfl⟩⟩; (try first | exact ⟨rfl, _, World.drewN_drewN _ _ _⟩ | exact ⟨rfl, _, Eq.trans (World.drewN_drewN _ _ _) (congrArg (World.drewN _) (Nat.add_assoc _ _ _))⟩)) | (go_at_call 94; (first | (with_reducible refine (spec_l00In.calls a0_1 0 100000 true _ A4.out).mono ?_) | ((try simp only [Go.IntWalk.i64_left]); (with_reducible refine (spec_l00In.calls a0_1 0 100000 true _ A4.out).mono ?_))); rintro e w' ⟨rfl, ⟨nd, rfl⟩⟩; (try first | exact ⟨rfl, _, World.drewN_drewN _ _ _⟩ | exact ⟨rfl, _, Eq.trans (World.drewN_drewN _ _ _) (congrArg (World.drewN _) (Nat.add_assoc _ _ _))⟩)) | (go_at_call 180; (first | (with_reducible refine (spec_l00Max.calls 1 a0_1 t129 _ A6.out).mono ?_) | ((try simp only [Go.IntWalk.i64_left]); (with_reducible refine (spec_l00Max.calls 1 a0_1 t129 _ A6.out).mono ?_))); rintro e w' ⟨rfl, ⟨nd, rfl⟩⟩; (try first | exact ⟨rfl, _, World.drewN_drewN _ _ _⟩ | exact ⟨rfl, _, Eq.trans (World.drewN_drewN _ _ _) (congrArg (World.drewN _) (Nat.add_assoc _ _ _))⟩)) | (go_at_call 94; (first | (with_reducible refine (spec_l00In.calls a0_2 t129 100000 true _ A7.out).mono ?_) | ((try simp only [Go.IntWalk.i64_left]); (with_reducible refine (spec_l00In.calls a0_2 t129 100000 true _ A7.out).mono ?_))); rintro e w' ⟨rfl, ⟨nd, rfl⟩⟩; (try first | exact ⟨rfl, _, World.drewN_drewN _ _ _⟩ | exact ⟨rfl, _, Eq.trans (World.drewN_drewN _ _ _) (congrArg (World.drewN _) (Nat.add_assoc _ _ _))⟩)) | (go_at_call 94; (first | (with_reducible refine (spec_l00In.calls a0_3 0 100000 true _ A9.out).mono ?_) | ((try simp only [Go.IntWalk.i64_left]); (with_reducible refine (spec_l00In.calls a0_3 0 100000 true _ A9.out).mono ?_))); rintro e w' ⟨rfl, ⟨nd, rfl⟩⟩; (try first | exact ⟨rfl, _, World.drewN_drewN _ _ _⟩ | exact ⟨rfl, _, Eq.trans (World.drewN_drewN _ _ _) (congrArg (World.drewN _) (Nat.add_assoc _ _ _))⟩)) | (go_at_call 94; (first | (with_reducible refine (spec_l00In.calls a0_4 0 100000000 false _ A11.out).mono ?_) | ((try simp only [Go.IntWalk.i64_left]); (with_reducible refine (spec_l00In.calls a0_4 0 100000000 false _ A11.out).mono ?_))); rintro e w' ⟨rfl, ⟨nd, rfl⟩⟩; (try first | exact ⟨rfl, _, World.drewN_drewN _ _ _⟩ | exact ⟨rfl, _, Eq.trans (World.drewN_drewN _ _ _) (congrArg (World.drewN _) (Nat.add_assoc _ _ _))⟩)))
            repeat (go_quiet (first | (go_at_call 153; (first | (with_reducible refine (spec_l01Name.calls k a0_0 true _ A2.out).mono ?_) | ((try simp only [Go.IntWalk.i64_left]); (with_reducible refine (spec_l01Name.calls k a0_0 true _ A2.out).mono ?_))); rintro e w' ⟨rfl, ⟨nd, rfl⟩⟩; (try first | exact ⟨rfl, _, World.drewN_drewN _ _ _⟩ | exact ⟨rfl, _, Eq.trans (World.drewN_drewN _ _ _) (congrArg (World.drewN _) (Nat.add_assoc _ _ _))⟩)) | (go_at_call 94; (first | (with_reducible refine (spec_l00In.calls a0_1 0 100000 true _ A4.out).mono ?_) | ((try simp only [Go.IntWalk.i64_left]); (with_reducible refine (spec_l00In.calls a0_1 0 100000 true _ A4.out).mono ?_))); rintro e w' ⟨rfl, ⟨nd, rfl⟩⟩; (try first | exact ⟨rfl, _, World.drewN_drewN _ _ _⟩ | exact ⟨rfl, _, Eq.trans (World.drewN_drewN _ _ _) (congrArg (World.drewN _) (Nat.add_assoc _ _ _))⟩)) | (go_at_call 180; (first | (with_reducible refine (spec_l00Max.calls 1 a0_1 t129 _ A6.out).mono ?_) | ((try simp only [Go.IntWalk.i64_left]); (with_reducible refine (spec_l00Max.calls 1 a0_1 t129 _ A6.out).mono ?_))); rintro e w' ⟨rfl, ⟨nd, rfl⟩⟩; (try first | exact ⟨rfl, _, World.drewN_drewN _ _ _⟩ | exact ⟨rfl, _, Eq.trans (World.drewN_drewN _ _ _) (congrArg (World.drewN _) (Nat.add_assoc _ _ _))⟩)) | (go_at_call 94; (first | (with_reducible refine (spec_l00In.calls a0_2 t129 100000 true _ A7.out).mono ?_) | ((try simp only [Go.IntWalk.i64_left]); (with_reducible refine (spec_l00In.calls a0_2 t129 100000 true _ A7.out).mono ?_))); rintro e w' ⟨rfl, ⟨nd, rfl⟩⟩; (try first | exact ⟨rfl, _, World.drewN_drewN _ _ _⟩ | exact ⟨rfl, _, Eq.trans (World.drewN_drewN _ _ _) (congrArg (World.drewN _) (Nat.add_assoc _ _ _))⟩)) | (go_at_call 94; (first | (with_reducible refine (spec_l00In.calls a0_3 0 100000 true _ A9.out).mono ?_) | ((try simp only [Go.IntWalk.i64_left]); (with_reducible refine (spec_l00In.calls a0_3 0 100000 true _ A9.out).mono ?_))); rintro e w' ⟨rfl, ⟨nd, rfl⟩⟩; (try first | exact ⟨rfl, _, World.drewN_drewN _ _ _⟩ | exact ⟨rfl, _, Eq.trans (World.drewN_drewN _ _ _) (congrArg (World.drewN _) (Nat.add_assoc _ _ _))⟩)) | (go_at_call 94; (first | (with_reducible refine (spec_l00In.calls a0_4 0 100000000 false _ A11.out).mono ?_) | ((try simp only [Go.IntWalk.i64_left]); (with_reducible refine (spec_l00In.calls a0_4 0 100000000 false _ A11.out).mono ?_))); rintro e w' ⟨rfl, ⟨nd, rfl⟩⟩; (try first | exact ⟨rfl, _, World.drewN_drewN _ _ _⟩ | exact ⟨rfl, _, Eq.trans (World.drewN_drewN _ _ _) (congrArg (World.drewN _) (Nat.add_assoc _ _ _))⟩))); try go_wp2_with (first | (go_at_call 153; (first | (with_reducible refine (spec_l01Name.calls k a0_0 true _ A2.out).mono ?_) | ((try simp only [Go.IntWalk.i64_left]); (with_reducible refine (spec_l01Name.calls k a0_0 true _ A2.out).mono ?_))); rintro e w' ⟨rfl, ⟨nd, rfl⟩⟩; (try first | exact ⟨rfl, _, World.drewN_drewN _ _ _⟩ | exact ⟨rfl, _, Eq.trans (World.drewN_drewN _ _ _) (congrArg (World.drewN _) (Nat.add_assoc _ _ _))⟩)) | (go_at_call 94; (first | (with_reducible refine (spec_l00In.calls a0_1 0 100000 true _ A4.out).mono ?_) | ((try simp only [Go.IntWalk.i64_left]); (with_reducible refine (spec_l00In.calls a0_1 0 100000 true _ A4.out).mono ?_))); rintro e w' ⟨rfl, ⟨nd, rfl⟩⟩; (try first | exact ⟨rfl, _, World.drewN_drewN _ _ _⟩ | exact ⟨rfl, _, Eq.trans (World.drewN_drewN _ _ _) (congrArg (World.drewN _) (Nat.add_assoc _ _ _))⟩)) | (go_at_call 180; (first | (with_reducible refine (spec_l00Max.calls 1 a0_1 t129 _ A6.out).mono ?_) | ((try simp only [Go.IntWalk.i64_left]); (with_reducible refine (spec_l00Max.calls 1 a0_1 t129 _ A6.out).mono ?_))); rintro e w' ⟨rfl, ⟨nd, rfl⟩⟩; (try first | exact ⟨rfl, _, World.drewN_drewN _ _ _⟩ | exact ⟨rfl, _, Eq.trans (World.drewN_drewN _ _ _) (congrArg (World.drewN _) (Nat.add_assoc _ _ _))⟩)) | (go_at_call 94; (first | (with_reducible refine (spec_l00In.calls a0_2 t129 100000 true _ A7.out).mono ?_) | ((try simp only [Go.IntWalk.i64_left]); (with_reducible refine (spec_l00In.calls a0_2 t129 100000 true _ A7.out).mono ?_))); rintro e w' ⟨rfl, ⟨nd, rfl⟩⟩; (try first | exact ⟨rfl, _, World.drewN_drewN _ _ _⟩ | exact ⟨rfl, _, Eq.trans (World.drewN_drewN _ _ _) (congrArg (World.drewN _) (Nat.add_assoc _ _ _))⟩)) | (go_at_call 94; (first | (with_reducible refine (spec_l00In.calls a0_3 0 100000 true _ A9.out).mono ?_) | ((try simp only [Go.IntWalk.i64_left]); (with_reducible refine (spec_l00In.calls a0_3 0 100000 true _ A9.out).mono ?_))); rintro e w' ⟨rfl, ⟨nd, rfl⟩⟩; (try first | exact ⟨rfl, _, World.drewN_drewN _ _ _⟩ | exact ⟨rfl, _, Eq.trans (World.drewN_drewN _ _ _) (congrArg (World.drewN _) (Nat.add_assoc _ _ _))⟩)) | (go_at_call 94; (first | (with_reducible refine (spec_l00In.calls a0_4 0 100000000 false _ A11.out).mono ?_) | ((try simp only [Go.IntWalk.i64_left]); (with_reducible refine (spec_l00In.calls a0_4 0 100000000 false _ A11.out).mono ?_))); rintro e w' ⟨rfl, ⟨nd, rfl⟩⟩; (try first | exact ⟨rfl, _, World.drewN_drewN _ _ _⟩ | exact ⟨rfl, _, Eq.trans (World.drewN_drewN _ _ _) (congrArg (World.drewN _) (Nat.add_assoc _ _ _))⟩))))
            go_ret
            exact ⟨by first | rfl | (simp; done) | (simp [*]; done), by repeat (first | exact Drawn0.refl _ | apply Drawn0.step)⟩
        · replace c10 := Bool.eq_false_iff.mpr c10
          subst c10
          have H1 : (some false) = some r := by rw [if_neg (show ¬ (false = true) by decide)] at H; exact H
          clear H
          have H := H1
          clear H1
          obtain rfl := Option.some.inj H
          have hz37_0 := HX0_0.out
          have hz37_1 := HX0_1.out
          have hz37_2 := HX0_2.out
          have hz37_3 := HX0_3.out
          have hz37_4 := HX0_4.out
          have hz37_5 := HX0_5.out
          have hz37_6 := HX0_6.out
          have hz38_0 := HX0_0.out
          have hz38_1 := HX0_1.out
          have hz38_2 := HX0_2.out
          have hz38_3 := HX0_3.out
          have hz38_4 := HX0_4.out
          have hz38_5 := HX0_5.out
          have hz38_6 := HX0_6.out
          have hz39_0 := HX0_0.out
          have hz39_1 := HX0_1.out
          have hz39_2 := HX0_2.out
          have hz39_3 := HX0_3.out
          have hz39_4 := HX0_4.out
          have hz39_5 := HX0_5.out
          have hz39_6 := HX0_6.out
          have hz40_0 := HX0_0.out
          have hz40_1 := HX0_1.out
          have hz40_2 := HX0_2.out
          have hz40_3 := HX0_3.out
          have hz40_4 := HX0_4.out
          have hz40_5 := HX0_5.out
          have hz40_6 := HX0_6.out
          have hz41_0 := HX0_0.out
          have hz41_1 := HX0_1.out
          have hz41_2 := HX0_2.out
          have hz41_3 := HX0_3.out
          have hz41_4 := HX0_4.out
          have hz41_5 := HX0_5.out
          have hz41_6 := HX0_6.out
          go_enter Try.func167, Try.ntmps167
          go_wp2_with (first | (go_at_call 153; (first | (with_reducible refine (spec_l01Name.calls k a0_0 true _ A2.out).mono ?_) | ((try simp only [Go.IntWalk.i64_left]); (with_reducible refine (spec_l01Name.calls k a0_0 true _ A2.out).mono ?_))); rintro e w' ⟨rfl, ⟨nd, rfl⟩⟩; (try first | exact ⟨rfl, _, World.drewN_drewN _ _ _⟩ | exact ⟨rfl, _, Eq.trans (World.drewN_drewN _ _ _) (congrArg (World.drewN _) (Nat.add_assoc _ _ _))⟩)) | (go_at_call 94; (first | (with_reducible refine (spec_l00In.calls a0_1 0 100000 true _ A4.out).mono ?_) | ((try simp only [Go.IntWalk.i64_left]); (with_reducible refine (spec_l00In.calls a0_1 0 100000 true _ A4.out).mono ?_))); rintro e w' ⟨rfl, ⟨nd, rfl⟩⟩; (try first | exact ⟨rfl, _, World.drewN_drewN _ _ _⟩ | exact ⟨rfl, _, Eq.trans (World.drewN_drewN _ _ _) (congrArg (World.drewN _) (Nat.add_assoc _ _ _))⟩)) | (go_at_call 180; (first | (with_reducible refine (spec_l00Max.calls 1 a0_1 t129 _ A6.out).mono ?_) | ((try simp only [Go.IntWalk.i64_left]); (with_reducible refine (spec_l00Max.calls 1 a0_1 t129 _ A6.out).mono ?_))); rintro e w' ⟨rfl, ⟨nd, rfl⟩⟩; (try first | exact ⟨rfl, _, World.drewN_drewN _ _ _⟩ | exact ⟨rfl, _, Eq.trans (World.drewN_drewN _ _ _) (congrArg (World.drewN _) (Nat.add_assoc _ _ _))⟩)) | (go_at_call 94; (first | (with_reducible refine (spec_l00In.calls a0_2 t129 100000 true _ A7.out).mono ?_) | ((try simp only [Go.IntWalk.i64_left]); (with_reducible refine (spec_l00In.calls a0_2 t129 100000 true _ A7.out).mono ?_))); rintro e w' ⟨rfl, ⟨nd, rfl⟩⟩; (try first | exact ⟨rfl, _, World.drewN_drewN _ _ _⟩ | exact ⟨rfl, _, Eq.trans (World.drewN_drewN _ _ _) (congrArg (World.drewN _) (Nat.add_assoc _ _ _))⟩)) | (go_at_call 94; (first | (with_reducible refine (spec_l00In.calls a0_3 0 100000 false _ A9.out).mono ?_) | ((try simp only [Go.IntWalk.i64_left]); (with_reducible refine (spec_l00In.calls a0_3 0 100000 false _ A9.out).mono ?_))); rintro e w' ⟨rfl, ⟨nd, rfl⟩⟩; (try first | exact ⟨rfl, _, World.drewN_drewN _ _ _⟩ | exact ⟨rfl, _, Eq.trans (World.drewN_drewN _ _ _) (congrArg (World.drewN _) (Nat.add_assoc _ _ _))⟩)))
          repeat (go_quiet (first | (go_at_call 153; (first | (with_reducible refine (spec_l01Name.calls k a0_0 true _ A2.out).mono ?_) | ((try simp only [Go.IntWalk.i64_left]); (with_reducible refine (spec_l01Name.calls k a0_0 true _ A2.out).mono ?_))); rintro e w' ⟨rfl, ⟨nd, rfl⟩⟩; (try first | exact ⟨rfl, _, World.drewN_drewN _ _ _⟩ | exact ⟨rfl, _, Eq.trans (World.drewN_drewN _ _ _) (congrArg (World.drewN _) (Nat.add_assoc _ _ _))⟩)) | (go_at_call 94; (first | (with_reducible refine (spec_l00In.calls a0_1 0 100000 true _ A4.out).mono ?_) | ((try simp only [Go.IntWalk.i64_left]); (with_reducible refine (spec_l00In.calls a0_1 0 100000 true _ A4.out).mono ?_))); rintro e w' ⟨rfl, ⟨nd, rfl⟩⟩; (try first | exact ⟨rfl, _, World.drewN_drewN _ _ _⟩ | exact ⟨rfl, _, Eq.trans (World.drewN_drewN _ _ _) (congrArg (World.drewN _) (Nat.add_assoc _ _ _))⟩)) | (go_at_call 180; (first | (with_reducible refine (spec_l00Max.calls 1 a0_1 t129 _ A6.out).mono ?_) | ((try simp only [Go.IntWalk.i64_left]); (with_reducible refine (spec_l00Max.calls 1 a0_1 t129 _ A6.out).mono ?_))); rintro e w' ⟨rfl, ⟨nd, rfl⟩⟩; (try first | exact ⟨rfl, _, World.drewN_drewN _ _ _⟩ | exact ⟨rfl, _, Eq.trans (World.drewN_drewN _ _ _) (congrArg (World.drewN _) (Nat.add_assoc _ _ _))⟩)) | (go_at_call 94; (first | (with_reducible refine (spec_l00In.calls a0_2 t129 100000 true _ A7.out).mono ?_) | ((try simp only [Go.IntWalk.i64_left]); (with_reducible refine (spec_l00In.calls a0_2 t129 100000 true _ A7.out).mono ?_))); rintro e w' ⟨rfl, ⟨nd, rfl⟩⟩; (try first | exact ⟨rfl, _, World.drewN_drewN _ _ _⟩ | exact ⟨rfl, _, Eq.trans (World.drewN_drewN _ _ _) (congrArg (World.drewN _) (Nat.add_assoc _ _ _))⟩)) | (go_at_call 94; (first | (with_reducible refine (spec_l00In.calls a0_3 0 100000 false _ A9.out).mono ?_) | ((try simp only [Go.IntWalk.i64_left]); (with_reducible refine (spec_l00In.calls a0_3 0 100000 false _ A9.out).mono ?_))); rintro e w' ⟨rfl, ⟨nd, rfl⟩⟩; (try first | exact ⟨rfl, _, World.drewN_drewN _ _ _⟩ | exact ⟨rfl, _, Eq.trans (World.drewN_drewN _ _ _) (congrArg (World.drewN _) (Nat.add_assoc _ _ _))⟩))); try go_wp2_with (first | (go_at_call 153; (first | (with_reducible refine (spec_l01Name.calls k a0_0 true _ A2.out).mono ?_) | ((try simp only [Go.IntWalk.i64_left]); (with_reducible refine (spec_l01Name.calls k a0_0 true _ A2.out).mono ?_))); rintro e w' ⟨rfl, ⟨nd, rfl⟩⟩; (try first | exact ⟨rfl, _, World.drewN_drewN _ _ _⟩ | exact ⟨rfl, _, Eq.trans (World.drewN_drewN _ _ _) (congrArg (World.drewN _) (Nat.add_assoc _ _ _))⟩)) | (go_at_call 94; (first | (with_reducible refine (spec_l00In.calls a0_1 0 100000 true _ A4.out).mono ?_) | ((try simp only [Go.IntWalk.i64_left]); (with_reducible refine (spec_l00In.calls a0_1 0 100000 true _ A4.out).mono ?_))); rintro e w' ⟨rfl, ⟨nd, rfl⟩⟩; (try first | exact ⟨rfl, _, World.drewN_drewN _ _ _⟩ | exact ⟨rfl, _, Eq.trans (World.drewN_drewN _ _ _) (congrArg (World.drewN _) (Nat.add_assoc _ _ _))⟩)) | (go_at_call 180; (first | (with_reducible refine (spec_l00Max.calls 1 a0_1 t129 _ A6.out).mono ?_) | ((try simp only [Go.IntWalk.i64_left]); (with_reducible refine (spec_l00Max.calls 1 a0_1 t129 _ A6.out).mono ?_))); rintro e w' ⟨rfl, ⟨nd, rfl⟩⟩; (try first | exact ⟨rfl, _, World.drewN_drewN _ _ _⟩ | exact ⟨rfl, _, Eq.trans (World.drewN_drewN _ _ _) (congrArg (World.drewN _) (Nat.add_assoc _ _ _))⟩)) | (go_at_call 94; (first | (with_reducible refine (spec_l00In.calls a0_2 t129 100000 true _ A7.out).mono ?_) | ((try simp only [Go.IntWalk.i64_left]); (with_reducible refine (spec_l00In.calls a0_2 t129 100000 true _ A7.out).mono ?_))); rintro e w' ⟨rfl, ⟨nd, rfl⟩⟩; (try first | exact ⟨rfl, _, World.drewN_drewN _ _ _⟩ | exact ⟨rfl, _, Eq.trans (World.drewN_drewN _ _ _) (congrArg (World.drewN _) (Nat.add_assoc _ _ _))⟩)) | (go_at_call 94; (first | (with_reducible refine (spec_l00In.calls a0_3 0 100000 false _ A9.out).mono ?_) | ((try simp only [Go.IntWalk.i64_left]); (with_reducible refine (spec_l00In.calls a0_3 0 100000 false _ A9.out).mono ?_))); rintro e w' ⟨rfl, ⟨nd, rfl⟩⟩; (try first | exact ⟨rfl, _, World.drewN_drewN _ _ _⟩ | exact ⟨rfl, _, Eq.trans (World.drewN_drewN _ _ _) (congrArg (World.drewN _) (Nat.add_assoc _ _ _))⟩))))
          go_ret
          exact ⟨by first | rfl | (simp; done) | (simp [*]; done), by repeat (first | exact Drawn0.refl _ | apply Drawn0.step)⟩
      · replace c8 := Bool.eq_false_iff.mpr c8
        subst c8
        have H1 : (some false) = some r := by rw [if_neg (show ¬ (false = true) by decide)] at H; exact H
        clear H
        have H := H1
        clear H1
        obtain rfl := Option.some.inj H
        have hz42_0 := HX0_0.out
        have hz42_1 := HX0_1.out
        have hz42_2 := HX0_2.out
        have hz42_3 := HX0_3.out
        have hz42_4 := HX0_4.out
        have hz42_5 := HX0_5.out
        have hz42_6 := HX0_6.out
        have hz43_0 := HX0_0.out
        have hz43_1 := HX0_1.out
        have hz43_2 := HX0_2.out
        have hz43_3 := HX0_3.out
        have hz43_4 := HX0_4.out
        have hz43_5 := HX0_5.out
        have hz43_6 := HX0_6.out
        have hz44_0 := HX0_0.out
        have hz44_1 := HX0_1.out
        have hz44_2 := HX0_2.out
        have hz44_3 := HX0_3.out
        have hz44_4 := HX0_4.out
        have hz44_5 := HX0_5.out
        have hz44_6 := HX0_6.out
        have hz45_0 := HX0_0.out
        have hz45_1 := HX0_1.out
        have hz45_2 := HX0_2.out
        have hz45_3 := HX0_3.out
        have hz45_4 := HX0_4.out
        have hz45_5 := HX0_5.out
        have hz45_6 := HX0_6.out
        go_enter Try.func167, Try.ntmps167
        go_wp2_with (first | (go_at_call 153; (first | (with_reducible refine (spec_l01Name.calls k a0_0 true _ A2.out).mono ?_) | ((try simp only [Go.IntWalk.i64_left]); (with_reducible refine (spec_l01Name.calls k a0_0 true _ A2.out).mono ?_))); rintro e w' ⟨rfl, ⟨nd, rfl⟩⟩; (try first | exact ⟨rfl, _, World.drewN_drewN _ _ _⟩ | exact ⟨rfl, _, Eq.trans (World.drewN_drewN _ _ _) (congrArg (World.drewN _) (Nat.add_assoc _ _ _))⟩)) | (go_at_call 94; (first | (with_reducible refine (spec_l00In.calls a0_1 0 100000 true _ A4.out).mono ?_) | ((try simp only [Go.IntWalk.i64_left]); (with_reducible refine (spec_l00In.calls a0_1 0 100000 true _ A4.out).mono ?_))); rintro e w' ⟨rfl, ⟨nd, rfl⟩⟩; (try first | exact ⟨rfl, _, World.drewN_drewN _ _ _⟩ | exact ⟨rfl, _, Eq.trans (World.drewN_drewN _ _ _) (congrArg (World.drewN _) (Nat.add_assoc _ _ _))⟩)) | (go_at_call 180; (first | (with_reducible refine (spec_l00Max.calls 1 a0_1 t129 _ A6.out).mono ?_) | ((try simp only [Go.IntWalk.i64_left]); (with_reducible refine (spec_l00Max.calls 1 a0_1 t129 _ A6.out).mono ?_))); rintro e w' ⟨rfl, ⟨nd, rfl⟩⟩; (try first | exact ⟨rfl, _, World.drewN_drewN _ _ _⟩ | exact ⟨rfl, _, Eq.trans (World.drewN_drewN _ _ _) (congrArg (World.drewN _) (Nat.add_assoc _ _ _))⟩)) | (go_at_call 94; (first | (with_reducible refine (spec_l00In.calls a0_2 t129 100000 false _ A7.out).mono ?_) | ((try simp only [Go.IntWalk.i64_left]); (with_reducible refine (spec_l00In.calls a0_2 t129 100000 false _ A7.out).mono ?_))); rintro e w' ⟨rfl, ⟨nd, rfl⟩⟩; (try first | exact ⟨rfl, _, World.drewN_drewN _ _ _⟩ | exact ⟨rfl, _, Eq.trans (World.drewN_drewN _ _ _) (congrArg (World.drewN _) (Nat.add_assoc _ _ _))⟩)))
        repeat (go_quiet (first | (go_at_call 153; (first | (with_reducible refine (spec_l01Name.calls k a0_0 true _ A2.out).mono ?_) | ((try simp only [Go.IntWalk.i64_left]); (with_reducible refine (spec_l01Name.calls k a0_0 true _ A2.out).mono ?_))); rintro e w' ⟨rfl, ⟨nd, rfl⟩⟩; (try first | exact ⟨rfl, _, World.drewN_drewN _ _ _⟩ | exact ⟨rfl, _, Eq.trans (World.drewN_drewN _ _ _) (congrArg (World.drewN _) (Nat.add_assoc _ _ _))⟩)) | (go_at_call 94; (first | (with_reducible refine (spec_l00In.calls a0_1 0 100000 true _ A4.out).mono ?_) | ((try simp only [Go.IntWalk.i64_left]); (with_reducible refine (spec_l00In.calls a0_1 0 100000 true _ A4.out).mono ?_))); rintro e w' ⟨rfl, ⟨nd, rfl⟩⟩; (try first | exact ⟨rfl, _, World.drewN_drewN _ _ _⟩ | exact ⟨rfl, _, Eq.trans (World.drewN_drewN _ _ _) (congrArg (World.drewN _) (Nat.add_assoc _ _ _))⟩)) | (go_at_call 180; (first | (with_reducible refine (spec_l00Max.calls 1 a0_1 t129 _ A6.out).mono ?_) | ((try simp only [Go.IntWalk.i64_left]); (with_reducible refine (spec_l00Max.calls 1 a0_1 t129 _ A6.out).mono ?_))); rintro e w' ⟨rfl, ⟨nd, rfl⟩⟩; (try first | exact ⟨rfl, _, World.drewN_drewN _ _ _⟩ | exact ⟨rfl, _, Eq.trans (World.drewN_drewN _ _ _) (congrArg (World.drewN _) (Nat.add_assoc _ _ _))⟩)) | (go_at_call 94; (first | (with_reducible refine (spec_l00In.calls a0_2 t129 100000 false _ A7.out).mono ?_) | ((try simp only [Go.IntWalk.i64_left]); (with_reducible refine (spec_l00In.calls a0_2 t129 100000 false _ A7.out).mono ?_))); rintro e w' ⟨rfl, ⟨nd, rfl⟩⟩; (try first | exact ⟨rfl, _, World.drewN_drewN _ _ _⟩ | exact ⟨rfl, _, Eq.trans (World.drewN_drewN _ _ _) (congrArg (World.drewN _) (Nat.add_assoc _ _ _))⟩))); try go_wp2_with (first | (go_at_call 153; (first | (with_reducible refine (spec_l01Name.calls k a0_0 true _ A2.out).mono ?_) | ((try simp only [Go.IntWalk.i64_left]); (with_reducible refine (spec_l01Name.calls k a0_0 true _ A2.out).mono ?_))); rintro e w' ⟨rfl, ⟨nd, rfl⟩⟩; (try first | exact ⟨rfl, _, World.drewN_drewN _ _ _⟩ | exact ⟨rfl, _, Eq.trans (World.drewN_drewN _ _ _) (congrArg (World.drewN _) (Nat.add_assoc _ _ _))⟩)) | (go_at_call 94; (first | (with_reducible refine (spec_l00In.calls a0_1 0 100000 true _ A4.out).mono ?_) | ((try simp only [Go.IntWalk.i64_left]); (with_reducible refine (spec_l00In.calls a0_1 0 100000 true _ A4.out).mono ?_))); rintro e w' ⟨rfl, ⟨nd, rfl⟩⟩; (try first | exact ⟨rfl, _, World.drewN_drewN _ _ _⟩ | exact ⟨rfl, _, Eq.trans (World.drewN_drewN _ _ _) (congrArg (World.drewN _) (Nat.add_assoc _ _ _))⟩)) | (go_at_call 180; (first | (with_reducible refine (spec_l00Max.calls 1 a0_1 t129 _ A6.out).mono ?_) | ((try simp only [Go.IntWalk.i64_left]); (with_reducible refine (spec_l00Max.calls 1 a0_1 t129 _ A6.out).mono ?_))); rintro e w' ⟨rfl, ⟨nd, rfl⟩⟩; (try first | exact ⟨rfl, _, World.drewN_drewN _ _ _⟩ | exact ⟨rfl, _, Eq.trans (World.drewN_drewN _ _ _) (congrArg (World.drewN _) (Nat.add_assoc _ _ _))⟩)) | (go_at_call 94; (first | (with_reducible refine (spec_l00In.calls a0_2 t129 100000 false _ A7.out).mono ?_) | ((try simp only [Go.IntWalk.i64_left]); (with_reducible refine (spec_l00In.calls a0_2 t129 100000 false _ A7.out).mono ?_))); rintro e w' ⟨rfl, ⟨nd, rfl⟩⟩; (try first | exact ⟨rfl, _, World.drewN_drewN _ _ _⟩ | exact ⟨rfl, _, Eq.trans (World.drewN_drewN _ _ _) (congrArg (World.drewN _) (Nat.add_assoc _ _ _))⟩))))
        go_ret
        exact ⟨by first | rfl | (simp; done) | (simp [*]; done), by repeat (first | exact Drawn0.refl _ | apply Drawn0.step)⟩
    · replace c5 := Bool.eq_false_iff.mpr c5
      subst c5
      have H1 : (some false) = some r := by rw [if_neg (show ¬ (false = true) by decide)] at H; exact H
      clear H
      have H := H1
      clear H1
      obtain rfl := Option.some.inj H
      have hz46_0 := HX0_0.out
      have hz46_1 := HX0_1.out
      have hz46_2 := HX0_2.out
      have hz46_3 := HX0_3.out
      have hz46_4 := HX0_4.out
      have hz46_5 := HX0_5.out
      have hz46_6 := HX0_6.out
      have hz47_0 := HX0_0.out
      have hz47_1 := HX0_1.out
      have hz47_2 := HX0_2.out
      have hz47_3 := HX0_3.out
      have hz47_4 := HX0_4.out
      have hz47_5 := HX0_5.out
      have hz47_6 := HX0_6.out
      go_enter Try.func167, Try.ntmps167
      go_wp2_with (first | (go_at_call 153; (first | (with_reducible refine (spec_l01Name.calls k a0_0 true _ A2.out).mono ?_) | ((try simp only [Go.IntWalk.i64_left]); (with_reducible refine (spec_l01Name.calls k a0_0 true _ A2.out).mono ?_))); rintro e w' ⟨rfl, ⟨nd, rfl⟩⟩; (try first | exact ⟨rfl, _, World.drewN_drewN _ _ _⟩ | exact ⟨rfl, _, Eq.trans (World.drewN_drewN _ _ _) (congrArg (World.drewN _) (Nat.add_assoc _ _ _))⟩)) | (go_at_call 94; (first | (with_reducible refine (spec_l00In.calls a0_1 0 100000 false _ A4.out).mono ?_) | ((try simp only [Go.IntWalk.i64_left]); (with_reducible refine (spec_l00In.calls a0_1 0 100000 false _ A4.out).mono ?_))); rintro e w' ⟨rfl, ⟨nd, rfl⟩⟩; (try first | exact ⟨rfl, _, World.drewN_drewN _ _ _⟩ | exact ⟨rfl, _, Eq.trans (World.drewN_drewN _ _ _) (congrArg (World.drewN _) (Nat.add_assoc _ _ _))⟩)))
      repeat (go_quiet (first | (go_at_call 153; (first | (with_reducible refine (spec_l01Name.calls k a0_0 true _ A2.out).mono ?_) | ((try simp only [Go.IntWalk.i64_left]); (with_reducible refine (spec_l01Name.calls k a0_0 true _ A2.out).mono ?_))); rintro e w' ⟨rfl, ⟨nd, rfl⟩⟩; (try first | exact ⟨rfl, _, World.drewN_drewN _ _ _⟩ | exact ⟨rfl, _, Eq.trans (World.drewN_drewN _ _ _) (congrArg (World.drewN _) (Nat.add_assoc _ _ _))⟩)) | (go_at_call 94; (first | (with_reducible refine (spec_l00In.calls a0_1 0 100000 false _ A4.out).mono ?_) | ((try simp only [Go.IntWalk.i64_left]); (with_reducible refine (spec_l00In.calls a0_1 0 100000 false _ A4.out).mono ?_))); rintro e w' ⟨rfl, ⟨nd, rfl⟩⟩; (try first | exact ⟨rfl, _, World.drewN_drewN _ _ _⟩ | exact ⟨rfl, _, Eq.trans (World.drewN_drewN _ _ _) (congrArg (World.drewN _) (Nat.add_assoc _ _ _))⟩))); try go_wp2_with (first | (go_at_call 153; (first | (with_reducible refine (spec_l01Name.calls k a0_0 true _ A2.out).mono ?_) | ((try simp only [Go.IntWalk.i64_left]); (with_reducible refine (spec_l01Name.calls k a0_0 true _ A2.out).mono ?_))); rintro e w' ⟨rfl, ⟨nd, rfl⟩⟩; (try first | exact ⟨rfl, _, World.drewN_drewN _ _ _⟩ | exact ⟨rfl, _, Eq.trans (World.drewN_drewN _ _ _) (congrArg (World.drewN _) (Nat.add_assoc _ _ _))⟩)) | (go_at_call 94; (first | (with_reducible refine (spec_l00In.calls a0_1 0 100000 false _ A4.out).mono ?_) | ((try simp only [Go.IntWalk.i64_left]); (with_reducible refine (spec_l00In.calls a0_1 0 100000 false _ A4.out).mono ?_))); rintro e w' ⟨rfl, ⟨nd, rfl⟩⟩; (try first | exact ⟨rfl, _, World.drewN_drewN _ _ _⟩ | exact ⟨rfl, _, Eq.trans (World.drewN_drewN _ _ _) (congrArg (World.drewN _) (Nat.add_assoc _ _ _))⟩))))
      go_ret
      exact ⟨by first | rfl | (simp; done) | (simp [*]; done), by repeat (first | exact Drawn0.refl _ | apply Drawn0.step)⟩
  · replace c3 := Bool.eq_false_iff.mpr c3
    subst c3
    have H1 : (some false) = some r := by rw [if_neg (show ¬ (false = true) by decide)] at H; exact H
    clear H
    have H := H1
    clear H1
    obtain rfl := Option.some.inj H
    have hz48_0 := HX0_0.out
    have hz48_1 := HX0_1.out
    have hz48_2 := HX0_2.out
    have hz48_3 := HX0_3.out
    have hz48_4 := HX0_4.out
    have hz48_5 := HX0_5.out
    have hz48_6 := HX0_6.out
    go_enter Try.func167, Try.ntmps167
    go_wp2_with (first | (go_at_call 153; (first | (with_reducible refine (spec_l01Name.calls k a0_0 false _ A2.out).mono ?_) | ((try simp only [Go.IntWalk.i64_left]); (with_reducible refine (spec_l01Name.calls k a0_0 false _ A2.out).mono ?_))); rintro e w' ⟨rfl, ⟨nd, rfl⟩⟩; (try first | exact ⟨rfl, _, World.drewN_drewN _ _ _⟩ | exact ⟨rfl, _, Eq.trans (World.drewN_drewN _ _ _) (congrArg (World.drewN _) (Nat.add_assoc _ _ _))⟩)))
    repeat (go_quiet (first | (go_at_call 153; (first | (with_reducible refine (spec_l01Name.calls k a0_0 false _ A2.out).mono ?_) | ((try simp only [Go.IntWalk.i64_left]); (with_reducible refine (spec_l01Name.calls k a0_0 false _ A2.out).mono ?_))); rintro e w' ⟨rfl, ⟨nd, rfl⟩⟩; (try first | exact ⟨rfl, _, World.drewN_drewN _ _ _⟩ | exact ⟨rfl, _, Eq.trans (World.drewN_drewN _ _ _) (congrArg (World.drewN _) (Nat.add_assoc _ _ _))⟩))); try go_wp2_with (first | (go_at_call 153; (first | (with_reducible refine (spec_l01Name.calls k a0_0 false _ A2.out).mono ?_) | ((try simp only [Go.IntWalk.i64_left]); (with_reducible refine (spec_l01Name.calls k a0_0 false _ A2.out).mono ?_))); rintro e w' ⟨rfl, ⟨nd, rfl⟩⟩; (try first | exact ⟨rfl, _, World.drewN_drewN _ _ _⟩ | exact ⟨rfl, _, Eq.trans (World.drewN_drewN _ _ _) (congrArg (World.drewN _) (Nat.add_assoc _ _ _))⟩))))
    go_ret
    exact ⟨by first | rfl | (simp; done) | (simp [*]; done), by repeat (first | exact Drawn0.refl _ | apply Drawn0.step)⟩

end Go.Proofs.Ytjccjmjnlblhaaa.QHourBound
