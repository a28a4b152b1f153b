-- Written by press.py, a program of this session, round the kit's print.py (functions and contracts; Lean checks them).
import Derived.Test.YtjccjmjnlblhaaaQForecastsx0
import Derived.Test.YtjccjmjnlblhaaaQForecastsx8
namespace Go.Proofs.Ytjccjmjnlblhaaa.QForecasts
open Go.Proofs.Ytjccjmjnlblhaaa.QWords
attribute [local go_sem high] binOp_string_geq_q binOp_string_leq_q binOp_string_gtr_q
open Go.RowKit Go.Proofs.YtjccjmjnlblhaaaW.PrintWords Go.Proofs.YtjccjmjnlblhaaaW.PrintLast Go.Proofs.YtjccjmjnlblhaaaW.PrintMore
attribute [local go_sem] max2_int min2_int max_two min_two max_three min_three max_four min_four   -- for this text's walks alone
set_option linter.unusedVariables false
set_option linter.unusedSimpArgs false

/-! ### spec_l05One: function 138 -/
mutual
def spec_l05One.j0 : Nat → Bool → ByteArray → Int → Int → Int → Int → List Int → Option (Bool)
  | 0, _, _, _, _, _, _, _ => none
  | k + 1, x49, x900001000, x900001001, x900001002, x900001003, x900001004, x900001005 => if x49 = true then (some false) else (spec_l05One.l0 k 0 x900001000 x900001001 x900001002 x900001003 x900001004 x900001005)
def spec_l05One.l0 : Nat → Int → ByteArray → Int → Int → Int → Int → List Int → Option (Bool)
  | 0, _, _, _, _, _, _, _ => none
  | k + 1, x3, x900001000, x900001001, x900001002, x900001003, x900001004, x900001005 => if x3 < (x900001005.length : Int) then (if 0 ≤ x3 then ((spec_l00In.f (rd x900001005 x3) 0 3000).bind fun t281 => (if t281 = true then (spec_l05One.l0 k (wrap64 (x3 + 1)) x900001000 x900001001 x900001002 x900001003 x900001004 x900001005) else (some false))) else (none)) else (some true)
end
def spec_l05One.f (k : Nat) (a0_0 : ByteArray) (a0_1 : Int) (a0_2 : Int) (a0_3 : Int) (a0_4 : Int) (l0_5 : List Int) : Option (Bool) := (spec_l01Name.f k a0_0).bind fun t275 => (if t275 = true then ((spec_l00In.f a0_1 0 15).bind fun t276 => (if t276 = true then ((spec_l00In.f a0_2 0 1000000).bind fun t277 => (if t277 = true then ((spec_l00In.f a0_3 0 100000).bind fun t278 => (if t278 = true then ((spec_l05Outdoor.f a0_4).bind fun t279 => (if t279 = true then (spec_l05One.j0 k ((l0_5.length : Int) != 24) a0_0 a0_1 a0_2 a0_3 a0_4 l0_5) else (spec_l05One.j0 k true a0_0 a0_1 a0_2 a0_3 a0_4 l0_5))) else (spec_l05One.j0 k true a0_0 a0_1 a0_2 a0_3 a0_4 l0_5))) else (spec_l05One.j0 k true a0_0 a0_1 a0_2 a0_3 a0_4 l0_5))) else (spec_l05One.j0 k true a0_0 a0_1 a0_2 a0_3 a0_4 l0_5))) else (spec_l05One.j0 k true a0_0 a0_1 a0_2 a0_3 a0_4 l0_5))
theorem spec_l05One.mono_l : ∀ k, (∀ y0 y1 y2 y3 y4 y5 y6, LeO (spec_l05One.j0 k y0 y1 y2 y3 y4 y5 y6) (spec_l05One.j0 (k + 1) y0 y1 y2 y3 y4 y5 y6)) ∧ (∀ y0 y1 y2 y3 y4 y5 y6, LeO (spec_l05One.l0 k y0 y1 y2 y3 y4 y5 y6) (spec_l05One.l0 (k + 1) y0 y1 y2 y3 y4 y5 y6))
  | 0 => ⟨fun _ _ _ _ _ _ _ r h => by simp [spec_l05One.j0] at h, fun _ _ _ _ _ _ _ r h => by simp [spec_l05One.l0] at h⟩
  | k + 1 => by
    obtain ⟨ih0, ih1⟩ := spec_l05One.mono_l k
    refine ⟨?_, ?_⟩
    · intro y0 y1 y2 y3 y4 y5 y6
      unfold spec_l05One.j0
      repeat' first
      | (with_reducible exact ih0 _ _ _ _ _ _ _)
      | (with_reducible exact ih1 _ _ _ _ _ _ _)
      | (with_reducible exact spec_l01Name.mono _ _)
      | (with_reducible exact LeO.refl _)
      | (with_reducible exact LeO.none _)
      | (with_reducible refine LeO.ite ?_ ?_)
      | (with_reducible refine LeO.bind ?_ (fun _ => ?_))
      | exact ih0 _ _ _ _ _ _ _
      | exact ih1 _ _ _ _ _ _ _
      | exact spec_l01Name.mono _ _
      | exact LeO.none _
      | refine LeO.ite ?_ ?_
      | refine LeO.bind ?_ (fun _ => ?_)
    · intro y0 y1 y2 y3 y4 y5 y6
      unfold spec_l05One.l0
      repeat' first
      | (with_reducible exact ih0 _ _ _ _ _ _ _)
      | (with_reducible exact ih1 _ _ _ _ _ _ _)
      | (with_reducible exact spec_l01Name.mono _ _)
      | (with_reducible exact LeO.refl _)
      | (with_reducible exact LeO.none _)
      | (with_reducible refine LeO.ite ?_ ?_)
      | (with_reducible refine LeO.bind ?_ (fun _ => ?_))
      | exact ih0 _ _ _ _ _ _ _
      | exact ih1 _ _ _ _ _ _ _
      | exact spec_l01Name.mono _ _
      | exact LeO.none _
      | refine LeO.ite ?_ ?_
      | refine LeO.bind ?_ (fun _ => ?_)
theorem spec_l05One.mono : ∀ a0 a1 a2 a3 a4 a5 k, LeO (spec_l05One.f k a0 a1 a2 a3 a4 a5) (spec_l05One.f (k + 1) a0 a1 a2 a3 a4 a5) := by
  intro a0 a1 a2 a3 a4 a5 k
  obtain ⟨ih0, ih1⟩ := spec_l05One.mono_l k
  unfold spec_l05One.f
  repeat' first
      | (with_reducible exact ih0 _ _ _ _ _ _ _)
      | (with_reducible exact ih1 _ _ _ _ _ _ _)
      | (with_reducible exact spec_l01Name.mono _ _)
      | (with_reducible exact LeO.refl _)
      | (with_reducible exact LeO.none _)
      | (with_reducible refine LeO.ite ?_ ?_)
      | (with_reducible refine LeO.bind ?_ (fun _ => ?_))
      | exact ih0 _ _ _ _ _ _ _
      | exact ih1 _ _ _ _ _ _ _
      | exact spec_l01Name.mono _ _
      | exact LeO.none _
      | refine LeO.ite ?_ ?_
      | refine LeO.bind ?_ (fun _ => ?_)
set_option maxHeartbeats 8000000 in
set_option maxRecDepth 100000 in
theorem spec_l05One.calls (k : Nat) (ad0 : Addr) (a0_0 : ByteArray) (a0_1 : Int) (a0_2 : Int) (a0_3 : Int) (a0_4 : Int) (A0_5 : Option Addr) (c0_5 : Nat) (l0_5 : List Int) (r : Bool) (w : World) (hx0 : w.cell? ad0 = some (.string a0_0) ∧ w.cell? ⟨ad0.block, ad0.off + 1, none⟩ = some (.int .i64 a0_1) ∧ w.cell? ⟨ad0.block, ad0.off + 2, none⟩ = some (.int .i64 a0_2) ∧ w.cell? ⟨ad0.block, ad0.off + 3, none⟩ = some (.int .i64 a0_3) ∧ w.cell? ⟨ad0.block, ad0.off + 4, none⟩ = some (.int .i64 a0_4) ∧ w.cell? ⟨ad0.block, ad0.off + 5, none⟩ = some (.slice A0_5 l0_5.length c0_5)) (hr0_5 : Kd.C (Kd.int .i64) w A0_5 l0_5.length l0_5) (hc0_5 : l0_5.length ≤ c0_5) (h : spec_l05One.f k a0_0 a0_1 a0_2 a0_3 a0_4 l0_5 = some r) :
    Calls Try.prog 138 #[.pointer (some ad0)] w fun e w' => e = .returned (.bool r) ∧ Drawn0 w w' := by
  obtain ⟨hx0_0, hx0_1, hx0_2, hx0_3, hx0_4, hx0_5⟩ := hx0
  have HX0_0 := Aside0.mk hx0_0
  have HX0_1 := Aside0.mk hx0_1
  have HX0_2 := Aside0.mk hx0_2
  have HX0_3 := Aside0.mk hx0_3
  have HX0_4 := Aside0.mk hx0_4
  have HX0_5 := Aside0.mk hx0_5
  clear hx0_0 hx0_1 hx0_2 hx0_3 hx0_4 hx0_5
  have HR0_5 := Aside0.mk hr0_5
  have HC0_5 := Aside0.mk hc0_5
  clear hr0_5 hc0_5
  have H : ((spec_l01Name.f k a0_0).bind fun t275 => (if t275 = true then ((spec_l00In.f a0_1 0 15).bind fun t276 => (if t276 = true then ((spec_l00In.f a0_2 0 1000000).bind fun t277 => (if t277 = true then ((spec_l00In.f a0_3 0 100000).bind fun t278 => (if t278 = true then ((spec_l05Outdoor.f a0_4).bind fun t279 => (if t279 = true then (spec_l05One.j0 k ((l0_5.length : Int) != 24) a0_0 a0_1 a0_2 a0_3 a0_4 l0_5) else (spec_l05One.j0 k true a0_0 a0_1 a0_2 a0_3 a0_4 l0_5))) else (spec_l05One.j0 k true a0_0 a0_1 a0_2 a0_3 a0_4 l0_5))) else (spec_l05One.j0 k true a0_0 a0_1 a0_2 a0_3 a0_4 l0_5))) else (spec_l05One.j0 k true a0_0 a0_1 a0_2 a0_3 a0_4 l0_5))) else (spec_l05One.j0 k true a0_0 a0_1 a0_2 a0_3 a0_4 l0_5))) = some r := h
  clear h
  have HC2 := Aside0.mk H
  clear H
  go_enter Try.func138, Try.ntmps138
  go_upto_region 1 with (fail)
  go_cut [49] (fun v49 wc => ∃ (kq : Nat) (x49_1 : Bool), v49 = .bool x49_1 ∧ Aside0 (spec_l05One.j0 kq x49_1 a0_0 a0_1 a0_2 a0_3 a0_4 l0_5 = some r) ∧ Aside0 (kq ≤ k) ∧ Drawn0 w wc)
  case first =>
    have H := HC2.out
    clear HC2
    replace H := Option.bind_eq_some_iff.mp H
    obtain ⟨t275, A30, H⟩ := H
    replace H : (if t275 = true then ((spec_l00In.f a0_1 0 15).bind fun t276 => (if t276 = true then ((spec_l00In.f a0_2 0 1000000).bind fun t277 => (if t277 = true then ((spec_l00In.f a0_3 0 100000).bind fun t278 => (if t278 = true then ((spec_l05Outdoor.f a0_4).bind fun t279 => (if t279 = true then (spec_l05One.j0 k ((l0_5.length : Int) != 24) a0_0 a0_1 a0_2 a0_3 a0_4 l0_5) else (spec_l05One.j0 k true a0_0 a0_1 a0_2 a0_3 a0_4 l0_5))) else (spec_l05One.j0 k true a0_0 a0_1 a0_2 a0_3 a0_4 l0_5))) else (spec_l05One.j0 k true a0_0 a0_1 a0_2 a0_3 a0_4 l0_5))) else (spec_l05One.j0 k true a0_0 a0_1 a0_2 a0_3 a0_4 l0_5))) else (spec_l05One.j0 k true a0_0 a0_1 a0_2 a0_3 a0_4 l0_5)) = some r := H
    have A3 := Aside0.mk A30
    clear A30
    by_cases c4 : t275 = true
    · subst c4
      have H1 : ((spec_l00In.f a0_1 0 15).bind fun t276 => (if t276 = true then ((spec_l00In.f a0_2 0 1000000).bind fun t277 => (if t277 = true then ((spec_l00In.f a0_3 0 100000).bind fun t278 => (if t278 = true then ((spec_l05Outdoor.f a0_4).bind fun t279 => (if t279 = true then (spec_l05One.j0 k ((l0_5.length : Int) != 24) a0_0 a0_1 a0_2 a0_3 a0_4 l0_5) else (spec_l05One.j0 k true a0_0 a0_1 a0_2 a0_3 a0_4 l0_5))) else (spec_l05One.j0 k true a0_0 a0_1 a0_2 a0_3 a0_4 l0_5))) else (spec_l05One.j0 k true a0_0 a0_1 a0_2 a0_3 a0_4 l0_5))) else (spec_l05One.j0 k true a0_0 a0_1 a0_2 a0_3 a0_4 l0_5))) = some r := by rw [if_pos rfl] at H; exact H
      clear H
      have H := H1
      clear H1
      replace H := Option.bind_eq_some_iff.mp H
      obtain ⟨t276, A50, H⟩ := H
      replace H : (if t276 = true then ((spec_l00In.f a0_2 0 1000000).bind fun t277 => (if t277 = true then ((spec_l00In.f a0_3 0 100000).bind fun t278 => (if t278 = true then ((spec_l05Outdoor.f a0_4).bind fun t279 => (if t279 = true then (spec_l05One.j0 k ((l0_5.length : Int) != 24) a0_0 a0_1 a0_2 a0_3 a0_4 l0_5) else (spec_l05One.j0 k true a0_0 a0_1 a0_2 a0_3 a0_4 l0_5))) else (spec_l05One.j0 k true a0_0 a0_1 a0_2 a0_3 a0_4 l0_5))) else (spec_l05One.j0 k true a0_0 a0_1 a0_2 a0_3 a0_4 l0_5))) else (spec_l05One.j0 k true a0_0 a0_1 a0_2 a0_3 a0_4 l0_5)) = some r := H
      have A5 := Aside0.mk A50
      clear A50
      by_cases c6 : t276 = true
      · subst c6
        have H1 : ((spec_l00In.f a0_2 0 1000000).bind fun t277 => (if t277 = true then ((spec_l00In.f a0_3 0 100000).bind fun t278 => (if t278 = true then ((spec_l05Outdoor.f a0_4).bind fun t279 => (if t279 = true then (spec_l05One.j0 k ((l0_5.length : Int) != 24) a0_0 a0_1 a0_2 a0_3 a0_4 l0_5) else (spec_l05One.j0 k true a0_0 a0_1 a0_2 a0_3 a0_4 l0_5))) else (spec_l05One.j0 k true a0_0 a0_1 a0_2 a0_3 a0_4 l0_5))) else (spec_l05One.j0 k true a0_0 a0_1 a0_2 a0_3 a0_4 l0_5))) = some r := by rw [if_pos rfl] at H; exact H
        clear H
        have H := H1
        clear H1
        replace H := Option.bind_eq_some_iff.mp H
        obtain ⟨t277, A70, H⟩ := H
        replace H : (if t277 = true then ((spec_l00In.f a0_3 0 100000).bind fun t278 => (if t278 = true then ((spec_l05Outdoor.f a0_4).bind fun t279 => (if t279 = true then (spec_l05One.j0 k ((l0_5.length : Int) != 24) a0_0 a0_1 a0_2 a0_3 a0_4 l0_5) else (spec_l05One.j0 k true a0_0 a0_1 a0_2 a0_3 a0_4 l0_5))) else (spec_l05One.j0 k true a0_0 a0_1 a0_2 a0_3 a0_4 l0_5))) else (spec_l05One.j0 k true a0_0 a0_1 a0_2 a0_3 a0_4 l0_5)) = some r := H
        have A7 := Aside0.mk A70
        clear A70
        by_cases c8 : t277 = true
        · subst c8
          have H1 : ((spec_l00In.f a0_3 0 100000).bind fun t278 => (if t278 = true then ((spec_l05Outdoor.f a0_4).bind fun t279 => (if t279 = true then (spec_l05One.j0 k ((l0_5.length : Int) != 24) a0_0 a0_1 a0_2 a0_3 a0_4 l0_5) else (spec_l05One.j0 k true a0_0 a0_1 a0_2 a0_3 a0_4 l0_5))) else (spec_l05One.j0 k true a0_0 a0_1 a0_2 a0_3 a0_4 l0_5))) = some r := by rw [if_pos rfl] at H; exact H
          clear H
          have H := H1
          clear H1
          replace H := Option.bind_eq_some_iff.mp H
          obtain ⟨t278, A90, H⟩ := H
          replace H : (if t278 = true then ((spec_l05Outdoor.f a0_4).bind fun t279 => (if t279 = true then (spec_l05One.j0 k ((l0_5.length : Int) != 24) a0_0 a0_1 a0_2 a0_3 a0_4 l0_5) else (spec_l05One.j0 k true a0_0 a0_1 a0_2 a0_3 a0_4 l0_5))) else (spec_l05One.j0 k true a0_0 a0_1 a0_2 a0_3 a0_4 l0_5)) = some r := H
          have A9 := Aside0.mk A90
          clear A90
          by_cases c10 : t278 = true
          · subst c10
            have H1 : ((spec_l05Outdoor.f a0_4).bind fun t279 => (if t279 = true then (spec_l05One.j0 k ((l0_5.length : Int) != 24) a0_0 a0_1 a0_2 a0_3 a0_4 l0_5) else (spec_l05One.j0 k true a0_0 a0_1 a0_2 a0_3 a0_4 l0_5))) = some r := by rw [if_pos rfl] at H; exact H
            clear H
            have H := H1
            clear H1
            replace H := Option.bind_eq_some_iff.mp H
            obtain ⟨t279, A110, H⟩ := H
            replace H : (if t279 = true then (spec_l05One.j0 k ((l0_5.length : Int) != 24) a0_0 a0_1 a0_2 a0_3 a0_4 l0_5) else (spec_l05One.j0 k true a0_0 a0_1 a0_2 a0_3 a0_4 l0_5)) = some r := H
            have A11 := Aside0.mk A110
            clear A110
            by_cases c12 : t279 = true
            · subst c12
              have H1 : (spec_l05One.j0 k ((l0_5.length : Int) != 24) a0_0 a0_1 a0_2 a0_3 a0_4 l0_5) = some r := by rw [if_pos rfl] at H; exact H
              clear H
              have H := H1
              clear H1
              have H' := Aside0.mk H
              clear H
              have hz13_0 := HX0_0.out
              have hz13_1 := HX0_1.out
              have hz13_2 := HX0_2.out
              have hz13_3 := HX0_3.out
              have hz13_4 := HX0_4.out
              have hz13_5 := HX0_5.out
              go_wp2_with (first | ((with_reducible refine gate_callee (f := 153) rfl ?_); refine goesL_ (some 8) rfl rfl Try.func153 (by kernel_rfl) rfl #[.string a0_0] rfl (by (try simp only [List.map_toArray, List.map_cons, List.map_nil]); first | done | rfl | (simp only [List.length_drop, List.length_take]; rfl)) ?_; (with_reducible refine (spec_l01Name.calls k a0_0 true _ A3.out).mono ?_); rintro e w' ⟨rfl, ⟨nd, rfl⟩⟩; refine ⟨_, rfl, ?_⟩; have hz14_0 := HX0_0.out; have hz14_1 := HX0_1.out; have hz14_2 := HX0_2.out; have hz14_3 := HX0_3.out; have hz14_4 := HX0_4.out; have hz14_5 := HX0_5.out) | (go_at_call 94; (first | (with_reducible refine (spec_l00In.calls a0_1 0 15 true _ A5.out).mono ?_) | ((try simp only [Go.IntWalk.i64_left]); (with_reducible refine (spec_l00In.calls a0_1 0 15 true _ A5.out).mono ?_))); rintro e w' ⟨rfl, ⟨nd, rfl⟩⟩; have hz15_0 := HX0_0.out; have hz15_1 := HX0_1.out; have hz15_2 := HX0_2.out; have hz15_3 := HX0_3.out; have hz15_4 := HX0_4.out; have hz15_5 := HX0_5.out) | (go_at_call 94; (first | (with_reducible refine (spec_l00In.calls a0_2 0 1000000 true _ A7.out).mono ?_) | ((try simp only [Go.IntWalk.i64_left]); (with_reducible refine (spec_l00In.calls a0_2 0 1000000 true _ A7.out).mono ?_))); rintro e w' ⟨rfl, ⟨nd, rfl⟩⟩; have hz16_0 := HX0_0.out; have hz16_1 := HX0_1.out; have hz16_2 := HX0_2.out; have hz16_3 := HX0_3.out; have hz16_4 := HX0_4.out; have hz16_5 := HX0_5.out) | (go_at_call 94; (first | (with_reducible refine (spec_l00In.calls a0_3 0 100000 true _ A9.out).mono ?_) | ((try simp only [Go.IntWalk.i64_left]); (with_reducible refine (spec_l00In.calls a0_3 0 100000 true _ A9.out).mono ?_))); rintro e w' ⟨rfl, ⟨nd, rfl⟩⟩; have hz17_0 := HX0_0.out; have hz17_1 := HX0_1.out; have hz17_2 := HX0_2.out; have hz17_3 := HX0_3.out; have hz17_4 := HX0_4.out; have hz17_5 := HX0_5.out) | (go_at_call 139; (first | (with_reducible refine (spec_l05Outdoor.calls a0_4 true _ A11.out).mono ?_) | ((try simp only [Go.IntWalk.i64_left]); (with_reducible refine (spec_l05Outdoor.calls a0_4 true _ A11.out).mono ?_))); rintro e w' ⟨rfl, ⟨nd, rfl⟩⟩; have hz18_0 := HX0_0.out; have hz18_1 := HX0_1.out; have hz18_2 := HX0_2.out; have hz18_3 := HX0_3.out; have hz18_4 := HX0_4.out; have hz18_5 := HX0_5.out))
              go_meet
              case rel => exact ⟨_, (((l0_5.length : Int) != 24)), (by first | rfl | (simp; done) | (simp [*]; done)), H', ⟨by first | omega | exact Nat.le_refl _⟩, by repeat (first | exact Drawn0.refl _ | apply Drawn0.step)⟩
            · replace c12 := Bool.eq_false_iff.mpr c12
              subst c12
              have H1 : (spec_l05One.j0 k true a0_0 a0_1 a0_2 a0_3 a0_4 l0_5) = some r := by rw [if_neg (show ¬ (false = true) by decide)] at H; exact H
              clear H
              have H := H1
              clear H1
              have H' := Aside0.mk H
              clear H
              have hz19_0 := HX0_0.out
              have hz19_1 := HX0_1.out
              have hz19_2 := HX0_2.out
              have hz19_3 := HX0_3.out
              have hz19_4 := HX0_4.out
              have hz19_5 := HX0_5.out
              go_wp2_with (first | ((with_reducible refine gate_callee (f := 153) rfl ?_); refine goesL_ (some 8) rfl rfl Try.func153 (by kernel_rfl) rfl #[.string a0_0] rfl (by (try simp only [List.map_toArray, List.map_cons, List.map_nil]); first | done | rfl | (simp only [List.length_drop, List.length_take]; rfl)) ?_; (with_reducible refine (spec_l01Name.calls k a0_0 true _ A3.out).mono ?_); rintro e w' ⟨rfl, ⟨nd, rfl⟩⟩; refine ⟨_, rfl, ?_⟩; have hz20_0 := HX0_0.out; have hz20_1 := HX0_1.out; have hz20_2 := HX0_2.out; have hz20_3 := HX0_3.out; have hz20_4 := HX0_4.out; have hz20_5 := HX0_5.out) | (go_at_call 94; (first | (with_reducible refine (spec_l00In.calls a0_1 0 15 true _ A5.out).mono ?_) | ((try simp only [Go.IntWalk.i64_left]); (with_reducible refine (spec_l00In.calls a0_1 0 15 true _ A5.out).mono ?_))); rintro e w' ⟨rfl, ⟨nd, rfl⟩⟩; have hz21_0 := HX0_0.out; have hz21_1 := HX0_1.out; have hz21_2 := HX0_2.out; have hz21_3 := HX0_3.out; have hz21_4 := HX0_4.out; have hz21_5 := HX0_5.out) | (go_at_call 94; (first | (with_reducible refine (spec_l00In.calls a0_2 0 1000000 true _ A7.out).mono ?_) | ((try simp only [Go.IntWalk.i64_left]); (with_reducible refine (spec_l00In.calls a0_2 0 1000000 true _ A7.out).mono ?_))); rintro e w' ⟨rfl, ⟨nd, rfl⟩⟩; have hz22_0 := HX0_0.out; have hz22_1 := HX0_1.out; have hz22_2 := HX0_2.out; have hz22_3 := HX0_3.out; have hz22_4 := HX0_4.out; have hz22_5 := HX0_5.out) | (go_at_call 94; (first | (with_reducible refine (spec_l00In.calls a0_3 0 100000 true _ A9.out).mono ?_) | ((try simp only [Go.IntWalk.i64_left]); (with_reducible refine (spec_l00In.calls a0_3 0 100000 true _ A9.out).mono ?_))); rintro e w' ⟨rfl, ⟨nd, rfl⟩⟩; have hz23_0 := HX0_0.out; have hz23_1 := HX0_1.out; have hz23_2 := HX0_2.out; have hz23_3 := HX0_3.out; have hz23_4 := HX0_4.out; have hz23_5 := HX0_5.out) | (go_at_call 139; (first | (with_reducible refine (spec_l05Outdoor.calls a0_4 false _ A11.out).mono ?_) | ((try simp only [Go.IntWalk.i64_left]); (with_reducible refine (spec_l05Outdoor.calls a0_4 false _ A11.out).mono ?_))); rintro e w' ⟨rfl, ⟨nd, rfl⟩⟩))
              go_meet
              case rel => exact ⟨_, (true), (by first | rfl | (simp; done) | (simp [*]; done)), H', ⟨by first | omega | exact Nat.le_refl _⟩, by repeat (first | exact Drawn0.refl _ | apply Drawn0.step)⟩
          · replace c10 := Bool.eq_false_iff.mpr c10
            subst c10
            have H1 : (spec_l05One.j0 k true a0_0 a0_1 a0_2 a0_3 a0_4 l0_5) = some r := by rw [if_neg (show ¬ (false = true) by decide)] at H; exact H
            clear H
            have H := H1
            clear H1
            have H' := Aside0.mk H
            clear H
            have hz24_0 := HX0_0.out
            have hz24_1 := HX0_1.out
            have hz24_2 := HX0_2.out
            have hz24_3 := HX0_3.out
            have hz24_4 := HX0_4.out
            have hz24_5 := HX0_5.out
            go_wp2_with (first | ((with_reducible refine gate_callee (f := 153) rfl ?_); refine goesL_ (some 8) rfl rfl Try.func153 (by kernel_rfl) rfl #[.string a0_0] rfl (by (try simp only [List.map_toArray, List.map_cons, List.map_nil]); first | done | rfl | (simp only [List.length_drop, List.length_take]; rfl)) ?_; (with_reducible refine (spec_l01Name.calls k a0_0 true _ A3.out).mono ?_); rintro e w' ⟨rfl, ⟨nd, rfl⟩⟩; refine ⟨_, rfl, ?_⟩; have hz25_0 := HX0_0.out; have hz25_1 := HX0_1.out; have hz25_2 := HX0_2.out; have hz25_3 := HX0_3.out; have hz25_4 := HX0_4.out; have hz25_5 := HX0_5.out) | (go_at_call 94; (first | (with_reducible refine (spec_l00In.calls a0_1 0 15 true _ A5.out).mono ?_) | ((try simp only [Go.IntWalk.i64_left]); (with_reducible refine (spec_l00In.calls a0_1 0 15 true _ A5.out).mono ?_))); rintro e w' ⟨rfl, ⟨nd, rfl⟩⟩; have hz26_0 := HX0_0.out; have hz26_1 := HX0_1.out; have hz26_2 := HX0_2.out; have hz26_3 := HX0_3.out; have hz26_4 := HX0_4.out; have hz26_5 := HX0_5.out) | (go_at_call 94; (first | (with_reducible refine (spec_l00In.calls a0_2 0 1000000 true _ A7.out).mono ?_) | ((try simp only [Go.IntWalk.i64_left]); (with_reducible refine (spec_l00In.calls a0_2 0 1000000 true _ A7.out).mono ?_))); rintro e w' ⟨rfl, ⟨nd, rfl⟩⟩; have hz27_0 := HX0_0.out; have hz27_1 := HX0_1.out; have hz27_2 := HX0_2.out; have hz27_3 := HX0_3.out; have hz27_4 := HX0_4.out; have hz27_5 := HX0_5.out) | (go_at_call 94; (first | (with_reducible refine (spec_l00In.calls a0_3 0 100000 false _ A9.out).mono ?_) | ((try simp only [Go.IntWalk.i64_left]); (with_reducible refine (spec_l00In.calls a0_3 0 100000 false _ A9.out).mono ?_))); rintro e w' ⟨rfl, ⟨nd, rfl⟩⟩))
            go_meet
            case rel => exact ⟨_, (true), (by first | rfl | (simp; done) | (simp [*]; done)), H', ⟨by first | omega | exact Nat.le_refl _⟩, by repeat (first | exact Drawn0.refl _ | apply Drawn0.step)⟩
        · replace c8 := Bool.eq_false_iff.mpr c8
          subst c8
          have H1 : (spec_l05One.j0 k true a0_0 a0_1 a0_2 a0_3 a0_4 l0_5) = some r := by rw [if_neg (show ¬ (false = true) by decide)] at H; exact H
          clear H
          have H := H1
          clear H1
          have H' := Aside0.mk H
          clear H
          have hz28_0 := HX0_0.out
          have hz28_1 := HX0_1.out
          have hz28_2 := HX0_2.out
          have hz28_3 := HX0_3.out
          have hz28_4 := HX0_4.out
          have hz28_5 := HX0_5.out
          go_wp2_with (first | ((with_reducible refine gate_callee (f := 153) rfl ?_); refine goesL_ (some 8) rfl rfl Try.func153 (by kernel_rfl) rfl #[.string a0_0] rfl (by (try simp only [List.map_toArray, List.map_cons, List.map_nil]); first | done | rfl | (simp only [List.length_drop, List.length_take]; rfl)) ?_; (with_reducible refine (spec_l01Name.calls k a0_0 true _ A3.out).mono ?_); rintro e w' ⟨rfl, ⟨nd, rfl⟩⟩; refine ⟨_, rfl, ?_⟩; have hz29_0 := HX0_0.out; have hz29_1 := HX0_1.out; have hz29_2 := HX0_2.out; have hz29_3 := HX0_3.out; have hz29_4 := HX0_4.out; have hz29_5 := HX0_5.out) | (go_at_call 94; (first | (with_reducible refine (spec_l00In.calls a0_1 0 15 true _ A5.out).mono ?_) | ((try simp only [Go.IntWalk.i64_left]); (with_reducible refine (spec_l00In.calls a0_1 0 15 true _ A5.out).mono ?_))); rintro e w' ⟨rfl, ⟨nd, rfl⟩⟩; have hz30_0 := HX0_0.out; have hz30_1 := HX0_1.out; have hz30_2 := HX0_2.out; have hz30_3 := HX0_3.out; have hz30_4 := HX0_4.out; have hz30_5 := HX0_5.out) | (go_at_call 94; (first | (with_reducible refine (spec_l00In.calls a0_2 0 1000000 false _ A7.out).mono ?_) | ((try simp only [Go.IntWalk.i64_left]); (with_reducible refine (spec_l00In.calls a0_2 0 1000000 false _ A7.out).mono ?_))); rintro e w' ⟨rfl, ⟨nd, rfl⟩⟩))
          go_meet
          case rel => exact ⟨_, (true), (by first | rfl | (simp; done) | (simp [*]; done)), H', ⟨by first | omega | exact Nat.le_refl _⟩, by repeat (first | exact Drawn0.refl _ | apply Drawn0.step)⟩
      · replace c6 := Bool.eq_false_iff.mpr c6
        subst c6
        have H1 : (spec_l05One.j0 k true a0_0 a0_1 a0_2 a0_3 a0_4 l0_5) = some r := by rw [if_neg (show ¬ (false = true) by decide)] at H; exact H
        clear H
        have H := H1
        clear H1
        have H' := Aside0.mk H
        clear H
        have hz31_0 := HX0_0.out
        have hz31_1 := HX0_1.out
        have hz31_2 := HX0_2.out
        have hz31_3 := HX0_3.out
        have hz31_4 := HX0_4.out
        have hz31_5 := HX0_5.out
        go_wp2_with (first | ((with_reducible refine gate_callee (f := 153) rfl ?_); refine goesL_ (some 8) rfl rfl Try.func153 (by kernel_rfl) rfl #[.string a0_0] rfl (by (try simp only [List.map_toArray, List.map_cons, List.map_nil]); first | done | rfl | (simp only [List.length_drop, List.length_take]; rfl)) ?_; (with_reducible refine (spec_l01Name.calls k a0_0 true _ A3.out).mono ?_); rintro e w' ⟨rfl, ⟨nd, rfl⟩⟩; refine ⟨_, rfl, ?_⟩; have hz32_0 := HX0_0.out; have hz32_1 := HX0_1.out; have hz32_2 := HX0_2.out; have hz32_3 := HX0_3.out; have hz32_4 := HX0_4.out; have hz32_5 := HX0_5.out) | (go_at_call 94; (first | (with_reducible refine (spec_l00In.calls a0_1 0 15 false _ A5.out).mono ?_) | ((try simp only [Go.IntWalk.i64_left]); (with_reducible refine (spec_l00In.calls a0_1 0 15 false _ A5.out).mono ?_))); rintro e w' ⟨rfl, ⟨nd, rfl⟩⟩))
        go_meet
        case rel => exact ⟨_, (true), (by first | rfl | (simp; done) | (simp [*]; done)), H', ⟨by first | omega | exact Nat.le_refl _⟩, by repeat (first | exact Drawn0.refl _ | apply Drawn0.step)⟩
    · replace c4 := Bool.eq_false_iff.mpr c4
      subst c4
      have H1 : (spec_l05One.j0 k true a0_0 a0_1 a0_2 a0_3 a0_4 l0_5) = some r := by rw [if_neg (show ¬ (false = true) by decide)] at H; exact H
      clear H
      have H := H1
      clear H1
      have H' := Aside0.mk H
      clear H
      have hz33_0 := HX0_0.out
      have hz33_1 := HX0_1.out
      have hz33_2 := HX0_2.out
      have hz33_3 := HX0_3.out
      have hz33_4 := HX0_4.out
      have hz33_5 := HX0_5.out
      go_wp2_with (first | ((with_reducible refine gate_callee (f := 153) rfl ?_); refine goesL_ (some 8) rfl rfl Try.func153 (by kernel_rfl) rfl #[.string a0_0] rfl (by (try simp only [List.map_toArray, List.map_cons, List.map_nil]); first | done | rfl | (simp only [List.length_drop, List.length_take]; rfl)) ?_; (with_reducible refine (spec_l01Name.calls k a0_0 false _ A3.out).mono ?_); rintro e w' ⟨rfl, ⟨nd, rfl⟩⟩; refine ⟨_, rfl, ?_⟩))
      go_meet
      case rel => exact ⟨_, (true), (by first | rfl | (simp; done) | (simp [*]; done)), H', ⟨by first | omega | exact Nat.le_refl _⟩, by repeat (first | exact Drawn0.refl _ | apply Drawn0.step)⟩
  case rest =>
    clear HC2
    try clear c1
    try clear p2
    try clear c4
    try clear c6
    try clear c8
    try clear c10
    try clear c12
    try clear c13
    try clear c15
    try clear hx0_0
    try clear hx0_1
    try clear hx0_2
    try clear hx0_3
    try clear hx0_4
    try clear hx0_5
    obtain ⟨kq, x49_1, rfl, HA, HJ1, ⟨mc1, rfl⟩⟩ := hcut
    cases kq with
    | zero => exact absurd HA.out (by simp [spec_l05One.j0])
    | succ kj1 =>
      have H := HA.out
      clear HA
      simp only [spec_l05One.j0] at H
      by_cases c34 : x49_1 = true
      · subst c34
        have H1 : (some false) = some r := by rw [if_pos rfl] at H; exact H
        clear H
        have H := H1
        clear H1
        obtain rfl := Option.some.inj H
        go_wp2
        go_ret
        exact ⟨by first | rfl | (simp; done) | (simp [*]; done), by repeat (first | exact Drawn0.refl _ | apply Drawn0.step)⟩
      · replace c34 := Bool.eq_false_iff.mpr c34
        subst c34
        have H1 : (spec_l05One.l0 kj1 0 a0_0 a0_1 a0_2 a0_3 a0_4 l0_5) = some r := by rw [if_neg (show ¬ (false = true) by decide)] at H; exact H
        clear H
        have H := H1
        clear H1
        have H' := Aside0.mk H
        clear H
        go_wp2
        go_loopg [3] kj1 (fun kq v3 w' => ∃ (x3_2 : Int), v3 = .int .i64 x3_2 ∧ Aside0 (spec_l05One.l0 kq x3_2 a0_0 a0_1 a0_2 a0_3 a0_4 l0_5 = some r) ∧ Aside0 (kq ≤ kj1) ∧ Drawn0 w w')
        case atStart => exact ⟨(0), (by first | rfl | (simp; done) | (simp [*]; done)), H', ⟨Nat.le_refl _⟩, by repeat (first | exact Drawn0.refl _ | apply Drawn0.step)⟩
        case round =>
          clear H'
          try clear c1
          try clear p2
          try clear c3
          try clear c4
          try clear c6
          try clear c8
          try clear c10
          try clear c12
          try clear c13
          try clear c15
          try clear c34
          try clear hx0_0
          try clear hx0_1
          try clear hx0_2
          try clear hx0_3
          try clear hx0_4
          try clear hx0_5
          try clear p2
          obtain ⟨x3_2, rfl, HA, HK2, ⟨m2, rfl⟩⟩ := hrel
          cases gk with
          | zero => exact absurd HA.out (by simp [spec_l05One.l0])
          | succ k2 =>
            have H := HA.out
            clear HA
            simp only [spec_l05One.l0] at H
            by_cases c35 : x3_2 < (l0_5.length : Int)
            · rw [if_pos c35] at H
              have c35b0 : decide (x3_2 < (l0_5.length : Int)) = true := decide_eq_true c35
              clear c35
              by_cases c36 : 0 ≤ x3_2
              · rw [if_pos c36] at H
                have c36b0 : decide (0 ≤ x3_2) = true := decide_eq_true c36
                clear c36
                replace H := Option.bind_eq_some_iff.mp H
                obtain ⟨t281, A370, H⟩ := H
                replace H : (if t281 = true then (spec_l05One.l0 k2 (wrap64 (x3_2 + 1)) a0_0 a0_1 a0_2 a0_3 a0_4 l0_5) else (some false)) = some r := H
                have A37 := Aside0.mk A370
                clear A370
                by_cases c38 : t281 = true
                · subst c38
                  have H1 : (spec_l05One.l0 k2 (wrap64 (x3_2 + 1)) a0_0 a0_1 a0_2 a0_3 a0_4 l0_5) = some r := by rw [if_pos rfl] at H; exact H
                  clear H
                  have H := H1
                  clear H1
                  have H' := Aside0.mk H
                  clear H
                  have hz39_0 := HX0_0.out
                  have hz39_1 := HX0_1.out
                  have hz39_2 := HX0_2.out
                  have hz39_3 := HX0_3.out
                  have hz39_4 := HX0_4.out
                  have hz39_5 := HX0_5.out
                  have hz40_0 := HX0_0.out
                  have hz40_1 := HX0_1.out
                  have hz40_2 := HX0_2.out
                  have hz40_3 := HX0_3.out
                  have hz40_4 := HX0_4.out
                  have hz40_5 := HX0_5.out
                  have p280 : 0 ≤ (x3_2 : Int) := of_decide_eq_true (by first | (with_reducible assumption) | assumption)
                  have q280 : x3_2 < (l0_5.length : Int) := of_decide_eq_true (by first | (with_reducible assumption) | assumption)
                  obtain ⟨ad280, e280, hx280_0⟩ := Kd.at_int HR0_5.out x3_2 p280 q280
                  cases e280
                  replace p280 := eq_true p280
                  replace q280 := eq_true q280
                  go_wp2_with (first | ((with_reducible refine gate_callee (f := 94) rfl ?_); refine goesL_ (some 66) rfl rfl Try.func94 (by kernel_rfl) rfl #[.int .i64 (rd l0_5 x3_2), .int .i64 0, .int .i64 3000] rfl (by (try simp only [List.map_toArray, List.map_cons, List.map_nil]); first | done | rfl | (simp only [List.length_drop, List.length_take]; rfl)) ?_; (with_reducible refine (spec_l00In.calls (rd l0_5 x3_2) 0 3000 true _ A37.out).mono ?_); rintro e w' ⟨rfl, ⟨nd, rfl⟩⟩; refine ⟨_, rfl, ?_⟩))
                  go_roundg k2
                  case measure => have := HJ1.out; have := HK2.out; omega
                  case rel => exact ⟨(wrap64 (x3_2 + 1)), (by first | rfl | (simp; done) | (simp [*]; done)), H', ⟨by have := HJ1.out; have := HK2.out; omega⟩, by repeat (first | exact Drawn0.refl _ | apply Drawn0.step)⟩
                · replace c38 := Bool.eq_false_iff.mpr c38
                  subst c38
                  have H1 : (some false) = some r := by rw [if_neg (show ¬ (false = true) by decide)] at H; exact H
                  clear H
                  have H := H1
                  clear H1
                  obtain rfl := Option.some.inj H
                  have hz41_0 := HX0_0.out
                  have hz41_1 := HX0_1.out
                  have hz41_2 := HX0_2.out
                  have hz41_3 := HX0_3.out
                  have hz41_4 := HX0_4.out
                  have hz41_5 := HX0_5.out
                  have hz42_0 := HX0_0.out
                  have hz42_1 := HX0_1.out
                  have hz42_2 := HX0_2.out
                  have hz42_3 := HX0_3.out
                  have hz42_4 := HX0_4.out
                  have hz42_5 := HX0_5.out
                  have p280 : 0 ≤ (x3_2 : Int) := of_decide_eq_true (by first | (with_reducible assumption) | assumption)
                  have q280 : x3_2 < (l0_5.length : Int) := of_decide_eq_true (by first | (with_reducible assumption) | assumption)
                  obtain ⟨ad280, e280, hx280_0⟩ := Kd.at_int HR0_5.out x3_2 p280 q280
                  cases e280
                  replace p280 := eq_true p280
                  replace q280 := eq_true q280
                  go_wp2_with (first | ((with_reducible refine gate_callee (f := 94) rfl ?_); refine goesL_ (some 66) rfl rfl Try.func94 (by kernel_rfl) rfl #[.int .i64 (rd l0_5 x3_2), .int .i64 0, .int .i64 3000] rfl (by (try simp only [List.map_toArray, List.map_cons, List.map_nil]); first | done | rfl | (simp only [List.length_drop, List.length_take]; rfl)) ?_; (with_reducible refine (spec_l00In.calls (rd l0_5 x3_2) 0 3000 false _ A37.out).mono ?_); rintro e w' ⟨rfl, ⟨nd, rfl⟩⟩; refine ⟨_, rfl, ?_⟩))
                  go_ret
                  exact ⟨by first | rfl | (simp; done) | (simp [*]; done), by repeat (first | exact Drawn0.refl _ | apply Drawn0.step)⟩
              · rw [if_neg c36] at H
                exact absurd H (by simp)
            · rw [if_neg c35] at H
              have c35b0 : decide (x3_2 < (l0_5.length : Int)) = false := decide_eq_false c35
              clear c35
              obtain rfl := Option.some.inj H
              have hz43_0 := HX0_0.out
              have hz43_1 := HX0_1.out
              have hz43_2 := HX0_2.out
              have hz43_3 := HX0_3.out
              have hz43_4 := HX0_4.out
              have hz43_5 := HX0_5.out
              go_wp2
              go_ret
              exact ⟨by first | rfl | (simp; done) | (simp [*]; done), by repeat (first | exact Drawn0.refl _ | apply Drawn0.step)⟩

/-! ### spec_l05Hour: function 140 -/
def spec_l05Hour.f (a0 : Int) : Option (Bool) := (spec_l00In.f a0 0 23).bind fun t282 => (some t282)
set_option maxHeartbeats 8000000 in
set_option maxRecDepth 100000 in
theorem spec_l05Hour.calls (a0 : Int) (r : Bool) (w : World) (h : spec_l05Hour.f a0 = some r) :
    Calls Try.prog 140 #[.int .i64 a0] w fun e w' => e = .returned (.bool r) ∧ Drawn0 w w' := by
  have H : ((spec_l00In.f a0 0 23).bind fun t282 => (some t282)) = some r := h
  clear h
  replace H := Option.bind_eq_some_iff.mp H
  obtain ⟨t282, A20, H⟩ := H
  replace H : (some t282) = some r := H
  have A2 := Aside0.mk A20
  clear A20
  obtain rfl := Option.some.inj H
  go_enter Try.func140, Try.ntmps140
  go_wp2_with (first | ((with_reducible refine gate_callee (f := 94) rfl ?_); refine goesL_ (some 4) rfl rfl Try.func94 (by kernel_rfl) rfl #[.int .i64 a0, .int .i64 0, .int .i64 23] rfl (by (try simp only [List.map_toArray, List.map_cons, List.map_nil]); first | done | rfl | (simp only [List.length_drop, List.length_take]; rfl)) ?_; (with_reducible refine (spec_l00In.calls a0 0 23 t282 _ A2.out).mono ?_); rintro e w' ⟨rfl, ⟨nd, rfl⟩⟩; refine ⟨_, rfl, ?_⟩))
  go_ret
  exact ⟨by first | rfl | (simp; done) | (simp [*]; done), by repeat (first | exact Drawn0.refl _ | apply Drawn0.step)⟩

/-! ### spec_l01Div: function 96 -/
def spec_l01Div.f (a0 : Int) (a1 : Int) : Option (Int) := if a1 < 0 then (if (wrap64 (-a0)) < 0 then (if (wrap64 (2 * (wrap64 (-a1)))) = 0 then (none) else (some (wrap64 (-(wrap64 (Int.tdiv (wrap64 ((wrap64 (-a1)) - (wrap64 (2 * (wrap64 (-a0)))))) (wrap64 (2 * (wrap64 (-a1)))))))))) else (if (wrap64 (2 * (wrap64 (-a1)))) = 0 then (none) else (some (wrap64 (Int.tdiv (wrap64 ((wrap64 (2 * (wrap64 (-a0)))) + (wrap64 (-a1)))) (wrap64 (2 * (wrap64 (-a1))))))))) else (if a0 < 0 then (if (wrap64 (2 * a1)) = 0 then (none) else (some (wrap64 (-(wrap64 (Int.tdiv (wrap64 (a1 - (wrap64 (2 * a0)))) (wrap64 (2 * a1)))))))) else (if (wrap64 (2 * a1)) = 0 then (none) else (some (wrap64 (Int.tdiv (wrap64 ((wrap64 (2 * a0)) + a1)) (wrap64 (2 * a1)))))))
set_option maxHeartbeats 8000000 in
set_option maxRecDepth 100000 in
theorem spec_l01Div.calls (a0 : Int) (a1 : Int) (r : Int) (w : World) (h : spec_l01Div.f a0 a1 = some r) :
    Calls Try.prog 96 #[.int .i64 a0, .int .i64 a1] w fun e w' => e = .returned (.int .i64 r) ∧ Drawn0 w w' := by
  have H : (if a1 < 0 then (if (wrap64 (-a0)) < 0 then (if (wrap64 (2 * (wrap64 (-a1)))) = 0 then (none) else (some (wrap64 (-(wrap64 (Int.tdiv (wrap64 ((wrap64 (-a1)) - (wrap64 (2 * (wrap64 (-a0)))))) (wrap64 (2 * (wrap64 (-a1)))))))))) else (if (wrap64 (2 * (wrap64 (-a1)))) = 0 then (none) else (some (wrap64 (Int.tdiv (wrap64 ((wrap64 (2 * (wrap64 (-a0)))) + (wrap64 (-a1)))) (wrap64 (2 * (wrap64 (-a1))))))))) else (if a0 < 0 then (if (wrap64 (2 * a1)) = 0 then (none) else (some (wrap64 (-(wrap64 (Int.tdiv (wrap64 (a1 - (wrap64 (2 * a0)))) (wrap64 (2 * a1)))))))) else (if (wrap64 (2 * a1)) = 0 then (none) else (some (wrap64 (Int.tdiv (wrap64 ((wrap64 (2 * a0)) + a1)) (wrap64 (2 * a1)))))))) = some r := h
  clear h
  by_cases c3 : a1 < 0
  · rw [if_pos c3] at H
    have c3b0 : decide (a1 < 0) = true := decide_eq_true c3
    clear c3
    by_cases c4 : (wrap64 (-a0)) < 0
    · rw [if_pos c4] at H
      have c4b0 : decide ((wrap64 (-a0)) < 0) = true := decide_eq_true c4
      clear c4
      by_cases c5 : (wrap64 (2 * (wrap64 (-a1)))) = 0
      · rw [if_pos c5] at H
        exact absurd H (by simp)
      · rw [if_neg c5] at H
        have c5b0 : ((wrap64 (2 * (wrap64 (-a1)))) == 0) = false := beq_eq_false_iff_ne.mpr c5
        have c5b1 : ((wrap64 (2 * (wrap64 (-a1)))) != 0) = true := bne_iff_ne.mpr c5
        obtain rfl := Option.some.inj H
        go_enter Try.func96, Try.ntmps96
        go_wp2
        go_ret
        exact ⟨by first | rfl | (simp; done) | (simp [*]; done), by repeat (first | exact Drawn0.refl _ | apply Drawn0.step)⟩
    · rw [if_neg c4] at H
      have c4b0 : decide ((wrap64 (-a0)) < 0) = false := decide_eq_false c4
      clear c4
      by_cases c6 : (wrap64 (2 * (wrap64 (-a1)))) = 0
      · rw [if_pos c6] at H
        exact absurd H (by simp)
      · rw [if_neg c6] at H
        have c6b0 : ((wrap64 (2 * (wrap64 (-a1)))) == 0) = false := beq_eq_false_iff_ne.mpr c6
        have c6b1 : ((wrap64 (2 * (wrap64 (-a1)))) != 0) = true := bne_iff_ne.mpr c6
        obtain rfl := Option.some.inj H
        go_enter Try.func96, Try.ntmps96
        go_wp2
        go_ret
        exact ⟨by first | rfl | (simp; done) | (simp [*]; done), by repeat (first | exact Drawn0.refl _ | apply Drawn0.step)⟩
  · rw [if_neg c3] at H
    have c3b0 : decide (a1 < 0) = false := decide_eq_false c3
    clear c3
    by_cases c7 : a0 < 0
    · rw [if_pos c7] at H
      have c7b0 : decide (a0 < 0) = true := decide_eq_true c7
      clear c7
      by_cases c8 : (wrap64 (2 * a1)) = 0
      · rw [if_pos c8] at H
        exact absurd H (by simp)
      · rw [if_neg c8] at H
        have c8b0 : ((wrap64 (2 * a1)) == 0) = false := beq_eq_false_iff_ne.mpr c8
        have c8b1 : ((wrap64 (2 * a1)) != 0) = true := bne_iff_ne.mpr c8
        obtain rfl := Option.some.inj H
        go_enter Try.func96, Try.ntmps96
        go_wp2
        go_ret
        exact ⟨by first | rfl | (simp; done) | (simp [*]; done), by repeat (first | exact Drawn0.refl _ | apply Drawn0.step)⟩
    · rw [if_neg c7] at H
      have c7b0 : decide (a0 < 0) = false := decide_eq_false c7
      clear c7
      by_cases c9 : (wrap64 (2 * a1)) = 0
      · rw [if_pos c9] at H
        exact absurd H (by simp)
      · rw [if_neg c9] at H
        have c9b0 : ((wrap64 (2 * a1)) == 0) = false := beq_eq_false_iff_ne.mpr c9
        have c9b1 : ((wrap64 (2 * a1)) != 0) = true := bne_iff_ne.mpr c9
        obtain rfl := Option.some.inj H
        go_enter Try.func96, Try.ntmps96
        go_wp2
        go_ret
        exact ⟨by first | rfl | (simp; done) | (simp [*]; done), by repeat (first | exact Drawn0.refl _ | apply Drawn0.step)⟩

/-! ### spec_l00Max: function 180 -/
def spec_l00Max.f (a0 : Int) (a1 : Int) : Option (Int) := if a0 > a1 then (some a0) else (some a1)
set_option maxHeartbeats 8000000 in
set_option maxRecDepth 100000 in
theorem spec_l00Max.calls (a0 : Int) (a1 : Int) (r : Int) (w : World) (h : spec_l00Max.f a0 a1 = some r) :
    Calls Try.prog 180 #[.int .i64 a0, .int .i64 a1] w fun e w' => e = .returned (.int .i64 r) ∧ Drawn0 w w' := by
  have H : (if a0 > a1 then (some a0) else (some a1)) = some r := h
  clear h
  by_cases c3 : a0 > a1
  · rw [if_pos c3] at H
    have c3b0 : decide (a1 < a0) = true := decide_eq_true c3
    clear c3
    obtain rfl := Option.some.inj H
    go_enter Try.func180, Try.ntmps180
    go_wp2
    go_ret
    exact ⟨by first | rfl | (simp; done) | (simp [*]; done), by repeat (first | exact Drawn0.refl _ | apply Drawn0.step)⟩
  · rw [if_neg c3] at H
    have c3b0 : decide (a1 < a0) = false := decide_eq_false c3
    clear c3
    obtain rfl := Option.some.inj H
    go_enter Try.func180, Try.ntmps180
    go_wp2
    go_ret
    exact ⟨by first | rfl | (simp; done) | (simp [*]; done), by repeat (first | exact Drawn0.refl _ | apply Drawn0.step)⟩

/-! ### spec_l05Load: function 141 -/
def spec_l05Load.f (a0_0 : ByteArray) (a0_1 : Int) (a0_2 : Int) (a0_3 : Int) (a0_4 : Int) (l0_5 : List Int) (a1 : Int) (a2 : Int) : Option (Int) := if 0 ≤ a2 then (if a2 < (l0_5.length : Int) then ((spec_l01Div.f (wrap64 (a0_2 * (rd l0_5 a2))) 1000).bind fun t284 => ((spec_l00Max.f 0 (wrap64 (a0_4 - a1))).bind fun t285 => ((spec_l01Div.f (wrap64 (a0_3 * t285)) 100).bind fun t286 => (some (wrap64 (t284 + t286)))))) else (none)) else (none)
set_option maxHeartbeats 8000000 in
set_option maxRecDepth 100000 in
theorem spec_l05Load.calls (ad0 : Addr) (a0_0 : ByteArray) (a0_1 : Int) (a0_2 : Int) (a0_3 : Int) (a0_4 : Int) (A0_5 : Option Addr) (c0_5 : Nat) (l0_5 : List Int) (a1 : Int) (a2 : Int) (r : Int) (w : World) (hx0 : w.cell? ad0 = some (.string a0_0) ∧ w.cell? ⟨ad0.block, ad0.off + 1, none⟩ = some (.int .i64 a0_1) ∧ w.cell? ⟨ad0.block, ad0.off + 2, none⟩ = some (.int .i64 a0_2) ∧ w.cell? ⟨ad0.block, ad0.off + 3, none⟩ = some (.int .i64 a0_3) ∧ w.cell? ⟨ad0.block, ad0.off + 4, none⟩ = some (.int .i64 a0_4) ∧ w.cell? ⟨ad0.block, ad0.off + 5, none⟩ = some (.slice A0_5 l0_5.length c0_5)) (hr0_5 : Kd.C (Kd.int .i64) w A0_5 l0_5.length l0_5) (hc0_5 : l0_5.length ≤ c0_5) (h : spec_l05Load.f a0_0 a0_1 a0_2 a0_3 a0_4 l0_5 a1 a2 = some r) :
    Calls Try.prog 141 #[.pointer (some ad0), .int .i64 a1, .int .i64 a2] w fun e w' => e = .returned (.int .i64 r) ∧ Drawn0 w w' := by
  obtain ⟨hx0_0, hx0_1, hx0_2, hx0_3, hx0_4, hx0_5⟩ := hx0
  have HX0_0 := Aside0.mk hx0_0
  have HX0_1 := Aside0.mk hx0_1
  have HX0_2 := Aside0.mk hx0_2
  have HX0_3 := Aside0.mk hx0_3
  have HX0_4 := Aside0.mk hx0_4
  have HX0_5 := Aside0.mk hx0_5
  clear hx0_0 hx0_1 hx0_2 hx0_3 hx0_4 hx0_5
  have HR0_5 := Aside0.mk hr0_5
  have HC0_5 := Aside0.mk hc0_5
  clear hr0_5 hc0_5
  have H : (if 0 ≤ a2 then (if a2 < (l0_5.length : Int) then ((spec_l01Div.f (wrap64 (a0_2 * (rd l0_5 a2))) 1000).bind fun t284 => ((spec_l00Max.f 0 (wrap64 (a0_4 - a1))).bind fun t285 => ((spec_l01Div.f (wrap64 (a0_3 * t285)) 100).bind fun t286 => (some (wrap64 (t284 + t286)))))) else (none)) else (none)) = some r := h
  clear h
  by_cases c4 : 0 ≤ a2
  · rw [if_pos c4] at H
    have c4b0 : decide (0 ≤ a2) = true := decide_eq_true c4
    clear c4
    by_cases c5 : a2 < (l0_5.length : Int)
    · rw [if_pos c5] at H
      have c5b0 : decide (a2 < (l0_5.length : Int)) = true := decide_eq_true c5
      clear c5
      replace H := Option.bind_eq_some_iff.mp H
      obtain ⟨t284, A60, H⟩ := H
      replace H : ((spec_l00Max.f 0 (wrap64 (a0_4 - a1))).bind fun t285 => ((spec_l01Div.f (wrap64 (a0_3 * t285)) 100).bind fun t286 => (some (wrap64 (t284 + t286))))) = some r := H
      have A6 := Aside0.mk A60
      clear A60
      replace H := Option.bind_eq_some_iff.mp H
      obtain ⟨t285, A70, H⟩ := H
      replace H : ((spec_l01Div.f (wrap64 (a0_3 * t285)) 100).bind fun t286 => (some (wrap64 (t284 + t286)))) = some r := H
      have A7 := Aside0.mk A70
      clear A70
      replace H := Option.bind_eq_some_iff.mp H
      obtain ⟨t286, A80, H⟩ := H
      replace H : (some (wrap64 (t284 + t286))) = some r := H
      have A8 := Aside0.mk A80
      clear A80
      obtain rfl := Option.some.inj H
      have hz9_0 := HX0_0.out
      have hz9_1 := HX0_1.out
      have hz9_2 := HX0_2.out
      have hz9_3 := HX0_3.out
      have hz9_4 := HX0_4.out
      have hz9_5 := HX0_5.out
      have hz10_0 := HX0_0.out
      have hz10_1 := HX0_1.out
      have hz10_2 := HX0_2.out
      have hz10_3 := HX0_3.out
      have hz10_4 := HX0_4.out
      have hz10_5 := HX0_5.out
      have p283 : 0 ≤ (a2 : Int) := of_decide_eq_true (by first | (with_reducible assumption) | assumption)
      have q283 : a2 < (l0_5.length : Int) := of_decide_eq_true (by first | (with_reducible assumption) | assumption)
      obtain ⟨ad283, e283, hx283_0⟩ := Kd.at_int HR0_5.out a2 p283 q283
      cases e283
      replace p283 := eq_true p283
      replace q283 := eq_true q283
      have hz11_0 := HX0_0.out
      have hz11_1 := HX0_1.out
      have hz11_2 := HX0_2.out
      have hz11_3 := HX0_3.out
      have hz11_4 := HX0_4.out
      have hz11_5 := HX0_5.out
      have hz12_0 := HX0_0.out
      have hz12_1 := HX0_1.out
      have hz12_2 := HX0_2.out
      have hz12_3 := HX0_3.out
      have hz12_4 := HX0_4.out
      have hz12_5 := HX0_5.out
      go_enter Try.func141, Try.ntmps141
      go_wp2_with (first | (go_at_call 96; (first | (with_reducible refine (spec_l01Div.calls (wrap64 (a0_2 * (rd l0_5 a2))) 1000 t284 _ A6.out).mono ?_) | ((try simp only [Go.IntWalk.i64_left]); (with_reducible refine (spec_l01Div.calls (wrap64 (a0_2 * (rd l0_5 a2))) 1000 t284 _ A6.out).mono ?_))); rintro e w' ⟨rfl, ⟨nd, rfl⟩⟩; (try first | exact ⟨rfl, _, World.drewN_drewN _ _ _⟩ | exact ⟨rfl, _, Eq.trans (World.drewN_drewN _ _ _) (congrArg (World.drewN _) (Nat.add_assoc _ _ _))⟩)) | (go_at_call 180; (first | (with_reducible refine (spec_l00Max.calls 0 (wrap64 (a0_4 - a1)) t285 _ A7.out).mono ?_) | ((try simp only [Go.IntWalk.i64_left]); (with_reducible refine (spec_l00Max.calls 0 (wrap64 (a0_4 - a1)) t285 _ A7.out).mono ?_))); rintro e w' ⟨rfl, ⟨nd, rfl⟩⟩; (try first | exact ⟨rfl, _, World.drewN_drewN _ _ _⟩ | exact ⟨rfl, _, Eq.trans (World.drewN_drewN _ _ _) (congrArg (World.drewN _) (Nat.add_assoc _ _ _))⟩)) | (go_at_call 96; (first | (with_reducible refine (spec_l01Div.calls (wrap64 (a0_3 * t285)) 100 t286 _ A8.out).mono ?_) | ((try simp only [Go.IntWalk.i64_left]); (with_reducible refine (spec_l01Div.calls (wrap64 (a0_3 * t285)) 100 t286 _ A8.out).mono ?_))); rintro e w' ⟨rfl, ⟨nd, rfl⟩⟩; (try first | exact ⟨rfl, _, World.drewN_drewN _ _ _⟩ | exact ⟨rfl, _, Eq.trans (World.drewN_drewN _ _ _) (congrArg (World.drewN _) (Nat.add_assoc _ _ _))⟩)))
      repeat (go_quiet (first | (go_at_call 96; (first | (with_reducible refine (spec_l01Div.calls (wrap64 (a0_2 * (rd l0_5 a2))) 1000 t284 _ A6.out).mono ?_) | ((try simp only [Go.IntWalk.i64_left]); (with_reducible refine (spec_l01Div.calls (wrap64 (a0_2 * (rd l0_5 a2))) 1000 t284 _ A6.out).mono ?_))); rintro e w' ⟨rfl, ⟨nd, rfl⟩⟩; (try first | exact ⟨rfl, _, World.drewN_drewN _ _ _⟩ | exact ⟨rfl, _, Eq.trans (World.drewN_drewN _ _ _) (congrArg (World.drewN _) (Nat.add_assoc _ _ _))⟩)) | (go_at_call 180; (first | (with_reducible refine (spec_l00Max.calls 0 (wrap64 (a0_4 - a1)) t285 _ A7.out).mono ?_) | ((try simp only [Go.IntWalk.i64_left]); (with_reducible refine (spec_l00Max.calls 0 (wrap64 (a0_4 - a1)) t285 _ A7.out).mono ?_))); rintro e w' ⟨rfl, ⟨nd, rfl⟩⟩; (try first | exact ⟨rfl, _, World.drewN_drewN _ _ _⟩ | exact ⟨rfl, _, Eq.trans (World.drewN_drewN _ _ _) (congrArg (World.drewN _) (Nat.add_assoc _ _ _))⟩)) | (go_at_call 96; (first | (with_reducible refine (spec_l01Div.calls (wrap64 (a0_3 * t285)) 100 t286 _ A8.out).mono ?_) | ((try simp only [Go.IntWalk.i64_left]); (with_reducible refine (spec_l01Div.calls (wrap64 (a0_3 * t285)) 100 t286 _ A8.out).mono ?_))); rintro e w' ⟨rfl, ⟨nd, rfl⟩⟩; (try first | exact ⟨rfl, _, World.drewN_drewN _ _ _⟩ | exact ⟨rfl, _, Eq.trans (World.drewN_drewN _ _ _) (congrArg (World.drewN _) (Nat.add_assoc _ _ _))⟩))); try go_wp2_with (first | (go_at_call 96; (first | (with_reducible refine (spec_l01Div.calls (wrap64 (a0_2 * (rd l0_5 a2))) 1000 t284 _ A6.out).mono ?_) | ((try simp only [Go.IntWalk.i64_left]); (with_reducible refine (spec_l01Div.calls (wrap64 (a0_2 * (rd l0_5 a2))) 1000 t284 _ A6.out).mono ?_))); rintro e w' ⟨rfl, ⟨nd, rfl⟩⟩; (try first | exact ⟨rfl, _, World.drewN_drewN _ _ _⟩ | exact ⟨rfl, _, Eq.trans (World.drewN_drewN _ _ _) (congrArg (World.drewN _) (Nat.add_assoc _ _ _))⟩)) | (go_at_call 180; (first | (with_reducible refine (spec_l00Max.calls 0 (wrap64 (a0_4 - a1)) t285 _ A7.out).mono ?_) | ((try simp only [Go.IntWalk.i64_left]); (with_reducible refine (spec_l00Max.calls 0 (wrap64 (a0_4 - a1)) t285 _ A7.out).mono ?_))); rintro e w' ⟨rfl, ⟨nd, rfl⟩⟩; (try first | exact ⟨rfl, _, World.drewN_drewN _ _ _⟩ | exact ⟨rfl, _, Eq.trans (World.drewN_drewN _ _ _) (congrArg (World.drewN _) (Nat.add_assoc _ _ _))⟩)) | (go_at_call 96; (first | (with_reducible refine (spec_l01Div.calls (wrap64 (a0_3 * t285)) 100 t286 _ A8.out).mono ?_) | ((try simp only [Go.IntWalk.i64_left]); (with_reducible refine (spec_l01Div.calls (wrap64 (a0_3 * t285)) 100 t286 _ A8.out).mono ?_))); rintro e w' ⟨rfl, ⟨nd, rfl⟩⟩; (try first | exact ⟨rfl, _, World.drewN_drewN _ _ _⟩ | exact ⟨rfl, _, Eq.trans (World.drewN_drewN _ _ _) (congrArg (World.drewN _) (Nat.add_assoc _ _ _))⟩))))
      go_ret
      exact ⟨by first | rfl | (simp; done) | (simp [*]; done), by repeat (first | exact Drawn0.refl _ | apply Drawn0.step)⟩
    · rw [if_neg c5] at H
      exact absurd H (by simp)
  · rw [if_neg c4] at H
    exact absurd H (by simp)

/-! ### spec_LoadOf: function 64 -/
def spec_LoadOf.f (k : Nat) (a0_0 : ByteArray) (a0_1 : Int) (a0_2 : Int) (a0_3 : Int) (a0_4 : Int) (l0_5 : List Int) (a1 : Int) (a2 : Int) : Option (Int × Int) := (spec_l05One.f k a0_0 a0_1 a0_2 a0_3 a0_4 l0_5).bind fun t288 => (if t288 = true then ((spec_l05Outdoor.f a1).bind fun t289 => (if t289 = true then ((spec_l05Hour.f a2).bind fun t290 => (if t290 = true then ((spec_l05Load.f a0_0 a0_1 a0_2 a0_3 a0_4 l0_5 a1 a2).bind fun t291 => (some (t291, 0))) else (some (0, 2)))) else (some (0, 2)))) else (some (0, 1)))
theorem spec_LoadOf.mono : ∀ a0 a1 a2 a3 a4 a5 a6 a7 k, LeO (spec_LoadOf.f k a0 a1 a2 a3 a4 a5 a6 a7) (spec_LoadOf.f (k + 1) a0 a1 a2 a3 a4 a5 a6 a7) := by
  intro a0 a1 a2 a3 a4 a5 a6 a7 k
  unfold spec_LoadOf.f
  repeat' first
      | (with_reducible exact spec_l05One.mono _ _ _ _ _ _ _)
      | (with_reducible exact LeO.refl _)
      | (with_reducible exact LeO.none _)
      | (with_reducible refine LeO.ite ?_ ?_)
      | (with_reducible refine LeO.bind ?_ (fun _ => ?_))
      | exact spec_l05One.mono _ _ _ _ _ _ _
      | exact LeO.none _
      | refine LeO.ite ?_ ?_
      | refine LeO.bind ?_ (fun _ => ?_)
set_option maxHeartbeats 8000000 in
set_option maxRecDepth 100000 in
theorem spec_LoadOf.calls (k : Nat) (a0_0 : ByteArray) (a0_1 : Int) (a0_2 : Int) (a0_3 : Int) (a0_4 : Int) (A0_5 : Option Addr) (c0_5 : Nat) (l0_5 : List Int) (a1 : Int) (a2 : Int) (r1 : Int) (r2 : Int) (w : World) (hr0_5 : Kd.C (Kd.int .i64) w A0_5 l0_5.length l0_5) (hc0_5 : l0_5.length ≤ c0_5) (h : spec_LoadOf.f k a0_0 a0_1 a0_2 a0_3 a0_4 l0_5 a1 a2 = some (r1, r2)) :
    Calls Try.prog 64 #[.agg #[.string a0_0, .int .i64 a0_1, .int .i64 a0_2, .int .i64 a0_3, .int .i64 a0_4, .slice A0_5 l0_5.length c0_5], .int .i64 a1, .int .i64 a2] w fun e w' => e = .returned (.tuple #[.int .i64 r1, .int .i64 r2]) ∧ Below w.heap.size w w' := by
  have hu94 := Try.underlying94
  have HR0_5 := Aside0.mk hr0_5
  have HC0_5 := Aside0.mk hc0_5
  clear hr0_5 hc0_5
  have HB := Aside0.mk (Below.refl w.heap.size w)
  have H : ((spec_l05One.f k a0_0 a0_1 a0_2 a0_3 a0_4 l0_5).bind fun t288 => (if t288 = true then ((spec_l05Outdoor.f a1).bind fun t289 => (if t289 = true then ((spec_l05Hour.f a2).bind fun t290 => (if t290 = true then ((spec_l05Load.f a0_0 a0_1 a0_2 a0_3 a0_4 l0_5 a1 a2).bind fun t291 => (some (t291, 0))) else (some (0, 2)))) else (some (0, 2)))) else (some (0, 1)))) = some (r1, r2) := h
  clear h
  replace H := Option.bind_eq_some_iff.mp H
  obtain ⟨t288, A40, H⟩ := H
  replace H : (if t288 = true then ((spec_l05Outdoor.f a1).bind fun t289 => (if t289 = true then ((spec_l05Hour.f a2).bind fun t290 => (if t290 = true then ((spec_l05Load.f a0_0 a0_1 a0_2 a0_3 a0_4 l0_5 a1 a2).bind fun t291 => (some (t291, 0))) else (some (0, 2)))) else (some (0, 2)))) else (some (0, 1))) = some (r1, r2) := H
  have A4 := Aside0.mk A40
  clear A40
  by_cases c5 : t288 = true
  · subst c5
    have H1 : ((spec_l05Outdoor.f a1).bind fun t289 => (if t289 = true then ((spec_l05Hour.f a2).bind fun t290 => (if t290 = true then ((spec_l05Load.f a0_0 a0_1 a0_2 a0_3 a0_4 l0_5 a1 a2).bind fun t291 => (some (t291, 0))) else (some (0, 2)))) else (some (0, 2)))) = some (r1, r2) := by rw [if_pos rfl] at H; exact H
    clear H
    have H := H1
    clear H1
    replace H := Option.bind_eq_some_iff.mp H
    obtain ⟨t289, A60, H⟩ := H
    replace H : (if t289 = true then ((spec_l05Hour.f a2).bind fun t290 => (if t290 = true then ((spec_l05Load.f a0_0 a0_1 a0_2 a0_3 a0_4 l0_5 a1 a2).bind fun t291 => (some (t291, 0))) else (some (0, 2)))) else (some (0, 2))) = some (r1, r2) := H
    have A6 := Aside0.mk A60
    clear A60
    by_cases c7 : t289 = true
    · subst c7
      have H1 : ((spec_l05Hour.f a2).bind fun t290 => (if t290 = true then ((spec_l05Load.f a0_0 a0_1 a0_2 a0_3 a0_4 l0_5 a1 a2).bind fun t291 => (some (t291, 0))) else (some (0, 2)))) = some (r1, r2) := by rw [if_pos rfl] at H; exact H
      clear H
      have H := H1
      clear H1
      replace H := Option.bind_eq_some_iff.mp H
      obtain ⟨t290, A80, H⟩ := H
      replace H : (if t290 = true then ((spec_l05Load.f a0_0 a0_1 a0_2 a0_3 a0_4 l0_5 a1 a2).bind fun t291 => (some (t291, 0))) else (some (0, 2))) = some (r1, r2) := H
      have A8 := Aside0.mk A80
      clear A80
      by_cases c9 : t290 = true
      · subst c9
        have H1 : ((spec_l05Load.f a0_0 a0_1 a0_2 a0_3 a0_4 l0_5 a1 a2).bind fun t291 => (some (t291, 0))) = some (r1, r2) := by rw [if_pos rfl] at H; exact H
        clear H
        have H := H1
        clear H1
        replace H := Option.bind_eq_some_iff.mp H
        obtain ⟨t291, A100, H⟩ := H
        replace H : (some (t291, 0)) = some (r1, r2) := H
        have A10 := Aside0.mk A100
        clear A100
        simp only [Option.some.injEq, Prod.mk.injEq] at H
        obtain ⟨rfl, rfl⟩ := H
        go_enter Try.func64, Try.ntmps64
        go_wp2_with (first | ((with_reducible refine gate_dst (N := 3) rfl ?_); refine box_event ?hg (N := 3) ?hd (cs := #[.string a0_0, .int .i64 a0_1, .int .i64 a0_2, .int .i64 a0_3, .int .i64 a0_4, .slice A0_5 l0_5.length c0_5]) (t := 94) ?hr ?_; (case hd => rfl); (case hg => rfl); (case hr => first | (go_simp; done) | (go_simp; rfl)); intro gb287 hg w11 hbox hb; have n0_ := Aside0.mk (below_step (by repeat (first | (with_reducible first | exact HB.out | apply below_alloc | apply pw_below_drewN | apply below_drew1) | exact HB.out)) hb); have n1_ := Aside0.mk (hbox); have n2_ := Aside0.mk ((by rw [hg]; exact (below_size (by repeat (first | (with_reducible first | exact HB.out | apply below_alloc | apply pw_below_drewN | apply below_drew1) | exact HB.out))) : w.heap.size ≤ gb287)); have n3_ := Aside0.mk ((by rw [hg]; exact (below_size (by repeat (first | (with_reducible first | exact HB.out | apply below_alloc | apply pw_below_drewN | apply below_drew1) | exact HB.out))) : w.heap.size ≤ gb287)); clear HB; have HB := n0_; have BK287 := n1_; have GW287 := n2_; have GE287 := n3_; clear n0_ n1_ n2_ n3_; clear hb hbox hg) | ((with_reducible refine gate_callee (f := 138) rfl ?_); refine goesL_ (some 8) rfl rfl Try.func138 (by kernel_rfl) rfl #[.pointer (some ⟨gb287, 0, none⟩)] rfl (by (try simp only [List.map_toArray, List.map_cons, List.map_nil]); first | done | rfl | (simp only [List.length_drop, List.length_take]; rfl)) ?_; (with_reducible refine (spec_l05One.calls k _ a0_0 a0_1 a0_2 a0_3 a0_4 A0_5 c0_5 l0_5 true _ ?side3 ?side1 ?side2 A4.out).mono ?_); (case side1 => repeat (first | exact (Kd.C_below HR0_5.out HB.out) | (with_reducible refine Kd.C_alloc ?_ _) | (with_reducible refine Kd.C_drewN ?_ _) | (with_reducible refine Kd.C_drew ?_))); (case side2 => exact HC0_5.out); (case side3 => exact ⟨(blk_cell (by (with_reducible repeat (first | refine blk_drewN ?_ _ | refine blk_drew ?_ | refine blk_alloc ?_ _)); exact BK287.out) 0).trans rfl, (blk_cell (by (with_reducible repeat (first | refine blk_drewN ?_ _ | refine blk_drew ?_ | refine blk_alloc ?_ _)); exact BK287.out) 1).trans rfl, (blk_cell (by (with_reducible repeat (first | refine blk_drewN ?_ _ | refine blk_drew ?_ | refine blk_alloc ?_ _)); exact BK287.out) 2).trans rfl, (blk_cell (by (with_reducible repeat (first | refine blk_drewN ?_ _ | refine blk_drew ?_ | refine blk_alloc ?_ _)); exact BK287.out) 3).trans rfl, (blk_cell (by (with_reducible repeat (first | refine blk_drewN ?_ _ | refine blk_drew ?_ | refine blk_alloc ?_ _)); exact BK287.out) 4).trans rfl, (blk_cell (by (with_reducible repeat (first | refine blk_drewN ?_ _ | refine blk_drew ?_ | refine blk_alloc ?_ _)); exact BK287.out) 5).trans rfl⟩); rintro e w' ⟨rfl, ⟨nd, rfl⟩⟩; refine ⟨_, rfl, ?_⟩) | ((with_reducible refine gate_callee (f := 139) rfl ?_); refine goesL_ (some 11) rfl rfl Try.func139 (by kernel_rfl) rfl #[.int .i64 a1] rfl (by (try simp only [List.map_toArray, List.map_cons, List.map_nil]); first | done | rfl | (simp only [List.length_drop, List.length_take]; rfl)) ?_; (with_reducible refine (spec_l05Outdoor.calls a1 true _ A6.out).mono ?_); rintro e w' ⟨rfl, ⟨nd, rfl⟩⟩; refine ⟨_, rfl, ?_⟩) | (go_at_call 140; (first | (with_reducible refine (spec_l05Hour.calls a2 true _ A8.out).mono ?_) | ((try simp only [Go.IntWalk.i64_left]); (with_reducible refine (spec_l05Hour.calls a2 true _ A8.out).mono ?_))); rintro e w' ⟨rfl, ⟨nd, rfl⟩⟩) | ((with_reducible refine gate_callee (f := 141) rfl ?_); refine goesL_ (some 20) rfl rfl Try.func141 (by kernel_rfl) rfl #[.pointer (some ⟨gb287, 0, none⟩), .int .i64 a1, .int .i64 a2] rfl (by (try simp only [List.map_toArray, List.map_cons, List.map_nil]); first | done | rfl | (simp only [List.length_drop, List.length_take]; rfl)) ?_; (with_reducible refine (spec_l05Load.calls _ a0_0 a0_1 a0_2 a0_3 a0_4 A0_5 c0_5 l0_5 a1 a2 t291 _ ?side3 ?side1 ?side2 A10.out).mono ?_); (case side1 => repeat (first | exact (Kd.C_below HR0_5.out (by repeat (first | (with_reducible first | exact HB.out | apply below_alloc | apply pw_below_drewN | apply below_drew1 | refine below_set ?_ GE287.out) | exact HB.out))) | (with_reducible refine Kd.C_alloc ?_ _) | (with_reducible refine Kd.C_drewN ?_ _) | (with_reducible refine Kd.C_drew ?_))); (case side2 => exact HC0_5.out); (case side3 => exact ⟨(blk_cell (by (with_reducible repeat (first | refine blk_drewN ?_ _ | refine blk_drew ?_ | refine blk_alloc ?_ _)); exact BK287.out) 0).trans rfl, (blk_cell (by (with_reducible repeat (first | refine blk_drewN ?_ _ | refine blk_drew ?_ | refine blk_alloc ?_ _)); exact BK287.out) 1).trans rfl, (blk_cell (by (with_reducible repeat (first | refine blk_drewN ?_ _ | refine blk_drew ?_ | refine blk_alloc ?_ _)); exact BK287.out) 2).trans rfl, (blk_cell (by (with_reducible repeat (first | refine blk_drewN ?_ _ | refine blk_drew ?_ | refine blk_alloc ?_ _)); exact BK287.out) 3).trans rfl, (blk_cell (by (with_reducible repeat (first | refine blk_drewN ?_ _ | refine blk_drew ?_ | refine blk_alloc ?_ _)); exact BK287.out) 4).trans rfl, (blk_cell (by (with_reducible repeat (first | refine blk_drewN ?_ _ | refine blk_drew ?_ | refine blk_alloc ?_ _)); exact BK287.out) 5).trans rfl⟩); rintro e w' ⟨rfl, ⟨nd, rfl⟩⟩; refine ⟨_, rfl, ?_⟩))
        go_ret2
        exact ⟨by first | rfl | (simp [errW_none, errW_some] <;> rfl) | (simp [*, errW_none, errW_some] <;> rfl), by repeat (first | (with_reducible first | exact HB.out | apply below_alloc | apply pw_below_drewN | apply below_drew1 | refine below_set ?_ GE287.out) | exact HB.out)⟩
      · replace c9 := Bool.eq_false_iff.mpr c9
        subst c9
        have H1 : (some (0, 2)) = some (r1, r2) := by rw [if_neg (show ¬ (false = true) by decide)] at H; exact H
        clear H
        have H := H1
        clear H1
        simp only [Option.some.injEq, Prod.mk.injEq] at H
        obtain ⟨rfl, rfl⟩ := H
        go_enter Try.func64, Try.ntmps64
        go_wp2_with (first | ((with_reducible refine gate_dst (N := 3) rfl ?_); refine box_event ?hg (N := 3) ?hd (cs := #[.string a0_0, .int .i64 a0_1, .int .i64 a0_2, .int .i64 a0_3, .int .i64 a0_4, .slice A0_5 l0_5.length c0_5]) (t := 94) ?hr ?_; (case hd => rfl); (case hg => rfl); (case hr => first | (go_simp; done) | (go_simp; rfl)); intro gb287 hg w12 hbox hb; have n0_ := Aside0.mk (below_step (by repeat (first | (with_reducible first | exact HB.out | apply below_alloc | apply pw_below_drewN | apply below_drew1) | exact HB.out)) hb); have n1_ := Aside0.mk (hbox); have n2_ := Aside0.mk ((by rw [hg]; exact (below_size (by repeat (first | (with_reducible first | exact HB.out | apply below_alloc | apply pw_below_drewN | apply below_drew1) | exact HB.out))) : w.heap.size ≤ gb287)); have n3_ := Aside0.mk ((by rw [hg]; exact (below_size (by repeat (first | (with_reducible first | exact HB.out | apply below_alloc | apply pw_below_drewN | apply below_drew1) | exact HB.out))) : w.heap.size ≤ gb287)); clear HB; have HB := n0_; have BK287 := n1_; have GW287 := n2_; have GE287 := n3_; clear n0_ n1_ n2_ n3_; clear hb hbox hg) | ((with_reducible refine gate_callee (f := 138) rfl ?_); refine goesL_ (some 8) rfl rfl Try.func138 (by kernel_rfl) rfl #[.pointer (some ⟨gb287, 0, none⟩)] rfl (by (try simp only [List.map_toArray, List.map_cons, List.map_nil]); first | done | rfl | (simp only [List.length_drop, List.length_take]; rfl)) ?_; (with_reducible refine (spec_l05One.calls k _ a0_0 a0_1 a0_2 a0_3 a0_4 A0_5 c0_5 l0_5 true _ ?side3 ?side1 ?side2 A4.out).mono ?_); (case side1 => repeat (first | exact (Kd.C_below HR0_5.out HB.out) | (with_reducible refine Kd.C_alloc ?_ _) | (with_reducible refine Kd.C_drewN ?_ _) | (with_reducible refine Kd.C_drew ?_))); (case side2 => exact HC0_5.out); (case side3 => exact ⟨(blk_cell (by (with_reducible repeat (first | refine blk_drewN ?_ _ | refine blk_drew ?_ | refine blk_alloc ?_ _)); exact BK287.out) 0).trans rfl, (blk_cell (by (with_reducible repeat (first | refine blk_drewN ?_ _ | refine blk_drew ?_ | refine blk_alloc ?_ _)); exact BK287.out) 1).trans rfl, (blk_cell (by (with_reducible repeat (first | refine blk_drewN ?_ _ | refine blk_drew ?_ | refine blk_alloc ?_ _)); exact BK287.out) 2).trans rfl, (blk_cell (by (with_reducible repeat (first | refine blk_drewN ?_ _ | refine blk_drew ?_ | refine blk_alloc ?_ _)); exact BK287.out) 3).trans rfl, (blk_cell (by (with_reducible repeat (first | refine blk_drewN ?_ _ | refine blk_drew ?_ | refine blk_alloc ?_ _)); exact BK287.out) 4).trans rfl, (blk_cell (by (with_reducible repeat (first | refine blk_drewN ?_ _ | refine blk_drew ?_ | refine blk_alloc ?_ _)); exact BK287.out) 5).trans rfl⟩); rintro e w' ⟨rfl, ⟨nd, rfl⟩⟩; refine ⟨_, rfl, ?_⟩) | ((with_reducible refine gate_callee (f := 139) rfl ?_); refine goesL_ (some 11) rfl rfl Try.func139 (by kernel_rfl) rfl #[.int .i64 a1] rfl (by (try simp only [List.map_toArray, List.map_cons, List.map_nil]); first | done | rfl | (simp only [List.length_drop, List.length_take]; rfl)) ?_; (with_reducible refine (spec_l05Outdoor.calls a1 true _ A6.out).mono ?_); rintro e w' ⟨rfl, ⟨nd, rfl⟩⟩; refine ⟨_, rfl, ?_⟩) | (go_at_call 140; (first | (with_reducible refine (spec_l05Hour.calls a2 false _ A8.out).mono ?_) | ((try simp only [Go.IntWalk.i64_left]); (with_reducible refine (spec_l05Hour.calls a2 false _ A8.out).mono ?_))); rintro e w' ⟨rfl, ⟨nd, rfl⟩⟩))
        go_ret2
        exact ⟨by first | rfl | (simp [errW_none, errW_some] <;> rfl) | (simp [*, errW_none, errW_some] <;> rfl), by repeat (first | (with_reducible first | exact HB.out | apply below_alloc | apply pw_below_drewN | apply below_drew1 | refine below_set ?_ GE287.out) | exact HB.out)⟩
    · replace c7 := Bool.eq_false_iff.mpr c7
      subst c7
      have H1 : (some (0, 2)) = some (r1, r2) := by rw [if_neg (show ¬ (false = true) by decide)] at H; exact H
      clear H
      have H := H1
      clear H1
      simp only [Option.some.injEq, Prod.mk.injEq] at H
      obtain ⟨rfl, rfl⟩ := H
      go_enter Try.func64, Try.ntmps64
      go_wp2_with (first | ((with_reducible refine gate_dst (N := 3) rfl ?_); refine box_event ?hg (N := 3) ?hd (cs := #[.string a0_0, .int .i64 a0_1, .int .i64 a0_2, .int .i64 a0_3, .int .i64 a0_4, .slice A0_5 l0_5.length c0_5]) (t := 94) ?hr ?_; (case hd => rfl); (case hg => rfl); (case hr => first | (go_simp; done) | (go_simp; rfl)); intro gb287 hg w13 hbox hb; have n0_ := Aside0.mk (below_step (by repeat (first | (with_reducible first | exact HB.out | apply below_alloc | apply pw_below_drewN | apply below_drew1) | exact HB.out)) hb); have n1_ := Aside0.mk (hbox); have n2_ := Aside0.mk ((by rw [hg]; exact (below_size (by repeat (first | (with_reducible first | exact HB.out | apply below_alloc | apply pw_below_drewN | apply below_drew1) | exact HB.out))) : w.heap.size ≤ gb287)); have n3_ := Aside0.mk ((by rw [hg]; exact (below_size (by repeat (first | (with_reducible first | exact HB.out | apply below_alloc | apply pw_below_drewN | apply below_drew1) | exact HB.out))) : w.heap.size ≤ gb287)); clear HB; have HB := n0_; have BK287 := n1_; have GW287 := n2_; have GE287 := n3_; clear n0_ n1_ n2_ n3_; clear hb hbox hg) | ((with_reducible refine gate_callee (f := 138) rfl ?_); refine goesL_ (some 8) rfl rfl Try.func138 (by kernel_rfl) rfl #[.pointer (some ⟨gb287, 0, none⟩)] rfl (by (try simp only [List.map_toArray, List.map_cons, List.map_nil]); first | done | rfl | (simp only [List.length_drop, List.length_take]; rfl)) ?_; (with_reducible refine (spec_l05One.calls k _ a0_0 a0_1 a0_2 a0_3 a0_4 A0_5 c0_5 l0_5 true _ ?side3 ?side1 ?side2 A4.out).mono ?_); (case side1 => repeat (first | exact (Kd.C_below HR0_5.out HB.out) | (with_reducible refine Kd.C_alloc ?_ _) | (with_reducible refine Kd.C_drewN ?_ _) | (with_reducible refine Kd.C_drew ?_))); (case side2 => exact HC0_5.out); (case side3 => exact ⟨(blk_cell (by (with_reducible repeat (first | refine blk_drewN ?_ _ | refine blk_drew ?_ | refine blk_alloc ?_ _)); exact BK287.out) 0).trans rfl, (blk_cell (by (with_reducible repeat (first | refine blk_drewN ?_ _ | refine blk_drew ?_ | refine blk_alloc ?_ _)); exact BK287.out) 1).trans rfl, (blk_cell (by (with_reducible repeat (first | refine blk_drewN ?_ _ | refine blk_drew ?_ | refine blk_alloc ?_ _)); exact BK287.out) 2).trans rfl, (blk_cell (by (with_reducible repeat (first | refine blk_drewN ?_ _ | refine blk_drew ?_ | refine blk_alloc ?_ _)); exact BK287.out) 3).trans rfl, (blk_cell (by (with_reducible repeat (first | refine blk_drewN ?_ _ | refine blk_drew ?_ | refine blk_alloc ?_ _)); exact BK287.out) 4).trans rfl, (blk_cell (by (with_reducible repeat (first | refine blk_drewN ?_ _ | refine blk_drew ?_ | refine blk_alloc ?_ _)); exact BK287.out) 5).trans rfl⟩); rintro e w' ⟨rfl, ⟨nd, rfl⟩⟩; refine ⟨_, rfl, ?_⟩) | ((with_reducible refine gate_callee (f := 139) rfl ?_); refine goesL_ (some 11) rfl rfl Try.func139 (by kernel_rfl) rfl #[.int .i64 a1] rfl (by (try simp only [List.map_toArray, List.map_cons, List.map_nil]); first | done | rfl | (simp only [List.length_drop, List.length_take]; rfl)) ?_; (with_reducible refine (spec_l05Outdoor.calls a1 false _ A6.out).mono ?_); rintro e w' ⟨rfl, ⟨nd, rfl⟩⟩; refine ⟨_, rfl, ?_⟩))
      go_ret2
      exact ⟨by first | rfl | (simp [errW_none, errW_some] <;> rfl) | (simp [*, errW_none, errW_some] <;> rfl), by repeat (first | (with_reducible first | exact HB.out | apply below_alloc | apply pw_below_drewN | apply below_drew1 | refine below_set ?_ GE287.out) | exact HB.out)⟩
  · replace c5 := Bool.eq_false_iff.mpr c5
    subst c5
    have H1 : (some (0, 1)) = some (r1, r2) := by rw [if_neg (show ¬ (false = true) by decide)] at H; exact H
    clear H
    have H := H1
    clear H1
    simp only [Option.some.injEq, Prod.mk.injEq] at H
    obtain ⟨rfl, rfl⟩ := H
    go_enter Try.func64, Try.ntmps64
    go_wp2_with (first | ((with_reducible refine gate_dst (N := 3) rfl ?_); refine box_event ?hg (N := 3) ?hd (cs := #[.string a0_0, .int .i64 a0_1, .int .i64 a0_2, .int .i64 a0_3, .int .i64 a0_4, .slice A0_5 l0_5.length c0_5]) (t := 94) ?hr ?_; (case hd => rfl); (case hg => rfl); (case hr => first | (go_simp; done) | (go_simp; rfl)); intro gb287 hg w14 hbox hb; have n0_ := Aside0.mk (below_step (by repeat (first | (with_reducible first | exact HB.out | apply below_alloc | apply pw_below_drewN | apply below_drew1) | exact HB.out)) hb); have n1_ := Aside0.mk (hbox); have n2_ := Aside0.mk ((by rw [hg]; exact (below_size (by repeat (first | (with_reducible first | exact HB.out | apply below_alloc | apply pw_below_drewN | apply below_drew1) | exact HB.out))) : w.heap.size ≤ gb287)); have n3_ := Aside0.mk ((by rw [hg]; exact (below_size (by repeat (first | (with_reducible first | exact HB.out | apply below_alloc | apply pw_below_drewN | apply below_drew1) | exact HB.out))) : w.heap.size ≤ gb287)); clear HB; have HB := n0_; have BK287 := n1_; have GW287 := n2_; have GE287 := n3_; clear n0_ n1_ n2_ n3_; clear hb hbox hg) | ((with_reducible refine gate_callee (f := 138) rfl ?_); refine goesL_ (some 8) rfl rfl Try.func138 (by kernel_rfl) rfl #[.pointer (some ⟨gb287, 0, none⟩)] rfl (by (try simp only [List.map_toArray, List.map_cons, List.map_nil]); first | done | rfl | (simp only [List.length_drop, List.length_take]; rfl)) ?_; (with_reducible refine (spec_l05One.calls k _ a0_0 a0_1 a0_2 a0_3 a0_4 A0_5 c0_5 l0_5 false _ ?side3 ?side1 ?side2 A4.out).mono ?_); (case side1 => repeat (first | exact (Kd.C_below HR0_5.out HB.out) | (with_reducible refine Kd.C_alloc ?_ _) | (with_reducible refine Kd.C_drewN ?_ _) | (with_reducible refine Kd.C_drew ?_))); (case side2 => exact HC0_5.out); (case side3 => exact ⟨(blk_cell (by (with_reducible repeat (first | refine blk_drewN ?_ _ | refine blk_drew ?_ | refine blk_alloc ?_ _)); exact BK287.out) 0).trans rfl, (blk_cell (by (with_reducible repeat (first | refine blk_drewN ?_ _ | refine blk_drew ?_ | refine blk_alloc ?_ _)); exact BK287.out) 1).trans rfl, (blk_cell (by (with_reducible repeat (first | refine blk_drewN ?_ _ | refine blk_drew ?_ | refine blk_alloc ?_ _)); exact BK287.out) 2).trans rfl, (blk_cell (by (with_reducible repeat (first | refine blk_drewN ?_ _ | refine blk_drew ?_ | refine blk_alloc ?_ _)); exact BK287.out) 3).trans rfl, (blk_cell (by (with_reducible repeat (first | refine blk_drewN ?_ _ | refine blk_drew ?_ | refine blk_alloc ?_ _)); exact BK287.out) 4).trans rfl, (blk_cell (by (with_reducible repeat (first | refine blk_drewN ?_ _ | refine blk_drew ?_ | refine blk_alloc ?_ _)); exact BK287.out) 5).trans rfl⟩); rintro e w' ⟨rfl, ⟨nd, rfl⟩⟩; refine ⟨_, rfl, ?_⟩))
    go_ret2
    exact ⟨by first | rfl | (simp [errW_none, errW_some] <;> rfl) | (simp [*, errW_none, errW_some] <;> rfl), by repeat (first | (with_reducible first | exact HB.out | apply below_alloc | apply pw_below_drewN | apply below_drew1 | refine below_set ?_ GE287.out) | exact HB.out)⟩

end Go.Proofs.Ytjccjmjnlblhaaa.QForecasts
