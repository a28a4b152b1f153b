-- Written by press.py, a program of this session, round the kit's print.py (functions and contracts; Lean checks them).
import Derived.Test.YtamiipnoeffjkaaQForecastOfx0
import Derived.Test.YtamiipnoeffjkaaQForecastOfx3
namespace Go.Proofs.Ytamiipnoeffjkaa.QForecastOf
open Go.Proofs.Ytamiipnoeffjkaa.QWords
attribute [local go_sem high] binOp_string_geq_q binOp_string_leq_q binOp_string_gtr_q
open Go.RowKit Go.Proofs.YtamiipnoeffjkaaW.PrintWords Go.Proofs.YtamiipnoeffjkaaW.PrintLast Go.Proofs.YtamiipnoeffjkaaW.PrintMore
attribute [local go_sem] max2_int min2_int max_two min_two max_three min_three max_four min_four   -- for this text's walks alone
set_option linter.unusedVariables false
set_option linter.unusedSimpArgs false

/-! ### spec_l05One: function 151 -/
mutual
def spec_l05One.j0 : Nat → Bool → ByteArray → Int → Int → Int → Int → List Int → Option (Bool)
  | 0, _, _, _, _, _, _, _ => none
  | k + 1, x49, x900001000, x900001001, x900001002, x900001003, x900001004, x900001005 => if x49 = true then (some false) else (spec_l05One.l0 k 0 x900001000 x900001001 x900001002 x900001003 x900001004 x900001005)
def spec_l05One.l0 : Nat → Int → ByteArray → Int → Int → Int → Int → List Int → Option (Bool)
  | 0, _, _, _, _, _, _, _ => none
  | k + 1, x3, x900001000, x900001001, x900001002, x900001003, x900001004, x900001005 => if x3 < (x900001005.length : Int) then (if 0 ≤ x3 then ((spec_l00In.f (rd x900001005 x3) 0 3000).bind fun t152 => (if t152 = true then (spec_l05One.l0 k (wrap64 (x3 + 1)) x900001000 x900001001 x900001002 x900001003 x900001004 x900001005) else (some false))) else (none)) else (some true)
end
def spec_l05One.f (k : Nat) (a0_0 : ByteArray) (a0_1 : Int) (a0_2 : Int) (a0_3 : Int) (a0_4 : Int) (l0_5 : List Int) : Option (Bool) := (spec_l01Name.f k a0_0).bind fun t146 => (if t146 = true then ((spec_l00In.f a0_1 0 15).bind fun t147 => (if t147 = true then ((spec_l00In.f a0_2 0 1000000).bind fun t148 => (if t148 = true then ((spec_l00In.f a0_3 0 100000).bind fun t149 => (if t149 = true then ((spec_l05Outdoor.f a0_4).bind fun t150 => (if t150 = true then (spec_l05One.j0 k ((l0_5.length : Int) != 24) a0_0 a0_1 a0_2 a0_3 a0_4 l0_5) else (spec_l05One.j0 k true a0_0 a0_1 a0_2 a0_3 a0_4 l0_5))) else (spec_l05One.j0 k true a0_0 a0_1 a0_2 a0_3 a0_4 l0_5))) else (spec_l05One.j0 k true a0_0 a0_1 a0_2 a0_3 a0_4 l0_5))) else (spec_l05One.j0 k true a0_0 a0_1 a0_2 a0_3 a0_4 l0_5))) else (spec_l05One.j0 k true a0_0 a0_1 a0_2 a0_3 a0_4 l0_5))
theorem spec_l05One.mono_l : ∀ k, (∀ y0 y1 y2 y3 y4 y5 y6, LeO (spec_l05One.j0 k y0 y1 y2 y3 y4 y5 y6) (spec_l05One.j0 (k + 1) y0 y1 y2 y3 y4 y5 y6)) ∧ (∀ y0 y1 y2 y3 y4 y5 y6, LeO (spec_l05One.l0 k y0 y1 y2 y3 y4 y5 y6) (spec_l05One.l0 (k + 1) y0 y1 y2 y3 y4 y5 y6))
  | 0 => ⟨fun _ _ _ _ _ _ _ r h => by simp [spec_l05One.j0] at h, fun _ _ _ _ _ _ _ r h => by simp [spec_l05One.l0] at h⟩
  | k + 1 => by
    obtain ⟨ih0, ih1⟩ := spec_l05One.mono_l k
    refine ⟨?_, ?_⟩
    · intro y0 y1 y2 y3 y4 y5 y6
      unfold spec_l05One.j0
      repeat' first
      | (with_reducible exact ih0 _ _ _ _ _ _ _)
      | (with_reducible exact ih1 _ _ _ _ _ _ _)
      | (with_reducible exact spec_l01Name.mono _ _)
      | (with_reducible exact LeO.refl _)
      | (with_reducible exact LeO.none _)
      | (with_reducible refine LeO.ite ?_ ?_)
      | (with_reducible refine LeO.bind ?_ (fun _ => ?_))
      | exact ih0 _ _ _ _ _ _ _
      | exact ih1 _ _ _ _ _ _ _
      | exact spec_l01Name.mono _ _
      | exact LeO.none _
      | refine LeO.ite ?_ ?_
      | refine LeO.bind ?_ (fun _ => ?_)
    · intro y0 y1 y2 y3 y4 y5 y6
      unfold spec_l05One.l0
      repeat' first
      | (with_reducible exact ih0 _ _ _ _ _ _ _)
      | (with_reducible exact ih1 _ _ _ _ _ _ _)
      | (with_reducible exact spec_l01Name.mono _ _)
      | (with_reducible exact LeO.refl _)
      | (with_reducible exact LeO.none _)
      | (with_reducible refine LeO.ite ?_ ?_)
      | (with_reducible refine LeO.bind ?_ (fun _ => ?_))
      | exact ih0 _ _ _ _ _ _ _
      | exact ih1 _ _ _ _ _ _ _
      | exact spec_l01Name.mono _ _
      | exact LeO.none _
      | refine LeO.ite ?_ ?_
      | refine LeO.bind ?_ (fun _ => ?_)
theorem spec_l05One.mono : ∀ a0 a1 a2 a3 a4 a5 k, LeO (spec_l05One.f k a0 a1 a2 a3 a4 a5) (spec_l05One.f (k + 1) a0 a1 a2 a3 a4 a5) := by
  intro a0 a1 a2 a3 a4 a5 k
  obtain ⟨ih0, ih1⟩ := spec_l05One.mono_l k
  unfold spec_l05One.f
  repeat' first
      | (with_reducible exact ih0 _ _ _ _ _ _ _)
      | (with_reducible exact ih1 _ _ _ _ _ _ _)
      | (with_reducible exact spec_l01Name.mono _ _)
      | (with_reducible exact LeO.refl _)
      | (with_reducible exact LeO.none _)
      | (with_reducible refine LeO.ite ?_ ?_)
      | (with_reducible refine LeO.bind ?_ (fun _ => ?_))
      | exact ih0 _ _ _ _ _ _ _
      | exact ih1 _ _ _ _ _ _ _
      | exact spec_l01Name.mono _ _
      | exact LeO.none _
      | refine LeO.ite ?_ ?_
      | refine LeO.bind ?_ (fun _ => ?_)
set_option maxHeartbeats 8000000 in
set_option maxRecDepth 100000 in
theorem spec_l05One.calls (k : Nat) (ad0 : Addr) (a0_0 : ByteArray) (a0_1 : Int) (a0_2 : Int) (a0_3 : Int) (a0_4 : Int) (A0_5 : Option Addr) (c0_5 : Nat) (l0_5 : List Int) (r : Bool) (w : World) (hx0 : w.cell? ad0 = some (.string a0_0) ∧ w.cell? ⟨ad0.block, ad0.off + 1, none⟩ = some (.int .i64 a0_1) ∧ w.cell? ⟨ad0.block, ad0.off + 2, none⟩ = some (.int .i64 a0_2) ∧ w.cell? ⟨ad0.block, ad0.off + 3, none⟩ = some (.int .i64 a0_3) ∧ w.cell? ⟨ad0.block, ad0.off + 4, none⟩ = some (.int .i64 a0_4) ∧ w.cell? ⟨ad0.block, ad0.off + 5, none⟩ = some (.slice A0_5 l0_5.length c0_5)) (hr0_5 : Kd.C (Kd.int .i64) w A0_5 l0_5.length l0_5) (hc0_5 : l0_5.length ≤ c0_5) (h : spec_l05One.f k a0_0 a0_1 a0_2 a0_3 a0_4 l0_5 = some r) :
    Calls Try.prog 151 #[.pointer (some ad0)] w fun e w' => e = .returned (.bool r) ∧ Drawn0 w w' := by
  obtain ⟨hx0_0, hx0_1, hx0_2, hx0_3, hx0_4, hx0_5⟩ := hx0
  have HX0_0 := Aside0.mk hx0_0
  have HX0_1 := Aside0.mk hx0_1
  have HX0_2 := Aside0.mk hx0_2
  have HX0_3 := Aside0.mk hx0_3
  have HX0_4 := Aside0.mk hx0_4
  have HX0_5 := Aside0.mk hx0_5
  clear hx0_0 hx0_1 hx0_2 hx0_3 hx0_4 hx0_5
  have HR0_5 := Aside0.mk hr0_5
  have HC0_5 := Aside0.mk hc0_5
  clear hr0_5 hc0_5
  have H : ((spec_l01Name.f k a0_0).bind fun t146 => (if t146 = true then ((spec_l00In.f a0_1 0 15).bind fun t147 => (if t147 = true then ((spec_l00In.f a0_2 0 1000000).bind fun t148 => (if t148 = true then ((spec_l00In.f a0_3 0 100000).bind fun t149 => (if t149 = true then ((spec_l05Outdoor.f a0_4).bind fun t150 => (if t150 = true then (spec_l05One.j0 k ((l0_5.length : Int) != 24) a0_0 a0_1 a0_2 a0_3 a0_4 l0_5) else (spec_l05One.j0 k true a0_0 a0_1 a0_2 a0_3 a0_4 l0_5))) else (spec_l05One.j0 k true a0_0 a0_1 a0_2 a0_3 a0_4 l0_5))) else (spec_l05One.j0 k true a0_0 a0_1 a0_2 a0_3 a0_4 l0_5))) else (spec_l05One.j0 k true a0_0 a0_1 a0_2 a0_3 a0_4 l0_5))) else (spec_l05One.j0 k true a0_0 a0_1 a0_2 a0_3 a0_4 l0_5))) = some r := h
  clear h
  have HC2 := Aside0.mk H
  clear H
  go_enter Try.func151, Try.ntmps151
  go_upto_region 1 with (fail)
  go_cut [49] (fun v49 wc => ∃ (kq : Nat) (x49_1 : Bool), v49 = .bool x49_1 ∧ Aside0 (spec_l05One.j0 kq x49_1 a0_0 a0_1 a0_2 a0_3 a0_4 l0_5 = some r) ∧ Aside0 (kq ≤ k) ∧ Drawn0 w wc)
  case first =>
    have H := HC2.out
    clear HC2
    replace H := Option.bind_eq_some_iff.mp H
    obtain ⟨t146, A30, H⟩ := H
    replace H : (if t146 = true then ((spec_l00In.f a0_1 0 15).bind fun t147 => (if t147 = true then ((spec_l00In.f a0_2 0 1000000).bind fun t148 => (if t148 = true then ((spec_l00In.f a0_3 0 100000).bind fun t149 => (if t149 = true then ((spec_l05Outdoor.f a0_4).bind fun t150 => (if t150 = true then (spec_l05One.j0 k ((l0_5.length : Int) != 24) a0_0 a0_1 a0_2 a0_3 a0_4 l0_5) else (spec_l05One.j0 k true a0_0 a0_1 a0_2 a0_3 a0_4 l0_5))) else (spec_l05One.j0 k true a0_0 a0_1 a0_2 a0_3 a0_4 l0_5))) else (spec_l05One.j0 k true a0_0 a0_1 a0_2 a0_3 a0_4 l0_5))) else (spec_l05One.j0 k true a0_0 a0_1 a0_2 a0_3 a0_4 l0_5))) else (spec_l05One.j0 k true a0_0 a0_1 a0_2 a0_3 a0_4 l0_5)) = some r := H
    have A3 := Aside0.mk A30
    clear A30
    by_cases c4 : t146 = true
    · subst c4
      have H1 : ((spec_l00In.f a0_1 0 15).bind fun t147 => (if t147 = true then ((spec_l00In.f a0_2 0 1000000).bind fun t148 => (if t148 = true then ((spec_l00In.f a0_3 0 100000).bind fun t149 => (if t149 = true then ((spec_l05Outdoor.f a0_4).bind fun t150 => (if t150 = true then (spec_l05One.j0 k ((l0_5.length : Int) != 24) a0_0 a0_1 a0_2 a0_3 a0_4 l0_5) else (spec_l05One.j0 k true a0_0 a0_1 a0_2 a0_3 a0_4 l0_5))) else (spec_l05One.j0 k true a0_0 a0_1 a0_2 a0_3 a0_4 l0_5))) else (spec_l05One.j0 k true a0_0 a0_1 a0_2 a0_3 a0_4 l0_5))) else (spec_l05One.j0 k true a0_0 a0_1 a0_2 a0_3 a0_4 l0_5))) = some r := by rw [if_pos rfl] at H; exact H
      clear H
      have H := H1
      clear H1
      replace H := Option.bind_eq_some_iff.mp H
      obtain ⟨t147, A50, H⟩ := H
      replace H : (if t147 = true then ((spec_l00In.f a0_2 0 1000000).bind fun t148 => (if t148 = true then ((spec_l00In.f a0_3 0 100000).bind fun t149 => (if t149 = true then ((spec_l05Outdoor.f a0_4).bind fun t150 => (if t150 = true then (spec_l05One.j0 k ((l0_5.length : Int) != 24) a0_0 a0_1 a0_2 a0_3 a0_4 l0_5) else (spec_l05One.j0 k true a0_0 a0_1 a0_2 a0_3 a0_4 l0_5))) else (spec_l05One.j0 k true a0_0 a0_1 a0_2 a0_3 a0_4 l0_5))) else (spec_l05One.j0 k true a0_0 a0_1 a0_2 a0_3 a0_4 l0_5))) else (spec_l05One.j0 k true a0_0 a0_1 a0_2 a0_3 a0_4 l0_5)) = some r := H
      have A5 := Aside0.mk A50
      clear A50
      by_cases c6 : t147 = true
      · subst c6
        have H1 : ((spec_l00In.f a0_2 0 1000000).bind fun t148 => (if t148 = true then ((spec_l00In.f a0_3 0 100000).bind fun t149 => (if t149 = true then ((spec_l05Outdoor.f a0_4).bind fun t150 => (if t150 = true then (spec_l05One.j0 k ((l0_5.length : Int) != 24) a0_0 a0_1 a0_2 a0_3 a0_4 l0_5) else (spec_l05One.j0 k true a0_0 a0_1 a0_2 a0_3 a0_4 l0_5))) else (spec_l05One.j0 k true a0_0 a0_1 a0_2 a0_3 a0_4 l0_5))) else (spec_l05One.j0 k true a0_0 a0_1 a0_2 a0_3 a0_4 l0_5))) = some r := by rw [if_pos rfl] at H; exact H
        clear H
        have H := H1
        clear H1
        replace H := Option.bind_eq_some_iff.mp H
        obtain ⟨t148, A70, H⟩ := H
        replace H : (if t148 = true then ((spec_l00In.f a0_3 0 100000).bind fun t149 => (if t149 = true then ((spec_l05Outdoor.f a0_4).bind fun t150 => (if t150 = true then (spec_l05One.j0 k ((l0_5.length : Int) != 24) a0_0 a0_1 a0_2 a0_3 a0_4 l0_5) else (spec_l05One.j0 k true a0_0 a0_1 a0_2 a0_3 a0_4 l0_5))) else (spec_l05One.j0 k true a0_0 a0_1 a0_2 a0_3 a0_4 l0_5))) else (spec_l05One.j0 k true a0_0 a0_1 a0_2 a0_3 a0_4 l0_5)) = some r := H
        have A7 := Aside0.mk A70
        clear A70
        by_cases c8 : t148 = true
        · subst c8
          have H1 : ((spec_l00In.f a0_3 0 100000).bind fun t149 => (if t149 = true then ((spec_l05Outdoor.f a0_4).bind fun t150 => (if t150 = true then (spec_l05One.j0 k ((l0_5.length : Int) != 24) a0_0 a0_1 a0_2 a0_3 a0_4 l0_5) else (spec_l05One.j0 k true a0_0 a0_1 a0_2 a0_3 a0_4 l0_5))) else (spec_l05One.j0 k true a0_0 a0_1 a0_2 a0_3 a0_4 l0_5))) = some r := by rw [if_pos rfl] at H; exact H
          clear H
          have H := H1
          clear H1
          replace H := Option.bind_eq_some_iff.mp H
          obtain ⟨t149, A90, H⟩ := H
          replace H : (if t149 = true then ((spec_l05Outdoor.f a0_4).bind fun t150 => (if t150 = true then (spec_l05One.j0 k ((l0_5.length : Int) != 24) a0_0 a0_1 a0_2 a0_3 a0_4 l0_5) else (spec_l05One.j0 k true a0_0 a0_1 a0_2 a0_3 a0_4 l0_5))) else (spec_l05One.j0 k true a0_0 a0_1 a0_2 a0_3 a0_4 l0_5)) = some r := H
          have A9 := Aside0.mk A90
          clear A90
          by_cases c10 : t149 = true
          · subst c10
            have H1 : ((spec_l05Outdoor.f a0_4).bind fun t150 => (if t150 = true then (spec_l05One.j0 k ((l0_5.length : Int) != 24) a0_0 a0_1 a0_2 a0_3 a0_4 l0_5) else (spec_l05One.j0 k true a0_0 a0_1 a0_2 a0_3 a0_4 l0_5))) = some r := by rw [if_pos rfl] at H; exact H
            clear H
            have H := H1
            clear H1
            replace H := Option.bind_eq_some_iff.mp H
            obtain ⟨t150, A110, H⟩ := H
            replace H : (if t150 = true then (spec_l05One.j0 k ((l0_5.length : Int) != 24) a0_0 a0_1 a0_2 a0_3 a0_4 l0_5) else (spec_l05One.j0 k true a0_0 a0_1 a0_2 a0_3 a0_4 l0_5)) = some r := H
            have A11 := Aside0.mk A110
            clear A110
            by_cases c12 : t150 = true
            · subst c12
              have H1 : (spec_l05One.j0 k ((l0_5.length : Int) != 24) a0_0 a0_1 a0_2 a0_3 a0_4 l0_5) = some r := by rw [if_pos rfl] at H; exact H
              clear H
              have H := H1
              clear H1
              have H' := Aside0.mk H
              clear H
              have hz13_0 := HX0_0.out
              have hz13_1 := HX0_1.out
              have hz13_2 := HX0_2.out
              have hz13_3 := HX0_3.out
              have hz13_4 := HX0_4.out
              have hz13_5 := HX0_5.out
              go_wp2_with (first | ((with_reducible refine gate_callee (f := 186) rfl ?_); refine goesL_ (some 8) rfl rfl Try.func186 (by kernel_rfl) rfl #[.string a0_0] rfl (by (try simp only [List.map_toArray, List.map_cons, List.map_nil]); first | done | rfl | (simp only [List.length_drop, List.length_take]; rfl)) ?_; (with_reducible refine (spec_l01Name.calls k a0_0 true _ A3.out).mono ?_); rintro e w' ⟨rfl, ⟨nd, rfl⟩⟩; refine ⟨_, rfl, ?_⟩; have hz14_0 := HX0_0.out; have hz14_1 := HX0_1.out; have hz14_2 := HX0_2.out; have hz14_3 := HX0_3.out; have hz14_4 := HX0_4.out; have hz14_5 := HX0_5.out) | (go_at_call 97; (first | (with_reducible refine (spec_l00In.calls a0_1 0 15 true _ A5.out).mono ?_) | ((try simp only [Go.IntWalk.i64_left]); (with_reducible refine (spec_l00In.calls a0_1 0 15 true _ A5.out).mono ?_))); rintro e w' ⟨rfl, ⟨nd, rfl⟩⟩; have hz15_0 := HX0_0.out; have hz15_1 := HX0_1.out; have hz15_2 := HX0_2.out; have hz15_3 := HX0_3.out; have hz15_4 := HX0_4.out; have hz15_5 := HX0_5.out) | (go_at_call 97; (first | (with_reducible refine (spec_l00In.calls a0_2 0 1000000 true _ A7.out).mono ?_) | ((try simp only [Go.IntWalk.i64_left]); (with_reducible refine (spec_l00In.calls a0_2 0 1000000 true _ A7.out).mono ?_))); rintro e w' ⟨rfl, ⟨nd, rfl⟩⟩; have hz16_0 := HX0_0.out; have hz16_1 := HX0_1.out; have hz16_2 := HX0_2.out; have hz16_3 := HX0_3.out; have hz16_4 := HX0_4.out; have hz16_5 := HX0_5.out) | (go_at_call 97; (first | (with_reducible refine (spec_l00In.calls a0_3 0 100000 true _ A9.out).mono ?_) | ((try simp only [Go.IntWalk.i64_left]); (with_reducible refine (spec_l00In.calls a0_3 0 100000 true _ A9.out).mono ?_))); rintro e w' ⟨rfl, ⟨nd, rfl⟩⟩; have hz17_0 := HX0_0.out; have hz17_1 := HX0_1.out; have hz17_2 := HX0_2.out; have hz17_3 := HX0_3.out; have hz17_4 := HX0_4.out; have hz17_5 := HX0_5.out) | (go_at_call 137; (first | (with_reducible refine (spec_l05Outdoor.calls a0_4 true _ A11.out).mono ?_) | ((try simp only [Go.IntWalk.i64_left]); (with_reducible refine (spec_l05Outdoor.calls a0_4 true _ A11.out).mono ?_))); rintro e w' ⟨rfl, ⟨nd, rfl⟩⟩; have hz18_0 := HX0_0.out; have hz18_1 := HX0_1.out; have hz18_2 := HX0_2.out; have hz18_3 := HX0_3.out; have hz18_4 := HX0_4.out; have hz18_5 := HX0_5.out))
              go_meet
              case rel => exact ⟨_, (((l0_5.length : Int) != 24)), (by first | rfl | (simp; done) | (simp [*]; done)), H', ⟨by first | omega | exact Nat.le_refl _⟩, by repeat (first | exact Drawn0.refl _ | apply Drawn0.step)⟩
            · replace c12 := Bool.eq_false_iff.mpr c12
              subst c12
              have H1 : (spec_l05One.j0 k true a0_0 a0_1 a0_2 a0_3 a0_4 l0_5) = some r := by rw [if_neg (show ¬ (false = true) by decide)] at H; exact H
              clear H
              have H := H1
              clear H1
              have H' := Aside0.mk H
              clear H
              have hz19_0 := HX0_0.out
              have hz19_1 := HX0_1.out
              have hz19_2 := HX0_2.out
              have hz19_3 := HX0_3.out
              have hz19_4 := HX0_4.out
              have hz19_5 := HX0_5.out
              go_wp2_with (first | ((with_reducible refine gate_callee (f := 186) rfl ?_); refine goesL_ (some 8) rfl rfl Try.func186 (by kernel_rfl) rfl #[.string a0_0] rfl (by (try simp only [List.map_toArray, List.map_cons, List.map_nil]); first | done | rfl | (simp only [List.length_drop, List.length_take]; rfl)) ?_; (with_reducible refine (spec_l01Name.calls k a0_0 true _ A3.out).mono ?_); rintro e w' ⟨rfl, ⟨nd, rfl⟩⟩; refine ⟨_, rfl, ?_⟩; have hz20_0 := HX0_0.out; have hz20_1 := HX0_1.out; have hz20_2 := HX0_2.out; have hz20_3 := HX0_3.out; have hz20_4 := HX0_4.out; have hz20_5 := HX0_5.out) | (go_at_call 97; (first | (with_reducible refine (spec_l00In.calls a0_1 0 15 true _ A5.out).mono ?_) | ((try simp only [Go.IntWalk.i64_left]); (with_reducible refine (spec_l00In.calls a0_1 0 15 true _ A5.out).mono ?_))); rintro e w' ⟨rfl, ⟨nd, rfl⟩⟩; have hz21_0 := HX0_0.out; have hz21_1 := HX0_1.out; have hz21_2 := HX0_2.out; have hz21_3 := HX0_3.out; have hz21_4 := HX0_4.out; have hz21_5 := HX0_5.out) | (go_at_call 97; (first | (with_reducible refine (spec_l00In.calls a0_2 0 1000000 true _ A7.out).mono ?_) | ((try simp only [Go.IntWalk.i64_left]); (with_reducible refine (spec_l00In.calls a0_2 0 1000000 true _ A7.out).mono ?_))); rintro e w' ⟨rfl, ⟨nd, rfl⟩⟩; have hz22_0 := HX0_0.out; have hz22_1 := HX0_1.out; have hz22_2 := HX0_2.out; have hz22_3 := HX0_3.out; have hz22_4 := HX0_4.out; have hz22_5 := HX0_5.out) | (go_at_call 97; (first | (with_reducible refine (spec_l00In.calls a0_3 0 100000 true _ A9.out).mono ?_) | ((try simp only [Go.IntWalk.i64_left]); (with_reducible refine (spec_l00In.calls a0_3 0 100000 true _ A9.out).mono ?_))); rintro e w' ⟨rfl, ⟨nd, rfl⟩⟩; have hz23_0 := HX0_0.out; have hz23_1 := HX0_1.out; have hz23_2 := HX0_2.out; have hz23_3 := HX0_3.out; have hz23_4 := HX0_4.out; have hz23_5 := HX0_5.out) | (go_at_call 137; (first | (with_reducible refine (spec_l05Outdoor.calls a0_4 false _ A11.out).mono ?_) | ((try simp only [Go.IntWalk.i64_left]); (with_reducible refine (spec_l05Outdoor.calls a0_4 false _ A11.out).mono ?_))); rintro e w' ⟨rfl, ⟨nd, rfl⟩⟩))
              go_meet
              case rel => exact ⟨_, (true), (by first | rfl | (simp; done) | (simp [*]; done)), H', ⟨by first | omega | exact Nat.le_refl _⟩, by repeat (first | exact Drawn0.refl _ | apply Drawn0.step)⟩
          · replace c10 := Bool.eq_false_iff.mpr c10
            subst c10
            have H1 : (spec_l05One.j0 k true a0_0 a0_1 a0_2 a0_3 a0_4 l0_5) = some r := by rw [if_neg (show ¬ (false = true) by decide)] at H; exact H
            clear H
            have H := H1
            clear H1
            have H' := Aside0.mk H
            clear H
            have hz24_0 := HX0_0.out
            have hz24_1 := HX0_1.out
            have hz24_2 := HX0_2.out
            have hz24_3 := HX0_3.out
            have hz24_4 := HX0_4.out
            have hz24_5 := HX0_5.out
            go_wp2_with (first | ((with_reducible refine gate_callee (f := 186) rfl ?_); refine goesL_ (some 8) rfl rfl Try.func186 (by kernel_rfl) rfl #[.string a0_0] rfl (by (try simp only [List.map_toArray, List.map_cons, List.map_nil]); first | done | rfl | (simp only [List.length_drop, List.length_take]; rfl)) ?_; (with_reducible refine (spec_l01Name.calls k a0_0 true _ A3.out).mono ?_); rintro e w' ⟨rfl, ⟨nd, rfl⟩⟩; refine ⟨_, rfl, ?_⟩; have hz25_0 := HX0_0.out; have hz25_1 := HX0_1.out; have hz25_2 := HX0_2.out; have hz25_3 := HX0_3.out; have hz25_4 := HX0_4.out; have hz25_5 := HX0_5.out) | (go_at_call 97; (first | (with_reducible refine (spec_l00In.calls a0_1 0 15 true _ A5.out).mono ?_) | ((try simp only [Go.IntWalk.i64_left]); (with_reducible refine (spec_l00In.calls a0_1 0 15 true _ A5.out).mono ?_))); rintro e w' ⟨rfl, ⟨nd, rfl⟩⟩; have hz26_0 := HX0_0.out; have hz26_1 := HX0_1.out; have hz26_2 := HX0_2.out; have hz26_3 := HX0_3.out; have hz26_4 := HX0_4.out; have hz26_5 := HX0_5.out) | (go_at_call 97; (first | (with_reducible refine (spec_l00In.calls a0_2 0 1000000 true _ A7.out).mono ?_) | ((try simp only [Go.IntWalk.i64_left]); (with_reducible refine (spec_l00In.calls a0_2 0 1000000 true _ A7.out).mono ?_))); rintro e w' ⟨rfl, ⟨nd, rfl⟩⟩; have hz27_0 := HX0_0.out; have hz27_1 := HX0_1.out; have hz27_2 := HX0_2.out; have hz27_3 := HX0_3.out; have hz27_4 := HX0_4.out; have hz27_5 := HX0_5.out) | (go_at_call 97; (first | (with_reducible refine (spec_l00In.calls a0_3 0 100000 false _ A9.out).mono ?_) | ((try simp only [Go.IntWalk.i64_left]); (with_reducible refine (spec_l00In.calls a0_3 0 100000 false _ A9.out).mono ?_))); rintro e w' ⟨rfl, ⟨nd, rfl⟩⟩))
            go_meet
            case rel => exact ⟨_, (true), (by first | rfl | (simp; done) | (simp [*]; done)), H', ⟨by first | omega | exact Nat.le_refl _⟩, by repeat (first | exact Drawn0.refl _ | apply Drawn0.step)⟩
        · replace c8 := Bool.eq_false_iff.mpr c8
          subst c8
          have H1 : (spec_l05One.j0 k true a0_0 a0_1 a0_2 a0_3 a0_4 l0_5) = some r := by rw [if_neg (show ¬ (false = true) by decide)] at H; exact H
          clear H
          have H := H1
          clear H1
          have H' := Aside0.mk H
          clear H
          have hz28_0 := HX0_0.out
          have hz28_1 := HX0_1.out
          have hz28_2 := HX0_2.out
          have hz28_3 := HX0_3.out
          have hz28_4 := HX0_4.out
          have hz28_5 := HX0_5.out
          go_wp2_with (first | ((with_reducible refine gate_callee (f := 186) rfl ?_); refine goesL_ (some 8) rfl rfl Try.func186 (by kernel_rfl) rfl #[.string a0_0] rfl (by (try simp only [List.map_toArray, List.map_cons, List.map_nil]); first | done | rfl | (simp only [List.length_drop, List.length_take]; rfl)) ?_; (with_reducible refine (spec_l01Name.calls k a0_0 true _ A3.out).mono ?_); rintro e w' ⟨rfl, ⟨nd, rfl⟩⟩; refine ⟨_, rfl, ?_⟩; have hz29_0 := HX0_0.out; have hz29_1 := HX0_1.out; have hz29_2 := HX0_2.out; have hz29_3 := HX0_3.out; have hz29_4 := HX0_4.out; have hz29_5 := HX0_5.out) | (go_at_call 97; (first | (with_reducible refine (spec_l00In.calls a0_1 0 15 true _ A5.out).mono ?_) | ((try simp only [Go.IntWalk.i64_left]); (with_reducible refine (spec_l00In.calls a0_1 0 15 true _ A5.out).mono ?_))); rintro e w' ⟨rfl, ⟨nd, rfl⟩⟩; have hz30_0 := HX0_0.out; have hz30_1 := HX0_1.out; have hz30_2 := HX0_2.out; have hz30_3 := HX0_3.out; have hz30_4 := HX0_4.out; have hz30_5 := HX0_5.out) | (go_at_call 97; (first | (with_reducible refine (spec_l00In.calls a0_2 0 1000000 false _ A7.out).mono ?_) | ((try simp only [Go.IntWalk.i64_left]); (with_reducible refine (spec_l00In.calls a0_2 0 1000000 false _ A7.out).mono ?_))); rintro e w' ⟨rfl, ⟨nd, rfl⟩⟩))
          go_meet
          case rel => exact ⟨_, (true), (by first | rfl | (simp; done) | (simp [*]; done)), H', ⟨by first | omega | exact Nat.le_refl _⟩, by repeat (first | exact Drawn0.refl _ | apply Drawn0.step)⟩
      · replace c6 := Bool.eq_false_iff.mpr c6
        subst c6
        have H1 : (spec_l05One.j0 k true a0_0 a0_1 a0_2 a0_3 a0_4 l0_5) = some r := by rw [if_neg (show ¬ (false = true) by decide)] at H; exact H
        clear H
        have H := H1
        clear H1
        have H' := Aside0.mk H
        clear H
        have hz31_0 := HX0_0.out
        have hz31_1 := HX0_1.out
        have hz31_2 := HX0_2.out
        have hz31_3 := HX0_3.out
        have hz31_4 := HX0_4.out
        have hz31_5 := HX0_5.out
        go_wp2_with (first | ((with_reducible refine gate_callee (f := 186) rfl ?_); refine goesL_ (some 8) rfl rfl Try.func186 (by kernel_rfl) rfl #[.string a0_0] rfl (by (try simp only [List.map_toArray, List.map_cons, List.map_nil]); first | done | rfl | (simp only [List.length_drop, List.length_take]; rfl)) ?_; (with_reducible refine (spec_l01Name.calls k a0_0 true _ A3.out).mono ?_); rintro e w' ⟨rfl, ⟨nd, rfl⟩⟩; refine ⟨_, rfl, ?_⟩; have hz32_0 := HX0_0.out; have hz32_1 := HX0_1.out; have hz32_2 := HX0_2.out; have hz32_3 := HX0_3.out; have hz32_4 := HX0_4.out; have hz32_5 := HX0_5.out) | (go_at_call 97; (first | (with_reducible refine (spec_l00In.calls a0_1 0 15 false _ A5.out).mono ?_) | ((try simp only [Go.IntWalk.i64_left]); (with_reducible refine (spec_l00In.calls a0_1 0 15 false _ A5.out).mono ?_))); rintro e w' ⟨rfl, ⟨nd, rfl⟩⟩))
        go_meet
        case rel => exact ⟨_, (true), (by first | rfl | (simp; done) | (simp [*]; done)), H', ⟨by first | omega | exact Nat.le_refl _⟩, by repeat (first | exact Drawn0.refl _ | apply Drawn0.step)⟩
    · replace c4 := Bool.eq_false_iff.mpr c4
      subst c4
      have H1 : (spec_l05One.j0 k true a0_0 a0_1 a0_2 a0_3 a0_4 l0_5) = some r := by rw [if_neg (show ¬ (false = true) by decide)] at H; exact H
      clear H
      have H := H1
      clear H1
      have H' := Aside0.mk H
      clear H
      have hz33_0 := HX0_0.out
      have hz33_1 := HX0_1.out
      have hz33_2 := HX0_2.out
      have hz33_3 := HX0_3.out
      have hz33_4 := HX0_4.out
      have hz33_5 := HX0_5.out
      go_wp2_with (first | ((with_reducible refine gate_callee (f := 186) rfl ?_); refine goesL_ (some 8) rfl rfl Try.func186 (by kernel_rfl) rfl #[.string a0_0] rfl (by (try simp only [List.map_toArray, List.map_cons, List.map_nil]); first | done | rfl | (simp only [List.length_drop, List.length_take]; rfl)) ?_; (with_reducible refine (spec_l01Name.calls k a0_0 false _ A3.out).mono ?_); rintro e w' ⟨rfl, ⟨nd, rfl⟩⟩; refine ⟨_, rfl, ?_⟩))
      go_meet
      case rel => exact ⟨_, (true), (by first | rfl | (simp; done) | (simp [*]; done)), H', ⟨by first | omega | exact Nat.le_refl _⟩, by repeat (first | exact Drawn0.refl _ | apply Drawn0.step)⟩
  case rest =>
    clear HC2
    try clear c1
    try clear p2
    try clear c4
    try clear c6
    try clear c8
    try clear c10
    try clear c12
    try clear c15
    try clear c18
    try clear hx0_0
    try clear hx0_1
    try clear hx0_2
    try clear hx0_3
    try clear hx0_4
    try clear hx0_5
    obtain ⟨kq, x49_1, rfl, HA, HJ1, ⟨mc1, rfl⟩⟩ := hcut
    cases kq with
    | zero => exact absurd HA.out (by simp [spec_l05One.j0])
    | succ kj1 =>
      have H := HA.out
      clear HA
      simp only [spec_l05One.j0] at H
      by_cases c34 : x49_1 = true
      · subst c34
        have H1 : (some false) = some r := by rw [if_pos rfl] at H; exact H
        clear H
        have H := H1
        clear H1
        obtain rfl := Option.some.inj H
        go_wp2
        go_ret
        exact ⟨by first | rfl | (simp; done) | (simp [*]; done), by repeat (first | exact Drawn0.refl _ | apply Drawn0.step)⟩
      · replace c34 := Bool.eq_false_iff.mpr c34
        subst c34
        have H1 : (spec_l05One.l0 kj1 0 a0_0 a0_1 a0_2 a0_3 a0_4 l0_5) = some r := by rw [if_neg (show ¬ (false = true) by decide)] at H; exact H
        clear H
        have H := H1
        clear H1
        have H' := Aside0.mk H
        clear H
        go_wp2
        go_loopg [3] kj1 (fun kq v3 w' => ∃ (x3_2 : Int), v3 = .int .i64 x3_2 ∧ Aside0 (spec_l05One.l0 kq x3_2 a0_0 a0_1 a0_2 a0_3 a0_4 l0_5 = some r) ∧ Aside0 (kq ≤ kj1) ∧ Drawn0 w w')
        case atStart => exact ⟨(0), (by first | rfl | (simp; done) | (simp [*]; done)), H', ⟨Nat.le_refl _⟩, by repeat (first | exact Drawn0.refl _ | apply Drawn0.step)⟩
        case round =>
          clear H'
          try clear c1
          try clear p2
          try clear c3
          try clear c4
          try clear c6
          try clear c8
          try clear c10
          try clear c12
          try clear c15
          try clear c18
          try clear c34
          try clear hx0_0
          try clear hx0_1
          try clear hx0_2
          try clear hx0_3
          try clear hx0_4
          try clear hx0_5
          try clear p2
          obtain ⟨x3_2, rfl, HA, HK2, ⟨m2, rfl⟩⟩ := hrel
          cases gk with
          | zero => exact absurd HA.out (by simp [spec_l05One.l0])
          | succ k2 =>
            have H := HA.out
            clear HA
            simp only [spec_l05One.l0] at H
            by_cases c35 : x3_2 < (l0_5.length : Int)
            · rw [if_pos c35] at H
              have c35b0 : decide (x3_2 < (l0_5.length : Int)) = true := decide_eq_true c35
              clear c35
              by_cases c36 : 0 ≤ x3_2
              · rw [if_pos c36] at H
                have c36b0 : decide (0 ≤ x3_2) = true := decide_eq_true c36
                clear c36
                replace H := Option.bind_eq_some_iff.mp H
                obtain ⟨t152, A370, H⟩ := H
                replace H : (if t152 = true then (spec_l05One.l0 k2 (wrap64 (x3_2 + 1)) a0_0 a0_1 a0_2 a0_3 a0_4 l0_5) else (some false)) = some r := H
                have A37 := Aside0.mk A370
                clear A370
                by_cases c38 : t152 = true
                · subst c38
                  have H1 : (spec_l05One.l0 k2 (wrap64 (x3_2 + 1)) a0_0 a0_1 a0_2 a0_3 a0_4 l0_5) = some r := by rw [if_pos rfl] at H; exact H
                  clear H
                  have H := H1
                  clear H1
                  have H' := Aside0.mk H
                  clear H
                  have hz39_0 := HX0_0.out
                  have hz39_1 := HX0_1.out
                  have hz39_2 := HX0_2.out
                  have hz39_3 := HX0_3.out
                  have hz39_4 := HX0_4.out
                  have hz39_5 := HX0_5.out
                  have hz40_0 := HX0_0.out
                  have hz40_1 := HX0_1.out
                  have hz40_2 := HX0_2.out
                  have hz40_3 := HX0_3.out
                  have hz40_4 := HX0_4.out
                  have hz40_5 := HX0_5.out
                  have p151 : 0 ≤ (x3_2 : Int) := of_decide_eq_true (by first | (with_reducible assumption) | assumption)
                  have q151 : x3_2 < (l0_5.length : Int) := of_decide_eq_true (by first | (with_reducible assumption) | assumption)
                  obtain ⟨ad151, e151, hx151_0⟩ := Kd.at_int HR0_5.out x3_2 p151 q151
                  cases e151
                  replace p151 := eq_true p151
                  replace q151 := eq_true q151
                  go_wp2_with (first | ((with_reducible refine gate_callee (f := 97) rfl ?_); refine goesL_ (some 66) rfl rfl Try.func97 (by kernel_rfl) rfl #[.int .i64 (rd l0_5 x3_2), .int .i64 0, .int .i64 3000] rfl (by (try simp only [List.map_toArray, List.map_cons, List.map_nil]); first | done | rfl | (simp only [List.length_drop, List.length_take]; rfl)) ?_; (with_reducible refine (spec_l00In.calls (rd l0_5 x3_2) 0 3000 true _ A37.out).mono ?_); rintro e w' ⟨rfl, ⟨nd, rfl⟩⟩; refine ⟨_, rfl, ?_⟩))
                  go_roundg k2
                  case measure => have := HJ1.out; have := HK2.out; omega
                  case rel => exact ⟨(wrap64 (x3_2 + 1)), (by first | rfl | (simp; done) | (simp [*]; done)), H', ⟨by have := HJ1.out; have := HK2.out; omega⟩, by repeat (first | exact Drawn0.refl _ | apply Drawn0.step)⟩
                · replace c38 := Bool.eq_false_iff.mpr c38
                  subst c38
                  have H1 : (some false) = some r := by rw [if_neg (show ¬ (false = true) by decide)] at H; exact H
                  clear H
                  have H := H1
                  clear H1
                  obtain rfl := Option.some.inj H
                  have hz41_0 := HX0_0.out
                  have hz41_1 := HX0_1.out
                  have hz41_2 := HX0_2.out
                  have hz41_3 := HX0_3.out
                  have hz41_4 := HX0_4.out
                  have hz41_5 := HX0_5.out
                  have hz42_0 := HX0_0.out
                  have hz42_1 := HX0_1.out
                  have hz42_2 := HX0_2.out
                  have hz42_3 := HX0_3.out
                  have hz42_4 := HX0_4.out
                  have hz42_5 := HX0_5.out
                  have p151 : 0 ≤ (x3_2 : Int) := of_decide_eq_true (by first | (with_reducible assumption) | assumption)
                  have q151 : x3_2 < (l0_5.length : Int) := of_decide_eq_true (by first | (with_reducible assumption) | assumption)
                  obtain ⟨ad151, e151, hx151_0⟩ := Kd.at_int HR0_5.out x3_2 p151 q151
                  cases e151
                  replace p151 := eq_true p151
                  replace q151 := eq_true q151
                  go_wp2_with (first | ((with_reducible refine gate_callee (f := 97) rfl ?_); refine goesL_ (some 66) rfl rfl Try.func97 (by kernel_rfl) rfl #[.int .i64 (rd l0_5 x3_2), .int .i64 0, .int .i64 3000] rfl (by (try simp only [List.map_toArray, List.map_cons, List.map_nil]); first | done | rfl | (simp only [List.length_drop, List.length_take]; rfl)) ?_; (with_reducible refine (spec_l00In.calls (rd l0_5 x3_2) 0 3000 false _ A37.out).mono ?_); rintro e w' ⟨rfl, ⟨nd, rfl⟩⟩; refine ⟨_, rfl, ?_⟩))
                  go_ret
                  exact ⟨by first | rfl | (simp; done) | (simp [*]; done), by repeat (first | exact Drawn0.refl _ | apply Drawn0.step)⟩
              · rw [if_neg c36] at H
                exact absurd H (by simp)
            · rw [if_neg c35] at H
              have c35b0 : decide (x3_2 < (l0_5.length : Int)) = false := decide_eq_false c35
              clear c35
              obtain rfl := Option.some.inj H
              have hz43_0 := HX0_0.out
              have hz43_1 := HX0_1.out
              have hz43_2 := HX0_2.out
              have hz43_3 := HX0_3.out
              have hz43_4 := HX0_4.out
              have hz43_5 := HX0_5.out
              go_wp2
              go_ret
              exact ⟨by first | rfl | (simp; done) | (simp [*]; done), by repeat (first | exact Drawn0.refl _ | apply Drawn0.step)⟩

/-! ### spec_l05Ok: function 124 -/
def spec_l05Ok.l0 : Nat → List (S96) → Int → Option (Bool)
  | 0, _, _ => none
  | k + 1, x0, x3 => if x3 < (x0.length : Int) then (if 0 ≤ x3 then ((spec_l05One.f k ((rd_T96 x0 x3).f0) ((rd_T96 x0 x3).f1) ((rd_T96 x0 x3).f2) ((rd_T96 x0 x3).f3) ((rd_T96 x0 x3).f4) ((rd_T96 x0 x3).f5)).bind fun t154 => (if t154 = true then (if x3 > 0 then (if 0 ≤ (wrap64 (x3 - 1)) then (if (wrap64 (x3 - 1)) < (x0.length : Int) then (if ((Op.bytesLess (((rd_T96 x0 (wrap64 (x3 - 1))).f0).toList) (((rd_T96 x0 x3).f0).toList)) = true) then (spec_l05Ok.l0 k x0 (wrap64 (x3 + 1))) else (some false)) else (none)) else (none)) else (spec_l05Ok.l0 k x0 (wrap64 (x3 + 1)))) else (some false))) else (none)) else (some (decide ((x0.length : Int) ≤ 12)))
def spec_l05Ok.f (k : Nat) (l0 : List (S96)) : Option (Bool) := spec_l05Ok.l0 k l0 0
theorem spec_l05Ok.mono_l : ∀ k, (∀ y0 y1, LeO (spec_l05Ok.l0 k y0 y1) (spec_l05Ok.l0 (k + 1) y0 y1))
  | 0 => fun _ _ r h => by simp [spec_l05Ok.l0] at h
  | k + 1 => by
    have ih0 := spec_l05Ok.mono_l k
    · intro y0 y1
      unfold spec_l05Ok.l0
      repeat' first
      | (with_reducible exact ih0 _ _)
      | (with_reducible exact spec_l05One.mono _ _ _ _ _ _ _)
      | (with_reducible exact LeO.refl _)
      | (with_reducible exact LeO.none _)
      | (with_reducible refine LeO.ite ?_ ?_)
      | (with_reducible refine LeO.bind ?_ (fun _ => ?_))
      | exact ih0 _ _
      | exact spec_l05One.mono _ _ _ _ _ _ _
      | exact LeO.none _
      | refine LeO.ite ?_ ?_
      | refine LeO.bind ?_ (fun _ => ?_)
theorem spec_l05Ok.mono : ∀ a0 k, LeO (spec_l05Ok.f k a0) (spec_l05Ok.f (k + 1) a0) := by
  intro a0 k
  have ih0 := spec_l05Ok.mono_l k
  unfold spec_l05Ok.f
  repeat' first
      | (with_reducible exact ih0 _ _)
      | (with_reducible exact spec_l05One.mono _ _ _ _ _ _ _)
      | (with_reducible exact LeO.refl _)
      | (with_reducible exact LeO.none _)
      | (with_reducible refine LeO.ite ?_ ?_)
      | (with_reducible refine LeO.bind ?_ (fun _ => ?_))
      | exact ih0 _ _
      | exact spec_l05One.mono _ _ _ _ _ _ _
      | exact LeO.none _
      | refine LeO.ite ?_ ?_
      | refine LeO.bind ?_ (fun _ => ?_)
set_option maxHeartbeats 8000000 in
set_option maxRecDepth 100000 in
theorem spec_l05Ok.calls (k : Nat) (A0 : Option Addr) (c0 : Nat) (l0 : List (S96)) (r : Bool) (w : World) (hr0 : Kd.C k96 w A0 l0.length l0) (hc0 : l0.length ≤ c0) (h : spec_l05Ok.f k l0 = some r) :
    Calls Try.prog 124 #[.slice A0 l0.length c0] w fun e w' => e = .returned (.bool r) ∧ Drawn0 w w' := by
  have HR0 := Aside0.mk hr0
  have HC0 := Aside0.mk hc0
  clear hr0 hc0
  have H : (spec_l05Ok.l0 k l0 0) = some r := h
  clear h
  have H' := Aside0.mk H
  clear H
  go_enter Try.func124, Try.ntmps124
  go_wp2
  repeat (go_quiet (fail); try go_wp2)
  go_loopg [3] k (fun kq v3 w' => ∃ (x3_1 : Int), v3 = .int .i64 x3_1 ∧ Aside0 (spec_l05Ok.l0 kq l0 x3_1 = some r) ∧ Aside0 (kq ≤ k) ∧ Drawn0 w w')
  case atStart => exact ⟨(0), (by first | rfl | (simp; done) | (simp [*]; done)), H', ⟨Nat.le_refl _⟩, by repeat (first | exact Drawn0.refl _ | apply Drawn0.step)⟩
  case round =>
    clear H'
    try clear c1
    obtain ⟨x3_1, rfl, HA, HK1, ⟨m1, rfl⟩⟩ := hrel
    cases gk with
    | zero => exact absurd HA.out (by simp [spec_l05Ok.l0])
    | succ k1 =>
      have H := HA.out
      clear HA
      simp only [spec_l05Ok.l0] at H
      by_cases c2 : x3_1 < (l0.length : Int)
      · rw [if_pos c2] at H
        have c2b0 : decide (x3_1 < (l0.length : Int)) = true := decide_eq_true c2
        clear c2
        by_cases c3 : 0 ≤ x3_1
        · rw [if_pos c3] at H
          have c3b0 : decide (0 ≤ x3_1) = true := decide_eq_true c3
          clear c3
          replace H := Option.bind_eq_some_iff.mp H
          obtain ⟨t154, A40, H⟩ := H
          replace H : (if t154 = true then (if x3_1 > 0 then (if 0 ≤ (wrap64 (x3_1 - 1)) then (if (wrap64 (x3_1 - 1)) < (l0.length : Int) then (if ((Op.bytesLess (((rd_T96 l0 (wrap64 (x3_1 - 1))).f0).toList) (((rd_T96 l0 x3_1).f0).toList)) = true) then (spec_l05Ok.l0 k1 l0 (wrap64 (x3_1 + 1))) else (some false)) else (none)) else (none)) else (spec_l05Ok.l0 k1 l0 (wrap64 (x3_1 + 1)))) else (some false)) = some r := H
          have A4 := Aside0.mk A40
          clear A40
          by_cases c5 : t154 = true
          · subst c5
            have H1 : (if x3_1 > 0 then (if 0 ≤ (wrap64 (x3_1 - 1)) then (if (wrap64 (x3_1 - 1)) < (l0.length : Int) then (if ((Op.bytesLess (((rd_T96 l0 (wrap64 (x3_1 - 1))).f0).toList) (((rd_T96 l0 x3_1).f0).toList)) = true) then (spec_l05Ok.l0 k1 l0 (wrap64 (x3_1 + 1))) else (some false)) else (none)) else (none)) else (spec_l05Ok.l0 k1 l0 (wrap64 (x3_1 + 1)))) = some r := by rw [if_pos rfl] at H; exact H
            clear H
            have H := H1
            clear H1
            by_cases c6 : x3_1 > 0
            · rw [if_pos c6] at H
              have c6b0 : decide (0 < x3_1) = true := decide_eq_true c6
              clear c6
              obtain ⟨ji7, hji7⟩ : ∃ j_ : Int, (wrap64 (x3_1 - 1)) = j_ := ⟨_, rfl⟩
              replace H : (if 0 ≤ (ji7) then (if (ji7) < (l0.length : Int) then (if ((Op.bytesLess (((rd_T96 l0 (ji7)).f0).toList) (((rd_T96 l0 x3_1).f0).toList)) = true) then (spec_l05Ok.l0 k1 l0 (wrap64 (x3_1 + 1))) else (some false)) else (none)) else (none)) = some r := by first | (rw [hji7] at H; exact H) | (simp only [hji7] at H ⊢; exact H)
              (try rw [hji7] at A4)
              have hji7w : (IntKind.i64.wrap (x3_1 - 1)) = ji7 := (i64_w _).trans hji7
              by_cases c8 : 0 ≤ (ji7)
              · rw [if_pos c8] at H
                have c8b0 : decide (0 ≤ (ji7)) = true := decide_eq_true c8
                clear c8
                by_cases c9 : (ji7) < (l0.length : Int)
                · rw [if_pos c9] at H
                  have c9b0 : decide ((ji7) < (l0.length : Int)) = true := decide_eq_true c9
                  clear c9
                  by_cases c10 : ((Op.bytesLess (((rd_T96 l0 (ji7)).f0).toList) (((rd_T96 l0 x3_1).f0).toList)) = true)
                  · rw [if_pos c10] at H
                    have c10b0 : (Op.bytesLess (((rd_T96 l0 (ji7)).f0).toList) (((rd_T96 l0 x3_1).f0).toList)) = true := c10
                    clear c10
                    have H' := Aside0.mk H
                    clear H
                    have p153 : 0 ≤ (x3_1 : Int) := of_decide_eq_true (by first | (with_reducible assumption) | assumption)
                    have q153 : x3_1 < (l0.length : Int) := of_decide_eq_true (by first | (with_reducible assumption) | assumption)
                    obtain ⟨ad153, A153_5, c153_5, e153, hx153_0, hx153_1, hx153_2, hx153_3, hx153_4, hx153_5, hl153_5, hi153_5⟩ := at_T96 HR0.out x3_1 p153 q153
                    cases e153
                    have HR153_5 := Aside0.mk hi153_5
                    have HC153_5 := Aside0.mk hl153_5
                    clear hi153_5 hl153_5
                    replace p153 := eq_true p153
                    replace q153 := eq_true q153
                    have p155 : 0 ≤ ((ji7) : Int) := of_decide_eq_true (by first | (with_reducible assumption) | assumption)
                    have q155 : (ji7) < (l0.length : Int) := of_decide_eq_true (by first | (with_reducible assumption) | assumption)
                    obtain ⟨ad155, A155_5, c155_5, e155, hx155_0, hx155_1, hx155_2, hx155_3, hx155_4, hx155_5, hl155_5, hi155_5⟩ := at_T96 HR0.out (ji7) p155 q155
                    obtain rfl : ad153 = ad155 := (by injection e155)
                    have HR155_5 := Aside0.mk hi155_5
                    have HC155_5 := Aside0.mk hl155_5
                    clear hi155_5 hl155_5
                    replace p155 := eq_true p155
                    replace q155 := eq_true q155
                    have p156 : 0 ≤ (x3_1 : Int) := of_decide_eq_true (by first | (with_reducible assumption) | assumption)
                    have q156 : x3_1 < (l0.length : Int) := of_decide_eq_true (by first | (with_reducible assumption) | assumption)
                    obtain ⟨ad156, A156_5, c156_5, e156, hx156_0, hx156_1, hx156_2, hx156_3, hx156_4, hx156_5, hl156_5, hi156_5⟩ := at_T96 HR0.out x3_1 p156 q156
                    obtain rfl : ad153 = ad156 := (by injection e156)
                    have HR156_5 := Aside0.mk hi156_5
                    have HC156_5 := Aside0.mk hl156_5
                    clear hi156_5 hl156_5
                    replace p156 := eq_true p156
                    replace q156 := eq_true q156
                    have ea_ := Option.some.inj (hx153_5.symm.trans hx156_5)
                    injection ea_ with ea_ en_ ec_
                    subst ea_
                    subst ec_
                    clear en_
                    go_wp2_with (first | (go_at_call 151; (first | (with_reducible refine (spec_l05One.calls k1 _ ((rd_T96 l0 x3_1).f0) ((rd_T96 l0 x3_1).f1) ((rd_T96 l0 x3_1).f2) ((rd_T96 l0 x3_1).f3) ((rd_T96 l0 x3_1).f4) A153_5 c153_5 ((rd_T96 l0 x3_1).f5) true _ ?side3 ?side1 ?side2 A4.out).mono ?_) | ((try simp only [Go.IntWalk.i64_left]); (with_reducible refine (spec_l05One.calls k1 _ ((rd_T96 l0 x3_1).f0) ((rd_T96 l0 x3_1).f1) ((rd_T96 l0 x3_1).f2) ((rd_T96 l0 x3_1).f3) ((rd_T96 l0 x3_1).f4) A153_5 c153_5 ((rd_T96 l0 x3_1).f5) true _ ?side3 ?side1 ?side2 A4.out).mono ?_))); (case side1 => repeat (first | exact HR153_5.out | (with_reducible refine Kd.C_alloc ?_ _) | (with_reducible refine Kd.C_drewN ?_ _) | (with_reducible refine Kd.C_drew ?_))); (case side2 => exact HC153_5.out); (case side3 => exact ⟨hx153_0, hx153_1, hx153_2, hx153_3, hx153_4, hx153_5⟩); rintro e w' ⟨rfl, ⟨nd, rfl⟩⟩; (try first | exact ⟨rfl, _, World.drewN_drewN _ _ _⟩ | exact ⟨rfl, _, Eq.trans (World.drewN_drewN _ _ _) (congrArg (World.drewN _) (Nat.add_assoc _ _ _))⟩)))
                    repeat (go_quiet (first | (go_at_call 151; (first | (with_reducible refine (spec_l05One.calls k1 _ ((rd_T96 l0 x3_1).f0) ((rd_T96 l0 x3_1).f1) ((rd_T96 l0 x3_1).f2) ((rd_T96 l0 x3_1).f3) ((rd_T96 l0 x3_1).f4) A153_5 c153_5 ((rd_T96 l0 x3_1).f5) true _ ?side3 ?side1 ?side2 A4.out).mono ?_) | ((try simp only [Go.IntWalk.i64_left]); (with_reducible refine (spec_l05One.calls k1 _ ((rd_T96 l0 x3_1).f0) ((rd_T96 l0 x3_1).f1) ((rd_T96 l0 x3_1).f2) ((rd_T96 l0 x3_1).f3) ((rd_T96 l0 x3_1).f4) A153_5 c153_5 ((rd_T96 l0 x3_1).f5) true _ ?side3 ?side1 ?side2 A4.out).mono ?_))); (case side1 => repeat (first | exact HR153_5.out | (with_reducible refine Kd.C_alloc ?_ _) | (with_reducible refine Kd.C_drewN ?_ _) | (with_reducible refine Kd.C_drew ?_))); (case side2 => exact HC153_5.out); (case side3 => exact ⟨hx153_0, hx153_1, hx153_2, hx153_3, hx153_4, hx153_5⟩); rintro e w' ⟨rfl, ⟨nd, rfl⟩⟩; (try first | exact ⟨rfl, _, World.drewN_drewN _ _ _⟩ | exact ⟨rfl, _, Eq.trans (World.drewN_drewN _ _ _) (congrArg (World.drewN _) (Nat.add_assoc _ _ _))⟩))); try go_wp2_with (first | (go_at_call 151; (first | (with_reducible refine (spec_l05One.calls k1 _ ((rd_T96 l0 x3_1).f0) ((rd_T96 l0 x3_1).f1) ((rd_T96 l0 x3_1).f2) ((rd_T96 l0 x3_1).f3) ((rd_T96 l0 x3_1).f4) A153_5 c153_5 ((rd_T96 l0 x3_1).f5) true _ ?side3 ?side1 ?side2 A4.out).mono ?_) | ((try simp only [Go.IntWalk.i64_left]); (with_reducible refine (spec_l05One.calls k1 _ ((rd_T96 l0 x3_1).f0) ((rd_T96 l0 x3_1).f1) ((rd_T96 l0 x3_1).f2) ((rd_T96 l0 x3_1).f3) ((rd_T96 l0 x3_1).f4) A153_5 c153_5 ((rd_T96 l0 x3_1).f5) true _ ?side3 ?side1 ?side2 A4.out).mono ?_))); (case side1 => repeat (first | exact HR153_5.out | (with_reducible refine Kd.C_alloc ?_ _) | (with_reducible refine Kd.C_drewN ?_ _) | (with_reducible refine Kd.C_drew ?_))); (case side2 => exact HC153_5.out); (case side3 => exact ⟨hx153_0, hx153_1, hx153_2, hx153_3, hx153_4, hx153_5⟩); rintro e w' ⟨rfl, ⟨nd, rfl⟩⟩; (try first | exact ⟨rfl, _, World.drewN_drewN _ _ _⟩ | exact ⟨rfl, _, Eq.trans (World.drewN_drewN _ _ _) (congrArg (World.drewN _) (Nat.add_assoc _ _ _))⟩))))
                    go_roundg k1
                    case measure => have := HK1.out; omega
                    case rel => exact ⟨(wrap64 (x3_1 + 1)), (by first | rfl | (simp; done) | (simp [*]; done)), H', ⟨by have := HK1.out; omega⟩, by repeat (first | exact Drawn0.refl _ | apply Drawn0.step)⟩
                  · rw [if_neg c10] at H
                    have c10b0 : (Op.bytesLess (((rd_T96 l0 (ji7)).f0).toList) (((rd_T96 l0 x3_1).f0).toList)) = false := by simpa using c10
                    clear c10
                    obtain rfl := Option.some.inj H
                    have p153 : 0 ≤ (x3_1 : Int) := of_decide_eq_true (by first | (with_reducible assumption) | assumption)
                    have q153 : x3_1 < (l0.length : Int) := of_decide_eq_true (by first | (with_reducible assumption) | assumption)
                    obtain ⟨ad153, A153_5, c153_5, e153, hx153_0, hx153_1, hx153_2, hx153_3, hx153_4, hx153_5, hl153_5, hi153_5⟩ := at_T96 HR0.out x3_1 p153 q153
                    cases e153
                    have HR153_5 := Aside0.mk hi153_5
                    have HC153_5 := Aside0.mk hl153_5
                    clear hi153_5 hl153_5
                    replace p153 := eq_true p153
                    replace q153 := eq_true q153
                    have p155 : 0 ≤ ((ji7) : Int) := of_decide_eq_true (by first | (with_reducible assumption) | assumption)
                    have q155 : (ji7) < (l0.length : Int) := of_decide_eq_true (by first | (with_reducible assumption) | assumption)
                    obtain ⟨ad155, A155_5, c155_5, e155, hx155_0, hx155_1, hx155_2, hx155_3, hx155_4, hx155_5, hl155_5, hi155_5⟩ := at_T96 HR0.out (ji7) p155 q155
                    obtain rfl : ad153 = ad155 := (by injection e155)
                    have HR155_5 := Aside0.mk hi155_5
                    have HC155_5 := Aside0.mk hl155_5
                    clear hi155_5 hl155_5
                    replace p155 := eq_true p155
                    replace q155 := eq_true q155
                    have p156 : 0 ≤ (x3_1 : Int) := of_decide_eq_true (by first | (with_reducible assumption) | assumption)
                    have q156 : x3_1 < (l0.length : Int) := of_decide_eq_true (by first | (with_reducible assumption) | assumption)
                    obtain ⟨ad156, A156_5, c156_5, e156, hx156_0, hx156_1, hx156_2, hx156_3, hx156_4, hx156_5, hl156_5, hi156_5⟩ := at_T96 HR0.out x3_1 p156 q156
                    obtain rfl : ad153 = ad156 := (by injection e156)
                    have HR156_5 := Aside0.mk hi156_5
                    have HC156_5 := Aside0.mk hl156_5
                    clear hi156_5 hl156_5
                    replace p156 := eq_true p156
                    replace q156 := eq_true q156
                    have ea_ := Option.some.inj (hx153_5.symm.trans hx156_5)
                    injection ea_ with ea_ en_ ec_
                    subst ea_
                    subst ec_
                    clear en_
                    go_wp2_with (first | (go_at_call 151; (first | (with_reducible refine (spec_l05One.calls k1 _ ((rd_T96 l0 x3_1).f0) ((rd_T96 l0 x3_1).f1) ((rd_T96 l0 x3_1).f2) ((rd_T96 l0 x3_1).f3) ((rd_T96 l0 x3_1).f4) A153_5 c153_5 ((rd_T96 l0 x3_1).f5) true _ ?side3 ?side1 ?side2 A4.out).mono ?_) | ((try simp only [Go.IntWalk.i64_left]); (with_reducible refine (spec_l05One.calls k1 _ ((rd_T96 l0 x3_1).f0) ((rd_T96 l0 x3_1).f1) ((rd_T96 l0 x3_1).f2) ((rd_T96 l0 x3_1).f3) ((rd_T96 l0 x3_1).f4) A153_5 c153_5 ((rd_T96 l0 x3_1).f5) true _ ?side3 ?side1 ?side2 A4.out).mono ?_))); (case side1 => repeat (first | exact HR153_5.out | (with_reducible refine Kd.C_alloc ?_ _) | (with_reducible refine Kd.C_drewN ?_ _) | (with_reducible refine Kd.C_drew ?_))); (case side2 => exact HC153_5.out); (case side3 => exact ⟨hx153_0, hx153_1, hx153_2, hx153_3, hx153_4, hx153_5⟩); rintro e w' ⟨rfl, ⟨nd, rfl⟩⟩; (try first | exact ⟨rfl, _, World.drewN_drewN _ _ _⟩ | exact ⟨rfl, _, Eq.trans (World.drewN_drewN _ _ _) (congrArg (World.drewN _) (Nat.add_assoc _ _ _))⟩)))
                    repeat (go_quiet (first | (go_at_call 151; (first | (with_reducible refine (spec_l05One.calls k1 _ ((rd_T96 l0 x3_1).f0) ((rd_T96 l0 x3_1).f1) ((rd_T96 l0 x3_1).f2) ((rd_T96 l0 x3_1).f3) ((rd_T96 l0 x3_1).f4) A153_5 c153_5 ((rd_T96 l0 x3_1).f5) true _ ?side3 ?side1 ?side2 A4.out).mono ?_) | ((try simp only [Go.IntWalk.i64_left]); (with_reducible refine (spec_l05One.calls k1 _ ((rd_T96 l0 x3_1).f0) ((rd_T96 l0 x3_1).f1) ((rd_T96 l0 x3_1).f2) ((rd_T96 l0 x3_1).f3) ((rd_T96 l0 x3_1).f4) A153_5 c153_5 ((rd_T96 l0 x3_1).f5) true _ ?side3 ?side1 ?side2 A4.out).mono ?_))); (case side1 => repeat (first | exact HR153_5.out | (with_reducible refine Kd.C_alloc ?_ _) | (with_reducible refine Kd.C_drewN ?_ _) | (with_reducible refine Kd.C_drew ?_))); (case side2 => exact HC153_5.out); (case side3 => exact ⟨hx153_0, hx153_1, hx153_2, hx153_3, hx153_4, hx153_5⟩); rintro e w' ⟨rfl, ⟨nd, rfl⟩⟩; (try first | exact ⟨rfl, _, World.drewN_drewN _ _ _⟩ | exact ⟨rfl, _, Eq.trans (World.drewN_drewN _ _ _) (congrArg (World.drewN _) (Nat.add_assoc _ _ _))⟩))); try go_wp2_with (first | (go_at_call 151; (first | (with_reducible refine (spec_l05One.calls k1 _ ((rd_T96 l0 x3_1).f0) ((rd_T96 l0 x3_1).f1) ((rd_T96 l0 x3_1).f2) ((rd_T96 l0 x3_1).f3) ((rd_T96 l0 x3_1).f4) A153_5 c153_5 ((rd_T96 l0 x3_1).f5) true _ ?side3 ?side1 ?side2 A4.out).mono ?_) | ((try simp only [Go.IntWalk.i64_left]); (with_reducible refine (spec_l05One.calls k1 _ ((rd_T96 l0 x3_1).f0) ((rd_T96 l0 x3_1).f1) ((rd_T96 l0 x3_1).f2) ((rd_T96 l0 x3_1).f3) ((rd_T96 l0 x3_1).f4) A153_5 c153_5 ((rd_T96 l0 x3_1).f5) true _ ?side3 ?side1 ?side2 A4.out).mono ?_))); (case side1 => repeat (first | exact HR153_5.out | (with_reducible refine Kd.C_alloc ?_ _) | (with_reducible refine Kd.C_drewN ?_ _) | (with_reducible refine Kd.C_drew ?_))); (case side2 => exact HC153_5.out); (case side3 => exact ⟨hx153_0, hx153_1, hx153_2, hx153_3, hx153_4, hx153_5⟩); rintro e w' ⟨rfl, ⟨nd, rfl⟩⟩; (try first | exact ⟨rfl, _, World.drewN_drewN _ _ _⟩ | exact ⟨rfl, _, Eq.trans (World.drewN_drewN _ _ _) (congrArg (World.drewN _) (Nat.add_assoc _ _ _))⟩))))
                    go_ret
                    exact ⟨by first | rfl | (simp; done) | (simp only [← hji7] <;> (first | rfl | simp)) | (simp [*]; done), by repeat (first | exact Drawn0.refl _ | apply Drawn0.step)⟩
                · rw [if_neg c9] at H
                  exact absurd H (by simp)
              · rw [if_neg c8] at H
                exact absurd H (by simp)
            · rw [if_neg c6] at H
              have c6b0 : decide (0 < x3_1) = false := decide_eq_false c6
              clear c6
              have H' := Aside0.mk H
              clear H
              have p153 : 0 ≤ (x3_1 : Int) := of_decide_eq_true (by first | (with_reducible assumption) | assumption)
              have q153 : x3_1 < (l0.length : Int) := of_decide_eq_true (by first | (with_reducible assumption) | assumption)
              obtain ⟨ad153, A153_5, c153_5, e153, hx153_0, hx153_1, hx153_2, hx153_3, hx153_4, hx153_5, hl153_5, hi153_5⟩ := at_T96 HR0.out x3_1 p153 q153
              cases e153
              have HR153_5 := Aside0.mk hi153_5
              have HC153_5 := Aside0.mk hl153_5
              clear hi153_5 hl153_5
              replace p153 := eq_true p153
              replace q153 := eq_true q153
              go_wp2_with (first | (go_at_call 151; (first | (with_reducible refine (spec_l05One.calls k1 _ ((rd_T96 l0 x3_1).f0) ((rd_T96 l0 x3_1).f1) ((rd_T96 l0 x3_1).f2) ((rd_T96 l0 x3_1).f3) ((rd_T96 l0 x3_1).f4) A153_5 c153_5 ((rd_T96 l0 x3_1).f5) true _ ?side3 ?side1 ?side2 A4.out).mono ?_) | ((try simp only [Go.IntWalk.i64_left]); (with_reducible refine (spec_l05One.calls k1 _ ((rd_T96 l0 x3_1).f0) ((rd_T96 l0 x3_1).f1) ((rd_T96 l0 x3_1).f2) ((rd_T96 l0 x3_1).f3) ((rd_T96 l0 x3_1).f4) A153_5 c153_5 ((rd_T96 l0 x3_1).f5) true _ ?side3 ?side1 ?side2 A4.out).mono ?_))); (case side1 => repeat (first | exact HR153_5.out | (with_reducible refine Kd.C_alloc ?_ _) | (with_reducible refine Kd.C_drewN ?_ _) | (with_reducible refine Kd.C_drew ?_))); (case side2 => exact HC153_5.out); (case side3 => exact ⟨hx153_0, hx153_1, hx153_2, hx153_3, hx153_4, hx153_5⟩); rintro e w' ⟨rfl, ⟨nd, rfl⟩⟩; (try first | exact ⟨rfl, _, World.drewN_drewN _ _ _⟩ | exact ⟨rfl, _, Eq.trans (World.drewN_drewN _ _ _) (congrArg (World.drewN _) (Nat.add_assoc _ _ _))⟩)))
              repeat (go_quiet (first | (go_at_call 151; (first | (with_reducible refine (spec_l05One.calls k1 _ ((rd_T96 l0 x3_1).f0) ((rd_T96 l0 x3_1).f1) ((rd_T96 l0 x3_1).f2) ((rd_T96 l0 x3_1).f3) ((rd_T96 l0 x3_1).f4) A153_5 c153_5 ((rd_T96 l0 x3_1).f5) true _ ?side3 ?side1 ?side2 A4.out).mono ?_) | ((try simp only [Go.IntWalk.i64_left]); (with_reducible refine (spec_l05One.calls k1 _ ((rd_T96 l0 x3_1).f0) ((rd_T96 l0 x3_1).f1) ((rd_T96 l0 x3_1).f2) ((rd_T96 l0 x3_1).f3) ((rd_T96 l0 x3_1).f4) A153_5 c153_5 ((rd_T96 l0 x3_1).f5) true _ ?side3 ?side1 ?side2 A4.out).mono ?_))); (case side1 => repeat (first | exact HR153_5.out | (with_reducible refine Kd.C_alloc ?_ _) | (with_reducible refine Kd.C_drewN ?_ _) | (with_reducible refine Kd.C_drew ?_))); (case side2 => exact HC153_5.out); (case side3 => exact ⟨hx153_0, hx153_1, hx153_2, hx153_3, hx153_4, hx153_5⟩); rintro e w' ⟨rfl, ⟨nd, rfl⟩⟩; (try first | exact ⟨rfl, _, World.drewN_drewN _ _ _⟩ | exact ⟨rfl, _, Eq.trans (World.drewN_drewN _ _ _) (congrArg (World.drewN _) (Nat.add_assoc _ _ _))⟩))); try go_wp2_with (first | (go_at_call 151; (first | (with_reducible refine (spec_l05One.calls k1 _ ((rd_T96 l0 x3_1).f0) ((rd_T96 l0 x3_1).f1) ((rd_T96 l0 x3_1).f2) ((rd_T96 l0 x3_1).f3) ((rd_T96 l0 x3_1).f4) A153_5 c153_5 ((rd_T96 l0 x3_1).f5) true _ ?side3 ?side1 ?side2 A4.out).mono ?_) | ((try simp only [Go.IntWalk.i64_left]); (with_reducible refine (spec_l05One.calls k1 _ ((rd_T96 l0 x3_1).f0) ((rd_T96 l0 x3_1).f1) ((rd_T96 l0 x3_1).f2) ((rd_T96 l0 x3_1).f3) ((rd_T96 l0 x3_1).f4) A153_5 c153_5 ((rd_T96 l0 x3_1).f5) true _ ?side3 ?side1 ?side2 A4.out).mono ?_))); (case side1 => repeat (first | exact HR153_5.out | (with_reducible refine Kd.C_alloc ?_ _) | (with_reducible refine Kd.C_drewN ?_ _) | (with_reducible refine Kd.C_drew ?_))); (case side2 => exact HC153_5.out); (case side3 => exact ⟨hx153_0, hx153_1, hx153_2, hx153_3, hx153_4, hx153_5⟩); rintro e w' ⟨rfl, ⟨nd, rfl⟩⟩; (try first | exact ⟨rfl, _, World.drewN_drewN _ _ _⟩ | exact ⟨rfl, _, Eq.trans (World.drewN_drewN _ _ _) (congrArg (World.drewN _) (Nat.add_assoc _ _ _))⟩))))
              go_roundg k1
              case measure => have := HK1.out; omega
              case rel => exact ⟨(wrap64 (x3_1 + 1)), (by first | rfl | (simp; done) | (simp [*]; done)), H', ⟨by have := HK1.out; omega⟩, by repeat (first | exact Drawn0.refl _ | apply Drawn0.step)⟩
          · replace c5 := Bool.eq_false_iff.mpr c5
            subst c5
            have H1 : (some false) = some r := by rw [if_neg (show ¬ (false = true) by decide)] at H; exact H
            clear H
            have H := H1
            clear H1
            obtain rfl := Option.some.inj H
            have p153 : 0 ≤ (x3_1 : Int) := of_decide_eq_true (by first | (with_reducible assumption) | assumption)
            have q153 : x3_1 < (l0.length : Int) := of_decide_eq_true (by first | (with_reducible assumption) | assumption)
            obtain ⟨ad153, A153_5, c153_5, e153, hx153_0, hx153_1, hx153_2, hx153_3, hx153_4, hx153_5, hl153_5, hi153_5⟩ := at_T96 HR0.out x3_1 p153 q153
            cases e153
            have HR153_5 := Aside0.mk hi153_5
            have HC153_5 := Aside0.mk hl153_5
            clear hi153_5 hl153_5
            replace p153 := eq_true p153
            replace q153 := eq_true q153
            go_wp2_with (first | (go_at_call 151; (first | (with_reducible refine (spec_l05One.calls k1 _ ((rd_T96 l0 x3_1).f0) ((rd_T96 l0 x3_1).f1) ((rd_T96 l0 x3_1).f2) ((rd_T96 l0 x3_1).f3) ((rd_T96 l0 x3_1).f4) A153_5 c153_5 ((rd_T96 l0 x3_1).f5) false _ ?side3 ?side1 ?side2 A4.out).mono ?_) | ((try simp only [Go.IntWalk.i64_left]); (with_reducible refine (spec_l05One.calls k1 _ ((rd_T96 l0 x3_1).f0) ((rd_T96 l0 x3_1).f1) ((rd_T96 l0 x3_1).f2) ((rd_T96 l0 x3_1).f3) ((rd_T96 l0 x3_1).f4) A153_5 c153_5 ((rd_T96 l0 x3_1).f5) false _ ?side3 ?side1 ?side2 A4.out).mono ?_))); (case side1 => repeat (first | exact HR153_5.out | (with_reducible refine Kd.C_alloc ?_ _) | (with_reducible refine Kd.C_drewN ?_ _) | (with_reducible refine Kd.C_drew ?_))); (case side2 => exact HC153_5.out); (case side3 => exact ⟨hx153_0, hx153_1, hx153_2, hx153_3, hx153_4, hx153_5⟩); rintro e w' ⟨rfl, ⟨nd, rfl⟩⟩; (try first | exact ⟨rfl, _, World.drewN_drewN _ _ _⟩ | exact ⟨rfl, _, Eq.trans (World.drewN_drewN _ _ _) (congrArg (World.drewN _) (Nat.add_assoc _ _ _))⟩)))
            repeat (go_quiet (first | (go_at_call 151; (first | (with_reducible refine (spec_l05One.calls k1 _ ((rd_T96 l0 x3_1).f0) ((rd_T96 l0 x3_1).f1) ((rd_T96 l0 x3_1).f2) ((rd_T96 l0 x3_1).f3) ((rd_T96 l0 x3_1).f4) A153_5 c153_5 ((rd_T96 l0 x3_1).f5) false _ ?side3 ?side1 ?side2 A4.out).mono ?_) | ((try simp only [Go.IntWalk.i64_left]); (with_reducible refine (spec_l05One.calls k1 _ ((rd_T96 l0 x3_1).f0) ((rd_T96 l0 x3_1).f1) ((rd_T96 l0 x3_1).f2) ((rd_T96 l0 x3_1).f3) ((rd_T96 l0 x3_1).f4) A153_5 c153_5 ((rd_T96 l0 x3_1).f5) false _ ?side3 ?side1 ?side2 A4.out).mono ?_))); (case side1 => repeat (first | exact HR153_5.out | (with_reducible refine Kd.C_alloc ?_ _) | (with_reducible refine Kd.C_drewN ?_ _) | (with_reducible refine Kd.C_drew ?_))); (case side2 => exact HC153_5.out); (case side3 => exact ⟨hx153_0, hx153_1, hx153_2, hx153_3, hx153_4, hx153_5⟩); rintro e w' ⟨rfl, ⟨nd, rfl⟩⟩; (try first | exact ⟨rfl, _, World.drewN_drewN _ _ _⟩ | exact ⟨rfl, _, Eq.trans (World.drewN_drewN _ _ _) (congrArg (World.drewN _) (Nat.add_assoc _ _ _))⟩))); try go_wp2_with (first | (go_at_call 151; (first | (with_reducible refine (spec_l05One.calls k1 _ ((rd_T96 l0 x3_1).f0) ((rd_T96 l0 x3_1).f1) ((rd_T96 l0 x3_1).f2) ((rd_T96 l0 x3_1).f3) ((rd_T96 l0 x3_1).f4) A153_5 c153_5 ((rd_T96 l0 x3_1).f5) false _ ?side3 ?side1 ?side2 A4.out).mono ?_) | ((try simp only [Go.IntWalk.i64_left]); (with_reducible refine (spec_l05One.calls k1 _ ((rd_T96 l0 x3_1).f0) ((rd_T96 l0 x3_1).f1) ((rd_T96 l0 x3_1).f2) ((rd_T96 l0 x3_1).f3) ((rd_T96 l0 x3_1).f4) A153_5 c153_5 ((rd_T96 l0 x3_1).f5) false _ ?side3 ?side1 ?side2 A4.out).mono ?_))); (case side1 => repeat (first | exact HR153_5.out | (with_reducible refine Kd.C_alloc ?_ _) | (with_reducible refine Kd.C_drewN ?_ _) | (with_reducible refine Kd.C_drew ?_))); (case side2 => exact HC153_5.out); (case side3 => exact ⟨hx153_0, hx153_1, hx153_2, hx153_3, hx153_4, hx153_5⟩); rintro e w' ⟨rfl, ⟨nd, rfl⟩⟩; (try first | exact ⟨rfl, _, World.drewN_drewN _ _ _⟩ | exact ⟨rfl, _, Eq.trans (World.drewN_drewN _ _ _) (congrArg (World.drewN _) (Nat.add_assoc _ _ _))⟩))))
            go_ret
            exact ⟨by first | rfl | (simp; done) | (simp [*]; done), by repeat (first | exact Drawn0.refl _ | apply Drawn0.step)⟩
        · rw [if_neg c3] at H
          exact absurd H (by simp)
      · rw [if_neg c2] at H
        have c2b0 : decide (x3_1 < (l0.length : Int)) = false := decide_eq_false c2
        clear c2
        obtain rfl := Option.some.inj H
        go_wp2
        repeat (go_quiet (fail); try go_wp2)
        go_ret
        exact ⟨by first | rfl | (simp; done) | (simp [*]; done), by repeat (first | exact Drawn0.refl _ | apply Drawn0.step)⟩

/-! ### spec_l05Day: function 181 -/
def spec_l05Day.l0 : Nat → List Int → Int → Option (Bool)
  | 0, _, _ => none
  | k + 1, x0, x3 => if x3 < (x0.length : Int) then (if 0 ≤ x3 then ((spec_l05Outdoor.f (rd x0 x3)).bind fun t158 => (if t158 = true then (spec_l05Day.l0 k x0 (wrap64 (x3 + 1))) else (some false))) else (none)) else (some ((x0.length : Int) == 24))
def spec_l05Day.f (k : Nat) (l0 : List Int) : Option (Bool) := spec_l05Day.l0 k l0 0
theorem spec_l05Day.mono_l : ∀ k, (∀ y0 y1, LeO (spec_l05Day.l0 k y0 y1) (spec_l05Day.l0 (k + 1) y0 y1))
  | 0 => fun _ _ r h => by simp [spec_l05Day.l0] at h
  | k + 1 => by
    have ih0 := spec_l05Day.mono_l k
    · intro y0 y1
      unfold spec_l05Day.l0
      repeat' first
      | (with_reducible exact ih0 _ _)
      | (with_reducible exact LeO.refl _)
      | (with_reducible exact LeO.none _)
      | (with_reducible refine LeO.ite ?_ ?_)
      | (with_reducible refine LeO.bind ?_ (fun _ => ?_))
      | exact ih0 _ _
      | exact LeO.none _
      | refine LeO.ite ?_ ?_
      | refine LeO.bind ?_ (fun _ => ?_)
theorem spec_l05Day.mono : ∀ a0 k, LeO (spec_l05Day.f k a0) (spec_l05Day.f (k + 1) a0) := by
  intro a0 k
  have ih0 := spec_l05Day.mono_l k
  unfold spec_l05Day.f
  repeat' first
      | (with_reducible exact ih0 _ _)
      | (with_reducible exact LeO.refl _)
      | (with_reducible exact LeO.none _)
      | (with_reducible refine LeO.ite ?_ ?_)
      | (with_reducible refine LeO.bind ?_ (fun _ => ?_))
      | exact ih0 _ _
      | exact LeO.none _
      | refine LeO.ite ?_ ?_
      | refine LeO.bind ?_ (fun _ => ?_)
set_option maxHeartbeats 8000000 in
set_option maxRecDepth 100000 in
theorem spec_l05Day.calls (k : Nat) (A0 : Option Addr) (c0 : Nat) (l0 : List Int) (r : Bool) (w : World) (hr0 : Kd.C (Kd.int .i64) w A0 l0.length l0) (hc0 : l0.length ≤ c0) (h : spec_l05Day.f k l0 = some r) :
    Calls Try.prog 181 #[.slice A0 l0.length c0] w fun e w' => e = .returned (.bool r) ∧ Drawn0 w w' := by
  have HR0 := Aside0.mk hr0
  have HC0 := Aside0.mk hc0
  clear hr0 hc0
  have H : (spec_l05Day.l0 k l0 0) = some r := h
  clear h
  have H' := Aside0.mk H
  clear H
  go_enter Try.func181, Try.ntmps181
  go_wp2
  go_loopg [3] k (fun kq v3 w' => ∃ (x3_1 : Int), v3 = .int .i64 x3_1 ∧ Aside0 (spec_l05Day.l0 kq l0 x3_1 = some r) ∧ Aside0 (kq ≤ k) ∧ Drawn0 w w')
  case atStart => exact ⟨(0), (by first | rfl | (simp; done) | (simp [*]; done)), H', ⟨Nat.le_refl _⟩, by repeat (first | exact Drawn0.refl _ | apply Drawn0.step)⟩
  case round =>
    clear H'
    try clear c1
    obtain ⟨x3_1, rfl, HA, HK1, ⟨m1, rfl⟩⟩ := hrel
    cases gk with
    | zero => exact absurd HA.out (by simp [spec_l05Day.l0])
    | succ k1 =>
      have H := HA.out
      clear HA
      simp only [spec_l05Day.l0] at H
      by_cases c2 : x3_1 < (l0.length : Int)
      · rw [if_pos c2] at H
        have c2b0 : decide (x3_1 < (l0.length : Int)) = true := decide_eq_true c2
        clear c2
        by_cases c3 : 0 ≤ x3_1
        · rw [if_pos c3] at H
          have c3b0 : decide (0 ≤ x3_1) = true := decide_eq_true c3
          clear c3
          replace H := Option.bind_eq_some_iff.mp H
          obtain ⟨t158, A40, H⟩ := H
          replace H : (if t158 = true then (spec_l05Day.l0 k1 l0 (wrap64 (x3_1 + 1))) else (some false)) = some r := H
          have A4 := Aside0.mk A40
          clear A40
          by_cases c5 : t158 = true
          · subst c5
            have H1 : (spec_l05Day.l0 k1 l0 (wrap64 (x3_1 + 1))) = some r := by rw [if_pos rfl] at H; exact H
            clear H
            have H := H1
            clear H1
            have H' := Aside0.mk H
            clear H
            have p157 : 0 ≤ (x3_1 : Int) := of_decide_eq_true (by first | (with_reducible assumption) | assumption)
            have q157 : x3_1 < (l0.length : Int) := of_decide_eq_true (by first | (with_reducible assumption) | assumption)
            obtain ⟨ad157, e157, hx157_0⟩ := Kd.at_int HR0.out x3_1 p157 q157
            cases e157
            replace p157 := eq_true p157
            replace q157 := eq_true q157
            go_wp2_with (first | ((with_reducible refine gate_callee (f := 137) rfl ?_); refine goesL_ (some 14) rfl rfl Try.func137 (by kernel_rfl) rfl #[.int .i64 (rd l0 x3_1)] rfl (by (try simp only [List.map_toArray, List.map_cons, List.map_nil]); first | done | rfl | (simp only [List.length_drop, List.length_take]; rfl)) ?_; (with_reducible refine (spec_l05Outdoor.calls (rd l0 x3_1) true _ A4.out).mono ?_); rintro e w' ⟨rfl, ⟨nd, rfl⟩⟩; refine ⟨_, rfl, ?_⟩))
            go_roundg k1
            case measure => have := HK1.out; omega
            case rel => exact ⟨(wrap64 (x3_1 + 1)), (by first | rfl | (simp; done) | (simp [*]; done)), H', ⟨by have := HK1.out; omega⟩, by repeat (first | exact Drawn0.refl _ | apply Drawn0.step)⟩
          · replace c5 := Bool.eq_false_iff.mpr c5
            subst c5
            have H1 : (some false) = some r := by rw [if_neg (show ¬ (false = true) by decide)] at H; exact H
            clear H
            have H := H1
            clear H1
            obtain rfl := Option.some.inj H
            have p157 : 0 ≤ (x3_1 : Int) := of_decide_eq_true (by first | (with_reducible assumption) | assumption)
            have q157 : x3_1 < (l0.length : Int) := of_decide_eq_true (by first | (with_reducible assumption) | assumption)
            obtain ⟨ad157, e157, hx157_0⟩ := Kd.at_int HR0.out x3_1 p157 q157
            cases e157
            replace p157 := eq_true p157
            replace q157 := eq_true q157
            go_wp2_with (first | ((with_reducible refine gate_callee (f := 137) rfl ?_); refine goesL_ (some 14) rfl rfl Try.func137 (by kernel_rfl) rfl #[.int .i64 (rd l0 x3_1)] rfl (by (try simp only [List.map_toArray, List.map_cons, List.map_nil]); first | done | rfl | (simp only [List.length_drop, List.length_take]; rfl)) ?_; (with_reducible refine (spec_l05Outdoor.calls (rd l0 x3_1) false _ A4.out).mono ?_); rintro e w' ⟨rfl, ⟨nd, rfl⟩⟩; refine ⟨_, rfl, ?_⟩))
            go_ret
            exact ⟨by first | rfl | (simp; done) | (simp [*]; done), by repeat (first | exact Drawn0.refl _ | apply Drawn0.step)⟩
        · rw [if_neg c3] at H
          exact absurd H (by simp)
      · rw [if_neg c2] at H
        have c2b0 : decide (x3_1 < (l0.length : Int)) = false := decide_eq_false c2
        clear c2
        obtain rfl := Option.some.inj H
        go_wp2
        go_ret
        exact ⟨by first | rfl | (simp; done) | (simp [*]; done), by repeat (first | exact Drawn0.refl _ | apply Drawn0.step)⟩

/-! ### spec_l05Ask: function 135 -/
def spec_l05Ask.f (k : Nat) (l0 : List (S96)) (l1 : List Int) : Option (Int) := (spec_l05Ok.f k l0).bind fun t159 => (if t159 = true then ((spec_l05Day.f k l1).bind fun t160 => (if t160 = true then (some 0) else (some 7))) else (some 1))
theorem spec_l05Ask.mono : ∀ a0 a1 k, LeO (spec_l05Ask.f k a0 a1) (spec_l05Ask.f (k + 1) a0 a1) := by
  intro a0 a1 k
  unfold spec_l05Ask.f
  repeat' first
      | (with_reducible exact spec_l05Day.mono _ _)
      | (with_reducible exact spec_l05Ok.mono _ _)
      | (with_reducible exact LeO.refl _)
      | (with_reducible exact LeO.none _)
      | (with_reducible refine LeO.ite ?_ ?_)
      | (with_reducible refine LeO.bind ?_ (fun _ => ?_))
      | exact spec_l05Day.mono _ _
      | exact spec_l05Ok.mono _ _
      | exact LeO.none _
      | refine LeO.ite ?_ ?_
      | refine LeO.bind ?_ (fun _ => ?_)
set_option maxHeartbeats 8000000 in
set_option maxRecDepth 100000 in
theorem spec_l05Ask.calls (k : Nat) (A0 : Option Addr) (c0 : Nat) (l0 : List (S96)) (A1 : Option Addr) (c1 : Nat) (l1 : List Int) (r : Int) (w : World) (hr0 : Kd.C k96 w A0 l0.length l0) (hc0 : l0.length ≤ c0) (hr1 : Kd.C (Kd.int .i64) w A1 l1.length l1) (hc1 : l1.length ≤ c1) (h : spec_l05Ask.f k l0 l1 = some r) :
    Calls Try.prog 135 #[.slice A0 l0.length c0, .slice A1 l1.length c1] w fun e w' => e = .returned (.int .i64 r) ∧ Drawn0 w w' := by
  have HR0 := Aside0.mk hr0
  have HC0 := Aside0.mk hc0
  clear hr0 hc0
  have HR1 := Aside0.mk hr1
  have HC1 := Aside0.mk hc1
  clear hr1 hc1
  have H : ((spec_l05Ok.f k l0).bind fun t159 => (if t159 = true then ((spec_l05Day.f k l1).bind fun t160 => (if t160 = true then (some 0) else (some 7))) else (some 1))) = some r := h
  clear h
  replace H := Option.bind_eq_some_iff.mp H
  obtain ⟨t159, A30, H⟩ := H
  replace H : (if t159 = true then ((spec_l05Day.f k l1).bind fun t160 => (if t160 = true then (some 0) else (some 7))) else (some 1)) = some r := H
  have A3 := Aside0.mk A30
  clear A30
  by_cases c4 : t159 = true
  · subst c4
    have H1 : ((spec_l05Day.f k l1).bind fun t160 => (if t160 = true then (some 0) else (some 7))) = some r := by rw [if_pos rfl] at H; exact H
    clear H
    have H := H1
    clear H1
    replace H := Option.bind_eq_some_iff.mp H
    obtain ⟨t160, A50, H⟩ := H
    replace H : (if t160 = true then (some 0) else (some 7)) = some r := H
    have A5 := Aside0.mk A50
    clear A50
    by_cases c6 : t160 = true
    · subst c6
      have H1 : (some 0) = some r := by rw [if_pos rfl] at H; exact H
      clear H
      have H := H1
      clear H1
      obtain rfl := Option.some.inj H
      go_enter Try.func135, Try.ntmps135
      go_wp2_with (first | ((with_reducible refine gate_callee (f := 124) rfl ?_); refine goesL_ (some 6) rfl rfl Try.func124 (by kernel_rfl) rfl #[.slice A0 l0.length c0] rfl (by (try simp only [List.map_toArray, List.map_cons, List.map_nil]); first | done | rfl | (simp only [List.length_drop, List.length_take]; rfl)) ?_; (with_reducible refine (spec_l05Ok.calls k _ _ l0 true _ ?side1 ?side2 A3.out).mono ?_); (case side1 => repeat (first | exact HR0.out | (with_reducible refine Kd.C_alloc ?_ _) | (with_reducible refine Kd.C_drewN ?_ _) | (with_reducible refine Kd.C_drew ?_))); (case side2 => exact HC0.out); rintro e w' ⟨rfl, ⟨nd, rfl⟩⟩; refine ⟨_, rfl, ?_⟩) | ((with_reducible refine gate_callee (f := 181) rfl ?_); refine goesL_ (some 9) rfl rfl Try.func181 (by kernel_rfl) rfl #[.slice A1 l1.length c1] rfl (by (try simp only [List.map_toArray, List.map_cons, List.map_nil]); first | done | rfl | (simp only [List.length_drop, List.length_take]; rfl)) ?_; (with_reducible refine (spec_l05Day.calls k _ _ l1 true _ ?side1 ?side2 A5.out).mono ?_); (case side1 => repeat (first | exact HR1.out | (with_reducible refine Kd.C_alloc ?_ _) | (with_reducible refine Kd.C_drewN ?_ _) | (with_reducible refine Kd.C_drew ?_))); (case side2 => exact HC1.out); rintro e w' ⟨rfl, ⟨nd, rfl⟩⟩; refine ⟨_, rfl, ?_⟩))
      go_ret
      exact ⟨by first | rfl | (simp; done) | (simp [*]; done), by repeat (first | exact Drawn0.refl _ | apply Drawn0.step)⟩
    · replace c6 := Bool.eq_false_iff.mpr c6
      subst c6
      have H1 : (some 7) = some r := by rw [if_neg (show ¬ (false = true) by decide)] at H; exact H
      clear H
      have H := H1
      clear H1
      obtain rfl := Option.some.inj H
      go_enter Try.func135, Try.ntmps135
      go_wp2_with (first | ((with_reducible refine gate_callee (f := 124) rfl ?_); refine goesL_ (some 6) rfl rfl Try.func124 (by kernel_rfl) rfl #[.slice A0 l0.length c0] rfl (by (try simp only [List.map_toArray, List.map_cons, List.map_nil]); first | done | rfl | (simp only [List.length_drop, List.length_take]; rfl)) ?_; (with_reducible refine (spec_l05Ok.calls k _ _ l0 true _ ?side1 ?side2 A3.out).mono ?_); (case side1 => repeat (first | exact HR0.out | (with_reducible refine Kd.C_alloc ?_ _) | (with_reducible refine Kd.C_drewN ?_ _) | (with_reducible refine Kd.C_drew ?_))); (case side2 => exact HC0.out); rintro e w' ⟨rfl, ⟨nd, rfl⟩⟩; refine ⟨_, rfl, ?_⟩) | ((with_reducible refine gate_callee (f := 181) rfl ?_); refine goesL_ (some 9) rfl rfl Try.func181 (by kernel_rfl) rfl #[.slice A1 l1.length c1] rfl (by (try simp only [List.map_toArray, List.map_cons, List.map_nil]); first | done | rfl | (simp only [List.length_drop, List.length_take]; rfl)) ?_; (with_reducible refine (spec_l05Day.calls k _ _ l1 false _ ?side1 ?side2 A5.out).mono ?_); (case side1 => repeat (first | exact HR1.out | (with_reducible refine Kd.C_alloc ?_ _) | (with_reducible refine Kd.C_drewN ?_ _) | (with_reducible refine Kd.C_drew ?_))); (case side2 => exact HC1.out); rintro e w' ⟨rfl, ⟨nd, rfl⟩⟩; refine ⟨_, rfl, ?_⟩))
      go_ret
      exact ⟨by first | rfl | (simp; done) | (simp [*]; done), by repeat (first | exact Drawn0.refl _ | apply Drawn0.step)⟩
  · replace c4 := Bool.eq_false_iff.mpr c4
    subst c4
    have H1 : (some 1) = some r := by rw [if_neg (show ¬ (false = true) by decide)] at H; exact H
    clear H
    have H := H1
    clear H1
    obtain rfl := Option.some.inj H
    go_enter Try.func135, Try.ntmps135
    go_wp2_with (first | ((with_reducible refine gate_callee (f := 124) rfl ?_); refine goesL_ (some 6) rfl rfl Try.func124 (by kernel_rfl) rfl #[.slice A0 l0.length c0] rfl (by (try simp only [List.map_toArray, List.map_cons, List.map_nil]); first | done | rfl | (simp only [List.length_drop, List.length_take]; rfl)) ?_; (with_reducible refine (spec_l05Ok.calls k _ _ l0 false _ ?side1 ?side2 A3.out).mono ?_); (case side1 => repeat (first | exact HR0.out | (with_reducible refine Kd.C_alloc ?_ _) | (with_reducible refine Kd.C_drewN ?_ _) | (with_reducible refine Kd.C_drew ?_))); (case side2 => exact HC0.out); rintro e w' ⟨rfl, ⟨nd, rfl⟩⟩; refine ⟨_, rfl, ?_⟩))
    go_ret
    exact ⟨by first | rfl | (simp; done) | (simp [*]; done), by repeat (first | exact Drawn0.refl _ | apply Drawn0.step)⟩

end Go.Proofs.Ytamiipnoeffjkaa.QForecastOf
