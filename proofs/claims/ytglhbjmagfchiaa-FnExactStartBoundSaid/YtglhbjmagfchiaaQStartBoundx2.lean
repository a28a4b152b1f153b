-- Written by press.py, a program of this session, round the kit's print.py (functions and contracts; Lean checks them).
import Derived.Test.YtglhbjmagfchiaaQStartBoundx0
import Derived.Test.YtglhbjmagfchiaaQStartBoundx1
namespace Go.Proofs.Ytglhbjmagfchiaa.QStartBound
open Go.Proofs.Ytglhbjmagfchiaa.QWords
attribute [local go_sem high] binOp_string_geq_q binOp_string_leq_q binOp_string_gtr_q
open Go.RowKit Go.Proofs.YtglhbjmagfchiaaW.PrintWords Go.Proofs.YtglhbjmagfchiaaW.PrintLast Go.Proofs.YtglhbjmagfchiaaW.PrintMore
attribute [local go_sem] max2_int min2_int max_two min_two max_three min_three max_four min_four   -- for this text's walks alone
set_option linter.unusedVariables false
set_option linter.unusedSimpArgs false

/-! ### spec_l13One: function 222 -/
def spec_l13One.f (k : Nat) (a0_0 : ByteArray) (a0_1 : Int) (a0_2 : Int) (a0_3 : Int) (a0_4 : Int) (a0_5 : Int) (a0_6 : Int) : Option (Bool) := (spec_l01Name.f k a0_0).bind fun t114 => (if t114 = true then ((spec_l00In.f a0_1 0 100000).bind fun t115 => (if t115 = true then ((spec_l00Max.f 1 a0_1).bind fun t116 => ((spec_l00In.f a0_2 t116 100000).bind fun t117 => (if t117 = true then ((spec_l00In.f a0_3 0 100000).bind fun t118 => (if t118 = true then ((spec_l00In.f a0_4 0 100000000).bind fun t119 => (if t119 = true then ((spec_l00In.f a0_5 1 3).bind fun t120 => (if t120 = true then ((spec_l00In.f a0_6 1 3).bind fun t121 => (some t121)) else (some false))) else (some false))) else (some false))) else (some false)))) else (some false))) else (some false))
theorem spec_l13One.mono : ∀ a0 a1 a2 a3 a4 a5 a6 k, LeO (spec_l13One.f k a0 a1 a2 a3 a4 a5 a6) (spec_l13One.f (k + 1) a0 a1 a2 a3 a4 a5 a6) := by
  intro a0 a1 a2 a3 a4 a5 a6 k
  unfold spec_l13One.f
  repeat' first
      | (with_reducible exact spec_l01Name.mono _ _)
      | (with_reducible exact LeO.refl _)
      | (with_reducible exact LeO.none _)
      | (with_reducible refine LeO.ite ?_ ?_)
      | (with_reducible refine LeO.bind ?_ (fun _ => ?_))
      | exact spec_l01Name.mono _ _
      | exact LeO.none _
      | refine LeO.ite ?_ ?_
      | refine LeO.bind ?_ (fun _ => ?_)
set_option maxHeartbeats 8000000 in
set_option maxRecDepth 100000 in
theorem spec_l13One.calls (k : Nat) (ad0 : Addr) (a0_0 : ByteArray) (a0_1 : Int) (a0_2 : Int) (a0_3 : Int) (a0_4 : Int) (a0_5 : Int) (a0_6 : Int) (r : Bool) (w : World) (hx0 : w.cell? ad0 = some (.string a0_0) ∧ w.cell? ⟨ad0.block, ad0.off + 1, none⟩ = some (.int .i64 a0_1) ∧ w.cell? ⟨ad0.block, ad0.off + 2, none⟩ = some (.int .i64 a0_2) ∧ w.cell? ⟨ad0.block, ad0.off + 3, none⟩ = some (.int .i64 a0_3) ∧ w.cell? ⟨ad0.block, ad0.off + 4, none⟩ = some (.int .i64 a0_4) ∧ w.cell? ⟨ad0.block, ad0.off + 5, none⟩ = some (.int .i64 a0_5) ∧ w.cell? ⟨ad0.block, ad0.off + 6, none⟩ = some (.int .i64 a0_6)) (h : spec_l13One.f k a0_0 a0_1 a0_2 a0_3 a0_4 a0_5 a0_6 = some r) :
    Calls Try.prog 222 #[.pointer (some ad0)] w fun e w' => e = .returned (.bool r) ∧ Drawn0 w w' := by
  obtain ⟨hx0_0, hx0_1, hx0_2, hx0_3, hx0_4, hx0_5, hx0_6⟩ := hx0
  have HX0_0 := Aside0.mk hx0_0
  have HX0_1 := Aside0.mk hx0_1
  have HX0_2 := Aside0.mk hx0_2
  have HX0_3 := Aside0.mk hx0_3
  have HX0_4 := Aside0.mk hx0_4
  have HX0_5 := Aside0.mk hx0_5
  have HX0_6 := Aside0.mk hx0_6
  clear hx0_0 hx0_1 hx0_2 hx0_3 hx0_4 hx0_5 hx0_6
  have H : ((spec_l01Name.f k a0_0).bind fun t114 => (if t114 = true then ((spec_l00In.f a0_1 0 100000).bind fun t115 => (if t115 = true then ((spec_l00Max.f 1 a0_1).bind fun t116 => ((spec_l00In.f a0_2 t116 100000).bind fun t117 => (if t117 = true then ((spec_l00In.f a0_3 0 100000).bind fun t118 => (if t118 = true then ((spec_l00In.f a0_4 0 100000000).bind fun t119 => (if t119 = true then ((spec_l00In.f a0_5 1 3).bind fun t120 => (if t120 = true then ((spec_l00In.f a0_6 1 3).bind fun t121 => (some t121)) else (some false))) else (some false))) else (some false))) else (some false)))) else (some false))) else (some false))) = some r := h
  clear h
  replace H := Option.bind_eq_some_iff.mp H
  obtain ⟨t114, A20, H⟩ := H
  replace H : (if t114 = true then ((spec_l00In.f a0_1 0 100000).bind fun t115 => (if t115 = true then ((spec_l00Max.f 1 a0_1).bind fun t116 => ((spec_l00In.f a0_2 t116 100000).bind fun t117 => (if t117 = true then ((spec_l00In.f a0_3 0 100000).bind fun t118 => (if t118 = true then ((spec_l00In.f a0_4 0 100000000).bind fun t119 => (if t119 = true then ((spec_l00In.f a0_5 1 3).bind fun t120 => (if t120 = true then ((spec_l00In.f a0_6 1 3).bind fun t121 => (some t121)) else (some false))) else (some false))) else (some false))) else (some false)))) else (some false))) else (some false)) = some r := H
  have A2 := Aside0.mk A20
  clear A20
  by_cases c3 : t114 = true
  · subst c3
    have H1 : ((spec_l00In.f a0_1 0 100000).bind fun t115 => (if t115 = true then ((spec_l00Max.f 1 a0_1).bind fun t116 => ((spec_l00In.f a0_2 t116 100000).bind fun t117 => (if t117 = true then ((spec_l00In.f a0_3 0 100000).bind fun t118 => (if t118 = true then ((spec_l00In.f a0_4 0 100000000).bind fun t119 => (if t119 = true then ((spec_l00In.f a0_5 1 3).bind fun t120 => (if t120 = true then ((spec_l00In.f a0_6 1 3).bind fun t121 => (some t121)) else (some false))) else (some false))) else (some false))) else (some false)))) else (some false))) = some r := by rw [if_pos rfl] at H; exact H
    clear H
    have H := H1
    clear H1
    replace H := Option.bind_eq_some_iff.mp H
    obtain ⟨t115, A40, H⟩ := H
    replace H : (if t115 = true then ((spec_l00Max.f 1 a0_1).bind fun t116 => ((spec_l00In.f a0_2 t116 100000).bind fun t117 => (if t117 = true then ((spec_l00In.f a0_3 0 100000).bind fun t118 => (if t118 = true then ((spec_l00In.f a0_4 0 100000000).bind fun t119 => (if t119 = true then ((spec_l00In.f a0_5 1 3).bind fun t120 => (if t120 = true then ((spec_l00In.f a0_6 1 3).bind fun t121 => (some t121)) else (some false))) else (some false))) else (some false))) else (some false)))) else (some false)) = some r := H
    have A4 := Aside0.mk A40
    clear A40
    by_cases c5 : t115 = true
    · subst c5
      have H1 : ((spec_l00Max.f 1 a0_1).bind fun t116 => ((spec_l00In.f a0_2 t116 100000).bind fun t117 => (if t117 = true then ((spec_l00In.f a0_3 0 100000).bind fun t118 => (if t118 = true then ((spec_l00In.f a0_4 0 100000000).bind fun t119 => (if t119 = true then ((spec_l00In.f a0_5 1 3).bind fun t120 => (if t120 = true then ((spec_l00In.f a0_6 1 3).bind fun t121 => (some t121)) else (some false))) else (some false))) else (some false))) else (some false)))) = some r := by rw [if_pos rfl] at H; exact H
      clear H
      have H := H1
      clear H1
      replace H := Option.bind_eq_some_iff.mp H
      obtain ⟨t116, A60, H⟩ := H
      replace H : ((spec_l00In.f a0_2 t116 100000).bind fun t117 => (if t117 = true then ((spec_l00In.f a0_3 0 100000).bind fun t118 => (if t118 = true then ((spec_l00In.f a0_4 0 100000000).bind fun t119 => (if t119 = true then ((spec_l00In.f a0_5 1 3).bind fun t120 => (if t120 = true then ((spec_l00In.f a0_6 1 3).bind fun t121 => (some t121)) else (some false))) else (some false))) else (some false))) else (some false))) = some r := H
      have A6 := Aside0.mk A60
      clear A60
      replace H := Option.bind_eq_some_iff.mp H
      obtain ⟨t117, A70, H⟩ := H
      replace H : (if t117 = true then ((spec_l00In.f a0_3 0 100000).bind fun t118 => (if t118 = true then ((spec_l00In.f a0_4 0 100000000).bind fun t119 => (if t119 = true then ((spec_l00In.f a0_5 1 3).bind fun t120 => (if t120 = true then ((spec_l00In.f a0_6 1 3).bind fun t121 => (some t121)) else (some false))) else (some false))) else (some false))) else (some false)) = some r := H
      have A7 := Aside0.mk A70
      clear A70
      by_cases c8 : t117 = true
      · subst c8
        have H1 : ((spec_l00In.f a0_3 0 100000).bind fun t118 => (if t118 = true then ((spec_l00In.f a0_4 0 100000000).bind fun t119 => (if t119 = true then ((spec_l00In.f a0_5 1 3).bind fun t120 => (if t120 = true then ((spec_l00In.f a0_6 1 3).bind fun t121 => (some t121)) else (some false))) else (some false))) else (some false))) = some r := by rw [if_pos rfl] at H; exact H
        clear H
        have H := H1
        clear H1
        replace H := Option.bind_eq_some_iff.mp H
        obtain ⟨t118, A90, H⟩ := H
        replace H : (if t118 = true then ((spec_l00In.f a0_4 0 100000000).bind fun t119 => (if t119 = true then ((spec_l00In.f a0_5 1 3).bind fun t120 => (if t120 = true then ((spec_l00In.f a0_6 1 3).bind fun t121 => (some t121)) else (some false))) else (some false))) else (some false)) = some r := H
        have A9 := Aside0.mk A90
        clear A90
        by_cases c10 : t118 = true
        · subst c10
          have H1 : ((spec_l00In.f a0_4 0 100000000).bind fun t119 => (if t119 = true then ((spec_l00In.f a0_5 1 3).bind fun t120 => (if t120 = true then ((spec_l00In.f a0_6 1 3).bind fun t121 => (some t121)) else (some false))) else (some false))) = some r := by rw [if_pos rfl] at H; exact H
          clear H
          have H := H1
          clear H1
          replace H := Option.bind_eq_some_iff.mp H
          obtain ⟨t119, A110, H⟩ := H
          replace H : (if t119 = true then ((spec_l00In.f a0_5 1 3).bind fun t120 => (if t120 = true then ((spec_l00In.f a0_6 1 3).bind fun t121 => (some t121)) else (some false))) else (some false)) = some r := H
          have A11 := Aside0.mk A110
          clear A110
          by_cases c12 : t119 = true
          · subst c12
            have H1 : ((spec_l00In.f a0_5 1 3).bind fun t120 => (if t120 = true then ((spec_l00In.f a0_6 1 3).bind fun t121 => (some t121)) else (some false))) = some r := by rw [if_pos rfl] at H; exact H
            clear H
            have H := H1
            clear H1
            replace H := Option.bind_eq_some_iff.mp H
            obtain ⟨t120, A130, H⟩ := H
            replace H : (if t120 = true then ((spec_l00In.f a0_6 1 3).bind fun t121 => (some t121)) else (some false)) = some r := H
            have A13 := Aside0.mk A130
            clear A130
            by_cases c14 : t120 = true
            · subst c14
              have H1 : ((spec_l00In.f a0_6 1 3).bind fun t121 => (some t121)) = some r := by rw [if_pos rfl] at H; exact H
              clear H
              have H := H1
              clear H1
              replace H := Option.bind_eq_some_iff.mp H
              obtain ⟨t121, A150, H⟩ := H
              replace H : (some t121) = some r := H
              have A15 := Aside0.mk A150
              clear A150
              obtain rfl := Option.some.inj H
              have hz16_0 := HX0_0.out
              have hz16_1 := HX0_1.out
              have hz16_2 := HX0_2.out
              have hz16_3 := HX0_3.out
              have hz16_4 := HX0_4.out
              have hz16_5 := HX0_5.out
              have hz16_6 := HX0_6.out
              have hz17_0 := HX0_0.out
              have hz17_1 := HX0_1.out
              have hz17_2 := HX0_2.out
              have hz17_3 := HX0_3.out
              have hz17_4 := HX0_4.out
              have hz17_5 := HX0_5.out
              have hz17_6 := HX0_6.out
              have hz18_0 := HX0_0.out
              have hz18_1 := HX0_1.out
              have hz18_2 := HX0_2.out
              have hz18_3 := HX0_3.out
              have hz18_4 := HX0_4.out
              have hz18_5 := HX0_5.out
              have hz18_6 := HX0_6.out
              have hz19_0 := HX0_0.out
              have hz19_1 := HX0_1.out
              have hz19_2 := HX0_2.out
              have hz19_3 := HX0_3.out
              have hz19_4 := HX0_4.out
              have hz19_5 := HX0_5.out
              have hz19_6 := HX0_6.out
              have hz20_0 := HX0_0.out
              have hz20_1 := HX0_1.out
              have hz20_2 := HX0_2.out
              have hz20_3 := HX0_3.out
              have hz20_4 := HX0_4.out
              have hz20_5 := HX0_5.out
              have hz20_6 := HX0_6.out
              have hz21_0 := HX0_0.out
              have hz21_1 := HX0_1.out
              have hz21_2 := HX0_2.out
              have hz21_3 := HX0_3.out
              have hz21_4 := HX0_4.out
              have hz21_5 := HX0_5.out
              have hz21_6 := HX0_6.out
              have hz22_0 := HX0_0.out
              have hz22_1 := HX0_1.out
              have hz22_2 := HX0_2.out
              have hz22_3 := HX0_3.out
              have hz22_4 := HX0_4.out
              have hz22_5 := HX0_5.out
              have hz22_6 := HX0_6.out
              have hz23_0 := HX0_0.out
              have hz23_1 := HX0_1.out
              have hz23_2 := HX0_2.out
              have hz23_3 := HX0_3.out
              have hz23_4 := HX0_4.out
              have hz23_5 := HX0_5.out
              have hz23_6 := HX0_6.out
              go_enter Try.func222, Try.ntmps222
              go_wp2_with (first | (go_at_call 183; (first | (with_reducible refine (spec_l01Name.calls k a0_0 true _ A2.out).mono ?_) | ((try simp only [Go.IntWalk.i64_left]); (with_reducible refine (spec_l01Name.calls k a0_0 true _ A2.out).mono ?_))); rintro e w' ⟨rfl, ⟨nd, rfl⟩⟩; (try first | exact ⟨rfl, _, World.drewN_drewN _ _ _⟩ | exact ⟨rfl, _, Eq.trans (World.drewN_drewN _ _ _) (congrArg (World.drewN _) (Nat.add_assoc _ _ _))⟩)) | (go_at_call 106; (first | (with_reducible refine (spec_l00In.calls a0_1 0 100000 true _ A4.out).mono ?_) | ((try simp only [Go.IntWalk.i64_left]); (with_reducible refine (spec_l00In.calls a0_1 0 100000 true _ A4.out).mono ?_))); rintro e w' ⟨rfl, ⟨nd, rfl⟩⟩; (try first | exact ⟨rfl, _, World.drewN_drewN _ _ _⟩ | exact ⟨rfl, _, Eq.trans (World.drewN_drewN _ _ _) (congrArg (World.drewN _) (Nat.add_assoc _ _ _))⟩)) | (go_at_call 108; (first | (with_reducible refine (spec_l00Max.calls 1 a0_1 t116 _ A6.out).mono ?_) | ((try simp only [Go.IntWalk.i64_left]); (with_reducible refine (spec_l00Max.calls 1 a0_1 t116 _ A6.out).mono ?_))); rintro e w' ⟨rfl, ⟨nd, rfl⟩⟩; (try first | exact ⟨rfl, _, World.drewN_drewN _ _ _⟩ | exact ⟨rfl, _, Eq.trans (World.drewN_drewN _ _ _) (congrArg (World.drewN _) (Nat.add_assoc _ _ _))⟩)) | (go_at_call 106; (first | (with_reducible refine (spec_l00In.calls a0_2 t116 100000 true _ A7.out).mono ?_) | ((try simp only [Go.IntWalk.i64_left]); (with_reducible refine (spec_l00In.calls a0_2 t116 100000 true _ A7.out).mono ?_))); rintro e w' ⟨rfl, ⟨nd, rfl⟩⟩; (try first | exact ⟨rfl, _, World.drewN_drewN _ _ _⟩ | exact ⟨rfl, _, Eq.trans (World.drewN_drewN _ _ _) (congrArg (World.drewN _) (Nat.add_assoc _ _ _))⟩)) | (go_at_call 106; (first | (with_reducible refine (spec_l00In.calls a0_3 0 100000 true _ A9.out).mono ?_) | ((try simp only [Go.IntWalk.i64_left]); (with_reducible refine (spec_l00In.calls a0_3 0 100000 true _ A9.out).mono ?_))); rintro e w' ⟨rfl, ⟨nd, rfl⟩⟩; (try first | exact ⟨rfl, _, World.drewN_drewN _ _ _⟩ | exact ⟨rfl, _, Eq.trans (World.drewN_drewN _ _ _) (congrArg (World.drewN _) (Nat.add_assoc _ _ _))⟩)) | (go_at_call 106; (first | (with_reducible refine (spec_l00In.calls a0_4 0 100000000 true _ A11.out).mono ?_) | ((try simp only [Go.IntWalk.i64_left]); (with_reducible refine (spec_l00In.calls a0_4 0 100000000 true _ A11.out).mono ?_))); rintro e w' ⟨rfl, ⟨nd, rfl⟩⟩; (try first | exact ⟨rfl, _, World.drewN_drewN _ _ _⟩ | exact ⟨rfl, _, Eq.trans (World.drewN_drewN _ _ _) (congrArg (World.drewN _) (Nat.add_assoc _ _ _))⟩)) | (go_at_call 106; (first | (with_reducible refine (spec_l00In.calls a0_5 1 3 true _ A13.out).mono ?_) | ((try simp only [Go.IntWalk.i64_left]); (with_reducible refine (spec_l00In.calls a0_5 1 3 true _ A13.out).mono ?_))); rintro e w' ⟨rfl, ⟨nd, rfl⟩⟩; (try first | exact ⟨rfl, _, World.drewN_drewN _ _ _⟩ | exact ⟨rfl, _, Eq.trans (World.drewN_drewN _ _ _) (congrArg (World.drewN _) (Nat.add_assoc _ _ _))⟩)) | (go_at_call 106; (first | (with_reducible refine (spec_l00In.calls a0_6 1 3 t121 _ A15.out).mono ?_) | ((try simp only [Go.IntWalk.i64_left]); (with_reducible refine (spec_l00In.calls a0_6 1 3 t121 _ A15.out).mono ?_))); rintro e w' ⟨rfl, ⟨nd, rfl⟩⟩; (try first | exact ⟨rfl, _, World.drewN_drewN _ _ _⟩ | exact ⟨rfl, _, Eq.trans (World.drewN_drewN _ _ _) (congrArg (World.drewN _) (Nat.add_assoc _ _ _))⟩)))
              repeat (go_quiet (first | (go_at_call 183; (first | (with_reducible refine (spec_l01Name.calls k a0_0 true _ A2.out).mono ?_) | ((try simp only [Go.IntWalk.i64_left]); (with_reducible refine (spec_l01Name.calls k a0_0 true _ A2.out).mono ?_))); rintro e w' ⟨rfl, ⟨nd, rfl⟩⟩; (try first | exact ⟨rfl, _, World.drewN_drewN _ _ _⟩ | exact ⟨rfl, _, Eq.trans (World.drewN_drewN _ _ _) (congrArg (World.drewN _) (Nat.add_assoc _ _ _))⟩)) | (go_at_call 106; (first | (with_reducible refine (spec_l00In.calls a0_1 0 100000 true _ A4.out).mono ?_) | ((try simp only [Go.IntWalk.i64_left]); (with_reducible refine (spec_l00In.calls a0_1 0 100000 true _ A4.out).mono ?_))); rintro e w' ⟨rfl, ⟨nd, rfl⟩⟩; (try first | exact ⟨rfl, _, World.drewN_drewN _ _ _⟩ | exact ⟨rfl, _, Eq.trans (World.drewN_drewN _ _ _) (congrArg (World.drewN _) (Nat.add_assoc _ _ _))⟩)) | (go_at_call 108; (first | (with_reducible refine (spec_l00Max.calls 1 a0_1 t116 _ A6.out).mono ?_) | ((try simp only [Go.IntWalk.i64_left]); (with_reducible refine (spec_l00Max.calls 1 a0_1 t116 _ A6.out).mono ?_))); rintro e w' ⟨rfl, ⟨nd, rfl⟩⟩; (try first | exact ⟨rfl, _, World.drewN_drewN _ _ _⟩ | exact ⟨rfl, _, Eq.trans (World.drewN_drewN _ _ _) (congrArg (World.drewN _) (Nat.add_assoc _ _ _))⟩)) | (go_at_call 106; (first | (with_reducible refine (spec_l00In.calls a0_2 t116 100000 true _ A7.out).mono ?_) | ((try simp only [Go.IntWalk.i64_left]); (with_reducible refine (spec_l00In.calls a0_2 t116 100000 true _ A7.out).mono ?_))); rintro e w' ⟨rfl, ⟨nd, rfl⟩⟩; (try first | exact ⟨rfl, _, World.drewN_drewN _ _ _⟩ | exact ⟨rfl, _, Eq.trans (World.drewN_drewN _ _ _) (congrArg (World.drewN _) (Nat.add_assoc _ _ _))⟩)) | (go_at_call 106; (first | (with_reducible refine (spec_l00In.calls a0_3 0 100000 true _ A9.out).mono ?_) | ((try simp only [Go.IntWalk.i64_left]); (with_reducible refine (spec_l00In.calls a0_3 0 100000 true _ A9.out).mono ?_))); rintro e w' ⟨rfl, ⟨nd, rfl⟩⟩; (try first | exact ⟨rfl, _, World.drewN_drewN _ _ _⟩ | exact ⟨rfl, _, Eq.trans (World.drewN_drewN _ _ _) (congrArg (World.drewN _) (Nat.add_assoc _ _ _))⟩)) | (go_at_call 106; (first | (with_reducible refine (spec_l00In.calls a0_4 0 100000000 true _ A11.out).mono ?_) | ((try simp only [Go.IntWalk.i64_left]); (with_reducible refine (spec_l00In.calls a0_4 0 100000000 true _ A11.out).mono ?_))); rintro e w' ⟨rfl, ⟨nd, rfl⟩⟩; (try first | exact ⟨rfl, _, World.drewN_drewN _ _ _⟩ | exact ⟨rfl, _, Eq.trans (World.drewN_drewN _ _ _) (congrArg (World.drewN _) (Nat.add_assoc _ _ _))⟩)) | (go_at_call 106; (first | (with_reducible refine (spec_l00In.calls a0_5 1 3 true _ A13.out).mono ?_) | ((try simp only [Go.IntWalk.i64_left]); (with_reducible refine (spec_l00In.calls a0_5 1 3 true _ A13.out).mono ?_))); rintro e w' ⟨rfl, ⟨nd, rfl⟩⟩; (try first | exact ⟨rfl, _, World.drewN_drewN _ _ _⟩ | exact ⟨rfl, _, Eq.trans (World.drewN_drewN _ _ _) (congrArg (World.drewN _) (Nat.add_assoc _ _ _))⟩)) | (go_at_call 106; (first | (with_reducible refine (spec_l00In.calls a0_6 1 3 t121 _ A15.out).mono ?_) | ((try simp only [Go.IntWalk.i64_left]); (with_reducible refine (spec_l00In.calls a0_6 1 3 t121 _ A15.out).mono ?_))); rintro e w' ⟨rfl, ⟨nd, rfl⟩⟩; (try first | exact ⟨rfl, _, World.drewN_drewN _ _ _⟩ | exact ⟨rfl, _, Eq.trans (World.drewN_drewN _ _ _) (congrArg (World.drewN _) (Nat.add_assoc _ _ _))⟩))); try go_wp2_with (first | (go_at_call 183; (first | (with_reducible refine (spec_l01Name.calls k a0_0 true _ A2.out).mono ?_) | ((try simp only [Go.IntWalk.i64_left]); (with_reducible refine (spec_l01Name.calls k a0_0 true _ A2.out).mono ?_))); rintro e w' ⟨rfl, ⟨nd, rfl⟩⟩; (try first | exact ⟨rfl, _, World.drewN_drewN _ _ _⟩ | exact ⟨rfl, _, Eq.trans (World.drewN_drewN _ _ _) (congrArg (World.drewN _) (Nat.add_assoc _ _ _))⟩)) | (go_at_call 106; (first | (with_reducible refine (spec_l00In.calls a0_1 0 100000 true _ A4.out).mono ?_) | ((try simp only [Go.IntWalk.i64_left]); (with_reducible refine (spec_l00In.calls a0_1 0 100000 true _ A4.out).mono ?_))); rintro e w' ⟨rfl, ⟨nd, rfl⟩⟩; (try first | exact ⟨rfl, _, World.drewN_drewN _ _ _⟩ | exact ⟨rfl, _, Eq.trans (World.drewN_drewN _ _ _) (congrArg (World.drewN _) (Nat.add_assoc _ _ _))⟩)) | (go_at_call 108; (first | (with_reducible refine (spec_l00Max.calls 1 a0_1 t116 _ A6.out).mono ?_) | ((try simp only [Go.IntWalk.i64_left]); (with_reducible refine (spec_l00Max.calls 1 a0_1 t116 _ A6.out).mono ?_))); rintro e w' ⟨rfl, ⟨nd, rfl⟩⟩; (try first | exact ⟨rfl, _, World.drewN_drewN _ _ _⟩ | exact ⟨rfl, _, Eq.trans (World.drewN_drewN _ _ _) (congrArg (World.drewN _) (Nat.add_assoc _ _ _))⟩)) | (go_at_call 106; (first | (with_reducible refine (spec_l00In.calls a0_2 t116 100000 true _ A7.out).mono ?_) | ((try simp only [Go.IntWalk.i64_left]); (with_reducible refine (spec_l00In.calls a0_2 t116 100000 true _ A7.out).mono ?_))); rintro e w' ⟨rfl, ⟨nd, rfl⟩⟩; (try first | exact ⟨rfl, _, World.drewN_drewN _ _ _⟩ | exact ⟨rfl, _, Eq.trans (World.drewN_drewN _ _ _) (congrArg (World.drewN _) (Nat.add_assoc _ _ _))⟩)) | (go_at_call 106; (first | (with_reducible refine (spec_l00In.calls a0_3 0 100000 true _ A9.out).mono ?_) | ((try simp only [Go.IntWalk.i64_left]); (with_reducible refine (spec_l00In.calls a0_3 0 100000 true _ A9.out).mono ?_))); rintro e w' ⟨rfl, ⟨nd, rfl⟩⟩; (try first | exact ⟨rfl, _, World.drewN_drewN _ _ _⟩ | exact ⟨rfl, _, Eq.trans (World.drewN_drewN _ _ _) (congrArg (World.drewN _) (Nat.add_assoc _ _ _))⟩)) | (go_at_call 106; (first | (with_reducible refine (spec_l00In.calls a0_4 0 100000000 true _ A11.out).mono ?_) | ((try simp only [Go.IntWalk.i64_left]); (with_reducible refine (spec_l00In.calls a0_4 0 100000000 true _ A11.out).mono ?_))); rintro e w' ⟨rfl, ⟨nd, rfl⟩⟩; (try first | exact ⟨rfl, _, World.drewN_drewN _ _ _⟩ | exact ⟨rfl, _, Eq.trans (World.drewN_drewN _ _ _) (congrArg (World.drewN _) (Nat.add_assoc _ _ _))⟩)) | (go_at_call 106; (first | (with_reducible refine (spec_l00In.calls a0_5 1 3 true _ A13.out).mono ?_) | ((try simp only [Go.IntWalk.i64_left]); (with_reducible refine (spec_l00In.calls a0_5 1 3 true _ A13.out).mono ?_))); rintro e w' ⟨rfl, ⟨nd, rfl⟩⟩; (try first | exact ⟨rfl, _, World.drewN_drewN _ _ _⟩ | exact ⟨rfl, _, Eq.trans (World.drewN_drewN _ _ _) (congrArg (World.drewN _) (Nat.add_assoc _ _ _))⟩)) | (go_at_call 106; (first | (with_reducible refine (spec_l00In.calls a0_6 1 3 t121 _ A15.out).mono ?_) | ((try simp only [Go.IntWalk.i64_left]); (with_reducible refine (spec_l00In.calls a0_6 1 3 t121 _ A15.out).mono ?_))); rintro e w' ⟨rfl, ⟨nd, rfl⟩⟩; (try first | exact ⟨rfl, _, World.drewN_drewN _ _ _⟩ | exact ⟨rfl, _, Eq.trans (World.drewN_drewN _ _ _) (congrArg (World.drewN _) (Nat.add_assoc _ _ _))⟩))))
              go_ret
              exact ⟨by first | rfl | (simp; done) | (simp [*]; done), by repeat (first | exact Drawn0.refl _ | apply Drawn0.step)⟩
            · replace c14 := Bool.eq_false_iff.mpr c14
              subst c14
              have H1 : (some false) = some r := by rw [if_neg (show ¬ (false = true) by decide)] at H; exact H
              clear H
              have H := H1
              clear H1
              obtain rfl := Option.some.inj H
              have hz24_0 := HX0_0.out
              have hz24_1 := HX0_1.out
              have hz24_2 := HX0_2.out
              have hz24_3 := HX0_3.out
              have hz24_4 := HX0_4.out
              have hz24_5 := HX0_5.out
              have hz24_6 := HX0_6.out
              have hz25_0 := HX0_0.out
              have hz25_1 := HX0_1.out
              have hz25_2 := HX0_2.out
              have hz25_3 := HX0_3.out
              have hz25_4 := HX0_4.out
              have hz25_5 := HX0_5.out
              have hz25_6 := HX0_6.out
              have hz26_0 := HX0_0.out
              have hz26_1 := HX0_1.out
              have hz26_2 := HX0_2.out
              have hz26_3 := HX0_3.out
              have hz26_4 := HX0_4.out
              have hz26_5 := HX0_5.out
              have hz26_6 := HX0_6.out
              have hz27_0 := HX0_0.out
              have hz27_1 := HX0_1.out
              have hz27_2 := HX0_2.out
              have hz27_3 := HX0_3.out
              have hz27_4 := HX0_4.out
              have hz27_5 := HX0_5.out
              have hz27_6 := HX0_6.out
              have hz28_0 := HX0_0.out
              have hz28_1 := HX0_1.out
              have hz28_2 := HX0_2.out
              have hz28_3 := HX0_3.out
              have hz28_4 := HX0_4.out
              have hz28_5 := HX0_5.out
              have hz28_6 := HX0_6.out
              have hz29_0 := HX0_0.out
              have hz29_1 := HX0_1.out
              have hz29_2 := HX0_2.out
              have hz29_3 := HX0_3.out
              have hz29_4 := HX0_4.out
              have hz29_5 := HX0_5.out
              have hz29_6 := HX0_6.out
              have hz30_0 := HX0_0.out
              have hz30_1 := HX0_1.out
              have hz30_2 := HX0_2.out
              have hz30_3 := HX0_3.out
              have hz30_4 := HX0_4.out
              have hz30_5 := HX0_5.out
              have hz30_6 := HX0_6.out
              go_enter Try.func222, Try.ntmps222
              go_wp2_with (first | (go_at_call 183; (first | (with_reducible refine (spec_l01Name.calls k a0_0 true _ A2.out).mono ?_) | ((try simp only [Go.IntWalk.i64_left]); (with_reducible refine (spec_l01Name.calls k a0_0 true _ A2.out).mono ?_))); rintro e w' ⟨rfl, ⟨nd, rfl⟩⟩; (try first | exact ⟨rfl, _, World.drewN_drewN _ _ _⟩ | exact ⟨rfl, _, Eq.trans (World.drewN_drewN _ _ _) (congrArg (World.drewN _) (Nat.add_assoc _ _ _))⟩)) | (go_at_call 106; (first | (with_reducible refine (spec_l00In.calls a0_1 0 100000 true _ A4.out).mono ?_) | ((try simp only [Go.IntWalk.i64_left]); (with_reducible refine (spec_l00In.calls a0_1 0 100000 true _ A4.out).mono ?_))); rintro e w' ⟨rfl, ⟨nd, rfl⟩⟩; (try first | exact ⟨rfl, _, World.drewN_drewN _ _ _⟩ | exact ⟨rfl, _, Eq.trans (World.drewN_drewN _ _ _) (congrArg (World.drewN _) (Nat.add_assoc _ _ _))⟩)) | (go_at_call 108; (first | (with_reducible refine (spec_l00Max.calls 1 a0_1 t116 _ A6.out).mono ?_) | ((try simp only [Go.IntWalk.i64_left]); (with_reducible refine (spec_l00Max.calls 1 a0_1 t116 _ A6.out).mono ?_))); rintro e w' ⟨rfl, ⟨nd, rfl⟩⟩; (try first | exact ⟨rfl, _, World.drewN_drewN _ _ _⟩ | exact ⟨rfl, _, Eq.trans (World.drewN_drewN _ _ _) (congrArg (World.drewN _) (Nat.add_assoc _ _ _))⟩)) | (go_at_call 106; (first | (with_reducible refine (spec_l00In.calls a0_2 t116 100000 true _ A7.out).mono ?_) | ((try simp only [Go.IntWalk.i64_left]); (with_reducible refine (spec_l00In.calls a0_2 t116 100000 true _ A7.out).mono ?_))); rintro e w' ⟨rfl, ⟨nd, rfl⟩⟩; (try first | exact ⟨rfl, _, World.drewN_drewN _ _ _⟩ | exact ⟨rfl, _, Eq.trans (World.drewN_drewN _ _ _) (congrArg (World.drewN _) (Nat.add_assoc _ _ _))⟩)) | (go_at_call 106; (first | (with_reducible refine (spec_l00In.calls a0_3 0 100000 true _ A9.out).mono ?_) | ((try simp only [Go.IntWalk.i64_left]); (with_reducible refine (spec_l00In.calls a0_3 0 100000 true _ A9.out).mono ?_))); rintro e w' ⟨rfl, ⟨nd, rfl⟩⟩; (try first | exact ⟨rfl, _, World.drewN_drewN _ _ _⟩ | exact ⟨rfl, _, Eq.trans (World.drewN_drewN _ _ _) (congrArg (World.drewN _) (Nat.add_assoc _ _ _))⟩)) | (go_at_call 106; (first | (with_reducible refine (spec_l00In.calls a0_4 0 100000000 true _ A11.out).mono ?_) | ((try simp only [Go.IntWalk.i64_left]); (with_reducible refine (spec_l00In.calls a0_4 0 100000000 true _ A11.out).mono ?_))); rintro e w' ⟨rfl, ⟨nd, rfl⟩⟩; (try first | exact ⟨rfl, _, World.drewN_drewN _ _ _⟩ | exact ⟨rfl, _, Eq.trans (World.drewN_drewN _ _ _) (congrArg (World.drewN _) (Nat.add_assoc _ _ _))⟩)) | (go_at_call 106; (first | (with_reducible refine (spec_l00In.calls a0_5 1 3 false _ A13.out).mono ?_) | ((try simp only [Go.IntWalk.i64_left]); (with_reducible refine (spec_l00In.calls a0_5 1 3 false _ A13.out).mono ?_))); rintro e w' ⟨rfl, ⟨nd, rfl⟩⟩; (try first | exact ⟨rfl, _, World.drewN_drewN _ _ _⟩ | exact ⟨rfl, _, Eq.trans (World.drewN_drewN _ _ _) (congrArg (World.drewN _) (Nat.add_assoc _ _ _))⟩)))
              repeat (go_quiet (first | (go_at_call 183; (first | (with_reducible refine (spec_l01Name.calls k a0_0 true _ A2.out).mono ?_) | ((try simp only [Go.IntWalk.i64_left]); (with_reducible refine (spec_l01Name.calls k a0_0 true _ A2.out).mono ?_))); rintro e w' ⟨rfl, ⟨nd, rfl⟩⟩; (try first | exact ⟨rfl, _, World.drewN_drewN _ _ _⟩ | exact ⟨rfl, _, Eq.trans (World.drewN_drewN _ _ _) (congrArg (World.drewN _) (Nat.add_assoc _ _ _))⟩)) | (go_at_call 106; (first | (with_reducible refine (spec_l00In.calls a0_1 0 100000 true _ A4.out).mono ?_) | ((try simp only [Go.IntWalk.i64_left]); (with_reducible refine (spec_l00In.calls a0_1 0 100000 true _ A4.out).mono ?_))); rintro e w' ⟨rfl, ⟨nd, rfl⟩⟩; (try first | exact ⟨rfl, _, World.drewN_drewN _ _ _⟩ | exact ⟨rfl, _, Eq.trans (World.drewN_drewN _ _ _) (congrArg (World.drewN _) (Nat.add_assoc _ _ _))⟩)) | (go_at_call 108; (first | (with_reducible refine (spec_l00Max.calls 1 a0_1 t116 _ A6.out).mono ?_) | ((try simp only [Go.IntWalk.i64_left]); (with_reducible refine (spec_l00Max.calls 1 a0_1 t116 _ A6.out).mono ?_))); rintro e w' ⟨rfl, ⟨nd, rfl⟩⟩; (try first | exact ⟨rfl, _, World.drewN_drewN _ _ _⟩ | exact ⟨rfl, _, Eq.trans (World.drewN_drewN _ _ _) (congrArg (World.drewN _) (Nat.add_assoc _ _ _))⟩)) | (go_at_call 106; (first | (with_reducible refine (spec_l00In.calls a0_2 t116 100000 true _ A7.out).mono ?_) | ((try simp only [Go.IntWalk.i64_left]); (with_reducible refine (spec_l00In.calls a0_2 t116 100000 true _ A7.out).mono ?_))); rintro e w' ⟨rfl, ⟨nd, rfl⟩⟩; (try first | exact ⟨rfl, _, World.drewN_drewN _ _ _⟩ | exact ⟨rfl, _, Eq.trans (World.drewN_drewN _ _ _) (congrArg (World.drewN _) (Nat.add_assoc _ _ _))⟩)) | (go_at_call 106; (first | (with_reducible refine (spec_l00In.calls a0_3 0 100000 true _ A9.out).mono ?_) | ((try simp only [Go.IntWalk.i64_left]); (with_reducible refine (spec_l00In.calls a0_3 0 100000 true _ A9.out).mono ?_))); rintro e w' ⟨rfl, ⟨nd, rfl⟩⟩; (try first | exact ⟨rfl, _, World.drewN_drewN _ _ _⟩ | exact ⟨rfl, _, Eq.trans (World.drewN_drewN _ _ _) (congrArg (World.drewN _) (Nat.add_assoc _ _ _))⟩)) | (go_at_call 106; (first | (with_reducible refine (spec_l00In.calls a0_4 0 100000000 true _ A11.out).mono ?_) | ((try simp only [Go.IntWalk.i64_left]); (with_reducible refine (spec_l00In.calls a0_4 0 100000000 true _ A11.out).mono ?_))); rintro e w' ⟨rfl, ⟨nd, rfl⟩⟩; (try first | exact ⟨rfl, _, World.drewN_drewN _ _ _⟩ | exact ⟨rfl, _, Eq.trans (World.drewN_drewN _ _ _) (congrArg (World.drewN _) (Nat.add_assoc _ _ _))⟩)) | (go_at_call 106; (first | (with_reducible refine (spec_l00In.calls a0_5 1 3 false _ A13.out).mono ?_) | ((try simp only [Go.IntWalk.i64_left]); (with_reducible refine (spec_l00In.calls a0_5 1 3 false _ A13.out).mono ?_))); rintro e w' ⟨rfl, ⟨nd, rfl⟩⟩; (try first | exact ⟨rfl, _, World.drewN_drewN _ _ _⟩ | exact ⟨rfl, _, Eq.trans (World.drewN_drewN _ _ _) (congrArg (World.drewN _) (Nat.add_assoc _ _ _))⟩))); try go_wp2_with (first | (go_at_call 183; (first | (with_reducible refine (spec_l01Name.calls k a0_0 true _ A2.out).mono ?_) | ((try simp only [Go.IntWalk.i64_left]); (with_reducible refine (spec_l01Name.calls k a0_0 true _ A2.out).mono ?_))); rintro e w' ⟨rfl, ⟨nd, rfl⟩⟩; (try first | exact ⟨rfl, _, World.drewN_drewN _ _ _⟩ | exact ⟨rfl, _, Eq.trans (World.drewN_drewN _ _ _) (congrArg (World.drewN _) (Nat.add_assoc _ _ _))⟩)) | (go_at_call 106; (first | (with_reducible refine (spec_l00In.calls a0_1 0 100000 true _ A4.out).mono ?_) | ((try simp only [Go.IntWalk.i64_left]); (with_reducible refine (spec_l00In.calls a0_1 0 100000 true _ A4.out).mono ?_))); rintro e w' ⟨rfl, ⟨nd, rfl⟩⟩; (try first | exact ⟨rfl, _, World.drewN_drewN _ _ _⟩ | exact ⟨rfl, _, Eq.trans (World.drewN_drewN _ _ _) (congrArg (World.drewN _) (Nat.add_assoc _ _ _))⟩)) | (go_at_call 108; (first | (with_reducible refine (spec_l00Max.calls 1 a0_1 t116 _ A6.out).mono ?_) | ((try simp only [Go.IntWalk.i64_left]); (with_reducible refine (spec_l00Max.calls 1 a0_1 t116 _ A6.out).mono ?_))); rintro e w' ⟨rfl, ⟨nd, rfl⟩⟩; (try first | exact ⟨rfl, _, World.drewN_drewN _ _ _⟩ | exact ⟨rfl, _, Eq.trans (World.drewN_drewN _ _ _) (congrArg (World.drewN _) (Nat.add_assoc _ _ _))⟩)) | (go_at_call 106; (first | (with_reducible refine (spec_l00In.calls a0_2 t116 100000 true _ A7.out).mono ?_) | ((try simp only [Go.IntWalk.i64_left]); (with_reducible refine (spec_l00In.calls a0_2 t116 100000 true _ A7.out).mono ?_))); rintro e w' ⟨rfl, ⟨nd, rfl⟩⟩; (try first | exact ⟨rfl, _, World.drewN_drewN _ _ _⟩ | exact ⟨rfl, _, Eq.trans (World.drewN_drewN _ _ _) (congrArg (World.drewN _) (Nat.add_assoc _ _ _))⟩)) | (go_at_call 106; (first | (with_reducible refine (spec_l00In.calls a0_3 0 100000 true _ A9.out).mono ?_) | ((try simp only [Go.IntWalk.i64_left]); (with_reducible refine (spec_l00In.calls a0_3 0 100000 true _ A9.out).mono ?_))); rintro e w' ⟨rfl, ⟨nd, rfl⟩⟩; (try first | exact ⟨rfl, _, World.drewN_drewN _ _ _⟩ | exact ⟨rfl, _, Eq.trans (World.drewN_drewN _ _ _) (congrArg (World.drewN _) (Nat.add_assoc _ _ _))⟩)) | (go_at_call 106; (first | (with_reducible refine (spec_l00In.calls a0_4 0 100000000 true _ A11.out).mono ?_) | ((try simp only [Go.IntWalk.i64_left]); (with_reducible refine (spec_l00In.calls a0_4 0 100000000 true _ A11.out).mono ?_))); rintro e w' ⟨rfl, ⟨nd, rfl⟩⟩; (try first | exact ⟨rfl, _, World.drewN_drewN _ _ _⟩ | exact ⟨rfl, _, Eq.trans (World.drewN_drewN _ _ _) (congrArg (World.drewN _) (Nat.add_assoc _ _ _))⟩)) | (go_at_call 106; (first | (with_reducible refine (spec_l00In.calls a0_5 1 3 false _ A13.out).mono ?_) | ((try simp only [Go.IntWalk.i64_left]); (with_reducible refine (spec_l00In.calls a0_5 1 3 false _ A13.out).mono ?_))); rintro e w' ⟨rfl, ⟨nd, rfl⟩⟩; (try first | exact ⟨rfl, _, World.drewN_drewN _ _ _⟩ | exact ⟨rfl, _, Eq.trans (World.drewN_drewN _ _ _) (congrArg (World.drewN _) (Nat.add_assoc _ _ _))⟩))))
              go_ret
              exact ⟨by first | rfl | (simp; done) | (simp [*]; done), by repeat (first | exact Drawn0.refl _ | apply Drawn0.step)⟩
          · replace c12 := Bool.eq_false_iff.mpr c12
            subst c12
            have H1 : (some false) = some r := by rw [if_neg (show ¬ (false = true) by decide)] at H; exact H
            clear H
            have H := H1
            clear H1
            obtain rfl := Option.some.inj H
            have hz31_0 := HX0_0.out
            have hz31_1 := HX0_1.out
            have hz31_2 := HX0_2.out
            have hz31_3 := HX0_3.out
            have hz31_4 := HX0_4.out
            have hz31_5 := HX0_5.out
            have hz31_6 := HX0_6.out
            have hz32_0 := HX0_0.out
            have hz32_1 := HX0_1.out
            have hz32_2 := HX0_2.out
            have hz32_3 := HX0_3.out
            have hz32_4 := HX0_4.out
            have hz32_5 := HX0_5.out
            have hz32_6 := HX0_6.out
            have hz33_0 := HX0_0.out
            have hz33_1 := HX0_1.out
            have hz33_2 := HX0_2.out
            have hz33_3 := HX0_3.out
            have hz33_4 := HX0_4.out
            have hz33_5 := HX0_5.out
            have hz33_6 := HX0_6.out
            have hz34_0 := HX0_0.out
            have hz34_1 := HX0_1.out
            have hz34_2 := HX0_2.out
            have hz34_3 := HX0_3.out
            have hz34_4 := HX0_4.out
            have hz34_5 := HX0_5.out
            have hz34_6 := HX0_6.out
            have hz35_0 := HX0_0.out
            have hz35_1 := HX0_1.out
            have hz35_2 := HX0_2.out
            have hz35_3 := HX0_3.out
            have hz35_4 := HX0_4.out
            have hz35_5 := HX0_5.out
            have hz35_6 := HX0_6.out
            have hz36_0 := HX0_0.out
            have hz36_1 := HX0_1.out
            have hz36_2 := HX0_2.out
            have hz36_3 := HX0_3.out
            have hz36_4 := HX0_4.out
            have hz36_5 := HX0_5.out
            have hz36_6 := HX0_6.out
            go_enter Try.func222, Try.ntmps222
            go_wp2_with (first | (go_at_call 183; (first | (with_reducible refine (spec_l01Name.calls k a0_0 true _ A2.out).mono ?_) | ((try simp only [Go.IntWalk.i64_left]); (with_reducible refine (spec_l01Name.calls k a0_0 true _ A2.out).mono ?_))); rintro e w' ⟨rfl, ⟨nd, rfl⟩⟩; (try first | exact ⟨rfl, _, World.drewN_drewN _ _ _⟩ | exact ⟨rfl, _, Eq.trans (World.drewN_drewN _ _ _) (congrArg (World.drewN _) (Nat.add_assoc _ _ _))⟩)) | (go_at_call 106; (first | (with_reducible refine (spec_l00In.calls a0_1 0 100000 true _ A4.out).mono ?_) | ((try simp only [Go.IntWalk.i64_left]); (with_reducible refine (spec_l00In.calls a0_1 0 100000 true _ A4.out).mono ?_))); rintro e w' ⟨rfl, ⟨nd, rfl⟩⟩; (try first | exact ⟨rfl, _, World.drewN_drewN _ _ _⟩ | exact ⟨rfl, _, Eq.trans (World.drewN_drewN _ _ _) (congrArg (World.drewN _) (Nat.add_assoc _ _ _))⟩)) | (go_at_call 108; (first | (with_reducible refine (spec_l00Max.calls 1 a0_1 t116 _ A6.out).mono ?_) | ((try simp only [Go.IntWalk.i64_left]); (with_reducible refine (spec_l00Max.calls 1 a0_1 t116 _ A6.out).mono ?_))); rintro e w' ⟨rfl, ⟨nd, rfl⟩⟩; (try first | exact ⟨rfl, _, World.drewN_drewN _ _ _⟩ | exact ⟨rfl, _, Eq.trans (World.drewN_drewN _ _ _) (congrArg (World.drewN _) (Nat.add_assoc _ _ _))⟩)) | (go_at_call 106; (first | (with_reducible refine (spec_l00In.calls a0_2 t116 100000 true _ A7.out).mono ?_) | ((try simp only [Go.IntWalk.i64_left]); (with_reducible refine (spec_l00In.calls a0_2 t116 100000 true _ A7.out).mono ?_))); rintro e w' ⟨rfl, ⟨nd, rfl⟩⟩; (try first | exact ⟨rfl, _, World.drewN_drewN _ _ _⟩ | exact ⟨rfl, _, Eq.trans (World.drewN_drewN _ _ _) (congrArg (World.drewN _) (Nat.add_assoc _ _ _))⟩)) | (go_at_call 106; (first | (with_reducible refine (spec_l00In.calls a0_3 0 100000 true _ A9.out).mono ?_) | ((try simp only [Go.IntWalk.i64_left]); (with_reducible refine (spec_l00In.calls a0_3 0 100000 true _ A9.out).mono ?_))); rintro e w' ⟨rfl, ⟨nd, rfl⟩⟩; (try first | exact ⟨rfl, _, World.drewN_drewN _ _ _⟩ | exact ⟨rfl, _, Eq.trans (World.drewN_drewN _ _ _) (congrArg (World.drewN _) (Nat.add_assoc _ _ _))⟩)) | (go_at_call 106; (first | (with_reducible refine (spec_l00In.calls a0_4 0 100000000 false _ A11.out).mono ?_) | ((try simp only [Go.IntWalk.i64_left]); (with_reducible refine (spec_l00In.calls a0_4 0 100000000 false _ A11.out).mono ?_))); rintro e w' ⟨rfl, ⟨nd, rfl⟩⟩; (try first | exact ⟨rfl, _, World.drewN_drewN _ _ _⟩ | exact ⟨rfl, _, Eq.trans (World.drewN_drewN _ _ _) (congrArg (World.drewN _) (Nat.add_assoc _ _ _))⟩)))
            repeat (go_quiet (first | (go_at_call 183; (first | (with_reducible refine (spec_l01Name.calls k a0_0 true _ A2.out).mono ?_) | ((try simp only [Go.IntWalk.i64_left]); (with_reducible refine (spec_l01Name.calls k a0_0 true _ A2.out).mono ?_))); rintro e w' ⟨rfl, ⟨nd, rfl⟩⟩; (try first | exact ⟨rfl, _, World.drewN_drewN _ _ _⟩ | exact ⟨rfl, _, Eq.trans (World.drewN_drewN _ _ _) (congrArg (World.drewN _) (Nat.add_assoc _ _ _))⟩)) | (go_at_call 106; (first | (with_reducible refine (spec_l00In.calls a0_1 0 100000 true _ A4.out).mono ?_) | ((try simp only [Go.IntWalk.i64_left]); (with_reducible refine (spec_l00In.calls a0_1 0 100000 true _ A4.out).mono ?_))); rintro e w' ⟨rfl, ⟨nd, rfl⟩⟩; (try first | exact ⟨rfl, _, World.drewN_drewN _ _ _⟩ | exact ⟨rfl, _, Eq.trans (World.drewN_drewN _ _ _) (congrArg (World.drewN _) (Nat.add_assoc _ _ _))⟩)) | (go_at_call 108; (first | (with_reducible refine (spec_l00Max.calls 1 a0_1 t116 _ A6.out).mono ?_) | ((try simp only [Go.IntWalk.i64_left]); (with_reducible refine (spec_l00Max.calls 1 a0_1 t116 _ A6.out).mono ?_))); rintro e w' ⟨rfl, ⟨nd, rfl⟩⟩; (try first | exact ⟨rfl, _, World.drewN_drewN _ _ _⟩ | exact ⟨rfl, _, Eq.trans (World.drewN_drewN _ _ _) (congrArg (World.drewN _) (Nat.add_assoc _ _ _))⟩)) | (go_at_call 106; (first | (with_reducible refine (spec_l00In.calls a0_2 t116 100000 true _ A7.out).mono ?_) | ((try simp only [Go.IntWalk.i64_left]); (with_reducible refine (spec_l00In.calls a0_2 t116 100000 true _ A7.out).mono ?_))); rintro e w' ⟨rfl, ⟨nd, rfl⟩⟩; (try first | exact ⟨rfl, _, World.drewN_drewN _ _ _⟩ | exact ⟨rfl, _, Eq.trans (World.drewN_drewN _ _ _) (congrArg (World.drewN _) (Nat.add_assoc _ _ _))⟩)) | (go_at_call 106; (first | (with_reducible refine (spec_l00In.calls a0_3 0 100000 true _ A9.out).mono ?_) | ((try simp only [Go.IntWalk.i64_left]); (with_reducible refine (spec_l00In.calls a0_3 0 100000 true _ A9.out).mono ?_))); rintro e w' ⟨rfl, ⟨nd, rfl⟩⟩; (try first | exact ⟨rfl, _, World.drewN_drewN _ _ _⟩ | exact ⟨rfl, _, Eq.trans (World.drewN_drewN _ _ _) (congrArg (World.drewN _) (Nat.add_assoc _ _ _))⟩)) | (go_at_call 106; (first | (with_reducible refine (spec_l00In.calls a0_4 0 100000000 false _ A11.out).mono ?_) | ((try simp only [Go.IntWalk.i64_left]); (with_reducible refine (spec_l00In.calls a0_4 0 100000000 false _ A11.out).mono ?_))); rintro e w' ⟨rfl, ⟨nd, rfl⟩⟩; (try first | exact ⟨rfl, _, World.drewN_drewN _ _ _⟩ | exact ⟨rfl, _, Eq.trans (World.drewN_drewN _ _ _) (congrArg (World.drewN _) (Nat.add_assoc _ _ _))⟩))); try go_wp2_with (first | (go_at_call 183; (first | (with_reducible refine (spec_l01Name.calls k a0_0 true _ A2.out).mono ?_) | ((try simp only [Go.IntWalk.i64_left]); (with_reducible refine (spec_l01Name.calls k a0_0 true _ A2.out).mono ?_))); rintro e w' ⟨rfl, ⟨nd, rfl⟩⟩; (try first | exact ⟨rfl, _, World.drewN_drewN _ _ _⟩ | exact ⟨rfl, _, Eq.trans (World.drewN_drewN _ _ _) (congrArg (World.drewN _) (Nat.add_assoc _ _ _))⟩)) | (go_at_call 106; (first | (with_reducible refine (spec_l00In.calls a0_1 0 100000 true _ A4.out).mono ?_) | ((try simp only [Go.IntWalk.i64_left]); (with_reducible refine (spec_l00In.calls a0_1 0 100000 true _ A4.out).mono ?_))); rintro e w' ⟨rfl, ⟨nd, rfl⟩⟩; (try first | exact ⟨rfl, _, World.drewN_drewN _ _ _⟩ | exact ⟨rfl, _, Eq.trans (World.drewN_drewN _ _ _) (congrArg (World.drewN _) (Nat.add_assoc _ _ _))⟩)) | (go_at_call 108; (first | (with_reducible refine (spec_l00Max.calls 1 a0_1 t116 _ A6.out).mono ?_) | ((try simp only [Go.IntWalk.i64_left]); (with_reducible refine (spec_l00Max.calls 1 a0_1 t116 _ A6.out).mono ?_))); rintro e w' ⟨rfl, ⟨nd, rfl⟩⟩; (try first | exact ⟨rfl, _, World.drewN_drewN _ _ _⟩ | exact ⟨rfl, _, Eq.trans (World.drewN_drewN _ _ _) (congrArg (World.drewN _) (Nat.add_assoc _ _ _))⟩)) | (go_at_call 106; (first | (with_reducible refine (spec_l00In.calls a0_2 t116 100000 true _ A7.out).mono ?_) | ((try simp only [Go.IntWalk.i64_left]); (with_reducible refine (spec_l00In.calls a0_2 t116 100000 true _ A7.out).mono ?_))); rintro e w' ⟨rfl, ⟨nd, rfl⟩⟩; (try first | exact ⟨rfl, _, World.drewN_drewN _ _ _⟩ | exact ⟨rfl, _, Eq.trans (World.drewN_drewN _ _ _) (congrArg (World.drewN _) (Nat.add_assoc _ _ _))⟩)) | (go_at_call 106; (first | (with_reducible refine (spec_l00In.calls a0_3 0 100000 true _ A9.out).mono ?_) | ((try simp only [Go.IntWalk.i64_left]); (with_reducible refine (spec_l00In.calls a0_3 0 100000 true _ A9.out).mono ?_))); rintro e w' ⟨rfl, ⟨nd, rfl⟩⟩; (try first | exact ⟨rfl, _, World.drewN_drewN _ _ _⟩ | exact ⟨rfl, _, Eq.trans (World.drewN_drewN _ _ _) (congrArg (World.drewN _) (Nat.add_assoc _ _ _))⟩)) | (go_at_call 106; (first | (with_reducible refine (spec_l00In.calls a0_4 0 100000000 false _ A11.out).mono ?_) | ((try simp only [Go.IntWalk.i64_left]); (with_reducible refine (spec_l00In.calls a0_4 0 100000000 false _ A11.out).mono ?_))); rintro e w' ⟨rfl, ⟨nd, rfl⟩⟩; (try first | exact ⟨rfl, _, World.drewN_drewN _ _ _⟩ | exact ⟨rfl, _, Eq.trans (World.drewN_drewN _ _ _) (congrArg (World.drewN _) (Nat.add_assoc _ _ _))⟩))))
            go_ret
            exact ⟨by first | rfl | (simp; done) | (simp [*]; done), by repeat (first | exact Drawn0.refl _ | apply Drawn0.step)⟩
        · replace c10 := Bool.eq_false_iff.mpr c10
          subst c10
          have H1 : (some false) = some r := by rw [if_neg (show ¬ (false = true) by decide)] at H; exact H
          clear H
          have H := H1
          clear H1
          obtain rfl := Option.some.inj H
          have hz37_0 := HX0_0.out
          have hz37_1 := HX0_1.out
          have hz37_2 := HX0_2.out
          have hz37_3 := HX0_3.out
          have hz37_4 := HX0_4.out
          have hz37_5 := HX0_5.out
          have hz37_6 := HX0_6.out
          have hz38_0 := HX0_0.out
          have hz38_1 := HX0_1.out
          have hz38_2 := HX0_2.out
          have hz38_3 := HX0_3.out
          have hz38_4 := HX0_4.out
          have hz38_5 := HX0_5.out
          have hz38_6 := HX0_6.out
          have hz39_0 := HX0_0.out
          have hz39_1 := HX0_1.out
          have hz39_2 := HX0_2.out
          have hz39_3 := HX0_3.out
          have hz39_4 := HX0_4.out
          have hz39_5 := HX0_5.out
          have hz39_6 := HX0_6.out
          have hz40_0 := HX0_0.out
          have hz40_1 := HX0_1.out
          have hz40_2 := HX0_2.out
          have hz40_3 := HX0_3.out
          have hz40_4 := HX0_4.out
          have hz40_5 := HX0_5.out
          have hz40_6 := HX0_6.out
          have hz41_0 := HX0_0.out
          have hz41_1 := HX0_1.out
          have hz41_2 := HX0_2.out
          have hz41_3 := HX0_3.out
          have hz41_4 := HX0_4.out
          have hz41_5 := HX0_5.out
          have hz41_6 := HX0_6.out
          go_enter Try.func222, Try.ntmps222
          go_wp2_with (first | (go_at_call 183; (first | (with_reducible refine (spec_l01Name.calls k a0_0 true _ A2.out).mono ?_) | ((try simp only [Go.IntWalk.i64_left]); (with_reducible refine (spec_l01Name.calls k a0_0 true _ A2.out).mono ?_))); rintro e w' ⟨rfl, ⟨nd, rfl⟩⟩; (try first | exact ⟨rfl, _, World.drewN_drewN _ _ _⟩ | exact ⟨rfl, _, Eq.trans (World.drewN_drewN _ _ _) (congrArg (World.drewN _) (Nat.add_assoc _ _ _))⟩)) | (go_at_call 106; (first | (with_reducible refine (spec_l00In.calls a0_1 0 100000 true _ A4.out).mono ?_) | ((try simp only [Go.IntWalk.i64_left]); (with_reducible refine (spec_l00In.calls a0_1 0 100000 true _ A4.out).mono ?_))); rintro e w' ⟨rfl, ⟨nd, rfl⟩⟩; (try first | exact ⟨rfl, _, World.drewN_drewN _ _ _⟩ | exact ⟨rfl, _, Eq.trans (World.drewN_drewN _ _ _) (congrArg (World.drewN _) (Nat.add_assoc _ _ _))⟩)) | (go_at_call 108; (first | (with_reducible refine (spec_l00Max.calls 1 a0_1 t116 _ A6.out).mono ?_) | ((try simp only [Go.IntWalk.i64_left]); (with_reducible refine (spec_l00Max.calls 1 a0_1 t116 _ A6.out).mono ?_))); rintro e w' ⟨rfl, ⟨nd, rfl⟩⟩; (try first | exact ⟨rfl, _, World.drewN_drewN _ _ _⟩ | exact ⟨rfl, _, Eq.trans (World.drewN_drewN _ _ _) (congrArg (World.drewN _) (Nat.add_assoc _ _ _))⟩)) | (go_at_call 106; (first | (with_reducible refine (spec_l00In.calls a0_2 t116 100000 true _ A7.out).mono ?_) | ((try simp only [Go.IntWalk.i64_left]); (with_reducible refine (spec_l00In.calls a0_2 t116 100000 true _ A7.out).mono ?_))); rintro e w' ⟨rfl, ⟨nd, rfl⟩⟩; (try first | exact ⟨rfl, _, World.drewN_drewN _ _ _⟩ | exact ⟨rfl, _, Eq.trans (World.drewN_drewN _ _ _) (congrArg (World.drewN _) (Nat.add_assoc _ _ _))⟩)) | (go_at_call 106; (first | (with_reducible refine (spec_l00In.calls a0_3 0 100000 false _ A9.out).mono ?_) | ((try simp only [Go.IntWalk.i64_left]); (with_reducible refine (spec_l00In.calls a0_3 0 100000 false _ A9.out).mono ?_))); rintro e w' ⟨rfl, ⟨nd, rfl⟩⟩; (try first | exact ⟨rfl, _, World.drewN_drewN _ _ _⟩ | exact ⟨rfl, _, Eq.trans (World.drewN_drewN _ _ _) (congrArg (World.drewN _) (Nat.add_assoc _ _ _))⟩)))
          repeat (go_quiet (first | (go_at_call 183; (first | (with_reducible refine (spec_l01Name.calls k a0_0 true _ A2.out).mono ?_) | ((try simp only [Go.IntWalk.i64_left]); (with_reducible refine (spec_l01Name.calls k a0_0 true _ A2.out).mono ?_))); rintro e w' ⟨rfl, ⟨nd, rfl⟩⟩; (try first | exact ⟨rfl, _, World.drewN_drewN _ _ _⟩ | exact ⟨rfl, _, Eq.trans (World.drewN_drewN _ _ _) (congrArg (World.drewN _) (Nat.add_assoc _ _ _))⟩)) | (go_at_call 106; (first | (with_reducible refine (spec_l00In.calls a0_1 0 100000 true _ A4.out).mono ?_) | ((try simp only [Go.IntWalk.i64_left]); (with_reducible refine (spec_l00In.calls a0_1 0 100000 true _ A4.out).mono ?_))); rintro e w' ⟨rfl, ⟨nd, rfl⟩⟩; (try first | exact ⟨rfl, _, World.drewN_drewN _ _ _⟩ | exact ⟨rfl, _, Eq.trans (World.drewN_drewN _ _ _) (congrArg (World.drewN _) (Nat.add_assoc _ _ _))⟩)) | (go_at_call 108; (first | (with_reducible refine (spec_l00Max.calls 1 a0_1 t116 _ A6.out).mono ?_) | ((try simp only [Go.IntWalk.i64_left]); (with_reducible refine (spec_l00Max.calls 1 a0_1 t116 _ A6.out).mono ?_))); rintro e w' ⟨rfl, ⟨nd, rfl⟩⟩; (try first | exact ⟨rfl, _, World.drewN_drewN _ _ _⟩ | exact ⟨rfl, _, Eq.trans (World.drewN_drewN _ _ _) (congrArg (World.drewN _) (Nat.add_assoc _ _ _))⟩)) | (go_at_call 106; (first | (with_reducible refine (spec_l00In.calls a0_2 t116 100000 true _ A7.out).mono ?_) | ((try simp only [Go.IntWalk.i64_left]); (with_reducible refine (spec_l00In.calls a0_2 t116 100000 true _ A7.out).mono ?_))); rintro e w' ⟨rfl, ⟨nd, rfl⟩⟩; (try first | exact ⟨rfl, _, World.drewN_drewN _ _ _⟩ | exact ⟨rfl, _, Eq.trans (World.drewN_drewN _ _ _) (congrArg (World.drewN _) (Nat.add_assoc _ _ _))⟩)) | (go_at_call 106; (first | (with_reducible refine (spec_l00In.calls a0_3 0 100000 false _ A9.out).mono ?_) | ((try simp only [Go.IntWalk.i64_left]); (with_reducible refine (spec_l00In.calls a0_3 0 100000 false _ A9.out).mono ?_))); rintro e w' ⟨rfl, ⟨nd, rfl⟩⟩; (try first | exact ⟨rfl, _, World.drewN_drewN _ _ _⟩ | exact ⟨rfl, _, Eq.trans (World.drewN_drewN _ _ _) (congrArg (World.drewN _) (Nat.add_assoc _ _ _))⟩))); try go_wp2_with (first | (go_at_call 183; (first | (with_reducible refine (spec_l01Name.calls k a0_0 true _ A2.out).mono ?_) | ((try simp only [Go.IntWalk.i64_left]); (with_reducible refine (spec_l01Name.calls k a0_0 true _ A2.out).mono ?_))); rintro e w' ⟨rfl, ⟨nd, rfl⟩⟩; (try first | exact ⟨rfl, _, World.drewN_drewN _ _ _⟩ | exact ⟨rfl, _, Eq.trans (World.drewN_drewN _ _ _) (congrArg (World.drewN _) (Nat.add_assoc _ _ _))⟩)) | (go_at_call 106; (first | (with_reducible refine (spec_l00In.calls a0_1 0 100000 true _ A4.out).mono ?_) | ((try simp only [Go.IntWalk.i64_left]); (with_reducible refine (spec_l00In.calls a0_1 0 100000 true _ A4.out).mono ?_))); rintro e w' ⟨rfl, ⟨nd, rfl⟩⟩; (try first | exact ⟨rfl, _, World.drewN_drewN _ _ _⟩ | exact ⟨rfl, _, Eq.trans (World.drewN_drewN _ _ _) (congrArg (World.drewN _) (Nat.add_assoc _ _ _))⟩)) | (go_at_call 108; (first | (with_reducible refine (spec_l00Max.calls 1 a0_1 t116 _ A6.out).mono ?_) | ((try simp only [Go.IntWalk.i64_left]); (with_reducible refine (spec_l00Max.calls 1 a0_1 t116 _ A6.out).mono ?_))); rintro e w' ⟨rfl, ⟨nd, rfl⟩⟩; (try first | exact ⟨rfl, _, World.drewN_drewN _ _ _⟩ | exact ⟨rfl, _, Eq.trans (World.drewN_drewN _ _ _) (congrArg (World.drewN _) (Nat.add_assoc _ _ _))⟩)) | (go_at_call 106; (first | (with_reducible refine (spec_l00In.calls a0_2 t116 100000 true _ A7.out).mono ?_) | ((try simp only [Go.IntWalk.i64_left]); (with_reducible refine (spec_l00In.calls a0_2 t116 100000 true _ A7.out).mono ?_))); rintro e w' ⟨rfl, ⟨nd, rfl⟩⟩; (try first | exact ⟨rfl, _, World.drewN_drewN _ _ _⟩ | exact ⟨rfl, _, Eq.trans (World.drewN_drewN _ _ _) (congrArg (World.drewN _) (Nat.add_assoc _ _ _))⟩)) | (go_at_call 106; (first | (with_reducible refine (spec_l00In.calls a0_3 0 100000 false _ A9.out).mono ?_) | ((try simp only [Go.IntWalk.i64_left]); (with_reducible refine (spec_l00In.calls a0_3 0 100000 false _ A9.out).mono ?_))); rintro e w' ⟨rfl, ⟨nd, rfl⟩⟩; (try first | exact ⟨rfl, _, World.drewN_drewN _ _ _⟩ | exact ⟨rfl, _, Eq.trans (World.drewN_drewN _ _ _) (congrArg (World.drewN _) (Nat.add_assoc _ _ _))⟩))))
          go_ret
          exact ⟨by first | rfl | (simp; done) | (simp [*]; done), by repeat (first | exact Drawn0.refl _ | apply Drawn0.step)⟩
      · replace c8 := Bool.eq_false_iff.mpr c8
        subst c8
        have H1 : (some false) = some r := by rw [if_neg (show ¬ (false = true) by decide)] at H; exact H
        clear H
        have H := H1
        clear H1
        obtain rfl := Option.some.inj H
        have hz42_0 := HX0_0.out
        have hz42_1 := HX0_1.out
        have hz42_2 := HX0_2.out
        have hz42_3 := HX0_3.out
        have hz42_4 := HX0_4.out
        have hz42_5 := HX0_5.out
        have hz42_6 := HX0_6.out
        have hz43_0 := HX0_0.out
        have hz43_1 := HX0_1.out
        have hz43_2 := HX0_2.out
        have hz43_3 := HX0_3.out
        have hz43_4 := HX0_4.out
        have hz43_5 := HX0_5.out
        have hz43_6 := HX0_6.out
        have hz44_0 := HX0_0.out
        have hz44_1 := HX0_1.out
        have hz44_2 := HX0_2.out
        have hz44_3 := HX0_3.out
        have hz44_4 := HX0_4.out
        have hz44_5 := HX0_5.out
        have hz44_6 := HX0_6.out
        have hz45_0 := HX0_0.out
        have hz45_1 := HX0_1.out
        have hz45_2 := HX0_2.out
        have hz45_3 := HX0_3.out
        have hz45_4 := HX0_4.out
        have hz45_5 := HX0_5.out
        have hz45_6 := HX0_6.out
        go_enter Try.func222, Try.ntmps222
        go_wp2_with (first | (go_at_call 183; (first | (with_reducible refine (spec_l01Name.calls k a0_0 true _ A2.out).mono ?_) | ((try simp only [Go.IntWalk.i64_left]); (with_reducible refine (spec_l01Name.calls k a0_0 true _ A2.out).mono ?_))); rintro e w' ⟨rfl, ⟨nd, rfl⟩⟩; (try first | exact ⟨rfl, _, World.drewN_drewN _ _ _⟩ | exact ⟨rfl, _, Eq.trans (World.drewN_drewN _ _ _) (congrArg (World.drewN _) (Nat.add_assoc _ _ _))⟩)) | (go_at_call 106; (first | (with_reducible refine (spec_l00In.calls a0_1 0 100000 true _ A4.out).mono ?_) | ((try simp only [Go.IntWalk.i64_left]); (with_reducible refine (spec_l00In.calls a0_1 0 100000 true _ A4.out).mono ?_))); rintro e w' ⟨rfl, ⟨nd, rfl⟩⟩; (try first | exact ⟨rfl, _, World.drewN_drewN _ _ _⟩ | exact ⟨rfl, _, Eq.trans (World.drewN_drewN _ _ _) (congrArg (World.drewN _) (Nat.add_assoc _ _ _))⟩)) | (go_at_call 108; (first | (with_reducible refine (spec_l00Max.calls 1 a0_1 t116 _ A6.out).mono ?_) | ((try simp only [Go.IntWalk.i64_left]); (with_reducible refine (spec_l00Max.calls 1 a0_1 t116 _ A6.out).mono ?_))); rintro e w' ⟨rfl, ⟨nd, rfl⟩⟩; (try first | exact ⟨rfl, _, World.drewN_drewN _ _ _⟩ | exact ⟨rfl, _, Eq.trans (World.drewN_drewN _ _ _) (congrArg (World.drewN _) (Nat.add_assoc _ _ _))⟩)) | (go_at_call 106; (first | (with_reducible refine (spec_l00In.calls a0_2 t116 100000 false _ A7.out).mono ?_) | ((try simp only [Go.IntWalk.i64_left]); (with_reducible refine (spec_l00In.calls a0_2 t116 100000 false _ A7.out).mono ?_))); rintro e w' ⟨rfl, ⟨nd, rfl⟩⟩; (try first | exact ⟨rfl, _, World.drewN_drewN _ _ _⟩ | exact ⟨rfl, _, Eq.trans (World.drewN_drewN _ _ _) (congrArg (World.drewN _) (Nat.add_assoc _ _ _))⟩)))
        repeat (go_quiet (first | (go_at_call 183; (first | (with_reducible refine (spec_l01Name.calls k a0_0 true _ A2.out).mono ?_) | ((try simp only [Go.IntWalk.i64_left]); (with_reducible refine (spec_l01Name.calls k a0_0 true _ A2.out).mono ?_))); rintro e w' ⟨rfl, ⟨nd, rfl⟩⟩; (try first | exact ⟨rfl, _, World.drewN_drewN _ _ _⟩ | exact ⟨rfl, _, Eq.trans (World.drewN_drewN _ _ _) (congrArg (World.drewN _) (Nat.add_assoc _ _ _))⟩)) | (go_at_call 106; (first | (with_reducible refine (spec_l00In.calls a0_1 0 100000 true _ A4.out).mono ?_) | ((try simp only [Go.IntWalk.i64_left]); (with_reducible refine (spec_l00In.calls a0_1 0 100000 true _ A4.out).mono ?_))); rintro e w' ⟨rfl, ⟨nd, rfl⟩⟩; (try first | exact ⟨rfl, _, World.drewN_drewN _ _ _⟩ | exact ⟨rfl, _, Eq.trans (World.drewN_drewN _ _ _) (congrArg (World.drewN _) (Nat.add_assoc _ _ _))⟩)) | (go_at_call 108; (first | (with_reducible refine (spec_l00Max.calls 1 a0_1 t116 _ A6.out).mono ?_) | ((try simp only [Go.IntWalk.i64_left]); (with_reducible refine (spec_l00Max.calls 1 a0_1 t116 _ A6.out).mono ?_))); rintro e w' ⟨rfl, ⟨nd, rfl⟩⟩; (try first | exact ⟨rfl, _, World.drewN_drewN _ _ _⟩ | exact ⟨rfl, _, Eq.trans (World.drewN_drewN _ _ _) (congrArg (World.drewN _) (Nat.add_assoc _ _ _))⟩)) | (go_at_call 106; (first | (with_reducible refine (spec_l00In.calls a0_2 t116 100000 false _ A7.out).mono ?_) | ((try simp only [Go.IntWalk.i64_left]); (with_reducible refine (spec_l00In.calls a0_2 t116 100000 false _ A7.out).mono ?_))); rintro e w' ⟨rfl, ⟨nd, rfl⟩⟩; (try first | exact ⟨rfl, _, World.drewN_drewN _ _ _⟩ | exact ⟨rfl, _, Eq.trans (World.drewN_drewN _ _ _) (congrArg (World.drewN _) (Nat.add_assoc _ _ _))⟩))); try go_wp2_with (first | (go_at_call 183; (first | (with_reducible refine (spec_l01Name.calls k a0_0 true _ A2.out).mono ?_) | ((try simp only [Go.IntWalk.i64_left]); (with_reducible refine (spec_l01Name.calls k a0_0 true _ A2.out).mono ?_))); rintro e w' ⟨rfl, ⟨nd, rfl⟩⟩; (try first | exact ⟨rfl, _, World.drewN_drewN _ _ _⟩ | exact ⟨rfl, _, Eq.trans (World.drewN_drewN _ _ _) (congrArg (World.drewN _) (Nat.add_assoc _ _ _))⟩)) | (go_at_call 106; (first | (with_reducible refine (spec_l00In.calls a0_1 0 100000 true _ A4.out).mono ?_) | ((try simp only [Go.IntWalk.i64_left]); (with_reducible refine (spec_l00In.calls a0_1 0 100000 true _ A4.out).mono ?_))); rintro e w' ⟨rfl, ⟨nd, rfl⟩⟩; (try first | exact ⟨rfl, _, World.drewN_drewN _ _ _⟩ | exact ⟨rfl, _, Eq.trans (World.drewN_drewN _ _ _) (congrArg (World.drewN _) (Nat.add_assoc _ _ _))⟩)) | (go_at_call 108; (first | (with_reducible refine (spec_l00Max.calls 1 a0_1 t116 _ A6.out).mono ?_) | ((try simp only [Go.IntWalk.i64_left]); (with_reducible refine (spec_l00Max.calls 1 a0_1 t116 _ A6.out).mono ?_))); rintro e w' ⟨rfl, ⟨nd, rfl⟩⟩; (try first | exact ⟨rfl, _, World.drewN_drewN _ _ _⟩ | exact ⟨rfl, _, Eq.trans (World.drewN_drewN _ _ _) (congrArg (World.drewN _) (Nat.add_assoc _ _ _))⟩)) | (go_at_call 106; (first | (with_reducible refine (spec_l00In.calls a0_2 t116 100000 false _ A7.out).mono ?_) | ((try simp only [Go.IntWalk.i64_left]); (with_reducible refine (spec_l00In.calls a0_2 t116 100000 false _ A7.out).mono ?_))); rintro e w' ⟨rfl, ⟨nd, rfl⟩⟩; (try first | exact ⟨rfl, _, World.drewN_drewN _ _ _⟩ | exact ⟨rfl, _, Eq.trans (World.drewN_drewN _ _ _) (congrArg (World.drewN _) (Nat.add_assoc _ _ _))⟩))))
        go_ret
        exact ⟨by first | rfl | (simp; done) | (simp [*]; done), by repeat (first | exact Drawn0.refl _ | apply Drawn0.step)⟩
    · replace c5 := Bool.eq_false_iff.mpr c5
      subst c5
      have H1 : (some false) = some r := by rw [if_neg (show ¬ (false = true) by decide)] at H; exact H
      clear H
      have H := H1
      clear H1
      obtain rfl := Option.some.inj H
      have hz46_0 := HX0_0.out
      have hz46_1 := HX0_1.out
      have hz46_2 := HX0_2.out
      have hz46_3 := HX0_3.out
      have hz46_4 := HX0_4.out
      have hz46_5 := HX0_5.out
      have hz46_6 := HX0_6.out
      have hz47_0 := HX0_0.out
      have hz47_1 := HX0_1.out
      have hz47_2 := HX0_2.out
      have hz47_3 := HX0_3.out
      have hz47_4 := HX0_4.out
      have hz47_5 := HX0_5.out
      have hz47_6 := HX0_6.out
      go_enter Try.func222, Try.ntmps222
      go_wp2_with (first | (go_at_call 183; (first | (with_reducible refine (spec_l01Name.calls k a0_0 true _ A2.out).mono ?_) | ((try simp only [Go.IntWalk.i64_left]); (with_reducible refine (spec_l01Name.calls k a0_0 true _ A2.out).mono ?_))); rintro e w' ⟨rfl, ⟨nd, rfl⟩⟩; (try first | exact ⟨rfl, _, World.drewN_drewN _ _ _⟩ | exact ⟨rfl, _, Eq.trans (World.drewN_drewN _ _ _) (congrArg (World.drewN _) (Nat.add_assoc _ _ _))⟩)) | (go_at_call 106; (first | (with_reducible refine (spec_l00In.calls a0_1 0 100000 false _ A4.out).mono ?_) | ((try simp only [Go.IntWalk.i64_left]); (with_reducible refine (spec_l00In.calls a0_1 0 100000 false _ A4.out).mono ?_))); rintro e w' ⟨rfl, ⟨nd, rfl⟩⟩; (try first | exact ⟨rfl, _, World.drewN_drewN _ _ _⟩ | exact ⟨rfl, _, Eq.trans (World.drewN_drewN _ _ _) (congrArg (World.drewN _) (Nat.add_assoc _ _ _))⟩)))
      repeat (go_quiet (first | (go_at_call 183; (first | (with_reducible refine (spec_l01Name.calls k a0_0 true _ A2.out).mono ?_) | ((try simp only [Go.IntWalk.i64_left]); (with_reducible refine (spec_l01Name.calls k a0_0 true _ A2.out).mono ?_))); rintro e w' ⟨rfl, ⟨nd, rfl⟩⟩; (try first | exact ⟨rfl, _, World.drewN_drewN _ _ _⟩ | exact ⟨rfl, _, Eq.trans (World.drewN_drewN _ _ _) (congrArg (World.drewN _) (Nat.add_assoc _ _ _))⟩)) | (go_at_call 106; (first | (with_reducible refine (spec_l00In.calls a0_1 0 100000 false _ A4.out).mono ?_) | ((try simp only [Go.IntWalk.i64_left]); (with_reducible refine (spec_l00In.calls a0_1 0 100000 false _ A4.out).mono ?_))); rintro e w' ⟨rfl, ⟨nd, rfl⟩⟩; (try first | exact ⟨rfl, _, World.drewN_drewN _ _ _⟩ | exact ⟨rfl, _, Eq.trans (World.drewN_drewN _ _ _) (congrArg (World.drewN _) (Nat.add_assoc _ _ _))⟩))); try go_wp2_with (first | (go_at_call 183; (first | (with_reducible refine (spec_l01Name.calls k a0_0 true _ A2.out).mono ?_) | ((try simp only [Go.IntWalk.i64_left]); (with_reducible refine (spec_l01Name.calls k a0_0 true _ A2.out).mono ?_))); rintro e w' ⟨rfl, ⟨nd, rfl⟩⟩; (try first | exact ⟨rfl, _, World.drewN_drewN _ _ _⟩ | exact ⟨rfl, _, Eq.trans (World.drewN_drewN _ _ _) (congrArg (World.drewN _) (Nat.add_assoc _ _ _))⟩)) | (go_at_call 106; (first | (with_reducible refine (spec_l00In.calls a0_1 0 100000 false _ A4.out).mono ?_) | ((try simp only [Go.IntWalk.i64_left]); (with_reducible refine (spec_l00In.calls a0_1 0 100000 false _ A4.out).mono ?_))); rintro e w' ⟨rfl, ⟨nd, rfl⟩⟩; (try first | exact ⟨rfl, _, World.drewN_drewN _ _ _⟩ | exact ⟨rfl, _, Eq.trans (World.drewN_drewN _ _ _) (congrArg (World.drewN _) (Nat.add_assoc _ _ _))⟩))))
      go_ret
      exact ⟨by first | rfl | (simp; done) | (simp [*]; done), by repeat (first | exact Drawn0.refl _ | apply Drawn0.step)⟩
  · replace c3 := Bool.eq_false_iff.mpr c3
    subst c3
    have H1 : (some false) = some r := by rw [if_neg (show ¬ (false = true) by decide)] at H; exact H
    clear H
    have H := H1
    clear H1
    obtain rfl := Option.some.inj H
    have hz48_0 := HX0_0.out
    have hz48_1 := HX0_1.out
    have hz48_2 := HX0_2.out
    have hz48_3 := HX0_3.out
    have hz48_4 := HX0_4.out
    have hz48_5 := HX0_5.out
    have hz48_6 := HX0_6.out
    go_enter Try.func222, Try.ntmps222
    go_wp2_with (first | (go_at_call 183; (first | (with_reducible refine (spec_l01Name.calls k a0_0 false _ A2.out).mono ?_) | ((try simp only [Go.IntWalk.i64_left]); (with_reducible refine (spec_l01Name.calls k a0_0 false _ A2.out).mono ?_))); rintro e w' ⟨rfl, ⟨nd, rfl⟩⟩; (try first | exact ⟨rfl, _, World.drewN_drewN _ _ _⟩ | exact ⟨rfl, _, Eq.trans (World.drewN_drewN _ _ _) (congrArg (World.drewN _) (Nat.add_assoc _ _ _))⟩)))
    repeat (go_quiet (first | (go_at_call 183; (first | (with_reducible refine (spec_l01Name.calls k a0_0 false _ A2.out).mono ?_) | ((try simp only [Go.IntWalk.i64_left]); (with_reducible refine (spec_l01Name.calls k a0_0 false _ A2.out).mono ?_))); rintro e w' ⟨rfl, ⟨nd, rfl⟩⟩; (try first | exact ⟨rfl, _, World.drewN_drewN _ _ _⟩ | exact ⟨rfl, _, Eq.trans (World.drewN_drewN _ _ _) (congrArg (World.drewN _) (Nat.add_assoc _ _ _))⟩))); try go_wp2_with (first | (go_at_call 183; (first | (with_reducible refine (spec_l01Name.calls k a0_0 false _ A2.out).mono ?_) | ((try simp only [Go.IntWalk.i64_left]); (with_reducible refine (spec_l01Name.calls k a0_0 false _ A2.out).mono ?_))); rintro e w' ⟨rfl, ⟨nd, rfl⟩⟩; (try first | exact ⟨rfl, _, World.drewN_drewN _ _ _⟩ | exact ⟨rfl, _, Eq.trans (World.drewN_drewN _ _ _) (congrArg (World.drewN _) (Nat.add_assoc _ _ _))⟩))))
    go_ret
    exact ⟨by first | rfl | (simp; done) | (simp [*]; done), by repeat (first | exact Drawn0.refl _ | apply Drawn0.step)⟩

/-! ### spec_l13Ok: function 189 -/
def spec_l13Ok.l0 : Nat → List (S184) → Int → Option (Bool)
  | 0, _, _ => none
  | k + 1, x0, x3 => if x3 < (x0.length : Int) then (if 0 ≤ x3 then ((spec_l13One.f k ((rd_T184 x0 x3).f0) ((rd_T184 x0 x3).f1) ((rd_T184 x0 x3).f2) ((rd_T184 x0 x3).f3) ((rd_T184 x0 x3).f4) ((rd_T184 x0 x3).f5) ((rd_T184 x0 x3).f6)).bind fun t123 => (if t123 = true then (if x3 > 0 then (if 0 ≤ (wrap64 (x3 - 1)) then (if (wrap64 (x3 - 1)) < (x0.length : Int) then (if ((Op.bytesLess (((rd_T184 x0 (wrap64 (x3 - 1))).f0).toList) (((rd_T184 x0 x3).f0).toList)) = true) then (spec_l13Ok.l0 k x0 (wrap64 (x3 + 1))) else (some false)) else (none)) else (none)) else (spec_l13Ok.l0 k x0 (wrap64 (x3 + 1)))) else (some false))) else (none)) else ((spec_l00In.f (x0.length : Int) 1 4).bind fun t126 => (some t126))
def spec_l13Ok.f (k : Nat) (l0 : List (S184)) : Option (Bool) := spec_l13Ok.l0 k l0 0
theorem spec_l13Ok.mono_l : ∀ k, (∀ y0 y1, LeO (spec_l13Ok.l0 k y0 y1) (spec_l13Ok.l0 (k + 1) y0 y1))
  | 0 => fun _ _ r h => by simp [spec_l13Ok.l0] at h
  | k + 1 => by
    have ih0 := spec_l13Ok.mono_l k
    · intro y0 y1
      unfold spec_l13Ok.l0
      repeat' first
      | (with_reducible exact ih0 _ _)
      | (with_reducible exact spec_l13One.mono _ _ _ _ _ _ _ _)
      | (with_reducible exact LeO.refl _)
      | (with_reducible exact LeO.none _)
      | (with_reducible refine LeO.ite ?_ ?_)
      | (with_reducible refine LeO.bind ?_ (fun _ => ?_))
      | exact ih0 _ _
      | exact spec_l13One.mono _ _ _ _ _ _ _ _
      | exact LeO.none _
      | refine LeO.ite ?_ ?_
      | refine LeO.bind ?_ (fun _ => ?_)
theorem spec_l13Ok.mono : ∀ a0 k, LeO (spec_l13Ok.f k a0) (spec_l13Ok.f (k + 1) a0) := by
  intro a0 k
  have ih0 := spec_l13Ok.mono_l k
  unfold spec_l13Ok.f
  repeat' first
      | (with_reducible exact ih0 _ _)
      | (with_reducible exact spec_l13One.mono _ _ _ _ _ _ _ _)
      | (with_reducible exact LeO.refl _)
      | (with_reducible exact LeO.none _)
      | (with_reducible refine LeO.ite ?_ ?_)
      | (with_reducible refine LeO.bind ?_ (fun _ => ?_))
      | exact ih0 _ _
      | exact spec_l13One.mono _ _ _ _ _ _ _ _
      | exact LeO.none _
      | refine LeO.ite ?_ ?_
      | refine LeO.bind ?_ (fun _ => ?_)
set_option maxHeartbeats 8000000 in
set_option maxRecDepth 100000 in
theorem spec_l13Ok.calls (k : Nat) (A0 : Option Addr) (c0 : Nat) (l0 : List (S184)) (r : Bool) (w : World) (hr0 : Kd.C k184 w A0 l0.length l0) (hc0 : l0.length ≤ c0) (h : spec_l13Ok.f k l0 = some r) :
    Calls Try.prog 189 #[.slice A0 l0.length c0] w fun e w' => e = .returned (.bool r) ∧ Drawn0 w w' := by
  have HR0 := Aside0.mk hr0
  have HC0 := Aside0.mk hc0
  clear hr0 hc0
  have H : (spec_l13Ok.l0 k l0 0) = some r := h
  clear h
  have H' := Aside0.mk H
  clear H
  go_enter Try.func189, Try.ntmps189
  go_wp2
  repeat (go_quiet (fail); try go_wp2)
  go_loopg [3] k (fun kq v3 w' => ∃ (x3_1 : Int), v3 = .int .i64 x3_1 ∧ Aside0 (spec_l13Ok.l0 kq l0 x3_1 = some r) ∧ Aside0 (kq ≤ k) ∧ Drawn0 w w')
  case atStart => exact ⟨(0), (by first | rfl | (simp; done) | (simp [*]; done)), H', ⟨Nat.le_refl _⟩, by repeat (first | exact Drawn0.refl _ | apply Drawn0.step)⟩
  case round =>
    clear H'
    try clear c1
    obtain ⟨x3_1, rfl, HA, HK1, ⟨m1, rfl⟩⟩ := hrel
    cases gk with
    | zero => exact absurd HA.out (by simp [spec_l13Ok.l0])
    | succ k1 =>
      have H := HA.out
      clear HA
      simp only [spec_l13Ok.l0] at H
      by_cases c2 : x3_1 < (l0.length : Int)
      · rw [if_pos c2] at H
        have c2b0 : decide (x3_1 < (l0.length : Int)) = true := decide_eq_true c2
        clear c2
        by_cases c3 : 0 ≤ x3_1
        · rw [if_pos c3] at H
          have c3b0 : decide (0 ≤ x3_1) = true := decide_eq_true c3
          clear c3
          replace H := Option.bind_eq_some_iff.mp H
          obtain ⟨t123, A40, H⟩ := H
          replace H : (if t123 = true then (if x3_1 > 0 then (if 0 ≤ (wrap64 (x3_1 - 1)) then (if (wrap64 (x3_1 - 1)) < (l0.length : Int) then (if ((Op.bytesLess (((rd_T184 l0 (wrap64 (x3_1 - 1))).f0).toList) (((rd_T184 l0 x3_1).f0).toList)) = true) then (spec_l13Ok.l0 k1 l0 (wrap64 (x3_1 + 1))) else (some false)) else (none)) else (none)) else (spec_l13Ok.l0 k1 l0 (wrap64 (x3_1 + 1)))) else (some false)) = some r := H
          have A4 := Aside0.mk A40
          clear A40
          by_cases c5 : t123 = true
          · subst c5
            have H1 : (if x3_1 > 0 then (if 0 ≤ (wrap64 (x3_1 - 1)) then (if (wrap64 (x3_1 - 1)) < (l0.length : Int) then (if ((Op.bytesLess (((rd_T184 l0 (wrap64 (x3_1 - 1))).f0).toList) (((rd_T184 l0 x3_1).f0).toList)) = true) then (spec_l13Ok.l0 k1 l0 (wrap64 (x3_1 + 1))) else (some false)) else (none)) else (none)) else (spec_l13Ok.l0 k1 l0 (wrap64 (x3_1 + 1)))) = some r := by rw [if_pos rfl] at H; exact H
            clear H
            have H := H1
            clear H1
            by_cases c6 : x3_1 > 0
            · rw [if_pos c6] at H
              have c6b0 : decide (0 < x3_1) = true := decide_eq_true c6
              clear c6
              obtain ⟨ji7, hji7⟩ : ∃ j_ : Int, (wrap64 (x3_1 - 1)) = j_ := ⟨_, rfl⟩
              replace H : (if 0 ≤ (ji7) then (if (ji7) < (l0.length : Int) then (if ((Op.bytesLess (((rd_T184 l0 (ji7)).f0).toList) (((rd_T184 l0 x3_1).f0).toList)) = true) then (spec_l13Ok.l0 k1 l0 (wrap64 (x3_1 + 1))) else (some false)) else (none)) else (none)) = some r := by first | (rw [hji7] at H; exact H) | (simp only [hji7] at H ⊢; exact H)
              (try rw [hji7] at A4)
              have hji7w : (IntKind.i64.wrap (x3_1 - 1)) = ji7 := (i64_w _).trans hji7
              by_cases c8 : 0 ≤ (ji7)
              · rw [if_pos c8] at H
                have c8b0 : decide (0 ≤ (ji7)) = true := decide_eq_true c8
                clear c8
                by_cases c9 : (ji7) < (l0.length : Int)
                · rw [if_pos c9] at H
                  have c9b0 : decide ((ji7) < (l0.length : Int)) = true := decide_eq_true c9
                  clear c9
                  by_cases c10 : ((Op.bytesLess (((rd_T184 l0 (ji7)).f0).toList) (((rd_T184 l0 x3_1).f0).toList)) = true)
                  · rw [if_pos c10] at H
                    have c10b0 : (Op.bytesLess (((rd_T184 l0 (ji7)).f0).toList) (((rd_T184 l0 x3_1).f0).toList)) = true := c10
                    clear c10
                    have H' := Aside0.mk H
                    clear H
                    have p122 : 0 ≤ (x3_1 : Int) := of_decide_eq_true (by first | (with_reducible assumption) | assumption)
                    have q122 : x3_1 < (l0.length : Int) := of_decide_eq_true (by first | (with_reducible assumption) | assumption)
                    obtain ⟨ad122, e122, hx122_0, hx122_1, hx122_2, hx122_3, hx122_4, hx122_5, hx122_6⟩ := at_T184 HR0.out x3_1 p122 q122
                    cases e122
                    replace p122 := eq_true p122
                    replace q122 := eq_true q122
                    have p124 : 0 ≤ ((ji7) : Int) := of_decide_eq_true (by first | (with_reducible assumption) | assumption)
                    have q124 : (ji7) < (l0.length : Int) := of_decide_eq_true (by first | (with_reducible assumption) | assumption)
                    obtain ⟨ad124, e124, hx124_0, hx124_1, hx124_2, hx124_3, hx124_4, hx124_5, hx124_6⟩ := at_T184 HR0.out (ji7) p124 q124
                    obtain rfl : ad122 = ad124 := (by injection e124)
                    replace p124 := eq_true p124
                    replace q124 := eq_true q124
                    have p125 : 0 ≤ (x3_1 : Int) := of_decide_eq_true (by first | (with_reducible assumption) | assumption)
                    have q125 : x3_1 < (l0.length : Int) := of_decide_eq_true (by first | (with_reducible assumption) | assumption)
                    obtain ⟨ad125, e125, hx125_0, hx125_1, hx125_2, hx125_3, hx125_4, hx125_5, hx125_6⟩ := at_T184 HR0.out x3_1 p125 q125
                    obtain rfl : ad122 = ad125 := (by injection e125)
                    replace p125 := eq_true p125
                    replace q125 := eq_true q125
                    go_wp2_with (first | (go_at_call 222; (first | (with_reducible refine (spec_l13One.calls k1 _ ((rd_T184 l0 x3_1).f0) ((rd_T184 l0 x3_1).f1) ((rd_T184 l0 x3_1).f2) ((rd_T184 l0 x3_1).f3) ((rd_T184 l0 x3_1).f4) ((rd_T184 l0 x3_1).f5) ((rd_T184 l0 x3_1).f6) true _ ?side1 A4.out).mono ?_) | ((try simp only [Go.IntWalk.i64_left]); (with_reducible refine (spec_l13One.calls k1 _ ((rd_T184 l0 x3_1).f0) ((rd_T184 l0 x3_1).f1) ((rd_T184 l0 x3_1).f2) ((rd_T184 l0 x3_1).f3) ((rd_T184 l0 x3_1).f4) ((rd_T184 l0 x3_1).f5) ((rd_T184 l0 x3_1).f6) true _ ?side1 A4.out).mono ?_))); (case side1 => exact ⟨hx122_0, hx122_1, hx122_2, hx122_3, hx122_4, hx122_5, hx122_6⟩); rintro e w' ⟨rfl, ⟨nd, rfl⟩⟩; (try first | exact ⟨rfl, _, World.drewN_drewN _ _ _⟩ | exact ⟨rfl, _, Eq.trans (World.drewN_drewN _ _ _) (congrArg (World.drewN _) (Nat.add_assoc _ _ _))⟩)))
                    repeat (go_quiet (first | (go_at_call 222; (first | (with_reducible refine (spec_l13One.calls k1 _ ((rd_T184 l0 x3_1).f0) ((rd_T184 l0 x3_1).f1) ((rd_T184 l0 x3_1).f2) ((rd_T184 l0 x3_1).f3) ((rd_T184 l0 x3_1).f4) ((rd_T184 l0 x3_1).f5) ((rd_T184 l0 x3_1).f6) true _ ?side1 A4.out).mono ?_) | ((try simp only [Go.IntWalk.i64_left]); (with_reducible refine (spec_l13One.calls k1 _ ((rd_T184 l0 x3_1).f0) ((rd_T184 l0 x3_1).f1) ((rd_T184 l0 x3_1).f2) ((rd_T184 l0 x3_1).f3) ((rd_T184 l0 x3_1).f4) ((rd_T184 l0 x3_1).f5) ((rd_T184 l0 x3_1).f6) true _ ?side1 A4.out).mono ?_))); (case side1 => exact ⟨hx122_0, hx122_1, hx122_2, hx122_3, hx122_4, hx122_5, hx122_6⟩); rintro e w' ⟨rfl, ⟨nd, rfl⟩⟩; (try first | exact ⟨rfl, _, World.drewN_drewN _ _ _⟩ | exact ⟨rfl, _, Eq.trans (World.drewN_drewN _ _ _) (congrArg (World.drewN _) (Nat.add_assoc _ _ _))⟩))); try go_wp2_with (first | (go_at_call 222; (first | (with_reducible refine (spec_l13One.calls k1 _ ((rd_T184 l0 x3_1).f0) ((rd_T184 l0 x3_1).f1) ((rd_T184 l0 x3_1).f2) ((rd_T184 l0 x3_1).f3) ((rd_T184 l0 x3_1).f4) ((rd_T184 l0 x3_1).f5) ((rd_T184 l0 x3_1).f6) true _ ?side1 A4.out).mono ?_) | ((try simp only [Go.IntWalk.i64_left]); (with_reducible refine (spec_l13One.calls k1 _ ((rd_T184 l0 x3_1).f0) ((rd_T184 l0 x3_1).f1) ((rd_T184 l0 x3_1).f2) ((rd_T184 l0 x3_1).f3) ((rd_T184 l0 x3_1).f4) ((rd_T184 l0 x3_1).f5) ((rd_T184 l0 x3_1).f6) true _ ?side1 A4.out).mono ?_))); (case side1 => exact ⟨hx122_0, hx122_1, hx122_2, hx122_3, hx122_4, hx122_5, hx122_6⟩); rintro e w' ⟨rfl, ⟨nd, rfl⟩⟩; (try first | exact ⟨rfl, _, World.drewN_drewN _ _ _⟩ | exact ⟨rfl, _, Eq.trans (World.drewN_drewN _ _ _) (congrArg (World.drewN _) (Nat.add_assoc _ _ _))⟩))))
                    go_roundg k1
                    case measure => have := HK1.out; omega
                    case rel => exact ⟨(wrap64 (x3_1 + 1)), (by first | rfl | (simp; done) | (simp [*]; done)), H', ⟨by have := HK1.out; omega⟩, by repeat (first | exact Drawn0.refl _ | apply Drawn0.step)⟩
                  · rw [if_neg c10] at H
                    have c10b0 : (Op.bytesLess (((rd_T184 l0 (ji7)).f0).toList) (((rd_T184 l0 x3_1).f0).toList)) = false := by simpa using c10
                    clear c10
                    obtain rfl := Option.some.inj H
                    have p122 : 0 ≤ (x3_1 : Int) := of_decide_eq_true (by first | (with_reducible assumption) | assumption)
                    have q122 : x3_1 < (l0.length : Int) := of_decide_eq_true (by first | (with_reducible assumption) | assumption)
                    obtain ⟨ad122, e122, hx122_0, hx122_1, hx122_2, hx122_3, hx122_4, hx122_5, hx122_6⟩ := at_T184 HR0.out x3_1 p122 q122
                    cases e122
                    replace p122 := eq_true p122
                    replace q122 := eq_true q122
                    have p124 : 0 ≤ ((ji7) : Int) := of_decide_eq_true (by first | (with_reducible assumption) | assumption)
                    have q124 : (ji7) < (l0.length : Int) := of_decide_eq_true (by first | (with_reducible assumption) | assumption)
                    obtain ⟨ad124, e124, hx124_0, hx124_1, hx124_2, hx124_3, hx124_4, hx124_5, hx124_6⟩ := at_T184 HR0.out (ji7) p124 q124
                    obtain rfl : ad122 = ad124 := (by injection e124)
                    replace p124 := eq_true p124
                    replace q124 := eq_true q124
                    have p125 : 0 ≤ (x3_1 : Int) := of_decide_eq_true (by first | (with_reducible assumption) | assumption)
                    have q125 : x3_1 < (l0.length : Int) := of_decide_eq_true (by first | (with_reducible assumption) | assumption)
                    obtain ⟨ad125, e125, hx125_0, hx125_1, hx125_2, hx125_3, hx125_4, hx125_5, hx125_6⟩ := at_T184 HR0.out x3_1 p125 q125
                    obtain rfl : ad122 = ad125 := (by injection e125)
                    replace p125 := eq_true p125
                    replace q125 := eq_true q125
                    go_wp2_with (first | (go_at_call 222; (first | (with_reducible refine (spec_l13One.calls k1 _ ((rd_T184 l0 x3_1).f0) ((rd_T184 l0 x3_1).f1) ((rd_T184 l0 x3_1).f2) ((rd_T184 l0 x3_1).f3) ((rd_T184 l0 x3_1).f4) ((rd_T184 l0 x3_1).f5) ((rd_T184 l0 x3_1).f6) true _ ?side1 A4.out).mono ?_) | ((try simp only [Go.IntWalk.i64_left]); (with_reducible refine (spec_l13One.calls k1 _ ((rd_T184 l0 x3_1).f0) ((rd_T184 l0 x3_1).f1) ((rd_T184 l0 x3_1).f2) ((rd_T184 l0 x3_1).f3) ((rd_T184 l0 x3_1).f4) ((rd_T184 l0 x3_1).f5) ((rd_T184 l0 x3_1).f6) true _ ?side1 A4.out).mono ?_))); (case side1 => exact ⟨hx122_0, hx122_1, hx122_2, hx122_3, hx122_4, hx122_5, hx122_6⟩); rintro e w' ⟨rfl, ⟨nd, rfl⟩⟩; (try first | exact ⟨rfl, _, World.drewN_drewN _ _ _⟩ | exact ⟨rfl, _, Eq.trans (World.drewN_drewN _ _ _) (congrArg (World.drewN _) (Nat.add_assoc _ _ _))⟩)))
                    repeat (go_quiet (first | (go_at_call 222; (first | (with_reducible refine (spec_l13One.calls k1 _ ((rd_T184 l0 x3_1).f0) ((rd_T184 l0 x3_1).f1) ((rd_T184 l0 x3_1).f2) ((rd_T184 l0 x3_1).f3) ((rd_T184 l0 x3_1).f4) ((rd_T184 l0 x3_1).f5) ((rd_T184 l0 x3_1).f6) true _ ?side1 A4.out).mono ?_) | ((try simp only [Go.IntWalk.i64_left]); (with_reducible refine (spec_l13One.calls k1 _ ((rd_T184 l0 x3_1).f0) ((rd_T184 l0 x3_1).f1) ((rd_T184 l0 x3_1).f2) ((rd_T184 l0 x3_1).f3) ((rd_T184 l0 x3_1).f4) ((rd_T184 l0 x3_1).f5) ((rd_T184 l0 x3_1).f6) true _ ?side1 A4.out).mono ?_))); (case side1 => exact ⟨hx122_0, hx122_1, hx122_2, hx122_3, hx122_4, hx122_5, hx122_6⟩); rintro e w' ⟨rfl, ⟨nd, rfl⟩⟩; (try first | exact ⟨rfl, _, World.drewN_drewN _ _ _⟩ | exact ⟨rfl, _, Eq.trans (World.drewN_drewN _ _ _) (congrArg (World.drewN _) (Nat.add_assoc _ _ _))⟩))); try go_wp2_with (first | (go_at_call 222; (first | (with_reducible refine (spec_l13One.calls k1 _ ((rd_T184 l0 x3_1).f0) ((rd_T184 l0 x3_1).f1) ((rd_T184 l0 x3_1).f2) ((rd_T184 l0 x3_1).f3) ((rd_T184 l0 x3_1).f4) ((rd_T184 l0 x3_1).f5) ((rd_T184 l0 x3_1).f6) true _ ?side1 A4.out).mono ?_) | ((try simp only [Go.IntWalk.i64_left]); (with_reducible refine (spec_l13One.calls k1 _ ((rd_T184 l0 x3_1).f0) ((rd_T184 l0 x3_1).f1) ((rd_T184 l0 x3_1).f2) ((rd_T184 l0 x3_1).f3) ((rd_T184 l0 x3_1).f4) ((rd_T184 l0 x3_1).f5) ((rd_T184 l0 x3_1).f6) true _ ?side1 A4.out).mono ?_))); (case side1 => exact ⟨hx122_0, hx122_1, hx122_2, hx122_3, hx122_4, hx122_5, hx122_6⟩); rintro e w' ⟨rfl, ⟨nd, rfl⟩⟩; (try first | exact ⟨rfl, _, World.drewN_drewN _ _ _⟩ | exact ⟨rfl, _, Eq.trans (World.drewN_drewN _ _ _) (congrArg (World.drewN _) (Nat.add_assoc _ _ _))⟩))))
                    go_ret
                    exact ⟨by first | rfl | (simp; done) | (simp only [← hji7] <;> (first | rfl | simp)) | (simp [*]; done), by repeat (first | exact Drawn0.refl _ | apply Drawn0.step)⟩
                · rw [if_neg c9] at H
                  exact absurd H (by simp)
              · rw [if_neg c8] at H
                exact absurd H (by simp)
            · rw [if_neg c6] at H
              have c6b0 : decide (0 < x3_1) = false := decide_eq_false c6
              clear c6
              have H' := Aside0.mk H
              clear H
              have p122 : 0 ≤ (x3_1 : Int) := of_decide_eq_true (by first | (with_reducible assumption) | assumption)
              have q122 : x3_1 < (l0.length : Int) := of_decide_eq_true (by first | (with_reducible assumption) | assumption)
              obtain ⟨ad122, e122, hx122_0, hx122_1, hx122_2, hx122_3, hx122_4, hx122_5, hx122_6⟩ := at_T184 HR0.out x3_1 p122 q122
              cases e122
              replace p122 := eq_true p122
              replace q122 := eq_true q122
              go_wp2_with (first | (go_at_call 222; (first | (with_reducible refine (spec_l13One.calls k1 _ ((rd_T184 l0 x3_1).f0) ((rd_T184 l0 x3_1).f1) ((rd_T184 l0 x3_1).f2) ((rd_T184 l0 x3_1).f3) ((rd_T184 l0 x3_1).f4) ((rd_T184 l0 x3_1).f5) ((rd_T184 l0 x3_1).f6) true _ ?side1 A4.out).mono ?_) | ((try simp only [Go.IntWalk.i64_left]); (with_reducible refine (spec_l13One.calls k1 _ ((rd_T184 l0 x3_1).f0) ((rd_T184 l0 x3_1).f1) ((rd_T184 l0 x3_1).f2) ((rd_T184 l0 x3_1).f3) ((rd_T184 l0 x3_1).f4) ((rd_T184 l0 x3_1).f5) ((rd_T184 l0 x3_1).f6) true _ ?side1 A4.out).mono ?_))); (case side1 => exact ⟨hx122_0, hx122_1, hx122_2, hx122_3, hx122_4, hx122_5, hx122_6⟩); rintro e w' ⟨rfl, ⟨nd, rfl⟩⟩; (try first | exact ⟨rfl, _, World.drewN_drewN _ _ _⟩ | exact ⟨rfl, _, Eq.trans (World.drewN_drewN _ _ _) (congrArg (World.drewN _) (Nat.add_assoc _ _ _))⟩)))
              repeat (go_quiet (first | (go_at_call 222; (first | (with_reducible refine (spec_l13One.calls k1 _ ((rd_T184 l0 x3_1).f0) ((rd_T184 l0 x3_1).f1) ((rd_T184 l0 x3_1).f2) ((rd_T184 l0 x3_1).f3) ((rd_T184 l0 x3_1).f4) ((rd_T184 l0 x3_1).f5) ((rd_T184 l0 x3_1).f6) true _ ?side1 A4.out).mono ?_) | ((try simp only [Go.IntWalk.i64_left]); (with_reducible refine (spec_l13One.calls k1 _ ((rd_T184 l0 x3_1).f0) ((rd_T184 l0 x3_1).f1) ((rd_T184 l0 x3_1).f2) ((rd_T184 l0 x3_1).f3) ((rd_T184 l0 x3_1).f4) ((rd_T184 l0 x3_1).f5) ((rd_T184 l0 x3_1).f6) true _ ?side1 A4.out).mono ?_))); (case side1 => exact ⟨hx122_0, hx122_1, hx122_2, hx122_3, hx122_4, hx122_5, hx122_6⟩); rintro e w' ⟨rfl, ⟨nd, rfl⟩⟩; (try first | exact ⟨rfl, _, World.drewN_drewN _ _ _⟩ | exact ⟨rfl, _, Eq.trans (World.drewN_drewN _ _ _) (congrArg (World.drewN _) (Nat.add_assoc _ _ _))⟩))); try go_wp2_with (first | (go_at_call 222; (first | (with_reducible refine (spec_l13One.calls k1 _ ((rd_T184 l0 x3_1).f0) ((rd_T184 l0 x3_1).f1) ((rd_T184 l0 x3_1).f2) ((rd_T184 l0 x3_1).f3) ((rd_T184 l0 x3_1).f4) ((rd_T184 l0 x3_1).f5) ((rd_T184 l0 x3_1).f6) true _ ?side1 A4.out).mono ?_) | ((try simp only [Go.IntWalk.i64_left]); (with_reducible refine (spec_l13One.calls k1 _ ((rd_T184 l0 x3_1).f0) ((rd_T184 l0 x3_1).f1) ((rd_T184 l0 x3_1).f2) ((rd_T184 l0 x3_1).f3) ((rd_T184 l0 x3_1).f4) ((rd_T184 l0 x3_1).f5) ((rd_T184 l0 x3_1).f6) true _ ?side1 A4.out).mono ?_))); (case side1 => exact ⟨hx122_0, hx122_1, hx122_2, hx122_3, hx122_4, hx122_5, hx122_6⟩); rintro e w' ⟨rfl, ⟨nd, rfl⟩⟩; (try first | exact ⟨rfl, _, World.drewN_drewN _ _ _⟩ | exact ⟨rfl, _, Eq.trans (World.drewN_drewN _ _ _) (congrArg (World.drewN _) (Nat.add_assoc _ _ _))⟩))))
              go_roundg k1
              case measure => have := HK1.out; omega
              case rel => exact ⟨(wrap64 (x3_1 + 1)), (by first | rfl | (simp; done) | (simp [*]; done)), H', ⟨by have := HK1.out; omega⟩, by repeat (first | exact Drawn0.refl _ | apply Drawn0.step)⟩
          · replace c5 := Bool.eq_false_iff.mpr c5
            subst c5
            have H1 : (some false) = some r := by rw [if_neg (show ¬ (false = true) by decide)] at H; exact H
            clear H
            have H := H1
            clear H1
            obtain rfl := Option.some.inj H
            have p122 : 0 ≤ (x3_1 : Int) := of_decide_eq_true (by first | (with_reducible assumption) | assumption)
            have q122 : x3_1 < (l0.length : Int) := of_decide_eq_true (by first | (with_reducible assumption) | assumption)
            obtain ⟨ad122, e122, hx122_0, hx122_1, hx122_2, hx122_3, hx122_4, hx122_5, hx122_6⟩ := at_T184 HR0.out x3_1 p122 q122
            cases e122
            replace p122 := eq_true p122
            replace q122 := eq_true q122
            go_wp2_with (first | (go_at_call 222; (first | (with_reducible refine (spec_l13One.calls k1 _ ((rd_T184 l0 x3_1).f0) ((rd_T184 l0 x3_1).f1) ((rd_T184 l0 x3_1).f2) ((rd_T184 l0 x3_1).f3) ((rd_T184 l0 x3_1).f4) ((rd_T184 l0 x3_1).f5) ((rd_T184 l0 x3_1).f6) false _ ?side1 A4.out).mono ?_) | ((try simp only [Go.IntWalk.i64_left]); (with_reducible refine (spec_l13One.calls k1 _ ((rd_T184 l0 x3_1).f0) ((rd_T184 l0 x3_1).f1) ((rd_T184 l0 x3_1).f2) ((rd_T184 l0 x3_1).f3) ((rd_T184 l0 x3_1).f4) ((rd_T184 l0 x3_1).f5) ((rd_T184 l0 x3_1).f6) false _ ?side1 A4.out).mono ?_))); (case side1 => exact ⟨hx122_0, hx122_1, hx122_2, hx122_3, hx122_4, hx122_5, hx122_6⟩); rintro e w' ⟨rfl, ⟨nd, rfl⟩⟩; (try first | exact ⟨rfl, _, World.drewN_drewN _ _ _⟩ | exact ⟨rfl, _, Eq.trans (World.drewN_drewN _ _ _) (congrArg (World.drewN _) (Nat.add_assoc _ _ _))⟩)))
            repeat (go_quiet (first | (go_at_call 222; (first | (with_reducible refine (spec_l13One.calls k1 _ ((rd_T184 l0 x3_1).f0) ((rd_T184 l0 x3_1).f1) ((rd_T184 l0 x3_1).f2) ((rd_T184 l0 x3_1).f3) ((rd_T184 l0 x3_1).f4) ((rd_T184 l0 x3_1).f5) ((rd_T184 l0 x3_1).f6) false _ ?side1 A4.out).mono ?_) | ((try simp only [Go.IntWalk.i64_left]); (with_reducible refine (spec_l13One.calls k1 _ ((rd_T184 l0 x3_1).f0) ((rd_T184 l0 x3_1).f1) ((rd_T184 l0 x3_1).f2) ((rd_T184 l0 x3_1).f3) ((rd_T184 l0 x3_1).f4) ((rd_T184 l0 x3_1).f5) ((rd_T184 l0 x3_1).f6) false _ ?side1 A4.out).mono ?_))); (case side1 => exact ⟨hx122_0, hx122_1, hx122_2, hx122_3, hx122_4, hx122_5, hx122_6⟩); rintro e w' ⟨rfl, ⟨nd, rfl⟩⟩; (try first | exact ⟨rfl, _, World.drewN_drewN _ _ _⟩ | exact ⟨rfl, _, Eq.trans (World.drewN_drewN _ _ _) (congrArg (World.drewN _) (Nat.add_assoc _ _ _))⟩))); try go_wp2_with (first | (go_at_call 222; (first | (with_reducible refine (spec_l13One.calls k1 _ ((rd_T184 l0 x3_1).f0) ((rd_T184 l0 x3_1).f1) ((rd_T184 l0 x3_1).f2) ((rd_T184 l0 x3_1).f3) ((rd_T184 l0 x3_1).f4) ((rd_T184 l0 x3_1).f5) ((rd_T184 l0 x3_1).f6) false _ ?side1 A4.out).mono ?_) | ((try simp only [Go.IntWalk.i64_left]); (with_reducible refine (spec_l13One.calls k1 _ ((rd_T184 l0 x3_1).f0) ((rd_T184 l0 x3_1).f1) ((rd_T184 l0 x3_1).f2) ((rd_T184 l0 x3_1).f3) ((rd_T184 l0 x3_1).f4) ((rd_T184 l0 x3_1).f5) ((rd_T184 l0 x3_1).f6) false _ ?side1 A4.out).mono ?_))); (case side1 => exact ⟨hx122_0, hx122_1, hx122_2, hx122_3, hx122_4, hx122_5, hx122_6⟩); rintro e w' ⟨rfl, ⟨nd, rfl⟩⟩; (try first | exact ⟨rfl, _, World.drewN_drewN _ _ _⟩ | exact ⟨rfl, _, Eq.trans (World.drewN_drewN _ _ _) (congrArg (World.drewN _) (Nat.add_assoc _ _ _))⟩))))
            go_ret
            exact ⟨by first | rfl | (simp; done) | (simp [*]; done), by repeat (first | exact Drawn0.refl _ | apply Drawn0.step)⟩
        · rw [if_neg c3] at H
          exact absurd H (by simp)
      · rw [if_neg c2] at H
        have c2b0 : decide (x3_1 < (l0.length : Int)) = false := decide_eq_false c2
        clear c2
        replace H := Option.bind_eq_some_iff.mp H
        obtain ⟨t126, A110, H⟩ := H
        replace H : (some t126) = some r := H
        have A11 := Aside0.mk A110
        clear A110
        obtain rfl := Option.some.inj H
        go_wp2_with (first | (go_at_call 106; (first | (with_reducible refine (spec_l00In.calls (l0.length : Int) 1 4 t126 _ A11.out).mono ?_) | ((try simp only [Go.IntWalk.i64_left]); (with_reducible refine (spec_l00In.calls (l0.length : Int) 1 4 t126 _ A11.out).mono ?_))); rintro e w' ⟨rfl, ⟨nd, rfl⟩⟩; (try first | exact ⟨rfl, _, World.drewN_drewN _ _ _⟩ | exact ⟨rfl, _, Eq.trans (World.drewN_drewN _ _ _) (congrArg (World.drewN _) (Nat.add_assoc _ _ _))⟩)))
        repeat (go_quiet (first | (go_at_call 106; (first | (with_reducible refine (spec_l00In.calls (l0.length : Int) 1 4 t126 _ A11.out).mono ?_) | ((try simp only [Go.IntWalk.i64_left]); (with_reducible refine (spec_l00In.calls (l0.length : Int) 1 4 t126 _ A11.out).mono ?_))); rintro e w' ⟨rfl, ⟨nd, rfl⟩⟩; (try first | exact ⟨rfl, _, World.drewN_drewN _ _ _⟩ | exact ⟨rfl, _, Eq.trans (World.drewN_drewN _ _ _) (congrArg (World.drewN _) (Nat.add_assoc _ _ _))⟩))); try go_wp2_with (first | (go_at_call 106; (first | (with_reducible refine (spec_l00In.calls (l0.length : Int) 1 4 t126 _ A11.out).mono ?_) | ((try simp only [Go.IntWalk.i64_left]); (with_reducible refine (spec_l00In.calls (l0.length : Int) 1 4 t126 _ A11.out).mono ?_))); rintro e w' ⟨rfl, ⟨nd, rfl⟩⟩; (try first | exact ⟨rfl, _, World.drewN_drewN _ _ _⟩ | exact ⟨rfl, _, Eq.trans (World.drewN_drewN _ _ _) (congrArg (World.drewN _) (Nat.add_assoc _ _ _))⟩))))
        go_ret
        exact ⟨by first | rfl | (simp; done) | (simp [*]; done), by repeat (first | exact Drawn0.refl _ | apply Drawn0.step)⟩

/-! ### spec_l13Demand: function 223 -/
def spec_l13Demand.f (a0 : Int) : Option (Bool) := (spec_l00In.f a0 0 400000).bind fun t127 => (some t127)
set_option maxHeartbeats 8000000 in
set_option maxRecDepth 100000 in
theorem spec_l13Demand.calls (a0 : Int) (r : Bool) (w : World) (h : spec_l13Demand.f a0 = some r) :
    Calls Try.prog 223 #[.int .i64 a0] w fun e w' => e = .returned (.bool r) ∧ Drawn0 w w' := by
  have H : ((spec_l00In.f a0 0 400000).bind fun t127 => (some t127)) = some r := h
  clear h
  replace H := Option.bind_eq_some_iff.mp H
  obtain ⟨t127, A20, H⟩ := H
  replace H : (some t127) = some r := H
  have A2 := Aside0.mk A20
  clear A20
  obtain rfl := Option.some.inj H
  go_enter Try.func223, Try.ntmps223
  go_wp2_with (first | ((with_reducible refine gate_callee (f := 106) rfl ?_); refine goesL_ (some 4) rfl rfl Try.func106 (by kernel_rfl) rfl #[.int .i64 a0, .int .i64 0, .int .i64 400000] rfl (by (try simp only [List.map_toArray, List.map_cons, List.map_nil]); first | done | rfl | (simp only [List.length_drop, List.length_take]; rfl)) ?_; (with_reducible refine (spec_l00In.calls a0 0 400000 t127 _ A2.out).mono ?_); rintro e w' ⟨rfl, ⟨nd, rfl⟩⟩; refine ⟨_, rfl, ?_⟩))
  go_ret
  exact ⟨by first | rfl | (simp; done) | (simp [*]; done), by repeat (first | exact Drawn0.refl _ | apply Drawn0.step)⟩

/-! ### spec_l13Demands: function 190 -/
def spec_l13Demands.l0 : Nat → List Int → Int → Option (Bool)
  | 0, _, _ => none
  | k + 1, x0, x3 => if x3 < (x0.length : Int) then (if 0 ≤ x3 then ((spec_l13Demand.f (rd x0 x3)).bind fun t129 => (if t129 = true then (spec_l13Demands.l0 k x0 (wrap64 (x3 + 1))) else (some false))) else (none)) else ((spec_l00In.f (x0.length : Int) 1 12).bind fun t130 => (some t130))
def spec_l13Demands.f (k : Nat) (l0 : List Int) : Option (Bool) := spec_l13Demands.l0 k l0 0
theorem spec_l13Demands.mono_l : ∀ k, (∀ y0 y1, LeO (spec_l13Demands.l0 k y0 y1) (spec_l13Demands.l0 (k + 1) y0 y1))
  | 0 => fun _ _ r h => by simp [spec_l13Demands.l0] at h
  | k + 1 => by
    have ih0 := spec_l13Demands.mono_l k
    · intro y0 y1
      unfold spec_l13Demands.l0
      repeat' first
      | (with_reducible exact ih0 _ _)
      | (with_reducible exact LeO.refl _)
      | (with_reducible exact LeO.none _)
      | (with_reducible refine LeO.ite ?_ ?_)
      | (with_reducible refine LeO.bind ?_ (fun _ => ?_))
      | exact ih0 _ _
      | exact LeO.none _
      | refine LeO.ite ?_ ?_
      | refine LeO.bind ?_ (fun _ => ?_)
theorem spec_l13Demands.mono : ∀ a0 k, LeO (spec_l13Demands.f k a0) (spec_l13Demands.f (k + 1) a0) := by
  intro a0 k
  have ih0 := spec_l13Demands.mono_l k
  unfold spec_l13Demands.f
  repeat' first
      | (with_reducible exact ih0 _ _)
      | (with_reducible exact LeO.refl _)
      | (with_reducible exact LeO.none _)
      | (with_reducible refine LeO.ite ?_ ?_)
      | (with_reducible refine LeO.bind ?_ (fun _ => ?_))
      | exact ih0 _ _
      | exact LeO.none _
      | refine LeO.ite ?_ ?_
      | refine LeO.bind ?_ (fun _ => ?_)
set_option maxHeartbeats 8000000 in
set_option maxRecDepth 100000 in
theorem spec_l13Demands.calls (k : Nat) (A0 : Option Addr) (c0 : Nat) (l0 : List Int) (r : Bool) (w : World) (hr0 : Kd.C (Kd.int .i64) w A0 l0.length l0) (hc0 : l0.length ≤ c0) (h : spec_l13Demands.f k l0 = some r) :
    Calls Try.prog 190 #[.slice A0 l0.length c0] w fun e w' => e = .returned (.bool r) ∧ Drawn0 w w' := by
  have HR0 := Aside0.mk hr0
  have HC0 := Aside0.mk hc0
  clear hr0 hc0
  have H : (spec_l13Demands.l0 k l0 0) = some r := h
  clear h
  have H' := Aside0.mk H
  clear H
  go_enter Try.func190, Try.ntmps190
  go_wp2
  go_loopg [3] k (fun kq v3 w' => ∃ (x3_1 : Int), v3 = .int .i64 x3_1 ∧ Aside0 (spec_l13Demands.l0 kq l0 x3_1 = some r) ∧ Aside0 (kq ≤ k) ∧ Drawn0 w w')
  case atStart => exact ⟨(0), (by first | rfl | (simp; done) | (simp [*]; done)), H', ⟨Nat.le_refl _⟩, by repeat (first | exact Drawn0.refl _ | apply Drawn0.step)⟩
  case round =>
    clear H'
    try clear c1
    obtain ⟨x3_1, rfl, HA, HK1, ⟨m1, rfl⟩⟩ := hrel
    cases gk with
    | zero => exact absurd HA.out (by simp [spec_l13Demands.l0])
    | succ k1 =>
      have H := HA.out
      clear HA
      simp only [spec_l13Demands.l0] at H
      by_cases c2 : x3_1 < (l0.length : Int)
      · rw [if_pos c2] at H
        have c2b0 : decide (x3_1 < (l0.length : Int)) = true := decide_eq_true c2
        clear c2
        by_cases c3 : 0 ≤ x3_1
        · rw [if_pos c3] at H
          have c3b0 : decide (0 ≤ x3_1) = true := decide_eq_true c3
          clear c3
          replace H := Option.bind_eq_some_iff.mp H
          obtain ⟨t129, A40, H⟩ := H
          replace H : (if t129 = true then (spec_l13Demands.l0 k1 l0 (wrap64 (x3_1 + 1))) else (some false)) = some r := H
          have A4 := Aside0.mk A40
          clear A40
          by_cases c5 : t129 = true
          · subst c5
            have H1 : (spec_l13Demands.l0 k1 l0 (wrap64 (x3_1 + 1))) = some r := by rw [if_pos rfl] at H; exact H
            clear H
            have H := H1
            clear H1
            have H' := Aside0.mk H
            clear H
            have p128 : 0 ≤ (x3_1 : Int) := of_decide_eq_true (by first | (with_reducible assumption) | assumption)
            have q128 : x3_1 < (l0.length : Int) := of_decide_eq_true (by first | (with_reducible assumption) | assumption)
            obtain ⟨ad128, e128, hx128_0⟩ := Kd.at_int HR0.out x3_1 p128 q128
            cases e128
            replace p128 := eq_true p128
            replace q128 := eq_true q128
            go_wp2_with (first | ((with_reducible refine gate_callee (f := 223) rfl ?_); refine goesL_ (some 14) rfl rfl Try.func223 (by kernel_rfl) rfl #[.int .i64 (rd l0 x3_1)] rfl (by (try simp only [List.map_toArray, List.map_cons, List.map_nil]); first | done | rfl | (simp only [List.length_drop, List.length_take]; rfl)) ?_; (with_reducible refine (spec_l13Demand.calls (rd l0 x3_1) true _ A4.out).mono ?_); rintro e w' ⟨rfl, ⟨nd, rfl⟩⟩; refine ⟨_, rfl, ?_⟩))
            go_roundg k1
            case measure => have := HK1.out; omega
            case rel => exact ⟨(wrap64 (x3_1 + 1)), (by first | rfl | (simp; done) | (simp [*]; done)), H', ⟨by have := HK1.out; omega⟩, by repeat (first | exact Drawn0.refl _ | apply Drawn0.step)⟩
          · replace c5 := Bool.eq_false_iff.mpr c5
            subst c5
            have H1 : (some false) = some r := by rw [if_neg (show ¬ (false = true) by decide)] at H; exact H
            clear H
            have H := H1
            clear H1
            obtain rfl := Option.some.inj H
            have p128 : 0 ≤ (x3_1 : Int) := of_decide_eq_true (by first | (with_reducible assumption) | assumption)
            have q128 : x3_1 < (l0.length : Int) := of_decide_eq_true (by first | (with_reducible assumption) | assumption)
            obtain ⟨ad128, e128, hx128_0⟩ := Kd.at_int HR0.out x3_1 p128 q128
            cases e128
            replace p128 := eq_true p128
            replace q128 := eq_true q128
            go_wp2_with (first | ((with_reducible refine gate_callee (f := 223) rfl ?_); refine goesL_ (some 14) rfl rfl Try.func223 (by kernel_rfl) rfl #[.int .i64 (rd l0 x3_1)] rfl (by (try simp only [List.map_toArray, List.map_cons, List.map_nil]); first | done | rfl | (simp only [List.length_drop, List.length_take]; rfl)) ?_; (with_reducible refine (spec_l13Demand.calls (rd l0 x3_1) false _ A4.out).mono ?_); rintro e w' ⟨rfl, ⟨nd, rfl⟩⟩; refine ⟨_, rfl, ?_⟩))
            go_ret
            exact ⟨by first | rfl | (simp; done) | (simp [*]; done), by repeat (first | exact Drawn0.refl _ | apply Drawn0.step)⟩
        · rw [if_neg c3] at H
          exact absurd H (by simp)
      · rw [if_neg c2] at H
        have c2b0 : decide (x3_1 < (l0.length : Int)) = false := decide_eq_false c2
        clear c2
        replace H := Option.bind_eq_some_iff.mp H
        obtain ⟨t130, A60, H⟩ := H
        replace H : (some t130) = some r := H
        have A6 := Aside0.mk A60
        clear A60
        obtain rfl := Option.some.inj H
        go_wp2_with (first | ((with_reducible refine gate_callee (f := 106) rfl ?_); refine goesL_ (some 18) rfl rfl Try.func106 (by kernel_rfl) rfl #[.int .i64 (l0.length : Int), .int .i64 1, .int .i64 12] rfl (by (try simp only [List.map_toArray, List.map_cons, List.map_nil]); first | done | rfl | (simp only [List.length_drop, List.length_take]; rfl)) ?_; (with_reducible refine (spec_l00In.calls (l0.length : Int) 1 12 t130 _ A6.out).mono ?_); rintro e w' ⟨rfl, ⟨nd, rfl⟩⟩; refine ⟨_, rfl, ?_⟩))
        go_ret
        exact ⟨by first | rfl | (simp; done) | (simp [*]; done), by repeat (first | exact Drawn0.refl _ | apply Drawn0.step)⟩

/-! ### spec_l15Ask: function 131 -/
def spec_l15Ask.f (k : Nat) (l0 : List (S184)) (l1 : List Int) : Option (Int) := (spec_l13Ok.f k l0).bind fun t131 => (if t131 = true then ((spec_l13Demands.f k l1).bind fun t132 => (if t132 = true then (some 0) else (some 7))) else (some 1))
theorem spec_l15Ask.mono : ∀ a0 a1 k, LeO (spec_l15Ask.f k a0 a1) (spec_l15Ask.f (k + 1) a0 a1) := by
  intro a0 a1 k
  unfold spec_l15Ask.f
  repeat' first
      | (with_reducible exact spec_l13Demands.mono _ _)
      | (with_reducible exact spec_l13Ok.mono _ _)
      | (with_reducible exact LeO.refl _)
      | (with_reducible exact LeO.none _)
      | (with_reducible refine LeO.ite ?_ ?_)
      | (with_reducible refine LeO.bind ?_ (fun _ => ?_))
      | exact spec_l13Demands.mono _ _
      | exact spec_l13Ok.mono _ _
      | exact LeO.none _
      | refine LeO.ite ?_ ?_
      | refine LeO.bind ?_ (fun _ => ?_)
set_option maxHeartbeats 8000000 in
set_option maxRecDepth 100000 in
theorem spec_l15Ask.calls (k : Nat) (A0 : Option Addr) (c0 : Nat) (l0 : List (S184)) (A1 : Option Addr) (c1 : Nat) (l1 : List Int) (r : Int) (w : World) (hr0 : Kd.C k184 w A0 l0.length l0) (hc0 : l0.length ≤ c0) (hr1 : Kd.C (Kd.int .i64) w A1 l1.length l1) (hc1 : l1.length ≤ c1) (h : spec_l15Ask.f k l0 l1 = some r) :
    Calls Try.prog 131 #[.slice A0 l0.length c0, .slice A1 l1.length c1] w fun e w' => e = .returned (.int .i64 r) ∧ Drawn0 w w' := by
  have HR0 := Aside0.mk hr0
  have HC0 := Aside0.mk hc0
  clear hr0 hc0
  have HR1 := Aside0.mk hr1
  have HC1 := Aside0.mk hc1
  clear hr1 hc1
  have H : ((spec_l13Ok.f k l0).bind fun t131 => (if t131 = true then ((spec_l13Demands.f k l1).bind fun t132 => (if t132 = true then (some 0) else (some 7))) else (some 1))) = some r := h
  clear h
  replace H := Option.bind_eq_some_iff.mp H
  obtain ⟨t131, A30, H⟩ := H
  replace H : (if t131 = true then ((spec_l13Demands.f k l1).bind fun t132 => (if t132 = true then (some 0) else (some 7))) else (some 1)) = some r := H
  have A3 := Aside0.mk A30
  clear A30
  by_cases c4 : t131 = true
  · subst c4
    have H1 : ((spec_l13Demands.f k l1).bind fun t132 => (if t132 = true then (some 0) else (some 7))) = some r := by rw [if_pos rfl] at H; exact H
    clear H
    have H := H1
    clear H1
    replace H := Option.bind_eq_some_iff.mp H
    obtain ⟨t132, A50, H⟩ := H
    replace H : (if t132 = true then (some 0) else (some 7)) = some r := H
    have A5 := Aside0.mk A50
    clear A50
    by_cases c6 : t132 = true
    · subst c6
      have H1 : (some 0) = some r := by rw [if_pos rfl] at H; exact H
      clear H
      have H := H1
      clear H1
      obtain rfl := Option.some.inj H
      go_enter Try.func131, Try.ntmps131
      go_wp2_with (first | ((with_reducible refine gate_callee (f := 189) rfl ?_); refine goesL_ (some 6) rfl rfl Try.func189 (by kernel_rfl) rfl #[.slice A0 l0.length c0] rfl (by (try simp only [List.map_toArray, List.map_cons, List.map_nil]); first | done | rfl | (simp only [List.length_drop, List.length_take]; rfl)) ?_; (with_reducible refine (spec_l13Ok.calls k _ _ l0 true _ ?side1 ?side2 A3.out).mono ?_); (case side1 => repeat (first | exact HR0.out | (with_reducible refine Kd.C_alloc ?_ _) | (with_reducible refine Kd.C_drewN ?_ _) | (with_reducible refine Kd.C_drew ?_))); (case side2 => exact HC0.out); rintro e w' ⟨rfl, ⟨nd, rfl⟩⟩; refine ⟨_, rfl, ?_⟩) | ((with_reducible refine gate_callee (f := 190) rfl ?_); refine goesL_ (some 9) rfl rfl Try.func190 (by kernel_rfl) rfl #[.slice A1 l1.length c1] rfl (by (try simp only [List.map_toArray, List.map_cons, List.map_nil]); first | done | rfl | (simp only [List.length_drop, List.length_take]; rfl)) ?_; (with_reducible refine (spec_l13Demands.calls k _ _ l1 true _ ?side1 ?side2 A5.out).mono ?_); (case side1 => repeat (first | exact HR1.out | (with_reducible refine Kd.C_alloc ?_ _) | (with_reducible refine Kd.C_drewN ?_ _) | (with_reducible refine Kd.C_drew ?_))); (case side2 => exact HC1.out); rintro e w' ⟨rfl, ⟨nd, rfl⟩⟩; refine ⟨_, rfl, ?_⟩))
      go_ret
      exact ⟨by first | rfl | (simp; done) | (simp [*]; done), by repeat (first | exact Drawn0.refl _ | apply Drawn0.step)⟩
    · replace c6 := Bool.eq_false_iff.mpr c6
      subst c6
      have H1 : (some 7) = some r := by rw [if_neg (show ¬ (false = true) by decide)] at H; exact H
      clear H
      have H := H1
      clear H1
      obtain rfl := Option.some.inj H
      go_enter Try.func131, Try.ntmps131
      go_wp2_with (first | ((with_reducible refine gate_callee (f := 189) rfl ?_); refine goesL_ (some 6) rfl rfl Try.func189 (by kernel_rfl) rfl #[.slice A0 l0.length c0] rfl (by (try simp only [List.map_toArray, List.map_cons, List.map_nil]); first | done | rfl | (simp only [List.length_drop, List.length_take]; rfl)) ?_; (with_reducible refine (spec_l13Ok.calls k _ _ l0 true _ ?side1 ?side2 A3.out).mono ?_); (case side1 => repeat (first | exact HR0.out | (with_reducible refine Kd.C_alloc ?_ _) | (with_reducible refine Kd.C_drewN ?_ _) | (with_reducible refine Kd.C_drew ?_))); (case side2 => exact HC0.out); rintro e w' ⟨rfl, ⟨nd, rfl⟩⟩; refine ⟨_, rfl, ?_⟩) | ((with_reducible refine gate_callee (f := 190) rfl ?_); refine goesL_ (some 9) rfl rfl Try.func190 (by kernel_rfl) rfl #[.slice A1 l1.length c1] rfl (by (try simp only [List.map_toArray, List.map_cons, List.map_nil]); first | done | rfl | (simp only [List.length_drop, List.length_take]; rfl)) ?_; (with_reducible refine (spec_l13Demands.calls k _ _ l1 false _ ?side1 ?side2 A5.out).mono ?_); (case side1 => repeat (first | exact HR1.out | (with_reducible refine Kd.C_alloc ?_ _) | (with_reducible refine Kd.C_drewN ?_ _) | (with_reducible refine Kd.C_drew ?_))); (case side2 => exact HC1.out); rintro e w' ⟨rfl, ⟨nd, rfl⟩⟩; refine ⟨_, rfl, ?_⟩))
      go_ret
      exact ⟨by first | rfl | (simp; done) | (simp [*]; done), by repeat (first | exact Drawn0.refl _ | apply Drawn0.step)⟩
  · replace c4 := Bool.eq_false_iff.mpr c4
    subst c4
    have H1 : (some 1) = some r := by rw [if_neg (show ¬ (false = true) by decide)] at H; exact H
    clear H
    have H := H1
    clear H1
    obtain rfl := Option.some.inj H
    go_enter Try.func131, Try.ntmps131
    go_wp2_with (first | ((with_reducible refine gate_callee (f := 189) rfl ?_); refine goesL_ (some 6) rfl rfl Try.func189 (by kernel_rfl) rfl #[.slice A0 l0.length c0] rfl (by (try simp only [List.map_toArray, List.map_cons, List.map_nil]); first | done | rfl | (simp only [List.length_drop, List.length_take]; rfl)) ?_; (with_reducible refine (spec_l13Ok.calls k _ _ l0 false _ ?side1 ?side2 A3.out).mono ?_); (case side1 => repeat (first | exact HR0.out | (with_reducible refine Kd.C_alloc ?_ _) | (with_reducible refine Kd.C_drewN ?_ _) | (with_reducible refine Kd.C_drew ?_))); (case side2 => exact HC0.out); rintro e w' ⟨rfl, ⟨nd, rfl⟩⟩; refine ⟨_, rfl, ?_⟩))
    go_ret
    exact ⟨by first | rfl | (simp; done) | (simp [*]; done), by repeat (first | exact Drawn0.refl _ | apply Drawn0.step)⟩

/-! ### spec_l00Min: function 191 -/
def spec_l00Min.f (a0 : Int) (a1 : Int) : Option (Int) := if a0 < a1 then (some a0) else (some a1)
set_option maxHeartbeats 8000000 in
set_option maxRecDepth 100000 in
theorem spec_l00Min.calls (a0 : Int) (a1 : Int) (r : Int) (w : World) (h : spec_l00Min.f a0 a1 = some r) :
    Calls Try.prog 191 #[.int .i64 a0, .int .i64 a1] w fun e w' => e = .returned (.int .i64 r) ∧ Drawn0 w w' := by
  have H : (if a0 < a1 then (some a0) else (some a1)) = some r := h
  clear h
  by_cases c3 : a0 < a1
  · rw [if_pos c3] at H
    have c3b0 : decide (a0 < a1) = true := decide_eq_true c3
    clear c3
    obtain rfl := Option.some.inj H
    go_enter Try.func191, Try.ntmps191
    go_wp2
    go_ret
    exact ⟨by first | rfl | (simp; done) | (simp [*]; done), by repeat (first | exact Drawn0.refl _ | apply Drawn0.step)⟩
  · rw [if_neg c3] at H
    have c3b0 : decide (a0 < a1) = false := decide_eq_false c3
    clear c3
    obtain rfl := Option.some.inj H
    go_enter Try.func191, Try.ntmps191
    go_wp2
    go_ret
    exact ⟨by first | rfl | (simp; done) | (simp [*]; done), by repeat (first | exact Drawn0.refl _ | apply Drawn0.step)⟩

end Go.Proofs.Ytglhbjmagfchiaa.QStartBound
