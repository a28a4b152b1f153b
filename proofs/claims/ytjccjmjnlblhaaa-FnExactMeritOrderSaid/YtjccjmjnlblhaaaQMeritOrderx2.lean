-- Written by press.py, a program of this session, round the kit's print.py (functions and contracts; Lean checks them).
import Derived.Test.YtjccjmjnlblhaaaQMeritOrderx0
import Derived.Test.YtjccjmjnlblhaaaQMeritOrderx1
namespace Go.Proofs.Ytjccjmjnlblhaaa.QMeritOrder
open Go.Proofs.Ytjccjmjnlblhaaa.QWords
attribute [local go_sem high] binOp_string_geq_q binOp_string_leq_q binOp_string_gtr_q
open Go.RowKit Go.Proofs.YtjccjmjnlblhaaaW.PrintWords Go.Proofs.YtjccjmjnlblhaaaW.PrintLast Go.Proofs.YtjccjmjnlblhaaaW.PrintMore
attribute [local go_sem] max2_int min2_int max_two min_two max_three min_three max_four min_four   -- for this text's walks alone
set_option linter.unusedVariables false
set_option linter.unusedSimpArgs false

/-! ### spec_l13One: function 167 -/
def spec_l13One.f (k : Nat) (a0_0 : ByteArray) (a0_1 : Int) (a0_2 : Int) (a0_3 : Int) (a0_4 : Int) (a0_5 : Int) (a0_6 : Int) : Option (Bool) := (spec_l01Name.f k a0_0).bind fun t107 => (if t107 = true then ((spec_l00In.f a0_1 0 100000).bind fun t108 => (if t108 = true then ((spec_l00Max.f 1 a0_1).bind fun t109 => ((spec_l00In.f a0_2 t109 100000).bind fun t110 => (if t110 = true then ((spec_l00In.f a0_3 0 100000).bind fun t111 => (if t111 = true then ((spec_l00In.f a0_4 0 100000000).bind fun t112 => (if t112 = true then ((spec_l00In.f a0_5 1 3).bind fun t113 => (if t113 = true then ((spec_l00In.f a0_6 1 3).bind fun t114 => (some t114)) else (some false))) else (some false))) else (some false))) else (some false)))) else (some false))) else (some false))
theorem spec_l13One.mono : ∀ a0 a1 a2 a3 a4 a5 a6 k, LeO (spec_l13One.f k a0 a1 a2 a3 a4 a5 a6) (spec_l13One.f (k + 1) a0 a1 a2 a3 a4 a5 a6) := by
  intro a0 a1 a2 a3 a4 a5 a6 k
  unfold spec_l13One.f
  repeat' first
      | (with_reducible exact spec_l01Name.mono _ _)
      | (with_reducible exact LeO.refl _)
      | (with_reducible exact LeO.none _)
      | (with_reducible refine LeO.ite ?_ ?_)
      | (with_reducible refine LeO.bind ?_ (fun _ => ?_))
      | exact spec_l01Name.mono _ _
      | exact LeO.none _
      | refine LeO.ite ?_ ?_
      | refine LeO.bind ?_ (fun _ => ?_)
set_option maxHeartbeats 8000000 in
set_option maxRecDepth 100000 in
theorem spec_l13One.calls (k : Nat) (ad0 : Addr) (a0_0 : ByteArray) (a0_1 : Int) (a0_2 : Int) (a0_3 : Int) (a0_4 : Int) (a0_5 : Int) (a0_6 : Int) (r : Bool) (w : World) (hx0 : w.cell? ad0 = some (.string a0_0) ∧ w.cell? ⟨ad0.block, ad0.off + 1, none⟩ = some (.int .i64 a0_1) ∧ w.cell? ⟨ad0.block, ad0.off + 2, none⟩ = some (.int .i64 a0_2) ∧ w.cell? ⟨ad0.block, ad0.off + 3, none⟩ = some (.int .i64 a0_3) ∧ w.cell? ⟨ad0.block, ad0.off + 4, none⟩ = some (.int .i64 a0_4) ∧ w.cell? ⟨ad0.block, ad0.off + 5, none⟩ = some (.int .i64 a0_5) ∧ w.cell? ⟨ad0.block, ad0.off + 6, none⟩ = some (.int .i64 a0_6)) (h : spec_l13One.f k a0_0 a0_1 a0_2 a0_3 a0_4 a0_5 a0_6 = some r) :
    Calls Try.prog 167 #[.pointer (some ad0)] w fun e w' => e = .returned (.bool r) ∧ Drawn0 w w' := by
  obtain ⟨hx0_0, hx0_1, hx0_2, hx0_3, hx0_4, hx0_5, hx0_6⟩ := hx0
  have HX0_0 := Aside0.mk hx0_0
  have HX0_1 := Aside0.mk hx0_1
  have HX0_2 := Aside0.mk hx0_2
  have HX0_3 := Aside0.mk hx0_3
  have HX0_4 := Aside0.mk hx0_4
  have HX0_5 := Aside0.mk hx0_5
  have HX0_6 := Aside0.mk hx0_6
  clear hx0_0 hx0_1 hx0_2 hx0_3 hx0_4 hx0_5 hx0_6
  have H : ((spec_l01Name.f k a0_0).bind fun t107 => (if t107 = true then ((spec_l00In.f a0_1 0 100000).bind fun t108 => (if t108 = true then ((spec_l00Max.f 1 a0_1).bind fun t109 => ((spec_l00In.f a0_2 t109 100000).bind fun t110 => (if t110 = true then ((spec_l00In.f a0_3 0 100000).bind fun t111 => (if t111 = true then ((spec_l00In.f a0_4 0 100000000).bind fun t112 => (if t112 = true then ((spec_l00In.f a0_5 1 3).bind fun t113 => (if t113 = true then ((spec_l00In.f a0_6 1 3).bind fun t114 => (some t114)) else (some false))) else (some false))) else (some false))) else (some false)))) else (some false))) else (some false))) = some r := h
  clear h
  replace H := Option.bind_eq_some_iff.mp H
  obtain ⟨t107, A20, H⟩ := H
  replace H : (if t107 = true then ((spec_l00In.f a0_1 0 100000).bind fun t108 => (if t108 = true then ((spec_l00Max.f 1 a0_1).bind fun t109 => ((spec_l00In.f a0_2 t109 100000).bind fun t110 => (if t110 = true then ((spec_l00In.f a0_3 0 100000).bind fun t111 => (if t111 = true then ((spec_l00In.f a0_4 0 100000000).bind fun t112 => (if t112 = true then ((spec_l00In.f a0_5 1 3).bind fun t113 => (if t113 = true then ((spec_l00In.f a0_6 1 3).bind fun t114 => (some t114)) else (some false))) else (some false))) else (some false))) else (some false)))) else (some false))) else (some false)) = some r := H
  have A2 := Aside0.mk A20
  clear A20
  by_cases c3 : t107 = true
  · subst c3
    have H1 : ((spec_l00In.f a0_1 0 100000).bind fun t108 => (if t108 = true then ((spec_l00Max.f 1 a0_1).bind fun t109 => ((spec_l00In.f a0_2 t109 100000).bind fun t110 => (if t110 = true then ((spec_l00In.f a0_3 0 100000).bind fun t111 => (if t111 = true then ((spec_l00In.f a0_4 0 100000000).bind fun t112 => (if t112 = true then ((spec_l00In.f a0_5 1 3).bind fun t113 => (if t113 = true then ((spec_l00In.f a0_6 1 3).bind fun t114 => (some t114)) else (some false))) else (some false))) else (some false))) else (some false)))) else (some false))) = some r := by rw [if_pos rfl] at H; exact H
    clear H
    have H := H1
    clear H1
    replace H := Option.bind_eq_some_iff.mp H
    obtain ⟨t108, A40, H⟩ := H
    replace H : (if t108 = true then ((spec_l00Max.f 1 a0_1).bind fun t109 => ((spec_l00In.f a0_2 t109 100000).bind fun t110 => (if t110 = true then ((spec_l00In.f a0_3 0 100000).bind fun t111 => (if t111 = true then ((spec_l00In.f a0_4 0 100000000).bind fun t112 => (if t112 = true then ((spec_l00In.f a0_5 1 3).bind fun t113 => (if t113 = true then ((spec_l00In.f a0_6 1 3).bind fun t114 => (some t114)) else (some false))) else (some false))) else (some false))) else (some false)))) else (some false)) = some r := H
    have A4 := Aside0.mk A40
    clear A40
    by_cases c5 : t108 = true
    · subst c5
      have H1 : ((spec_l00Max.f 1 a0_1).bind fun t109 => ((spec_l00In.f a0_2 t109 100000).bind fun t110 => (if t110 = true then ((spec_l00In.f a0_3 0 100000).bind fun t111 => (if t111 = true then ((spec_l00In.f a0_4 0 100000000).bind fun t112 => (if t112 = true then ((spec_l00In.f a0_5 1 3).bind fun t113 => (if t113 = true then ((spec_l00In.f a0_6 1 3).bind fun t114 => (some t114)) else (some false))) else (some false))) else (some false))) else (some false)))) = some r := by rw [if_pos rfl] at H; exact H
      clear H
      have H := H1
      clear H1
      replace H := Option.bind_eq_some_iff.mp H
      obtain ⟨t109, A60, H⟩ := H
      replace H : ((spec_l00In.f a0_2 t109 100000).bind fun t110 => (if t110 = true then ((spec_l00In.f a0_3 0 100000).bind fun t111 => (if t111 = true then ((spec_l00In.f a0_4 0 100000000).bind fun t112 => (if t112 = true then ((spec_l00In.f a0_5 1 3).bind fun t113 => (if t113 = true then ((spec_l00In.f a0_6 1 3).bind fun t114 => (some t114)) else (some false))) else (some false))) else (some false))) else (some false))) = some r := H
      have A6 := Aside0.mk A60
      clear A60
      replace H := Option.bind_eq_some_iff.mp H
      obtain ⟨t110, A70, H⟩ := H
      replace H : (if t110 = true then ((spec_l00In.f a0_3 0 100000).bind fun t111 => (if t111 = true then ((spec_l00In.f a0_4 0 100000000).bind fun t112 => (if t112 = true then ((spec_l00In.f a0_5 1 3).bind fun t113 => (if t113 = true then ((spec_l00In.f a0_6 1 3).bind fun t114 => (some t114)) else (some false))) else (some false))) else (some false))) else (some false)) = some r := H
      have A7 := Aside0.mk A70
      clear A70
      by_cases c8 : t110 = true
      · subst c8
        have H1 : ((spec_l00In.f a0_3 0 100000).bind fun t111 => (if t111 = true then ((spec_l00In.f a0_4 0 100000000).bind fun t112 => (if t112 = true then ((spec_l00In.f a0_5 1 3).bind fun t113 => (if t113 = true then ((spec_l00In.f a0_6 1 3).bind fun t114 => (some t114)) else (some false))) else (some false))) else (some false))) = some r := by rw [if_pos rfl] at H; exact H
        clear H
        have H := H1
        clear H1
        replace H := Option.bind_eq_some_iff.mp H
        obtain ⟨t111, A90, H⟩ := H
        replace H : (if t111 = true then ((spec_l00In.f a0_4 0 100000000).bind fun t112 => (if t112 = true then ((spec_l00In.f a0_5 1 3).bind fun t113 => (if t113 = true then ((spec_l00In.f a0_6 1 3).bind fun t114 => (some t114)) else (some false))) else (some false))) else (some false)) = some r := H
        have A9 := Aside0.mk A90
        clear A90
        by_cases c10 : t111 = true
        · subst c10
          have H1 : ((spec_l00In.f a0_4 0 100000000).bind fun t112 => (if t112 = true then ((spec_l00In.f a0_5 1 3).bind fun t113 => (if t113 = true then ((spec_l00In.f a0_6 1 3).bind fun t114 => (some t114)) else (some false))) else (some false))) = some r := by rw [if_pos rfl] at H; exact H
          clear H
          have H := H1
          clear H1
          replace H := Option.bind_eq_some_iff.mp H
          obtain ⟨t112, A110, H⟩ := H
          replace H : (if t112 = true then ((spec_l00In.f a0_5 1 3).bind fun t113 => (if t113 = true then ((spec_l00In.f a0_6 1 3).bind fun t114 => (some t114)) else (some false))) else (some false)) = some r := H
          have A11 := Aside0.mk A110
          clear A110
          by_cases c12 : t112 = true
          · subst c12
            have H1 : ((spec_l00In.f a0_5 1 3).bind fun t113 => (if t113 = true then ((spec_l00In.f a0_6 1 3).bind fun t114 => (some t114)) else (some false))) = some r := by rw [if_pos rfl] at H; exact H
            clear H
            have H := H1
            clear H1
            replace H := Option.bind_eq_some_iff.mp H
            obtain ⟨t113, A130, H⟩ := H
            replace H : (if t113 = true then ((spec_l00In.f a0_6 1 3).bind fun t114 => (some t114)) else (some false)) = some r := H
            have A13 := Aside0.mk A130
            clear A130
            by_cases c14 : t113 = true
            · subst c14
              have H1 : ((spec_l00In.f a0_6 1 3).bind fun t114 => (some t114)) = some r := by rw [if_pos rfl] at H; exact H
              clear H
              have H := H1
              clear H1
              replace H := Option.bind_eq_some_iff.mp H
              obtain ⟨t114, A150, H⟩ := H
              replace H : (some t114) = some r := H
              have A15 := Aside0.mk A150
              clear A150
              obtain rfl := Option.some.inj H
              have hz16_0 := HX0_0.out
              have hz16_1 := HX0_1.out
              have hz16_2 := HX0_2.out
              have hz16_3 := HX0_3.out
              have hz16_4 := HX0_4.out
              have hz16_5 := HX0_5.out
              have hz16_6 := HX0_6.out
              have hz17_0 := HX0_0.out
              have hz17_1 := HX0_1.out
              have hz17_2 := HX0_2.out
              have hz17_3 := HX0_3.out
              have hz17_4 := HX0_4.out
              have hz17_5 := HX0_5.out
              have hz17_6 := HX0_6.out
              have hz18_0 := HX0_0.out
              have hz18_1 := HX0_1.out
              have hz18_2 := HX0_2.out
              have hz18_3 := HX0_3.out
              have hz18_4 := HX0_4.out
              have hz18_5 := HX0_5.out
              have hz18_6 := HX0_6.out
              have hz19_0 := HX0_0.out
              have hz19_1 := HX0_1.out
              have hz19_2 := HX0_2.out
              have hz19_3 := HX0_3.out
              have hz19_4 := HX0_4.out
              have hz19_5 := HX0_5.out
              have hz19_6 := HX0_6.out
              have hz20_0 := HX0_0.out
              have hz20_1 := HX0_1.out
              have hz20_2 := HX0_2.out
              have hz20_3 := HX0_3.out
              have hz20_4 := HX0_4.out
              have hz20_5 := HX0_5.out
              have hz20_6 := HX0_6.out
              have hz21_0 := HX0_0.out
              have hz21_1 := HX0_1.out
              have hz21_2 := HX0_2.out
              have hz21_3 := HX0_3.out
              have hz21_4 := HX0_4.out
              have hz21_5 := HX0_5.out
              have hz21_6 := HX0_6.out
              have hz22_0 := HX0_0.out
              have hz22_1 := HX0_1.out
              have hz22_2 := HX0_2.out
              have hz22_3 := HX0_3.out
              have hz22_4 := HX0_4.out
              have hz22_5 := HX0_5.out
              have hz22_6 := HX0_6.out
              have hz23_0 := HX0_0.out
              have hz23_1 := HX0_1.out
              have hz23_2 := HX0_2.out
              have hz23_3 := HX0_3.out
              have hz23_4 := HX0_4.out
              have hz23_5 := HX0_5.out
              have hz23_6 := HX0_6.out
              go_enter Try.func167, Try.ntmps167
              go_wp2_with (first | (go_at_call 153; (first | (with_reducible refine (spec_l01Name.calls k a0_0 true _ A2.out).mono ?_) | ((try simp only [Go.IntWalk.i64_left]); (with_reducible refine (spec_l01Name.calls k a0_0 true _ A2.out).mono ?_))); rintro e w' ⟨rfl, ⟨nd, rfl⟩⟩; (try first | exact ⟨rfl, _, World.drewN_drewN _ _ _⟩ | exact ⟨rfl, _, Eq.trans (World.drewN_drewN _ _ _) (congrArg (World.drewN _) (Nat.add_assoc _ _ _))⟩)) | (go_at_call 94; (first | (with_reducible refine (spec_l00In.calls a0_1 0 100000 true _ A4.out).mono ?_) | ((try simp only [Go.IntWalk.i64_left]); (with_reducible refine (spec_l00In.calls a0_1 0 100000 true _ A4.out).mono ?_))); rintro e w' ⟨rfl, ⟨nd, rfl⟩⟩; (try first | exact ⟨rfl, _, World.drewN_drewN _ _ _⟩ | exact ⟨rfl, _, Eq.trans (World.drewN_drewN _ _ _) (congrArg (World.drewN _) (Nat.add_assoc _ _ _))⟩)) | (go_at_call 180; (first | (with_reducible refine (spec_l00Max.calls 1 a0_1 t109 _ A6.out).mono ?_) | ((try simp only [Go.IntWalk.i64_left]); (with_reducible refine (spec_l00Max.calls 1 a0_1 t109 _ A6.out).mono ?_))); rintro e w' ⟨rfl, ⟨nd, rfl⟩⟩; (try first | exact ⟨rfl, _, World.drewN_drewN _ _ _⟩ | exact ⟨rfl, _, Eq.trans (World.drewN_drewN _ _ _) (congrArg (World.drewN _) (Nat.add_assoc _ _ _))⟩)) | (go_at_call 94; (first | (with_reducible refine (spec_l00In.calls a0_2 t109 100000 true _ A7.out).mono ?_) | ((try simp only [Go.IntWalk.i64_left]); (with_reducible refine (spec_l00In.calls a0_2 t109 100000 true _ A7.out).mono ?_))); rintro e w' ⟨rfl, ⟨nd, rfl⟩⟩; (try first | exact ⟨rfl, _, World.drewN_drewN _ _ _⟩ | exact ⟨rfl, _, Eq.trans (World.drewN_drewN _ _ _) (congrArg (World.drewN _) (Nat.add_assoc _ _ _))⟩)) | (go_at_call 94; (first | (with_reducible refine (spec_l00In.calls a0_3 0 100000 true _ A9.out).mono ?_) | ((try simp only [Go.IntWalk.i64_left]); (with_reducible refine (spec_l00In.calls a0_3 0 100000 true _ A9.out).mono ?_))); rintro e w' ⟨rfl, ⟨nd, rfl⟩⟩; (try first | exact ⟨rfl, _, World.drewN_drewN _ _ _⟩ | exact ⟨rfl, _, Eq.trans (World.drewN_drewN _ _ _) (congrArg (World.drewN _) (Nat.add_assoc _ _ _))⟩)) | (go_at_call 94; (first | (with_reducible refine (spec_l00In.calls a0_4 0 100000000 true _ A11.out).mono ?_) | ((try simp only [Go.IntWalk.i64_left]); (with_reducible refine (spec_l00In.calls a0_4 0 100000000 true _ A11.out).mono ?_))); rintro e w' ⟨rfl, ⟨nd, rfl⟩⟩; (try first | exact ⟨rfl, _, World.drewN_drewN _ _ _⟩ | exact ⟨rfl, _, Eq.trans (World.drewN_drewN _ _ _) (congrArg (World.drewN _) (Nat.add_assoc _ _ _))⟩)) | (go_at_call 94; (first | (with_reducible refine (spec_l00In.calls a0_5 1 3 true _ A13.out).mono ?_) | ((try simp only [Go.IntWalk.i64_left]); (with_reducible refine (spec_l00In.calls a0_5 1 3 true _ A13.out).mono ?_))); rintro e w' ⟨rfl, ⟨nd, rfl⟩⟩; (try first | exact ⟨rfl, _, World.drewN_drewN _ _ _⟩ | exact ⟨rfl, _, Eq.trans (World.drewN_drewN _ _ _) (congrArg (World.drewN _) (Nat.add_assoc _ _ _))⟩)) | (go_at_call 94; (first | (with_reducible refine (spec_l00In.calls a0_6 1 3 t114 _ A15.out).mono ?_) | ((try simp only [Go.IntWalk.i64_left]); (with_reducible refine (spec_l00In.calls a0_6 1 3 t114 _ A15.out).mono ?_))); rintro e w' ⟨rfl, ⟨nd, rfl⟩⟩; (try first | exact ⟨rfl, _, World.drewN_drewN _ _ _⟩ | exact ⟨rfl, _, Eq.trans (World.drewN_drewN _ _ _) (congrArg (World.drewN _) (Nat.add_assoc _ _ _))⟩)))
              repeat (go_quiet (first | (go_at_call 153; (first | (with_reducible refine (spec_l01Name.calls k a0_0 true _ A2.out).mono ?_) | ((try simp only [Go.IntWalk.i64_left]); (with_reducible refine (spec_l01Name.calls k a0_0 true _ A2.out).mono ?_))); rintro e w' ⟨rfl, ⟨nd, rfl⟩⟩; (try first | exact ⟨rfl, _, World.drewN_drewN _ _ _⟩ | exact ⟨rfl, _, Eq.trans (World.drewN_drewN _ _ _) (congrArg (World.drewN _) (Nat.add_assoc _ _ _))⟩)) | (go_at_call 94; (first | (with_reducible refine (spec_l00In.calls a0_1 0 100000 true _ A4.out).mono ?_) | ((try simp only [Go.IntWalk.i64_left]); (with_reducible refine (spec_l00In.calls a0_1 0 100000 true _ A4.out).mono ?_))); rintro e w' ⟨rfl, ⟨nd, rfl⟩⟩; (try first | exact ⟨rfl, _, World.drewN_drewN _ _ _⟩ | exact ⟨rfl, _, Eq.trans (World.drewN_drewN _ _ _) (congrArg (World.drewN _) (Nat.add_assoc _ _ _))⟩)) | (go_at_call 180; (first | (with_reducible refine (spec_l00Max.calls 1 a0_1 t109 _ A6.out).mono ?_) | ((try simp only [Go.IntWalk.i64_left]); (with_reducible refine (spec_l00Max.calls 1 a0_1 t109 _ A6.out).mono ?_))); rintro e w' ⟨rfl, ⟨nd, rfl⟩⟩; (try first | exact ⟨rfl, _, World.drewN_drewN _ _ _⟩ | exact ⟨rfl, _, Eq.trans (World.drewN_drewN _ _ _) (congrArg (World.drewN _) (Nat.add_assoc _ _ _))⟩)) | (go_at_call 94; (first | (with_reducible refine (spec_l00In.calls a0_2 t109 100000 true _ A7.out).mono ?_) | ((try simp only [Go.IntWalk.i64_left]); (with_reducible refine (spec_l00In.calls a0_2 t109 100000 true _ A7.out).mono ?_))); rintro e w' ⟨rfl, ⟨nd, rfl⟩⟩; (try first | exact ⟨rfl, _, World.drewN_drewN _ _ _⟩ | exact ⟨rfl, _, Eq.trans (World.drewN_drewN _ _ _) (congrArg (World.drewN _) (Nat.add_assoc _ _ _))⟩)) | (go_at_call 94; (first | (with_reducible refine (spec_l00In.calls a0_3 0 100000 true _ A9.out).mono ?_) | ((try simp only [Go.IntWalk.i64_left]); (with_reducible refine (spec_l00In.calls a0_3 0 100000 true _ A9.out).mono ?_))); rintro e w' ⟨rfl, ⟨nd, rfl⟩⟩; (try first | exact ⟨rfl, _, World.drewN_drewN _ _ _⟩ | exact ⟨rfl, _, Eq.trans (World.drewN_drewN _ _ _) (congrArg (World.drewN _) (Nat.add_assoc _ _ _))⟩)) | (go_at_call 94; (first | (with_reducible refine (spec_l00In.calls a0_4 0 100000000 true _ A11.out).mono ?_) | ((try simp only [Go.IntWalk.i64_left]); (with_reducible refine (spec_l00In.calls a0_4 0 100000000 true _ A11.out).mono ?_))); rintro e w' ⟨rfl, ⟨nd, rfl⟩⟩; (try first | exact ⟨rfl, _, World.drewN_drewN _ _ _⟩ | exact ⟨rfl, _, Eq.trans (World.drewN_drewN _ _ _) (congrArg (World.drewN _) (Nat.add_assoc _ _ _))⟩)) | (go_at_call 94; (first | (with_reducible refine (spec_l00In.calls a0_5 1 3 true _ A13.out).mono ?_) | ((try simp only [Go.IntWalk.i64_left]); (with_reducible refine (spec_l00In.calls a0_5 1 3 true _ A13.out).mono ?_))); rintro e w' ⟨rfl, ⟨nd, rfl⟩⟩; (try first | exact ⟨rfl, _, World.drewN_drewN _ _ _⟩ | exact ⟨rfl, _, Eq.trans (World.drewN_drewN _ _ _) (congrArg (World.drewN _) (Nat.add_assoc _ _ _))⟩)) | (go_at_call 94; (first | (with_reducible refine (spec_l00In.calls a0_6 1 3 t114 _ A15.out).mono ?_) | ((try simp only [Go.IntWalk.i64_left]); (with_reducible refine (spec_l00In.calls a0_6 1 3 t114 _ A15.out).mono ?_))); rintro e w' ⟨rfl, ⟨nd, rfl⟩⟩; (try first | exact ⟨rfl, _, World.drewN_drewN _ _ _⟩ | exact ⟨rfl, _, Eq.trans (World.drewN_drewN _ _ _) (congrArg (World.drewN _) (Nat.add_assoc _ _ _))⟩))); try go_wp2_with (first | (go_at_call 153; (first | (with_reducible refine (spec_l01Name.calls k a0_0 true _ A2.out).mono ?_) | ((try simp only [Go.IntWalk.i64_left]); (with_reducible refine (spec_l01Name.calls k a0_0 true _ A2.out).mono ?_))); rintro e w' ⟨rfl, ⟨nd, rfl⟩⟩; (try first | exact ⟨rfl, _, World.drewN_drewN _ _ _⟩ | exact ⟨rfl, _, Eq.trans (World.drewN_drewN _ _ _) (congrArg (World.drewN _) (Nat.add_assoc _ _ _))⟩)) | (go_at_call 94; (first | (with_reducible refine (spec_l00In.calls a0_1 0 100000 true _ A4.out).mono ?_) | ((try simp only [Go.IntWalk.i64_left]); (with_reducible refine (spec_l00In.calls a0_1 0 100000 true _ A4.out).mono ?_))); rintro e w' ⟨rfl, ⟨nd, rfl⟩⟩; (try first | exact ⟨rfl, _, World.drewN_drewN _ _ _⟩ | exact ⟨rfl, _, Eq.trans (World.drewN_drewN _ _ _) (congrArg (World.drewN _) (Nat.add_assoc _ _ _))⟩)) | (go_at_call 180; (first | (with_reducible refine (spec_l00Max.calls 1 a0_1 t109 _ A6.out).mono ?_) | ((try simp only [Go.IntWalk.i64_left]); (with_reducible refine (spec_l00Max.calls 1 a0_1 t109 _ A6.out).mono ?_))); rintro e w' ⟨rfl, ⟨nd, rfl⟩⟩; (try first | exact ⟨rfl, _, World.drewN_drewN _ _ _⟩ | exact ⟨rfl, _, Eq.trans (World.drewN_drewN _ _ _) (congrArg (World.drewN _) (Nat.add_assoc _ _ _))⟩)) | (go_at_call 94; (first | (with_reducible refine (spec_l00In.calls a0_2 t109 100000 true _ A7.out).mono ?_) | ((try simp only [Go.IntWalk.i64_left]); (with_reducible refine (spec_l00In.calls a0_2 t109 100000 true _ A7.out).mono ?_))); rintro e w' ⟨rfl, ⟨nd, rfl⟩⟩; (try first | exact ⟨rfl, _, World.drewN_drewN _ _ _⟩ | exact ⟨rfl, _, Eq.trans (World.drewN_drewN _ _ _) (congrArg (World.drewN _) (Nat.add_assoc _ _ _))⟩)) | (go_at_call 94; (first | (with_reducible refine (spec_l00In.calls a0_3 0 100000 true _ A9.out).mono ?_) | ((try simp only [Go.IntWalk.i64_left]); (with_reducible refine (spec_l00In.calls a0_3 0 100000 true _ A9.out).mono ?_))); rintro e w' ⟨rfl, ⟨nd, rfl⟩⟩; (try first | exact ⟨rfl, _, World.drewN_drewN _ _ _⟩ | exact ⟨rfl, _, Eq.trans (World.drewN_drewN _ _ _) (congrArg (World.drewN _) (Nat.add_assoc _ _ _))⟩)) | (go_at_call 94; (first | (with_reducible refine (spec_l00In.calls a0_4 0 100000000 true _ A11.out).mono ?_) | ((try simp only [Go.IntWalk.i64_left]); (with_reducible refine (spec_l00In.calls a0_4 0 100000000 true _ A11.out).mono ?_))); rintro e w' ⟨rfl, ⟨nd, rfl⟩⟩; (try first | exact ⟨rfl, _, World.drewN_drewN _ _ _⟩ | exact ⟨rfl, _, Eq.trans (World.drewN_drewN _ _ _) (congrArg (World.drewN _) (Nat.add_assoc _ _ _))⟩)) | (go_at_call 94; (first | (with_reducible refine (spec_l00In.calls a0_5 1 3 true _ A13.out).mono ?_) | ((try simp only [Go.IntWalk.i64_left]); (with_reducible refine (spec_l00In.calls a0_5 1 3 true _ A13.out).mono ?_))); rintro e w' ⟨rfl, ⟨nd, rfl⟩⟩; (try first | exact ⟨rfl, _, World.drewN_drewN _ _ _⟩ | exact ⟨rfl, _, Eq.trans (World.drewN_drewN _ _ _) (congrArg (World.drewN _) (Nat.add_assoc _ _ _))⟩)) | (go_at_call 94; (first | (with_reducible refine (spec_l00In.calls a0_6 1 3 t114 _ A15.out).mono ?_) | ((try simp only [Go.IntWalk.i64_left]); (with_reducible refine (spec_l00In.calls a0_6 1 3 t114 _ A15.out).mono ?_))); rintro e w' ⟨rfl, ⟨nd, rfl⟩⟩; (try first | exact ⟨rfl, _, World.drewN_drewN _ _ _⟩ | exact ⟨rfl, _, Eq.trans (World.drewN_drewN _ _ _) (congrArg (World.drewN _) (Nat.add_assoc _ _ _))⟩))))
              go_ret
              exact ⟨by first | rfl | (simp; done) | (simp [*]; done), by repeat (first | exact Drawn0.refl _ | apply Drawn0.step)⟩
            · replace c14 := Bool.eq_false_iff.mpr c14
              subst c14
              have H1 : (some false) = some r := by rw [if_neg (show ¬ (false = true) by decide)] at H; exact H
              clear H
              have H := H1
              clear H1
              obtain rfl := Option.some.inj H
              have hz24_0 := HX0_0.out
              have hz24_1 := HX0_1.out
              have hz24_2 := HX0_2.out
              have hz24_3 := HX0_3.out
              have hz24_4 := HX0_4.out
              have hz24_5 := HX0_5.out
              have hz24_6 := HX0_6.out
              have hz25_0 := HX0_0.out
              have hz25_1 := HX0_1.out
              have hz25_2 := HX0_2.out
              have hz25_3 := HX0_3.out
              have hz25_4 := HX0_4.out
              have hz25_5 := HX0_5.out
              have hz25_6 := HX0_6.out
              have hz26_0 := HX0_0.out
              have hz26_1 := HX0_1.out
              have hz26_2 := HX0_2.out
              have hz26_3 := HX0_3.out
              have hz26_4 := HX0_4.out
              have hz26_5 := HX0_5.out
              have hz26_6 := HX0_6.out
              have hz27_0 := HX0_0.out
              have hz27_1 := HX0_1.out
              have hz27_2 := HX0_2.out
              have hz27_3 := HX0_3.out
              have hz27_4 := HX0_4.out
              have hz27_5 := HX0_5.out
              have hz27_6 := HX0_6.out
              have hz28_0 := HX0_0.out
              have hz28_1 := HX0_1.out
              have hz28_2 := HX0_2.out
              have hz28_3 := HX0_3.out
              have hz28_4 := HX0_4.out
              have hz28_5 := HX0_5.out
              have hz28_6 := HX0_6.out
              have hz29_0 := HX0_0.out
              have hz29_1 := HX0_1.out
              have hz29_2 := HX0_2.out
              have hz29_3 := HX0_3.out
              have hz29_4 := HX0_4.out
              have hz29_5 := HX0_5.out
              have hz29_6 := HX0_6.out
              have hz30_0 := HX0_0.out
              have hz30_1 := HX0_1.out
              have hz30_2 := HX0_2.out
              have hz30_3 := HX0_3.out
              have hz30_4 := HX0_4.out
              have hz30_5 := HX0_5.out
              have hz30_6 := HX0_6.out
              go_enter Try.func167, Try.ntmps167
              go_wp2_with (first | (go_at_call 153; (first | (with_reducible refine (spec_l01Name.calls k a0_0 true _ A2.out).mono ?_) | ((try simp only [Go.IntWalk.i64_left]); (with_reducible refine (spec_l01Name.calls k a0_0 true _ A2.out).mono ?_))); rintro e w' ⟨rfl, ⟨nd, rfl⟩⟩; (try first | exact ⟨rfl, _, World.drewN_drewN _ _ _⟩ | exact ⟨rfl, _, Eq.trans (World.drewN_drewN _ _ _) (congrArg (World.drewN _) (Nat.add_assoc _ _ _))⟩)) | (go_at_call 94; (first | (with_reducible refine (spec_l00In.calls a0_1 0 100000 true _ A4.out).mono ?_) | ((try simp only [Go.IntWalk.i64_left]); (with_reducible refine (spec_l00In.calls a0_1 0 100000 true _ A4.out).mono ?_))); rintro e w' ⟨rfl, ⟨nd, rfl⟩⟩; (try first | exact ⟨rfl, _, World.drewN_drewN _ _ _⟩ | exact ⟨rfl, _, Eq.trans (World.drewN_drewN _ _ _) (congrArg (World.drewN _) (Nat.add_assoc _ _ _))⟩)) | (go_at_call 180; (first | (with_reducible refine (spec_l00Max.calls 1 a0_1 t109 _ A6.out).mono ?_) | ((try simp only [Go.IntWalk.i64_left]); (with_reducible refine (spec_l00Max.calls 1 a0_1 t109 _ A6.out).mono ?_))); rintro e w' ⟨rfl, ⟨nd, rfl⟩⟩; (try first | exact ⟨rfl, _, World.drewN_drewN _ _ _⟩ | exact ⟨rfl, _, Eq.trans (World.drewN_drewN _ _ _) (congrArg (World.drewN _) (Nat.add_assoc _ _ _))⟩)) | (go_at_call 94; (first | (with_reducible refine (spec_l00In.calls a0_2 t109 100000 true _ A7.out).mono ?_) | ((try simp only [Go.IntWalk.i64_left]); (with_reducible refine (spec_l00In.calls a0_2 t109 100000 true _ A7.out).mono ?_))); rintro e w' ⟨rfl, ⟨nd, rfl⟩⟩; (try first | exact ⟨rfl, _, World.drewN_drewN _ _ _⟩ | exact ⟨rfl, _, Eq.trans (World.drewN_drewN _ _ _) (congrArg (World.drewN _) (Nat.add_assoc _ _ _))⟩)) | (go_at_call 94; (first | (with_reducible refine (spec_l00In.calls a0_3 0 100000 true _ A9.out).mono ?_) | ((try simp only [Go.IntWalk.i64_left]); (with_reducible refine (spec_l00In.calls a0_3 0 100000 true _ A9.out).mono ?_))); rintro e w' ⟨rfl, ⟨nd, rfl⟩⟩; (try first | exact ⟨rfl, _, World.drewN_drewN _ _ _⟩ | exact ⟨rfl, _, Eq.trans (World.drewN_drewN _ _ _) (congrArg (World.drewN _) (Nat.add_assoc _ _ _))⟩)) | (go_at_call 94; (first | (with_reducible refine (spec_l00In.calls a0_4 0 100000000 true _ A11.out).mono ?_) | ((try simp only [Go.IntWalk.i64_left]); (with_reducible refine (spec_l00In.calls a0_4 0 100000000 true _ A11.out).mono ?_))); rintro e w' ⟨rfl, ⟨nd, rfl⟩⟩; (try first | exact ⟨rfl, _, World.drewN_drewN _ _ _⟩ | exact ⟨rfl, _, Eq.trans (World.drewN_drewN _ _ _) (congrArg (World.drewN _) (Nat.add_assoc _ _ _))⟩)) | (go_at_call 94; (first | (with_reducible refine (spec_l00In.calls a0_5 1 3 false _ A13.out).mono ?_) | ((try simp only [Go.IntWalk.i64_left]); (with_reducible refine (spec_l00In.calls a0_5 1 3 false _ A13.out).mono ?_))); rintro e w' ⟨rfl, ⟨nd, rfl⟩⟩; (try first | exact ⟨rfl, _, World.drewN_drewN _ _ _⟩ | exact ⟨rfl, _, Eq.trans (World.drewN_drewN _ _ _) (congrArg (World.drewN _) (Nat.add_assoc _ _ _))⟩)))
              repeat (go_quiet (first | (go_at_call 153; (first | (with_reducible refine (spec_l01Name.calls k a0_0 true _ A2.out).mono ?_) | ((try simp only [Go.IntWalk.i64_left]); (with_reducible refine (spec_l01Name.calls k a0_0 true _ A2.out).mono ?_))); rintro e w' ⟨rfl, ⟨nd, rfl⟩⟩; (try first | exact ⟨rfl, _, World.drewN_drewN _ _ _⟩ | exact ⟨rfl, _, Eq.trans (World.drewN_drewN _ _ _) (congrArg (World.drewN _) (Nat.add_assoc _ _ _))⟩)) | (go_at_call 94; (first | (with_reducible refine (spec_l00In.calls a0_1 0 100000 true _ A4.out).mono ?_) | ((try simp only [Go.IntWalk.i64_left]); (with_reducible refine (spec_l00In.calls a0_1 0 100000 true _ A4.out).mono ?_))); rintro e w' ⟨rfl, ⟨nd, rfl⟩⟩; (try first | exact ⟨rfl, _, World.drewN_drewN _ _ _⟩ | exact ⟨rfl, _, Eq.trans (World.drewN_drewN _ _ _) (congrArg (World.drewN _) (Nat.add_assoc _ _ _))⟩)) | (go_at_call 180; (first | (with_reducible refine (spec_l00Max.calls 1 a0_1 t109 _ A6.out).mono ?_) | ((try simp only [Go.IntWalk.i64_left]); (with_reducible refine (spec_l00Max.calls 1 a0_1 t109 _ A6.out).mono ?_))); rintro e w' ⟨rfl, ⟨nd, rfl⟩⟩; (try first | exact ⟨rfl, _, World.drewN_drewN _ _ _⟩ | exact ⟨rfl, _, Eq.trans (World.drewN_drewN _ _ _) (congrArg (World.drewN _) (Nat.add_assoc _ _ _))⟩)) | (go_at_call 94; (first | (with_reducible refine (spec_l00In.calls a0_2 t109 100000 true _ A7.out).mono ?_) | ((try simp only [Go.IntWalk.i64_left]); (with_reducible refine (spec_l00In.calls a0_2 t109 100000 true _ A7.out).mono ?_))); rintro e w' ⟨rfl, ⟨nd, rfl⟩⟩; (try first | exact ⟨rfl, _, World.drewN_drewN _ _ _⟩ | exact ⟨rfl, _, Eq.trans (World.drewN_drewN _ _ _) (congrArg (World.drewN _) (Nat.add_assoc _ _ _))⟩)) | (go_at_call 94; (first | (with_reducible refine (spec_l00In.calls a0_3 0 100000 true _ A9.out).mono ?_) | ((try simp only [Go.IntWalk.i64_left]); (with_reducible refine (spec_l00In.calls a0_3 0 100000 true _ A9.out).mono ?_))); rintro e w' ⟨rfl, ⟨nd, rfl⟩⟩; (try first | exact ⟨rfl, _, World.drewN_drewN _ _ _⟩ | exact ⟨rfl, _, Eq.trans (World.drewN_drewN _ _ _) (congrArg (World.drewN _) (Nat.add_assoc _ _ _))⟩)) | (go_at_call 94; (first | (with_reducible refine (spec_l00In.calls a0_4 0 100000000 true _ A11.out).mono ?_) | ((try simp only [Go.IntWalk.i64_left]); (with_reducible refine (spec_l00In.calls a0_4 0 100000000 true _ A11.out).mono ?_))); rintro e w' ⟨rfl, ⟨nd, rfl⟩⟩; (try first | exact ⟨rfl, _, World.drewN_drewN _ _ _⟩ | exact ⟨rfl, _, Eq.trans (World.drewN_drewN _ _ _) (congrArg (World.drewN _) (Nat.add_assoc _ _ _))⟩)) | (go_at_call 94; (first | (with_reducible refine (spec_l00In.calls a0_5 1 3 false _ A13.out).mono ?_) | ((try simp only [Go.IntWalk.i64_left]); (with_reducible refine (spec_l00In.calls a0_5 1 3 false _ A13.out).mono ?_))); rintro e w' ⟨rfl, ⟨nd, rfl⟩⟩; (try first | exact ⟨rfl, _, World.drewN_drewN _ _ _⟩ | exact ⟨rfl, _, Eq.trans (World.drewN_drewN _ _ _) (congrArg (World.drewN _) (Nat.add_assoc _ _ _))⟩))); try go_wp2_with (first | (go_at_call 153; (first | (with_reducible refine (spec_l01Name.calls k a0_0 true _ A2.out).mono ?_) | ((try simp only [Go.IntWalk.i64_left]); (with_reducible refine (spec_l01Name.calls k a0_0 true _ A2.out).mono ?_))); rintro e w' ⟨rfl, ⟨nd, rfl⟩⟩; (try first | exact ⟨rfl, _, World.drewN_drewN _ _ _⟩ | exact ⟨rfl, _, Eq.trans (World.drewN_drewN _ _ _) (congrArg (World.drewN _) (Nat.add_assoc _ _ _))⟩)) | (go_at_call 94; (first | (with_reducible refine (spec_l00In.calls a0_1 0 100000 true _ A4.out).mono ?_) | ((try simp only [Go.IntWalk.i64_left]); (with_reducible refine (spec_l00In.calls a0_1 0 100000 true _ A4.out).mono ?_))); rintro e w' ⟨rfl, ⟨nd, rfl⟩⟩; (try first | exact ⟨rfl, _, World.drewN_drewN _ _ _⟩ | exact ⟨rfl, _, Eq.trans (World.drewN_drewN _ _ _) (congrArg (World.drewN _) (Nat.add_assoc _ _ _))⟩)) | (go_at_call 180; (first | (with_reducible refine (spec_l00Max.calls 1 a0_1 t109 _ A6.out).mono ?_) | ((try simp only [Go.IntWalk.i64_left]); (with_reducible refine (spec_l00Max.calls 1 a0_1 t109 _ A6.out).mono ?_))); rintro e w' ⟨rfl, ⟨nd, rfl⟩⟩; (try first | exact ⟨rfl, _, World.drewN_drewN _ _ _⟩ | exact ⟨rfl, _, Eq.trans (World.drewN_drewN _ _ _) (congrArg (World.drewN _) (Nat.add_assoc _ _ _))⟩)) | (go_at_call 94; (first | (with_reducible refine (spec_l00In.calls a0_2 t109 100000 true _ A7.out).mono ?_) | ((try simp only [Go.IntWalk.i64_left]); (with_reducible refine (spec_l00In.calls a0_2 t109 100000 true _ A7.out).mono ?_))); rintro e w' ⟨rfl, ⟨nd, rfl⟩⟩; (try first | exact ⟨rfl, _, World.drewN_drewN _ _ _⟩ | exact ⟨rfl, _, Eq.trans (World.drewN_drewN _ _ _) (congrArg (World.drewN _) (Nat.add_assoc _ _ _))⟩)) | (go_at_call 94; (first | (with_reducible refine (spec_l00In.calls a0_3 0 100000 true _ A9.out).mono ?_) | ((try simp only [Go.IntWalk.i64_left]); (with_reducible refine (spec_l00In.calls a0_3 0 100000 true _ A9.out).mono ?_))); rintro e w' ⟨rfl, ⟨nd, rfl⟩⟩; (try first | exact ⟨rfl, _, World.drewN_drewN _ _ _⟩ | exact ⟨rfl, _, Eq.trans (World.drewN_drewN _ _ _) (congrArg (World.drewN _) (Nat.add_assoc _ _ _))⟩)) | (go_at_call 94; (first | (with_reducible refine (spec_l00In.calls a0_4 0 100000000 true _ A11.out).mono ?_) | ((try simp only [Go.IntWalk.i64_left]); (with_reducible refine (spec_l00In.calls a0_4 0 100000000 true _ A11.out).mono ?_))); rintro e w' ⟨rfl, ⟨nd, rfl⟩⟩; (try first | exact ⟨rfl, _, World.drewN_drewN _ _ _⟩ | exact ⟨rfl, _, Eq.trans (World.drewN_drewN _ _ _) (congrArg (World.drewN _) (Nat.add_assoc _ _ _))⟩)) | (go_at_call 94; (first | (with_reducible refine (spec_l00In.calls a0_5 1 3 false _ A13.out).mono ?_) | ((try simp only [Go.IntWalk.i64_left]); (with_reducible refine (spec_l00In.calls a0_5 1 3 false _ A13.out).mono ?_))); rintro e w' ⟨rfl, ⟨nd, rfl⟩⟩; (try first | exact ⟨rfl, _, World.drewN_drewN _ _ _⟩ | exact ⟨rfl, _, Eq.trans (World.drewN_drewN _ _ _) (congrArg (World.drewN _) (Nat.add_assoc _ _ _))⟩))))
              go_ret
              exact ⟨by first | rfl | (simp; done) | (simp [*]; done), by repeat (first | exact Drawn0.refl _ | apply Drawn0.step)⟩
          · replace c12 := Bool.eq_false_iff.mpr c12
            subst c12
            have H1 : (some false) = some r := by rw [if_neg (show ¬ (false = true) by decide)] at H; exact H
            clear H
            have H := H1
            clear H1
            obtain rfl := Option.some.inj H
            have hz31_0 := HX0_0.out
            have hz31_1 := HX0_1.out
            have hz31_2 := HX0_2.out
            have hz31_3 := HX0_3.out
            have hz31_4 := HX0_4.out
            have hz31_5 := HX0_5.out
            have hz31_6 := HX0_6.out
            have hz32_0 := HX0_0.out
            have hz32_1 := HX0_1.out
            have hz32_2 := HX0_2.out
            have hz32_3 := HX0_3.out
            have hz32_4 := HX0_4.out
            have hz32_5 := HX0_5.out
            have hz32_6 := HX0_6.out
            have hz33_0 := HX0_0.out
            have hz33_1 := HX0_1.out
            have hz33_2 := HX0_2.out
            have hz33_3 := HX0_3.out
            have hz33_4 := HX0_4.out
            have hz33_5 := HX0_5.out
            have hz33_6 := HX0_6.out
            have hz34_0 := HX0_0.out
            have hz34_1 := HX0_1.out
            have hz34_2 := HX0_2.out
            have hz34_3 := HX0_3.out
            have hz34_4 := HX0_4.out
            have hz34_5 := HX0_5.out
            have hz34_6 := HX0_6.out
            have hz35_0 := HX0_0.out
            have hz35_1 := HX0_1.out
            have hz35_2 := HX0_2.out
            have hz35_3 := HX0_3.out
            have hz35_4 := HX0_4.out
            have hz35_5 := HX0_5.out
            have hz35_6 := HX0_6.out
            have hz36_0 := HX0_0.out
            have hz36_1 := HX0_1.out
            have hz36_2 := HX0_2.out
            have hz36_3 := HX0_3.out
            have hz36_4 := HX0_4.out
            have hz36_5 := HX0_5.out
            have hz36_6 := HX0_6.out
            go_enter Try.func167, Try.ntmps167
            go_wp2_with (first | (go_at_call 153; (first | (with_reducible refine (spec_l01Name.calls k a0_0 true _ A2.out).mono ?_) | ((try simp only [Go.IntWalk.i64_left]); (with_reducible refine (spec_l01Name.calls k a0_0 true _ A2.out).mono ?_))); rintro e w' ⟨rfl, ⟨nd, rfl⟩⟩; (try first | exact ⟨rfl, _, World.drewN_drewN _ _ _⟩ | exact ⟨rfl, _, Eq.trans (World.drewN_drewN _ _ _) (congrArg (World.drewN _) (Nat.add_assoc _ _ _))⟩)) | (go_at_call 94; (first | (with_reducible refine (spec_l00In.calls a0_1 0 100000 true _ A4.out).mono ?_) | ((try simp only [Go.IntWalk.i64_left]); (with_reducible refine (spec_l00In.calls a0_1 0 100000 true _ A4.out).mono ?_))); rintro e w' ⟨rfl, ⟨nd, rfl⟩⟩; (try first | exact ⟨rfl, _, World.drewN_drewN _ _ _⟩ | exact ⟨rfl, _, Eq.trans (World.drewN_drewN _ _ _) (congrArg (World.drewN _) (Nat.add_assoc _ _ _))⟩)) | (go_at_call 180; (first | (with_reducible refine (spec_l00Max.calls 1 a0_1 t109 _ A6.out).mono ?_) | ((try simp only [Go.IntWalk.i64_left]); (with_reducible refine (spec_l00Max.calls 1 a0_1 t109 _ A6.out).mono ?_))); rintro e w' ⟨rfl, ⟨nd, rfl⟩⟩; (try first | exact ⟨rfl, _, World.drewN_drewN _ _ _⟩ | exact ⟨rfl, _, Eq.trans (World.drewN_drewN _ _ _) (congrArg (World.drewN _) (Nat.add_assoc _ _ _))⟩)) | (go_at_call 94; (first | (with_reducible refine (spec_l00In.calls a0_2 t109 100000 true _ A7.out).mono ?_) | ((try simp only [Go.IntWalk.i64_left]); (with_reducible refine (spec_l00In.calls a0_2 t109 100000 true _ A7.out).mono ?_))); rintro e w' ⟨rfl, ⟨nd, rfl⟩⟩; (try first | exact ⟨rfl, _, World.drewN_drewN _ _ _⟩ | exact ⟨rfl, _, Eq.trans (World.drewN_drewN _ _ _) (congrArg (World.drewN _) (Nat.add_assoc _ _ _))⟩)) | (go_at_call 94; (first | (with_reducible refine (spec_l00In.calls a0_3 0 100000 true _ A9.out).mono ?_) | ((try simp only [Go.IntWalk.i64_left]); (with_reducible refine (spec_l00In.calls a0_3 0 100000 true _ A9.out).mono ?_))); rintro e w' ⟨rfl, ⟨nd, rfl⟩⟩; (try first | exact ⟨rfl, _, World.drewN_drewN _ _ _⟩ | exact ⟨rfl, _, Eq.trans (World.drewN_drewN _ _ _) (congrArg (World.drewN _) (Nat.add_assoc _ _ _))⟩)) | (go_at_call 94; (first | (with_reducible refine (spec_l00In.calls a0_4 0 100000000 false _ A11.out).mono ?_) | ((try simp only [Go.IntWalk.i64_left]); (with_reducible refine (spec_l00In.calls a0_4 0 100000000 false _ A11.out).mono ?_))); rintro e w' ⟨rfl, ⟨nd, rfl⟩⟩; (try first | exact ⟨rfl, _, World.drewN_drewN _ _ _⟩ | exact ⟨rfl, _, Eq.trans (World.drewN_drewN _ _ _) (congrArg (World.drewN _) (Nat.add_assoc _ _ _))⟩)))
            repeat (go_quiet (first | (go_at_call 153; (first | (with_reducible refine (spec_l01Name.calls k a0_0 true _ A2.out).mono ?_) | ((try simp only [Go.IntWalk.i64_left]); (with_reducible refine (spec_l01Name.calls k a0_0 true _ A2.out).mono ?_))); rintro e w' ⟨rfl, ⟨nd, rfl⟩⟩; (try first | exact ⟨rfl, _, World.drewN_drewN _ _ _⟩ | exact ⟨rfl, _, Eq.trans (World.drewN_drewN _ _ _) (congrArg (World.drewN _) (Nat.add_assoc _ _ _))⟩)) | (go_at_call 94; (first | (with_reducible refine (spec_l00In.calls a0_1 0 100000 true _ A4.out).mono ?_) | ((try simp only [Go.IntWalk.i64_left]); (with_reducible refine (spec_l00In.calls a0_1 0 100000 true _ A4.out).mono ?_))); rintro e w' ⟨rfl, ⟨nd, rfl⟩⟩; (try first | exact ⟨rfl, _, World.drewN_drewN _ _ _⟩ | exact ⟨rfl, _, Eq.trans (World.drewN_drewN _ _ _) (congrArg (World.drewN _) (Nat.add_assoc _ _ _))⟩)) | (go_at_call 180; (first | (with_reducible refine (spec_l00Max.calls 1 a0_1 t109 _ A6.out).mono ?_) | ((try simp only [Go.IntWalk.i64_left]); (with_reducible refine (spec_l00Max.calls 1 a0_1 t109 _ A6.out).mono ?_))); rintro e w' ⟨rfl, ⟨nd, rfl⟩⟩; (try first | exact ⟨rfl, _, World.drewN_drewN _ _ _⟩ | exact ⟨rfl, _, Eq.trans (World.drewN_drewN _ _ _) (congrArg (World.drewN _) (Nat.add_assoc _ _ _))⟩)) | (go_at_call 94; (first | (with_reducible refine (spec_l00In.calls a0_2 t109 100000 true _ A7.out).mono ?_) | ((try simp only [Go.IntWalk.i64_left]); (with_reducible refine (spec_l00In.calls a0_2 t109 100000 true _ A7.out).mono ?_))); rintro e w' ⟨rfl, ⟨nd, rfl⟩⟩; (try first | exact ⟨rfl, _, World.drewN_drewN _ _ _⟩ | exact ⟨rfl, _, Eq.trans (World.drewN_drewN _ _ _) (congrArg (World.drewN _) (Nat.add_assoc _ _ _))⟩)) | (go_at_call 94; (first | (with_reducible refine (spec_l00In.calls a0_3 0 100000 true _ A9.out).mono ?_) | ((try simp only [Go.IntWalk.i64_left]); (with_reducible refine (spec_l00In.calls a0_3 0 100000 true _ A9.out).mono ?_))); rintro e w' ⟨rfl, ⟨nd, rfl⟩⟩; (try first | exact ⟨rfl, _, World.drewN_drewN _ _ _⟩ | exact ⟨rfl, _, Eq.trans (World.drewN_drewN _ _ _) (congrArg (World.drewN _) (Nat.add_assoc _ _ _))⟩)) | (go_at_call 94; (first | (with_reducible refine (spec_l00In.calls a0_4 0 100000000 false _ A11.out).mono ?_) | ((try simp only [Go.IntWalk.i64_left]); (with_reducible refine (spec_l00In.calls a0_4 0 100000000 false _ A11.out).mono ?_))); rintro e w' ⟨rfl, ⟨nd, rfl⟩⟩; (try first | exact ⟨rfl, _, World.drewN_drewN _ _ _⟩ | exact ⟨rfl, _, Eq.trans (World.drewN_drewN _ _ _) (congrArg (World.drewN _) (Nat.add_assoc _ _ _))⟩))); try go_wp2_with (first | (go_at_call 153; (first | (with_reducible refine (spec_l01Name.calls k a0_0 true _ A2.out).mono ?_) | ((try simp only [Go.IntWalk.i64_left]); (with_reducible refine (spec_l01Name.calls k a0_0 true _ A2.out).mono ?_))); rintro e w' ⟨rfl, ⟨nd, rfl⟩⟩; (try first | exact ⟨rfl, _, World.drewN_drewN _ _ _⟩ | exact ⟨rfl, _, Eq.trans (World.drewN_drewN _ _ _) (congrArg (World.drewN _) (Nat.add_assoc _ _ _))⟩)) | (go_at_call 94; (first | (with_reducible refine (spec_l00In.calls a0_1 0 100000 true _ A4.out).mono ?_) | ((try simp only [Go.IntWalk.i64_left]); (with_reducible refine (spec_l00In.calls a0_1 0 100000 true _ A4.out).mono ?_))); rintro e w' ⟨rfl, ⟨nd, rfl⟩⟩; (try first | exact ⟨rfl, _, World.drewN_drewN _ _ _⟩ | exact ⟨rfl, _, Eq.trans (World.drewN_drewN _ _ _) (congrArg (World.drewN _) (Nat.add_assoc _ _ _))⟩)) | (go_at_call 180; (first | (with_reducible refine (spec_l00Max.calls 1 a0_1 t109 _ A6.out).mono ?_) | ((try simp only [Go.IntWalk.i64_left]); (with_reducible refine (spec_l00Max.calls 1 a0_1 t109 _ A6.out).mono ?_))); rintro e w' ⟨rfl, ⟨nd, rfl⟩⟩; (try first | exact ⟨rfl, _, World.drewN_drewN _ _ _⟩ | exact ⟨rfl, _, Eq.trans (World.drewN_drewN _ _ _) (congrArg (World.drewN _) (Nat.add_assoc _ _ _))⟩)) | (go_at_call 94; (first | (with_reducible refine (spec_l00In.calls a0_2 t109 100000 true _ A7.out).mono ?_) | ((try simp only [Go.IntWalk.i64_left]); (with_reducible refine (spec_l00In.calls a0_2 t109 100000 true _ A7.out).mono ?_))); rintro e w' ⟨rfl, ⟨nd, rfl⟩⟩; (try first | exact ⟨rfl, _, World.drewN_drewN _ _ _⟩ | exact ⟨rfl, _, Eq.trans (World.drewN_drewN _ _ _) (congrArg (World.drewN _) (Nat.add_assoc _ _ _))⟩)) | (go_at_call 94; (first | (with_reducible refine (spec_l00In.calls a0_3 0 100000 true _ A9.out).mono ?_) | ((try simp only [Go.IntWalk.i64_left]); (with_reducible refine (spec_l00In.calls a0_3 0 100000 true _ A9.out).mono ?_))); rintro e w' ⟨rfl, ⟨nd, rfl⟩⟩; (try first | exact ⟨rfl, _, World.drewN_drewN _ _ _⟩ | exact ⟨rfl, _, Eq.trans (World.drewN_drewN _ _ _) (congrArg (World.drewN _) (Nat.add_assoc _ _ _))⟩)) | (go_at_call 94; (first | (with_reducible refine (spec_l00In.calls a0_4 0 100000000 false _ A11.out).mono ?_) | ((try simp only [Go.IntWalk.i64_left]); (with_reducible refine (spec_l00In.calls a0_4 0 100000000 false _ A11.out).mono ?_))); rintro e w' ⟨rfl, ⟨nd, rfl⟩⟩; (try first | exact ⟨rfl, _, World.drewN_drewN _ _ _⟩ | exact ⟨rfl, _, Eq.trans (World.drewN_drewN _ _ _) (congrArg (World.drewN _) (Nat.add_assoc _ _ _))⟩))))
            go_ret
            exact ⟨by first | rfl | (simp; done) | (simp [*]; done), by repeat (first | exact Drawn0.refl _ | apply Drawn0.step)⟩
        · replace c10 := Bool.eq_false_iff.mpr c10
          subst c10
          have H1 : (some false) = some r := by rw [if_neg (show ¬ (false = true) by decide)] at H; exact H
          clear H
          have H := H1
          clear H1
          obtain rfl := Option.some.inj H
          have hz37_0 := HX0_0.out
          have hz37_1 := HX0_1.out
          have hz37_2 := HX0_2.out
          have hz37_3 := HX0_3.out
          have hz37_4 := HX0_4.out
          have hz37_5 := HX0_5.out
          have hz37_6 := HX0_6.out
          have hz38_0 := HX0_0.out
          have hz38_1 := HX0_1.out
          have hz38_2 := HX0_2.out
          have hz38_3 := HX0_3.out
          have hz38_4 := HX0_4.out
          have hz38_5 := HX0_5.out
          have hz38_6 := HX0_6.out
          have hz39_0 := HX0_0.out
          have hz39_1 := HX0_1.out
          have hz39_2 := HX0_2.out
          have hz39_3 := HX0_3.out
          have hz39_4 := HX0_4.out
          have hz39_5 := HX0_5.out
          have hz39_6 := HX0_6.out
          have hz40_0 := HX0_0.out
          have hz40_1 := HX0_1.out
          have hz40_2 := HX0_2.out
          have hz40_3 := HX0_3.out
          have hz40_4 := HX0_4.out
          have hz40_5 := HX0_5.out
          have hz40_6 := HX0_6.out
          have hz41_0 := HX0_0.out
          have hz41_1 := HX0_1.out
          have hz41_2 := HX0_2.out
          have hz41_3 := HX0_3.out
          have hz41_4 := HX0_4.out
          have hz41_5 := HX0_5.out
          have hz41_6 := HX0_6.out
          go_enter Try.func167, Try.ntmps167
          go_wp2_with (first | (go_at_call 153; (first | (with_reducible refine (spec_l01Name.calls k a0_0 true _ A2.out).mono ?_) | ((try simp only [Go.IntWalk.i64_left]); (with_reducible refine (spec_l01Name.calls k a0_0 true _ A2.out).mono ?_))); rintro e w' ⟨rfl, ⟨nd, rfl⟩⟩; (try first | exact ⟨rfl, _, World.drewN_drewN _ _ _⟩ | exact ⟨rfl, _, Eq.trans (World.drewN_drewN _ _ _) (congrArg (World.drewN _) (Nat.add_assoc _ _ _))⟩)) | (go_at_call 94; (first | (with_reducible refine (spec_l00In.calls a0_1 0 100000 true _ A4.out).mono ?_) | ((try simp only [Go.IntWalk.i64_left]); (with_reducible refine (spec_l00In.calls a0_1 0 100000 true _ A4.out).mono ?_))); rintro e w' ⟨rfl, ⟨nd, rfl⟩⟩; (try first | exact ⟨rfl, _, World.drewN_drewN _ _ _⟩ | exact ⟨rfl, _, Eq.trans (World.drewN_drewN _ _ _) (congrArg (World.drewN _) (Nat.add_assoc _ _ _))⟩)) | (go_at_call 180; (first | (with_reducible refine (spec_l00Max.calls 1 a0_1 t109 _ A6.out).mono ?_) | ((try simp only [Go.IntWalk.i64_left]); (with_reducible refine (spec_l00Max.calls 1 a0_1 t109 _ A6.out).mono ?_))); rintro e w' ⟨rfl, ⟨nd, rfl⟩⟩; (try first | exact ⟨rfl, _, World.drewN_drewN _ _ _⟩ | exact ⟨rfl, _, Eq.trans (World.drewN_drewN _ _ _) (congrArg (World.drewN _) (Nat.add_assoc _ _ _))⟩)) | (go_at_call 94; (first | (with_reducible refine (spec_l00In.calls a0_2 t109 100000 true _ A7.out).mono ?_) | ((try simp only [Go.IntWalk.i64_left]); (with_reducible refine (spec_l00In.calls a0_2 t109 100000 true _ A7.out).mono ?_))); rintro e w' ⟨rfl, ⟨nd, rfl⟩⟩; (try first | exact ⟨rfl, _, World.drewN_drewN _ _ _⟩ | exact ⟨rfl, _, Eq.trans (World.drewN_drewN _ _ _) (congrArg (World.drewN _) (Nat.add_assoc _ _ _))⟩)) | (go_at_call 94; (first | (with_reducible refine (spec_l00In.calls a0_3 0 100000 false _ A9.out).mono ?_) | ((try simp only [Go.IntWalk.i64_left]); (with_reducible refine (spec_l00In.calls a0_3 0 100000 false _ A9.out).mono ?_))); rintro e w' ⟨rfl, ⟨nd, rfl⟩⟩; (try first | exact ⟨rfl, _, World.drewN_drewN _ _ _⟩ | exact ⟨rfl, _, Eq.trans (World.drewN_drewN _ _ _) (congrArg (World.drewN _) (Nat.add_assoc _ _ _))⟩)))
          repeat (go_quiet (first | (go_at_call 153; (first | (with_reducible refine (spec_l01Name.calls k a0_0 true _ A2.out).mono ?_) | ((try simp only [Go.IntWalk.i64_left]); (with_reducible refine (spec_l01Name.calls k a0_0 true _ A2.out).mono ?_))); rintro e w' ⟨rfl, ⟨nd, rfl⟩⟩; (try first | exact ⟨rfl, _, World.drewN_drewN _ _ _⟩ | exact ⟨rfl, _, Eq.trans (World.drewN_drewN _ _ _) (congrArg (World.drewN _) (Nat.add_assoc _ _ _))⟩)) | (go_at_call 94; (first | (with_reducible refine (spec_l00In.calls a0_1 0 100000 true _ A4.out).mono ?_) | ((try simp only [Go.IntWalk.i64_left]); (with_reducible refine (spec_l00In.calls a0_1 0 100000 true _ A4.out).mono ?_))); rintro e w' ⟨rfl, ⟨nd, rfl⟩⟩; (try first | exact ⟨rfl, _, World.drewN_drewN _ _ _⟩ | exact ⟨rfl, _, Eq.trans (World.drewN_drewN _ _ _) (congrArg (World.drewN _) (Nat.add_assoc _ _ _))⟩)) | (go_at_call 180; (first | (with_reducible refine (spec_l00Max.calls 1 a0_1 t109 _ A6.out).mono ?_) | ((try simp only [Go.IntWalk.i64_left]); (with_reducible refine (spec_l00Max.calls 1 a0_1 t109 _ A6.out).mono ?_))); rintro e w' ⟨rfl, ⟨nd, rfl⟩⟩; (try first | exact ⟨rfl, _, World.drewN_drewN _ _ _⟩ | exact ⟨rfl, _, Eq.trans (World.drewN_drewN _ _ _) (congrArg (World.drewN _) (Nat.add_assoc _ _ _))⟩)) | (go_at_call 94; (first | (with_reducible refine (spec_l00In.calls a0_2 t109 100000 true _ A7.out).mono ?_) | ((try simp only [Go.IntWalk.i64_left]); (with_reducible refine (spec_l00In.calls a0_2 t109 100000 true _ A7.out).mono ?_))); rintro e w' ⟨rfl, ⟨nd, rfl⟩⟩; (try first | exact ⟨rfl, _, World.drewN_drewN _ _ _⟩ | exact ⟨rfl, _, Eq.trans (World.drewN_drewN _ _ _) (congrArg (World.drewN _) (Nat.add_assoc _ _ _))⟩)) | (go_at_call 94; (first | (with_reducible refine (spec_l00In.calls a0_3 0 100000 false _ A9.out).mono ?_) | ((try simp only [Go.IntWalk.i64_left]); (with_reducible refine (spec_l00In.calls a0_3 0 100000 false _ A9.out).mono ?_))); rintro e w' ⟨rfl, ⟨nd, rfl⟩⟩; (try first | exact ⟨rfl, _, World.drewN_drewN _ _ _⟩ | exact ⟨rfl, _, Eq.trans (World.drewN_drewN _ _ _) (congrArg (World.drewN _) (Nat.add_assoc _ _ _))⟩))); try go_wp2_with (first | (go_at_call 153; (first | (with_reducible refine (spec_l01Name.calls k a0_0 true _ A2.out).mono ?_) | ((try simp only [Go.IntWalk.i64_left]); (with_reducible refine (spec_l01Name.calls k a0_0 true _ A2.out).mono ?_))); rintro e w' ⟨rfl, ⟨nd, rfl⟩⟩; (try first | exact ⟨rfl, _, World.drewN_drewN _ _ _⟩ | exact ⟨rfl, _, Eq.trans (World.drewN_drewN _ _ _) (congrArg (World.drewN _) (Nat.add_assoc _ _ _))⟩)) | (go_at_call 94; (first | (with_reducible refine (spec_l00In.calls a0_1 0 100000 true _ A4.out).mono ?_) | ((try simp only [Go.IntWalk.i64_left]); (with_reducible refine (spec_l00In.calls a0_1 0 100000 true _ A4.out).mono ?_))); rintro e w' ⟨rfl, ⟨nd, rfl⟩⟩; (try first | exact ⟨rfl, _, World.drewN_drewN _ _ _⟩ | exact ⟨rfl, _, Eq.trans (World.drewN_drewN _ _ _) (congrArg (World.drewN _) (Nat.add_assoc _ _ _))⟩)) | (go_at_call 180; (first | (with_reducible refine (spec_l00Max.calls 1 a0_1 t109 _ A6.out).mono ?_) | ((try simp only [Go.IntWalk.i64_left]); (with_reducible refine (spec_l00Max.calls 1 a0_1 t109 _ A6.out).mono ?_))); rintro e w' ⟨rfl, ⟨nd, rfl⟩⟩; (try first | exact ⟨rfl, _, World.drewN_drewN _ _ _⟩ | exact ⟨rfl, _, Eq.trans (World.drewN_drewN _ _ _) (congrArg (World.drewN _) (Nat.add_assoc _ _ _))⟩)) | (go_at_call 94; (first | (with_reducible refine (spec_l00In.calls a0_2 t109 100000 true _ A7.out).mono ?_) | ((try simp only [Go.IntWalk.i64_left]); (with_reducible refine (spec_l00In.calls a0_2 t109 100000 true _ A7.out).mono ?_))); rintro e w' ⟨rfl, ⟨nd, rfl⟩⟩; (try first | exact ⟨rfl, _, World.drewN_drewN _ _ _⟩ | exact ⟨rfl, _, Eq.trans (World.drewN_drewN _ _ _) (congrArg (World.drewN _) (Nat.add_assoc _ _ _))⟩)) | (go_at_call 94; (first | (with_reducible refine (spec_l00In.calls a0_3 0 100000 false _ A9.out).mono ?_) | ((try simp only [Go.IntWalk.i64_left]); (with_reducible refine (spec_l00In.calls a0_3 0 100000 false _ A9.out).mono ?_))); rintro e w' ⟨rfl, ⟨nd, rfl⟩⟩; (try first | exact ⟨rfl, _, World.drewN_drewN _ _ _⟩ | exact ⟨rfl, _, Eq.trans (World.drewN_drewN _ _ _) (congrArg (World.drewN _) (Nat.add_assoc _ _ _))⟩))))
          go_ret
          exact ⟨by first | rfl | (simp; done) | (simp [*]; done), by repeat (first | exact Drawn0.refl _ | apply Drawn0.step)⟩
      · replace c8 := Bool.eq_false_iff.mpr c8
        subst c8
        have H1 : (some false) = some r := by rw [if_neg (show ¬ (false = true) by decide)] at H; exact H
        clear H
        have H := H1
        clear H1
        obtain rfl := Option.some.inj H
        have hz42_0 := HX0_0.out
        have hz42_1 := HX0_1.out
        have hz42_2 := HX0_2.out
        have hz42_3 := HX0_3.out
        have hz42_4 := HX0_4.out
        have hz42_5 := HX0_5.out
        have hz42_6 := HX0_6.out
        have hz43_0 := HX0_0.out
        have hz43_1 := HX0_1.out
        have hz43_2 := HX0_2.out
        have hz43_3 := HX0_3.out
        have hz43_4 := HX0_4.out
        have hz43_5 := HX0_5.out
        have hz43_6 := HX0_6.out
        have hz44_0 := HX0_0.out
        have hz44_1 := HX0_1.out
        have hz44_2 := HX0_2.out
        have hz44_3 := HX0_3.out
        have hz44_4 := HX0_4.out
        have hz44_5 := HX0_5.out
        have hz44_6 := HX0_6.out
        have hz45_0 := HX0_0.out
        have hz45_1 := HX0_1.out
        have hz45_2 := HX0_2.out
        have hz45_3 := HX0_3.out
        have hz45_4 := HX0_4.out
        have hz45_5 := HX0_5.out
        have hz45_6 := HX0_6.out
        go_enter Try.func167, Try.ntmps167
        go_wp2_with (first | (go_at_call 153; (first | (with_reducible refine (spec_l01Name.calls k a0_0 true _ A2.out).mono ?_) | ((try simp only [Go.IntWalk.i64_left]); (with_reducible refine (spec_l01Name.calls k a0_0 true _ A2.out).mono ?_))); rintro e w' ⟨rfl, ⟨nd, rfl⟩⟩; (try first | exact ⟨rfl, _, World.drewN_drewN _ _ _⟩ | exact ⟨rfl, _, Eq.trans (World.drewN_drewN _ _ _) (congrArg (World.drewN _) (Nat.add_assoc _ _ _))⟩)) | (go_at_call 94; (first | (with_reducible refine (spec_l00In.calls a0_1 0 100000 true _ A4.out).mono ?_) | ((try simp only [Go.IntWalk.i64_left]); (with_reducible refine (spec_l00In.calls a0_1 0 100000 true _ A4.out).mono ?_))); rintro e w' ⟨rfl, ⟨nd, rfl⟩⟩; (try first | exact ⟨rfl, _, World.drewN_drewN _ _ _⟩ | exact ⟨rfl, _, Eq.trans (World.drewN_drewN _ _ _) (congrArg (World.drewN _) (Nat.add_assoc _ _ _))⟩)) | (go_at_call 180; (first | (with_reducible refine (spec_l00Max.calls 1 a0_1 t109 _ A6.out).mono ?_) | ((try simp only [Go.IntWalk.i64_left]); (with_reducible refine (spec_l00Max.calls 1 a0_1 t109 _ A6.out).mono ?_))); rintro e w' ⟨rfl, ⟨nd, rfl⟩⟩; (try first | exact ⟨rfl, _, World.drewN_drewN _ _ _⟩ | exact ⟨rfl, _, Eq.trans (World.drewN_drewN _ _ _) (congrArg (World.drewN _) (Nat.add_assoc _ _ _))⟩)) | (go_at_call 94; (first | (with_reducible refine (spec_l00In.calls a0_2 t109 100000 false _ A7.out).mono ?_) | ((try simp only [Go.IntWalk.i64_left]); (with_reducible refine (spec_l00In.calls a0_2 t109 100000 false _ A7.out).mono ?_))); rintro e w' ⟨rfl, ⟨nd, rfl⟩⟩; (try first | exact ⟨rfl, _, World.drewN_drewN _ _ _⟩ | exact ⟨rfl, _, Eq.trans (World.drewN_drewN _ _ _) (congrArg (World.drewN _) (Nat.add_assoc _ _ _))⟩)))
        repeat (go_quiet (first | (go_at_call 153; (first | (with_reducible refine (spec_l01Name.calls k a0_0 true _ A2.out).mono ?_) | ((try simp only [Go.IntWalk.i64_left]); (with_reducible refine (spec_l01Name.calls k a0_0 true _ A2.out).mono ?_))); rintro e w' ⟨rfl, ⟨nd, rfl⟩⟩; (try first | exact ⟨rfl, _, World.drewN_drewN _ _ _⟩ | exact ⟨rfl, _, Eq.trans (World.drewN_drewN _ _ _) (congrArg (World.drewN _) (Nat.add_assoc _ _ _))⟩)) | (go_at_call 94; (first | (with_reducible refine (spec_l00In.calls a0_1 0 100000 true _ A4.out).mono ?_) | ((try simp only [Go.IntWalk.i64_left]); (with_reducible refine (spec_l00In.calls a0_1 0 100000 true _ A4.out).mono ?_))); rintro e w' ⟨rfl, ⟨nd, rfl⟩⟩; (try first | exact ⟨rfl, _, World.drewN_drewN _ _ _⟩ | exact ⟨rfl, _, Eq.trans (World.drewN_drewN _ _ _) (congrArg (World.drewN _) (Nat.add_assoc _ _ _))⟩)) | (go_at_call 180; (first | (with_reducible refine (spec_l00Max.calls 1 a0_1 t109 _ A6.out).mono ?_) | ((try simp only [Go.IntWalk.i64_left]); (with_reducible refine (spec_l00Max.calls 1 a0_1 t109 _ A6.out).mono ?_))); rintro e w' ⟨rfl, ⟨nd, rfl⟩⟩; (try first | exact ⟨rfl, _, World.drewN_drewN _ _ _⟩ | exact ⟨rfl, _, Eq.trans (World.drewN_drewN _ _ _) (congrArg (World.drewN _) (Nat.add_assoc _ _ _))⟩)) | (go_at_call 94; (first | (with_reducible refine (spec_l00In.calls a0_2 t109 100000 false _ A7.out).mono ?_) | ((try simp only [Go.IntWalk.i64_left]); (with_reducible refine (spec_l00In.calls a0_2 t109 100000 false _ A7.out).mono ?_))); rintro e w' ⟨rfl, ⟨nd, rfl⟩⟩; (try first | exact ⟨rfl, _, World.drewN_drewN _ _ _⟩ | exact ⟨rfl, _, Eq.trans (World.drewN_drewN _ _ _) (congrArg (World.drewN _) (Nat.add_assoc _ _ _))⟩))); try go_wp2_with (first | (go_at_call 153; (first | (with_reducible refine (spec_l01Name.calls k a0_0 true _ A2.out).mono ?_) | ((try simp only [Go.IntWalk.i64_left]); (with_reducible refine (spec_l01Name.calls k a0_0 true _ A2.out).mono ?_))); rintro e w' ⟨rfl, ⟨nd, rfl⟩⟩; (try first | exact ⟨rfl, _, World.drewN_drewN _ _ _⟩ | exact ⟨rfl, _, Eq.trans (World.drewN_drewN _ _ _) (congrArg (World.drewN _) (Nat.add_assoc _ _ _))⟩)) | (go_at_call 94; (first | (with_reducible refine (spec_l00In.calls a0_1 0 100000 true _ A4.out).mono ?_) | ((try simp only [Go.IntWalk.i64_left]); (with_reducible refine (spec_l00In.calls a0_1 0 100000 true _ A4.out).mono ?_))); rintro e w' ⟨rfl, ⟨nd, rfl⟩⟩; (try first | exact ⟨rfl, _, World.drewN_drewN _ _ _⟩ | exact ⟨rfl, _, Eq.trans (World.drewN_drewN _ _ _) (congrArg (World.drewN _) (Nat.add_assoc _ _ _))⟩)) | (go_at_call 180; (first | (with_reducible refine (spec_l00Max.calls 1 a0_1 t109 _ A6.out).mono ?_) | ((try simp only [Go.IntWalk.i64_left]); (with_reducible refine (spec_l00Max.calls 1 a0_1 t109 _ A6.out).mono ?_))); rintro e w' ⟨rfl, ⟨nd, rfl⟩⟩; (try first | exact ⟨rfl, _, World.drewN_drewN _ _ _⟩ | exact ⟨rfl, _, Eq.trans (World.drewN_drewN _ _ _) (congrArg (World.drewN _) (Nat.add_assoc _ _ _))⟩)) | (go_at_call 94; (first | (with_reducible refine (spec_l00In.calls a0_2 t109 100000 false _ A7.out).mono ?_) | ((try simp only [Go.IntWalk.i64_left]); (with_reducible refine (spec_l00In.calls a0_2 t109 100000 false _ A7.out).mono ?_))); rintro e w' ⟨rfl, ⟨nd, rfl⟩⟩; (try first | exact ⟨rfl, _, World.drewN_drewN _ _ _⟩ | exact ⟨rfl, _, Eq.trans (World.drewN_drewN _ _ _) (congrArg (World.drewN _) (Nat.add_assoc _ _ _))⟩))))
        go_ret
        exact ⟨by first | rfl | (simp; done) | (simp [*]; done), by repeat (first | exact Drawn0.refl _ | apply Drawn0.step)⟩
    · replace c5 := Bool.eq_false_iff.mpr c5
      subst c5
      have H1 : (some false) = some r := by rw [if_neg (show ¬ (false = true) by decide)] at H; exact H
      clear H
      have H := H1
      clear H1
      obtain rfl := Option.some.inj H
      have hz46_0 := HX0_0.out
      have hz46_1 := HX0_1.out
      have hz46_2 := HX0_2.out
      have hz46_3 := HX0_3.out
      have hz46_4 := HX0_4.out
      have hz46_5 := HX0_5.out
      have hz46_6 := HX0_6.out
      have hz47_0 := HX0_0.out
      have hz47_1 := HX0_1.out
      have hz47_2 := HX0_2.out
      have hz47_3 := HX0_3.out
      have hz47_4 := HX0_4.out
      have hz47_5 := HX0_5.out
      have hz47_6 := HX0_6.out
      go_enter Try.func167, Try.ntmps167
      go_wp2_with (first | (go_at_call 153; (first | (with_reducible refine (spec_l01Name.calls k a0_0 true _ A2.out).mono ?_) | ((try simp only [Go.IntWalk.i64_left]); (with_reducible refine (spec_l01Name.calls k a0_0 true _ A2.out).mono ?_))); rintro e w' ⟨rfl, ⟨nd, rfl⟩⟩; (try first | exact ⟨rfl, _, World.drewN_drewN _ _ _⟩ | exact ⟨rfl, _, Eq.trans (World.drewN_drewN _ _ _) (congrArg (World.drewN _) (Nat.add_assoc _ _ _))⟩)) | (go_at_call 94; (first | (with_reducible refine (spec_l00In.calls a0_1 0 100000 false _ A4.out).mono ?_) | ((try simp only [Go.IntWalk.i64_left]); (with_reducible refine (spec_l00In.calls a0_1 0 100000 false _ A4.out).mono ?_))); rintro e w' ⟨rfl, ⟨nd, rfl⟩⟩; (try first | exact ⟨rfl, _, World.drewN_drewN _ _ _⟩ | exact ⟨rfl, _, Eq.trans (World.drewN_drewN _ _ _) (congrArg (World.drewN _) (Nat.add_assoc _ _ _))⟩)))
      repeat (go_quiet (first | (go_at_call 153; (first | (with_reducible refine (spec_l01Name.calls k a0_0 true _ A2.out).mono ?_) | ((try simp only [Go.IntWalk.i64_left]); (with_reducible refine (spec_l01Name.calls k a0_0 true _ A2.out).mono ?_))); rintro e w' ⟨rfl, ⟨nd, rfl⟩⟩; (try first | exact ⟨rfl, _, World.drewN_drewN _ _ _⟩ | exact ⟨rfl, _, Eq.trans (World.drewN_drewN _ _ _) (congrArg (World.drewN _) (Nat.add_assoc _ _ _))⟩)) | (go_at_call 94; (first | (with_reducible refine (spec_l00In.calls a0_1 0 100000 false _ A4.out).mono ?_) | ((try simp only [Go.IntWalk.i64_left]); (with_reducible refine (spec_l00In.calls a0_1 0 100000 false _ A4.out).mono ?_))); rintro e w' ⟨rfl, ⟨nd, rfl⟩⟩; (try first | exact ⟨rfl, _, World.drewN_drewN _ _ _⟩ | exact ⟨rfl, _, Eq.trans (World.drewN_drewN _ _ _) (congrArg (World.drewN _) (Nat.add_assoc _ _ _))⟩))); try go_wp2_with (first | (go_at_call 153; (first | (with_reducible refine (spec_l01Name.calls k a0_0 true _ A2.out).mono ?_) | ((try simp only [Go.IntWalk.i64_left]); (with_reducible refine (spec_l01Name.calls k a0_0 true _ A2.out).mono ?_))); rintro e w' ⟨rfl, ⟨nd, rfl⟩⟩; (try first | exact ⟨rfl, _, World.drewN_drewN _ _ _⟩ | exact ⟨rfl, _, Eq.trans (World.drewN_drewN _ _ _) (congrArg (World.drewN _) (Nat.add_assoc _ _ _))⟩)) | (go_at_call 94; (first | (with_reducible refine (spec_l00In.calls a0_1 0 100000 false _ A4.out).mono ?_) | ((try simp only [Go.IntWalk.i64_left]); (with_reducible refine (spec_l00In.calls a0_1 0 100000 false _ A4.out).mono ?_))); rintro e w' ⟨rfl, ⟨nd, rfl⟩⟩; (try first | exact ⟨rfl, _, World.drewN_drewN _ _ _⟩ | exact ⟨rfl, _, Eq.trans (World.drewN_drewN _ _ _) (congrArg (World.drewN _) (Nat.add_assoc _ _ _))⟩))))
      go_ret
      exact ⟨by first | rfl | (simp; done) | (simp [*]; done), by repeat (first | exact Drawn0.refl _ | apply Drawn0.step)⟩
  · replace c3 := Bool.eq_false_iff.mpr c3
    subst c3
    have H1 : (some false) = some r := by rw [if_neg (show ¬ (false = true) by decide)] at H; exact H
    clear H
    have H := H1
    clear H1
    obtain rfl := Option.some.inj H
    have hz48_0 := HX0_0.out
    have hz48_1 := HX0_1.out
    have hz48_2 := HX0_2.out
    have hz48_3 := HX0_3.out
    have hz48_4 := HX0_4.out
    have hz48_5 := HX0_5.out
    have hz48_6 := HX0_6.out
    go_enter Try.func167, Try.ntmps167
    go_wp2_with (first | (go_at_call 153; (first | (with_reducible refine (spec_l01Name.calls k a0_0 false _ A2.out).mono ?_) | ((try simp only [Go.IntWalk.i64_left]); (with_reducible refine (spec_l01Name.calls k a0_0 false _ A2.out).mono ?_))); rintro e w' ⟨rfl, ⟨nd, rfl⟩⟩; (try first | exact ⟨rfl, _, World.drewN_drewN _ _ _⟩ | exact ⟨rfl, _, Eq.trans (World.drewN_drewN _ _ _) (congrArg (World.drewN _) (Nat.add_assoc _ _ _))⟩)))
    repeat (go_quiet (first | (go_at_call 153; (first | (with_reducible refine (spec_l01Name.calls k a0_0 false _ A2.out).mono ?_) | ((try simp only [Go.IntWalk.i64_left]); (with_reducible refine (spec_l01Name.calls k a0_0 false _ A2.out).mono ?_))); rintro e w' ⟨rfl, ⟨nd, rfl⟩⟩; (try first | exact ⟨rfl, _, World.drewN_drewN _ _ _⟩ | exact ⟨rfl, _, Eq.trans (World.drewN_drewN _ _ _) (congrArg (World.drewN _) (Nat.add_assoc _ _ _))⟩))); try go_wp2_with (first | (go_at_call 153; (first | (with_reducible refine (spec_l01Name.calls k a0_0 false _ A2.out).mono ?_) | ((try simp only [Go.IntWalk.i64_left]); (with_reducible refine (spec_l01Name.calls k a0_0 false _ A2.out).mono ?_))); rintro e w' ⟨rfl, ⟨nd, rfl⟩⟩; (try first | exact ⟨rfl, _, World.drewN_drewN _ _ _⟩ | exact ⟨rfl, _, Eq.trans (World.drewN_drewN _ _ _) (congrArg (World.drewN _) (Nat.add_assoc _ _ _))⟩))))
    go_ret
    exact ⟨by first | rfl | (simp; done) | (simp [*]; done), by repeat (first | exact Drawn0.refl _ | apply Drawn0.step)⟩

/-! ### spec_l13Ok: function 109 -/
def spec_l13Ok.l0 : Nat → List (S143) → Int → Option (Bool)
  | 0, _, _ => none
  | k + 1, x0, x3 => if x3 < (x0.length : Int) then (if 0 ≤ x3 then ((spec_l13One.f k ((rd_T143 x0 x3).f0) ((rd_T143 x0 x3).f1) ((rd_T143 x0 x3).f2) ((rd_T143 x0 x3).f3) ((rd_T143 x0 x3).f4) ((rd_T143 x0 x3).f5) ((rd_T143 x0 x3).f6)).bind fun t116 => (if t116 = true then (if x3 > 0 then (if 0 ≤ (wrap64 (x3 - 1)) then (if (wrap64 (x3 - 1)) < (x0.length : Int) then (if ((Op.bytesLess (((rd_T143 x0 (wrap64 (x3 - 1))).f0).toList) (((rd_T143 x0 x3).f0).toList)) = true) then (spec_l13Ok.l0 k x0 (wrap64 (x3 + 1))) else (some false)) else (none)) else (none)) else (spec_l13Ok.l0 k x0 (wrap64 (x3 + 1)))) else (some false))) else (none)) else ((spec_l00In.f (x0.length : Int) 1 4).bind fun t119 => (some t119))
def spec_l13Ok.f (k : Nat) (l0 : List (S143)) : Option (Bool) := spec_l13Ok.l0 k l0 0
theorem spec_l13Ok.mono_l : ∀ k, (∀ y0 y1, LeO (spec_l13Ok.l0 k y0 y1) (spec_l13Ok.l0 (k + 1) y0 y1))
  | 0 => fun _ _ r h => by simp [spec_l13Ok.l0] at h
  | k + 1 => by
    have ih0 := spec_l13Ok.mono_l k
    · intro y0 y1
      unfold spec_l13Ok.l0
      repeat' first
      | (with_reducible exact ih0 _ _)
      | (with_reducible exact spec_l13One.mono _ _ _ _ _ _ _ _)
      | (with_reducible exact LeO.refl _)
      | (with_reducible exact LeO.none _)
      | (with_reducible refine LeO.ite ?_ ?_)
      | (with_reducible refine LeO.bind ?_ (fun _ => ?_))
      | exact ih0 _ _
      | exact spec_l13One.mono _ _ _ _ _ _ _ _
      | exact LeO.none _
      | refine LeO.ite ?_ ?_
      | refine LeO.bind ?_ (fun _ => ?_)
theorem spec_l13Ok.mono : ∀ a0 k, LeO (spec_l13Ok.f k a0) (spec_l13Ok.f (k + 1) a0) := by
  intro a0 k
  have ih0 := spec_l13Ok.mono_l k
  unfold spec_l13Ok.f
  repeat' first
      | (with_reducible exact ih0 _ _)
      | (with_reducible exact spec_l13One.mono _ _ _ _ _ _ _ _)
      | (with_reducible exact LeO.refl _)
      | (with_reducible exact LeO.none _)
      | (with_reducible refine LeO.ite ?_ ?_)
      | (with_reducible refine LeO.bind ?_ (fun _ => ?_))
      | exact ih0 _ _
      | exact spec_l13One.mono _ _ _ _ _ _ _ _
      | exact LeO.none _
      | refine LeO.ite ?_ ?_
      | refine LeO.bind ?_ (fun _ => ?_)
set_option maxHeartbeats 8000000 in
set_option maxRecDepth 100000 in
theorem spec_l13Ok.calls (k : Nat) (A0 : Option Addr) (c0 : Nat) (l0 : List (S143)) (r : Bool) (w : World) (hr0 : Kd.C k143 w A0 l0.length l0) (hc0 : l0.length ≤ c0) (h : spec_l13Ok.f k l0 = some r) :
    Calls Try.prog 109 #[.slice A0 l0.length c0] w fun e w' => e = .returned (.bool r) ∧ Drawn0 w w' := by
  have HR0 := Aside0.mk hr0
  have HC0 := Aside0.mk hc0
  clear hr0 hc0
  have H : (spec_l13Ok.l0 k l0 0) = some r := h
  clear h
  have H' := Aside0.mk H
  clear H
  go_enter Try.func109, Try.ntmps109
  go_wp2
  repeat (go_quiet (fail); try go_wp2)
  go_loopg [3] k (fun kq v3 w' => ∃ (x3_1 : Int), v3 = .int .i64 x3_1 ∧ Aside0 (spec_l13Ok.l0 kq l0 x3_1 = some r) ∧ Aside0 (kq ≤ k) ∧ Drawn0 w w')
  case atStart => exact ⟨(0), (by first | rfl | (simp; done) | (simp [*]; done)), H', ⟨Nat.le_refl _⟩, by repeat (first | exact Drawn0.refl _ | apply Drawn0.step)⟩
  case round =>
    clear H'
    try clear c1
    obtain ⟨x3_1, rfl, HA, HK1, ⟨m1, rfl⟩⟩ := hrel
    cases gk with
    | zero => exact absurd HA.out (by simp [spec_l13Ok.l0])
    | succ k1 =>
      have H := HA.out
      clear HA
      simp only [spec_l13Ok.l0] at H
      by_cases c2 : x3_1 < (l0.length : Int)
      · rw [if_pos c2] at H
        have c2b0 : decide (x3_1 < (l0.length : Int)) = true := decide_eq_true c2
        clear c2
        by_cases c3 : 0 ≤ x3_1
        · rw [if_pos c3] at H
          have c3b0 : decide (0 ≤ x3_1) = true := decide_eq_true c3
          clear c3
          replace H := Option.bind_eq_some_iff.mp H
          obtain ⟨t116, A40, H⟩ := H
          replace H : (if t116 = true then (if x3_1 > 0 then (if 0 ≤ (wrap64 (x3_1 - 1)) then (if (wrap64 (x3_1 - 1)) < (l0.length : Int) then (if ((Op.bytesLess (((rd_T143 l0 (wrap64 (x3_1 - 1))).f0).toList) (((rd_T143 l0 x3_1).f0).toList)) = true) then (spec_l13Ok.l0 k1 l0 (wrap64 (x3_1 + 1))) else (some false)) else (none)) else (none)) else (spec_l13Ok.l0 k1 l0 (wrap64 (x3_1 + 1)))) else (some false)) = some r := H
          have A4 := Aside0.mk A40
          clear A40
          by_cases c5 : t116 = true
          · subst c5
            have H1 : (if x3_1 > 0 then (if 0 ≤ (wrap64 (x3_1 - 1)) then (if (wrap64 (x3_1 - 1)) < (l0.length : Int) then (if ((Op.bytesLess (((rd_T143 l0 (wrap64 (x3_1 - 1))).f0).toList) (((rd_T143 l0 x3_1).f0).toList)) = true) then (spec_l13Ok.l0 k1 l0 (wrap64 (x3_1 + 1))) else (some false)) else (none)) else (none)) else (spec_l13Ok.l0 k1 l0 (wrap64 (x3_1 + 1)))) = some r := by rw [if_pos rfl] at H; exact H
            clear H
            have H := H1
            clear H1
            by_cases c6 : x3_1 > 0
            · rw [if_pos c6] at H
              have c6b0 : decide (0 < x3_1) = true := decide_eq_true c6
              clear c6
              obtain ⟨ji7, hji7⟩ : ∃ j_ : Int, (wrap64 (x3_1 - 1)) = j_ := ⟨_, rfl⟩
              replace H : (if 0 ≤ (ji7) then (if (ji7) < (l0.length : Int) then (if ((Op.bytesLess (((rd_T143 l0 (ji7)).f0).toList) (((rd_T143 l0 x3_1).f0).toList)) = true) then (spec_l13Ok.l0 k1 l0 (wrap64 (x3_1 + 1))) else (some false)) else (none)) else (none)) = some r := by first | (rw [hji7] at H; exact H) | (simp only [hji7] at H ⊢; exact H)
              (try rw [hji7] at A4)
              have hji7w : (IntKind.i64.wrap (x3_1 - 1)) = ji7 := (i64_w _).trans hji7
              by_cases c8 : 0 ≤ (ji7)
              · rw [if_pos c8] at H
                have c8b0 : decide (0 ≤ (ji7)) = true := decide_eq_true c8
                clear c8
                by_cases c9 : (ji7) < (l0.length : Int)
                · rw [if_pos c9] at H
                  have c9b0 : decide ((ji7) < (l0.length : Int)) = true := decide_eq_true c9
                  clear c9
                  by_cases c10 : ((Op.bytesLess (((rd_T143 l0 (ji7)).f0).toList) (((rd_T143 l0 x3_1).f0).toList)) = true)
                  · rw [if_pos c10] at H
                    have c10b0 : (Op.bytesLess (((rd_T143 l0 (ji7)).f0).toList) (((rd_T143 l0 x3_1).f0).toList)) = true := c10
                    clear c10
                    have H' := Aside0.mk H
                    clear H
                    have p115 : 0 ≤ (x3_1 : Int) := of_decide_eq_true (by first | (with_reducible assumption) | assumption)
                    have q115 : x3_1 < (l0.length : Int) := of_decide_eq_true (by first | (with_reducible assumption) | assumption)
                    obtain ⟨ad115, e115, hx115_0, hx115_1, hx115_2, hx115_3, hx115_4, hx115_5, hx115_6⟩ := at_T143 HR0.out x3_1 p115 q115
                    cases e115
                    replace p115 := eq_true p115
                    replace q115 := eq_true q115
                    have p117 : 0 ≤ ((ji7) : Int) := of_decide_eq_true (by first | (with_reducible assumption) | assumption)
                    have q117 : (ji7) < (l0.length : Int) := of_decide_eq_true (by first | (with_reducible assumption) | assumption)
                    obtain ⟨ad117, e117, hx117_0, hx117_1, hx117_2, hx117_3, hx117_4, hx117_5, hx117_6⟩ := at_T143 HR0.out (ji7) p117 q117
                    obtain rfl : ad115 = ad117 := (by injection e117)
                    replace p117 := eq_true p117
                    replace q117 := eq_true q117
                    have p118 : 0 ≤ (x3_1 : Int) := of_decide_eq_true (by first | (with_reducible assumption) | assumption)
                    have q118 : x3_1 < (l0.length : Int) := of_decide_eq_true (by first | (with_reducible assumption) | assumption)
                    obtain ⟨ad118, e118, hx118_0, hx118_1, hx118_2, hx118_3, hx118_4, hx118_5, hx118_6⟩ := at_T143 HR0.out x3_1 p118 q118
                    obtain rfl : ad115 = ad118 := (by injection e118)
                    replace p118 := eq_true p118
                    replace q118 := eq_true q118
                    go_wp2_with (first | (go_at_call 167; (first | (with_reducible refine (spec_l13One.calls k1 _ ((rd_T143 l0 x3_1).f0) ((rd_T143 l0 x3_1).f1) ((rd_T143 l0 x3_1).f2) ((rd_T143 l0 x3_1).f3) ((rd_T143 l0 x3_1).f4) ((rd_T143 l0 x3_1).f5) ((rd_T143 l0 x3_1).f6) true _ ?side1 A4.out).mono ?_) | ((try simp only [Go.IntWalk.i64_left]); (with_reducible refine (spec_l13One.calls k1 _ ((rd_T143 l0 x3_1).f0) ((rd_T143 l0 x3_1).f1) ((rd_T143 l0 x3_1).f2) ((rd_T143 l0 x3_1).f3) ((rd_T143 l0 x3_1).f4) ((rd_T143 l0 x3_1).f5) ((rd_T143 l0 x3_1).f6) true _ ?side1 A4.out).mono ?_))); (case side1 => exact ⟨hx115_0, hx115_1, hx115_2, hx115_3, hx115_4, hx115_5, hx115_6⟩); rintro e w' ⟨rfl, ⟨nd, rfl⟩⟩; (try first | exact ⟨rfl, _, World.drewN_drewN _ _ _⟩ | exact ⟨rfl, _, Eq.trans (World.drewN_drewN _ _ _) (congrArg (World.drewN _) (Nat.add_assoc _ _ _))⟩)))
                    repeat (go_quiet (first | (go_at_call 167; (first | (with_reducible refine (spec_l13One.calls k1 _ ((rd_T143 l0 x3_1).f0) ((rd_T143 l0 x3_1).f1) ((rd_T143 l0 x3_1).f2) ((rd_T143 l0 x3_1).f3) ((rd_T143 l0 x3_1).f4) ((rd_T143 l0 x3_1).f5) ((rd_T143 l0 x3_1).f6) true _ ?side1 A4.out).mono ?_) | ((try simp only [Go.IntWalk.i64_left]); (with_reducible refine (spec_l13One.calls k1 _ ((rd_T143 l0 x3_1).f0) ((rd_T143 l0 x3_1).f1) ((rd_T143 l0 x3_1).f2) ((rd_T143 l0 x3_1).f3) ((rd_T143 l0 x3_1).f4) ((rd_T143 l0 x3_1).f5) ((rd_T143 l0 x3_1).f6) true _ ?side1 A4.out).mono ?_))); (case side1 => exact ⟨hx115_0, hx115_1, hx115_2, hx115_3, hx115_4, hx115_5, hx115_6⟩); rintro e w' ⟨rfl, ⟨nd, rfl⟩⟩; (try first | exact ⟨rfl, _, World.drewN_drewN _ _ _⟩ | exact ⟨rfl, _, Eq.trans (World.drewN_drewN _ _ _) (congrArg (World.drewN _) (Nat.add_assoc _ _ _))⟩))); try go_wp2_with (first | (go_at_call 167; (first | (with_reducible refine (spec_l13One.calls k1 _ ((rd_T143 l0 x3_1).f0) ((rd_T143 l0 x3_1).f1) ((rd_T143 l0 x3_1).f2) ((rd_T143 l0 x3_1).f3) ((rd_T143 l0 x3_1).f4) ((rd_T143 l0 x3_1).f5) ((rd_T143 l0 x3_1).f6) true _ ?side1 A4.out).mono ?_) | ((try simp only [Go.IntWalk.i64_left]); (with_reducible refine (spec_l13One.calls k1 _ ((rd_T143 l0 x3_1).f0) ((rd_T143 l0 x3_1).f1) ((rd_T143 l0 x3_1).f2) ((rd_T143 l0 x3_1).f3) ((rd_T143 l0 x3_1).f4) ((rd_T143 l0 x3_1).f5) ((rd_T143 l0 x3_1).f6) true _ ?side1 A4.out).mono ?_))); (case side1 => exact ⟨hx115_0, hx115_1, hx115_2, hx115_3, hx115_4, hx115_5, hx115_6⟩); rintro e w' ⟨rfl, ⟨nd, rfl⟩⟩; (try first | exact ⟨rfl, _, World.drewN_drewN _ _ _⟩ | exact ⟨rfl, _, Eq.trans (World.drewN_drewN _ _ _) (congrArg (World.drewN _) (Nat.add_assoc _ _ _))⟩))))
                    go_roundg k1
                    case measure => have := HK1.out; omega
                    case rel => exact ⟨(wrap64 (x3_1 + 1)), (by first | rfl | (simp; done) | (simp [*]; done)), H', ⟨by have := HK1.out; omega⟩, by repeat (first | exact Drawn0.refl _ | apply Drawn0.step)⟩
                  · rw [if_neg c10] at H
                    have c10b0 : (Op.bytesLess (((rd_T143 l0 (ji7)).f0).toList) (((rd_T143 l0 x3_1).f0).toList)) = false := by simpa using c10
                    clear c10
                    obtain rfl := Option.some.inj H
                    have p115 : 0 ≤ (x3_1 : Int) := of_decide_eq_true (by first | (with_reducible assumption) | assumption)
                    have q115 : x3_1 < (l0.length : Int) := of_decide_eq_true (by first | (with_reducible assumption) | assumption)
                    obtain ⟨ad115, e115, hx115_0, hx115_1, hx115_2, hx115_3, hx115_4, hx115_5, hx115_6⟩ := at_T143 HR0.out x3_1 p115 q115
                    cases e115
                    replace p115 := eq_true p115
                    replace q115 := eq_true q115
                    have p117 : 0 ≤ ((ji7) : Int) := of_decide_eq_true (by first | (with_reducible assumption) | assumption)
                    have q117 : (ji7) < (l0.length : Int) := of_decide_eq_true (by first | (with_reducible assumption) | assumption)
                    obtain ⟨ad117, e117, hx117_0, hx117_1, hx117_2, hx117_3, hx117_4, hx117_5, hx117_6⟩ := at_T143 HR0.out (ji7) p117 q117
                    obtain rfl : ad115 = ad117 := (by injection e117)
                    replace p117 := eq_true p117
                    replace q117 := eq_true q117
                    have p118 : 0 ≤ (x3_1 : Int) := of_decide_eq_true (by first | (with_reducible assumption) | assumption)
                    have q118 : x3_1 < (l0.length : Int) := of_decide_eq_true (by first | (with_reducible assumption) | assumption)
                    obtain ⟨ad118, e118, hx118_0, hx118_1, hx118_2, hx118_3, hx118_4, hx118_5, hx118_6⟩ := at_T143 HR0.out x3_1 p118 q118
                    obtain rfl : ad115 = ad118 := (by injection e118)
                    replace p118 := eq_true p118
                    replace q118 := eq_true q118
                    go_wp2_with (first | (go_at_call 167; (first | (with_reducible refine (spec_l13One.calls k1 _ ((rd_T143 l0 x3_1).f0) ((rd_T143 l0 x3_1).f1) ((rd_T143 l0 x3_1).f2) ((rd_T143 l0 x3_1).f3) ((rd_T143 l0 x3_1).f4) ((rd_T143 l0 x3_1).f5) ((rd_T143 l0 x3_1).f6) true _ ?side1 A4.out).mono ?_) | ((try simp only [Go.IntWalk.i64_left]); (with_reducible refine (spec_l13One.calls k1 _ ((rd_T143 l0 x3_1).f0) ((rd_T143 l0 x3_1).f1) ((rd_T143 l0 x3_1).f2) ((rd_T143 l0 x3_1).f3) ((rd_T143 l0 x3_1).f4) ((rd_T143 l0 x3_1).f5) ((rd_T143 l0 x3_1).f6) true _ ?side1 A4.out).mono ?_))); (case side1 => exact ⟨hx115_0, hx115_1, hx115_2, hx115_3, hx115_4, hx115_5, hx115_6⟩); rintro e w' ⟨rfl, ⟨nd, rfl⟩⟩; (try first | exact ⟨rfl, _, World.drewN_drewN _ _ _⟩ | exact ⟨rfl, _, Eq.trans (World.drewN_drewN _ _ _) (congrArg (World.drewN _) (Nat.add_assoc _ _ _))⟩)))
                    repeat (go_quiet (first | (go_at_call 167; (first | (with_reducible refine (spec_l13One.calls k1 _ ((rd_T143 l0 x3_1).f0) ((rd_T143 l0 x3_1).f1) ((rd_T143 l0 x3_1).f2) ((rd_T143 l0 x3_1).f3) ((rd_T143 l0 x3_1).f4) ((rd_T143 l0 x3_1).f5) ((rd_T143 l0 x3_1).f6) true _ ?side1 A4.out).mono ?_) | ((try simp only [Go.IntWalk.i64_left]); (with_reducible refine (spec_l13One.calls k1 _ ((rd_T143 l0 x3_1).f0) ((rd_T143 l0 x3_1).f1) ((rd_T143 l0 x3_1).f2) ((rd_T143 l0 x3_1).f3) ((rd_T143 l0 x3_1).f4) ((rd_T143 l0 x3_1).f5) ((rd_T143 l0 x3_1).f6) true _ ?side1 A4.out).mono ?_))); (case side1 => exact ⟨hx115_0, hx115_1, hx115_2, hx115_3, hx115_4, hx115_5, hx115_6⟩); rintro e w' ⟨rfl, ⟨nd, rfl⟩⟩; (try first | exact ⟨rfl, _, World.drewN_drewN _ _ _⟩ | exact ⟨rfl, _, Eq.trans (World.drewN_drewN _ _ _) (congrArg (World.drewN _) (Nat.add_assoc _ _ _))⟩))); try go_wp2_with (first | (go_at_call 167; (first | (with_reducible refine (spec_l13One.calls k1 _ ((rd_T143 l0 x3_1).f0) ((rd_T143 l0 x3_1).f1) ((rd_T143 l0 x3_1).f2) ((rd_T143 l0 x3_1).f3) ((rd_T143 l0 x3_1).f4) ((rd_T143 l0 x3_1).f5) ((rd_T143 l0 x3_1).f6) true _ ?side1 A4.out).mono ?_) | ((try simp only [Go.IntWalk.i64_left]); (with_reducible refine (spec_l13One.calls k1 _ ((rd_T143 l0 x3_1).f0) ((rd_T143 l0 x3_1).f1) ((rd_T143 l0 x3_1).f2) ((rd_T143 l0 x3_1).f3) ((rd_T143 l0 x3_1).f4) ((rd_T143 l0 x3_1).f5) ((rd_T143 l0 x3_1).f6) true _ ?side1 A4.out).mono ?_))); (case side1 => exact ⟨hx115_0, hx115_1, hx115_2, hx115_3, hx115_4, hx115_5, hx115_6⟩); rintro e w' ⟨rfl, ⟨nd, rfl⟩⟩; (try first | exact ⟨rfl, _, World.drewN_drewN _ _ _⟩ | exact ⟨rfl, _, Eq.trans (World.drewN_drewN _ _ _) (congrArg (World.drewN _) (Nat.add_assoc _ _ _))⟩))))
                    go_ret
                    exact ⟨by first | rfl | (simp; done) | (simp only [← hji7] <;> (first | rfl | simp)) | (simp [*]; done), by repeat (first | exact Drawn0.refl _ | apply Drawn0.step)⟩
                · rw [if_neg c9] at H
                  exact absurd H (by simp)
              · rw [if_neg c8] at H
                exact absurd H (by simp)
            · rw [if_neg c6] at H
              have c6b0 : decide (0 < x3_1) = false := decide_eq_false c6
              clear c6
              have H' := Aside0.mk H
              clear H
              have p115 : 0 ≤ (x3_1 : Int) := of_decide_eq_true (by first | (with_reducible assumption) | assumption)
              have q115 : x3_1 < (l0.length : Int) := of_decide_eq_true (by first | (with_reducible assumption) | assumption)
              obtain ⟨ad115, e115, hx115_0, hx115_1, hx115_2, hx115_3, hx115_4, hx115_5, hx115_6⟩ := at_T143 HR0.out x3_1 p115 q115
              cases e115
              replace p115 := eq_true p115
              replace q115 := eq_true q115
              go_wp2_with (first | (go_at_call 167; (first | (with_reducible refine (spec_l13One.calls k1 _ ((rd_T143 l0 x3_1).f0) ((rd_T143 l0 x3_1).f1) ((rd_T143 l0 x3_1).f2) ((rd_T143 l0 x3_1).f3) ((rd_T143 l0 x3_1).f4) ((rd_T143 l0 x3_1).f5) ((rd_T143 l0 x3_1).f6) true _ ?side1 A4.out).mono ?_) | ((try simp only [Go.IntWalk.i64_left]); (with_reducible refine (spec_l13One.calls k1 _ ((rd_T143 l0 x3_1).f0) ((rd_T143 l0 x3_1).f1) ((rd_T143 l0 x3_1).f2) ((rd_T143 l0 x3_1).f3) ((rd_T143 l0 x3_1).f4) ((rd_T143 l0 x3_1).f5) ((rd_T143 l0 x3_1).f6) true _ ?side1 A4.out).mono ?_))); (case side1 => exact ⟨hx115_0, hx115_1, hx115_2, hx115_3, hx115_4, hx115_5, hx115_6⟩); rintro e w' ⟨rfl, ⟨nd, rfl⟩⟩; (try first | exact ⟨rfl, _, World.drewN_drewN _ _ _⟩ | exact ⟨rfl, _, Eq.trans (World.drewN_drewN _ _ _) (congrArg (World.drewN _) (Nat.add_assoc _ _ _))⟩)))
              repeat (go_quiet (first | (go_at_call 167; (first | (with_reducible refine (spec_l13One.calls k1 _ ((rd_T143 l0 x3_1).f0) ((rd_T143 l0 x3_1).f1) ((rd_T143 l0 x3_1).f2) ((rd_T143 l0 x3_1).f3) ((rd_T143 l0 x3_1).f4) ((rd_T143 l0 x3_1).f5) ((rd_T143 l0 x3_1).f6) true _ ?side1 A4.out).mono ?_) | ((try simp only [Go.IntWalk.i64_left]); (with_reducible refine (spec_l13One.calls k1 _ ((rd_T143 l0 x3_1).f0) ((rd_T143 l0 x3_1).f1) ((rd_T143 l0 x3_1).f2) ((rd_T143 l0 x3_1).f3) ((rd_T143 l0 x3_1).f4) ((rd_T143 l0 x3_1).f5) ((rd_T143 l0 x3_1).f6) true _ ?side1 A4.out).mono ?_))); (case side1 => exact ⟨hx115_0, hx115_1, hx115_2, hx115_3, hx115_4, hx115_5, hx115_6⟩); rintro e w' ⟨rfl, ⟨nd, rfl⟩⟩; (try first | exact ⟨rfl, _, World.drewN_drewN _ _ _⟩ | exact ⟨rfl, _, Eq.trans (World.drewN_drewN _ _ _) (congrArg (World.drewN _) (Nat.add_assoc _ _ _))⟩))); try go_wp2_with (first | (go_at_call 167; (first | (with_reducible refine (spec_l13One.calls k1 _ ((rd_T143 l0 x3_1).f0) ((rd_T143 l0 x3_1).f1) ((rd_T143 l0 x3_1).f2) ((rd_T143 l0 x3_1).f3) ((rd_T143 l0 x3_1).f4) ((rd_T143 l0 x3_1).f5) ((rd_T143 l0 x3_1).f6) true _ ?side1 A4.out).mono ?_) | ((try simp only [Go.IntWalk.i64_left]); (with_reducible refine (spec_l13One.calls k1 _ ((rd_T143 l0 x3_1).f0) ((rd_T143 l0 x3_1).f1) ((rd_T143 l0 x3_1).f2) ((rd_T143 l0 x3_1).f3) ((rd_T143 l0 x3_1).f4) ((rd_T143 l0 x3_1).f5) ((rd_T143 l0 x3_1).f6) true _ ?side1 A4.out).mono ?_))); (case side1 => exact ⟨hx115_0, hx115_1, hx115_2, hx115_3, hx115_4, hx115_5, hx115_6⟩); rintro e w' ⟨rfl, ⟨nd, rfl⟩⟩; (try first | exact ⟨rfl, _, World.drewN_drewN _ _ _⟩ | exact ⟨rfl, _, Eq.trans (World.drewN_drewN _ _ _) (congrArg (World.drewN _) (Nat.add_assoc _ _ _))⟩))))
              go_roundg k1
              case measure => have := HK1.out; omega
              case rel => exact ⟨(wrap64 (x3_1 + 1)), (by first | rfl | (simp; done) | (simp [*]; done)), H', ⟨by have := HK1.out; omega⟩, by repeat (first | exact Drawn0.refl _ | apply Drawn0.step)⟩
          · replace c5 := Bool.eq_false_iff.mpr c5
            subst c5
            have H1 : (some false) = some r := by rw [if_neg (show ¬ (false = true) by decide)] at H; exact H
            clear H
            have H := H1
            clear H1
            obtain rfl := Option.some.inj H
            have p115 : 0 ≤ (x3_1 : Int) := of_decide_eq_true (by first | (with_reducible assumption) | assumption)
            have q115 : x3_1 < (l0.length : Int) := of_decide_eq_true (by first | (with_reducible assumption) | assumption)
            obtain ⟨ad115, e115, hx115_0, hx115_1, hx115_2, hx115_3, hx115_4, hx115_5, hx115_6⟩ := at_T143 HR0.out x3_1 p115 q115
            cases e115
            replace p115 := eq_true p115
            replace q115 := eq_true q115
            go_wp2_with (first | (go_at_call 167; (first | (with_reducible refine (spec_l13One.calls k1 _ ((rd_T143 l0 x3_1).f0) ((rd_T143 l0 x3_1).f1) ((rd_T143 l0 x3_1).f2) ((rd_T143 l0 x3_1).f3) ((rd_T143 l0 x3_1).f4) ((rd_T143 l0 x3_1).f5) ((rd_T143 l0 x3_1).f6) false _ ?side1 A4.out).mono ?_) | ((try simp only [Go.IntWalk.i64_left]); (with_reducible refine (spec_l13One.calls k1 _ ((rd_T143 l0 x3_1).f0) ((rd_T143 l0 x3_1).f1) ((rd_T143 l0 x3_1).f2) ((rd_T143 l0 x3_1).f3) ((rd_T143 l0 x3_1).f4) ((rd_T143 l0 x3_1).f5) ((rd_T143 l0 x3_1).f6) false _ ?side1 A4.out).mono ?_))); (case side1 => exact ⟨hx115_0, hx115_1, hx115_2, hx115_3, hx115_4, hx115_5, hx115_6⟩); rintro e w' ⟨rfl, ⟨nd, rfl⟩⟩; (try first | exact ⟨rfl, _, World.drewN_drewN _ _ _⟩ | exact ⟨rfl, _, Eq.trans (World.drewN_drewN _ _ _) (congrArg (World.drewN _) (Nat.add_assoc _ _ _))⟩)))
            repeat (go_quiet (first | (go_at_call 167; (first | (with_reducible refine (spec_l13One.calls k1 _ ((rd_T143 l0 x3_1).f0) ((rd_T143 l0 x3_1).f1) ((rd_T143 l0 x3_1).f2) ((rd_T143 l0 x3_1).f3) ((rd_T143 l0 x3_1).f4) ((rd_T143 l0 x3_1).f5) ((rd_T143 l0 x3_1).f6) false _ ?side1 A4.out).mono ?_) | ((try simp only [Go.IntWalk.i64_left]); (with_reducible refine (spec_l13One.calls k1 _ ((rd_T143 l0 x3_1).f0) ((rd_T143 l0 x3_1).f1) ((rd_T143 l0 x3_1).f2) ((rd_T143 l0 x3_1).f3) ((rd_T143 l0 x3_1).f4) ((rd_T143 l0 x3_1).f5) ((rd_T143 l0 x3_1).f6) false _ ?side1 A4.out).mono ?_))); (case side1 => exact ⟨hx115_0, hx115_1, hx115_2, hx115_3, hx115_4, hx115_5, hx115_6⟩); rintro e w' ⟨rfl, ⟨nd, rfl⟩⟩; (try first | exact ⟨rfl, _, World.drewN_drewN _ _ _⟩ | exact ⟨rfl, _, Eq.trans (World.drewN_drewN _ _ _) (congrArg (World.drewN _) (Nat.add_assoc _ _ _))⟩))); try go_wp2_with (first | (go_at_call 167; (first | (with_reducible refine (spec_l13One.calls k1 _ ((rd_T143 l0 x3_1).f0) ((rd_T143 l0 x3_1).f1) ((rd_T143 l0 x3_1).f2) ((rd_T143 l0 x3_1).f3) ((rd_T143 l0 x3_1).f4) ((rd_T143 l0 x3_1).f5) ((rd_T143 l0 x3_1).f6) false _ ?side1 A4.out).mono ?_) | ((try simp only [Go.IntWalk.i64_left]); (with_reducible refine (spec_l13One.calls k1 _ ((rd_T143 l0 x3_1).f0) ((rd_T143 l0 x3_1).f1) ((rd_T143 l0 x3_1).f2) ((rd_T143 l0 x3_1).f3) ((rd_T143 l0 x3_1).f4) ((rd_T143 l0 x3_1).f5) ((rd_T143 l0 x3_1).f6) false _ ?side1 A4.out).mono ?_))); (case side1 => exact ⟨hx115_0, hx115_1, hx115_2, hx115_3, hx115_4, hx115_5, hx115_6⟩); rintro e w' ⟨rfl, ⟨nd, rfl⟩⟩; (try first | exact ⟨rfl, _, World.drewN_drewN _ _ _⟩ | exact ⟨rfl, _, Eq.trans (World.drewN_drewN _ _ _) (congrArg (World.drewN _) (Nat.add_assoc _ _ _))⟩))))
            go_ret
            exact ⟨by first | rfl | (simp; done) | (simp [*]; done), by repeat (first | exact Drawn0.refl _ | apply Drawn0.step)⟩
        · rw [if_neg c3] at H
          exact absurd H (by simp)
      · rw [if_neg c2] at H
        have c2b0 : decide (x3_1 < (l0.length : Int)) = false := decide_eq_false c2
        clear c2
        replace H := Option.bind_eq_some_iff.mp H
        obtain ⟨t119, A110, H⟩ := H
        replace H : (some t119) = some r := H
        have A11 := Aside0.mk A110
        clear A110
        obtain rfl := Option.some.inj H
        go_wp2_with (first | (go_at_call 94; (first | (with_reducible refine (spec_l00In.calls (l0.length : Int) 1 4 t119 _ A11.out).mono ?_) | ((try simp only [Go.IntWalk.i64_left]); (with_reducible refine (spec_l00In.calls (l0.length : Int) 1 4 t119 _ A11.out).mono ?_))); rintro e w' ⟨rfl, ⟨nd, rfl⟩⟩; (try first | exact ⟨rfl, _, World.drewN_drewN _ _ _⟩ | exact ⟨rfl, _, Eq.trans (World.drewN_drewN _ _ _) (congrArg (World.drewN _) (Nat.add_assoc _ _ _))⟩)))
        repeat (go_quiet (first | (go_at_call 94; (first | (with_reducible refine (spec_l00In.calls (l0.length : Int) 1 4 t119 _ A11.out).mono ?_) | ((try simp only [Go.IntWalk.i64_left]); (with_reducible refine (spec_l00In.calls (l0.length : Int) 1 4 t119 _ A11.out).mono ?_))); rintro e w' ⟨rfl, ⟨nd, rfl⟩⟩; (try first | exact ⟨rfl, _, World.drewN_drewN _ _ _⟩ | exact ⟨rfl, _, Eq.trans (World.drewN_drewN _ _ _) (congrArg (World.drewN _) (Nat.add_assoc _ _ _))⟩))); try go_wp2_with (first | (go_at_call 94; (first | (with_reducible refine (spec_l00In.calls (l0.length : Int) 1 4 t119 _ A11.out).mono ?_) | ((try simp only [Go.IntWalk.i64_left]); (with_reducible refine (spec_l00In.calls (l0.length : Int) 1 4 t119 _ A11.out).mono ?_))); rintro e w' ⟨rfl, ⟨nd, rfl⟩⟩; (try first | exact ⟨rfl, _, World.drewN_drewN _ _ _⟩ | exact ⟨rfl, _, Eq.trans (World.drewN_drewN _ _ _) (congrArg (World.drewN _) (Nat.add_assoc _ _ _))⟩))))
        go_ret
        exact ⟨by first | rfl | (simp; done) | (simp [*]; done), by repeat (first | exact Drawn0.refl _ | apply Drawn0.step)⟩

end Go.Proofs.Ytjccjmjnlblhaaa.QMeritOrder
