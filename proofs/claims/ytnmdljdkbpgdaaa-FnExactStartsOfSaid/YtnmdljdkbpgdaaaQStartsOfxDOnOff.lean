/- OnOff: both sides hold one and the same for units and states. Conditions: none. -/
import Derived.Test.YtnmdljdkbpgdaaaQStartsOfx5
import Derived.Test.YtnmdljdkbpgdaaaQStartsOfx8
import Derived.Test.YtnmdljdkbpgdaaaQStartsOfxL
import Derived.Test.YtnmdljdkbpgdaaaQStartsOfxDUnits2
namespace Go.Proofs.Ytnmdljdkbpgdaaa.QStartsOf
open Go.RowKit Go.Proofs.YtnmdljdkbpgdaaaW.PrintWords Go.Proofs.Ytnmdljdkbpgdaaa.QOpen Go.Proofs.Ytnmdljdkbpgdaaa.QEv
set_option linter.unusedVariables false
set_option linter.unusedSimpArgs false
theorem onoffIn (s : List (List Bool)) (hs : s.length ≤ 1048576) (u : List S147) : ∀ d i : Nat, i + d = s.length →
    ∃ (b : Bool) (r : Int), Ev (fun k => spec_l13States.l0 k s (u.length : Int) (i : Int)) (b && decide (1 ≤ (s.length : Int) ∧ (s.length : Int) ≤ 12)) ∧ Ev (fun k => slices_IndexFunc_bool_bool.l0 k s (s.length : Int) (i : Int) u) r ∧
      decide (r ≥ 0) = !b ∧ (b = true → ∀ j, i ≤ j → j < s.length → (s.getD j []).length = u.length) := by
  intro d
  induction d with
  | zero =>
    intro i hi
    refine ⟨true, -1, Ev.succ ?_, Ev.succ ?_, by decide, fun _ j h1 h2 => by omega⟩
    · simp only [spec_l13States.l0, spec_in_eq, Option.bind_some, Bool.true_and]
      exact Ev.neg (by omega) (Ev.now _)
    · simp only [slices_IndexFunc_bool_bool.l0]
      exact Ev.neg (by omega) (Ev.now _)
  | succ d ih =>
    intro i hi
    have er : rd_L4 s (i : Int) = s.getD i [] := rfl
    obtain ⟨b, r, h1, h2, h3, h4⟩ := ih (i + 1) (by omega)
    by_cases c : (s.getD i []).length = u.length
    · refine ⟨b, r, Ev.succ ?_, Ev.succ ?_, h3, fun hb j hj hj2 => ?_⟩
      · simp only [spec_l13States.l0, er, wnat i (by omega)]
        exact Ev.pos (by omega) (Ev.pos (by omega) (Ev.pos (by omega) h1))
      · have e : (((s.getD i []).length : Int) != (u.length : Int)) = false := by rw [c]; exact bne_self_eq_false _
        simp only [slices_IndexFunc_bool_bool.l0, impl_statesCode_1.f, er, wnat i (by omega), Option.bind_some, e]
        exact Ev.pos (by omega) (Ev.pos (by omega) (Ev.pos (by omega) (Ev.neg (by simp) h2)))
      · by_cases e : j = i
        · subst e; exact c
        · exact h4 hb j (by omega) hj2
    · refine ⟨false, (i : Int), Ev.succ ?_, Ev.succ ?_, by simp, fun h => by cases h⟩
      · simp only [spec_l13States.l0, er, Bool.false_and]
        exact Ev.pos (by omega) (Ev.pos (by omega) (Ev.neg (by omega) (Ev.now _)))
      · have e : (((s.getD i []).length : Int) != (u.length : Int)) = true := by rw [bne_iff_ne]; omega
        simp only [slices_IndexFunc_bool_bool.l0, impl_statesCode_1.f, er, Option.bind_some, e]
        exact Ev.pos (by omega) (Ev.pos (by omega) (Ev.pos (by omega) (Ev.pos (by simp) (Ev.now _))))
def OnOk (u : List S147) (s : List (List Bool)) : Prop := 1 ≤ u.length ∧ u.length ≤ 4 ∧ 1 ≤ s.length ∧ s.length ≤ 12 ∧ ∀ j, j < s.length → (s.getD j []).length = u.length
theorem onoff_both (u : List S147) (hu : smL sm147 u) (s : List (List Bool)) (hs : s.length ≤ 1048576) :
    (Ev (fun k => spec_l13Ok.f k u) false ∧ Ev (fun k => impl_statesCode.f k u s) 1) ∨
    (Ev (fun k => spec_l13Ok.f k u) true ∧ Ev (fun k => spec_l13States.f k s (u.length : Int)) false ∧ Ev (fun k => impl_statesCode.f k u s) 7) ∨
    (Ev (fun k => spec_l13Ok.f k u) true ∧ Ev (fun k => spec_l13States.f k s (u.length : Int)) true ∧ Ev (fun k => impl_statesCode.f k u s) 0 ∧ OnOk u s) := by
  obtain ⟨v, g1, g2, g3⟩ := units_both u hu
  cases v with
  | false =>
    refine .inl ⟨g1, ?_⟩
    simp only [impl_statesCode.f]
    exact Ev.bind g2 (Ev.neg (by decide) (Ev.now _))
  | true =>
    obtain ⟨u1, u2, _⟩ := g3 rfl
    obtain ⟨b, r, h1, h2, h3, h4⟩ := onoffIn s hs u s.length 0 (by omega)
    have h1' : Ev (fun k => spec_l13States.f k s (u.length : Int)) (b && decide (1 ≤ (s.length : Int) ∧ (s.length : Int) ≤ 12)) := h1
    by_cases c1 : s.length < 1
    · refine .inr (.inl ⟨g1, Ev.eqn h1' (by rw [decide_eq_false (by omega), Bool.and_false]), ?_⟩)
      simp only [impl_statesCode.f]
      exact Ev.bind g2 (Ev.pos rfl (Ev.pos (by omega) (Ev.now _)))
    · by_cases c2 : 12 < s.length
      · refine .inr (.inl ⟨g1, Ev.eqn h1' (by rw [decide_eq_false (by omega), Bool.and_false]), ?_⟩)
        simp only [impl_statesCode.f]
        exact Ev.bind g2 (Ev.pos rfl (Ev.neg (by omega) (Ev.pos (by omega) (Ev.now _))))
      · have hc : Ev (fun k => slices_ContainsFunc_bool_bool.f k s u) (!b) := by
          simp only [slices_ContainsFunc_bool_bool.f, slices_IndexFunc_bool_bool.f]
          rw [← h3]
          exact Ev.bind h2 (Ev.now _)
        rw [decide_eq_true (show 1 ≤ (s.length : Int) ∧ (s.length : Int) ≤ 12 by omega), Bool.and_true] at h1'
        cases b with
        | false =>
          refine .inr (.inl ⟨g1, h1', ?_⟩)
          simp only [impl_statesCode.f]
          exact Ev.bind g2 (Ev.pos rfl (Ev.neg (by omega) (Ev.neg (by omega) (Ev.bind hc (Ev.pos rfl (Ev.now _))))))
        | true =>
          refine .inr (.inr ⟨g1, h1', ?_, u1, u2, by omega, by omega, fun j hj => h4 rfl j (by omega) hj⟩)
          simp only [impl_statesCode.f]
          exact Ev.bind g2 (Ev.pos rfl (Ev.neg (by omega) (Ev.neg (by omega) (Ev.bind hc (Ev.neg (by decide) (Ev.now _))))))
end Go.Proofs.Ytnmdljdkbpgdaaa.QStartsOf
