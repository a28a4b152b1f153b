/- DutyOne: both sides hold one and the same for a valid duty. Conditions: none. -/
import Derived.Test.YtjccjmjnlblhaaaQRestProblemsx2
import Derived.Test.YtjccjmjnlblhaaaQRestProblemsx4
import Derived.Test.YtjccjmjnlblhaaaQRestProblemsxL
import Derived.Test.YtjccjmjnlblhaaaQRestProblemsxDNames
namespace Go.Proofs.Ytjccjmjnlblhaaa.QRestProblems
open Go.RowKit Go.Proofs.YtjccjmjnlblhaaaW.PrintWords Go.Proofs.Ytjccjmjnlblhaaa.QOpen Go.Proofs.Ytjccjmjnlblhaaa.QEv
set_option linter.unusedVariables false
set_option linter.unusedSimpArgs false
def DutyOk (x : S44) : Prop := 1 ≤ x.f0.size ∧ x.f0.size ≤ 10 ∧ 0 ≤ x.f1 ∧ x.f1 ≤ 10000 ∧ 1 ≤ x.f2 ∧ x.f2 ≤ 48
theorem duty_both (x : S44) (hx : x.f0.size ≤ 9223372036854775807) : ∃ b, Ev (fun k => spec_l26One.f k x.f0 x.f1 x.f2 x.f3) b ∧ Ev (fun k => impl_Duty_valid.f k x.f0 x.f1 x.f2 x.f3) b ∧ (b = true → DutyOk x) := by
  obtain ⟨b, h1, h2, h3⟩ := name_both x.f0 hx
  simp only [spec_l26One.f, impl_Duty_valid.f, spec_in_eq, impl_within_eq, Option.bind_some, decide_eq_true_eq]
  cases b with
  | false => exact ⟨false, Ev.bind h1 (Ev.neg (by decide) (Ev.now _)), Ev.bind h2 (Ev.neg (by decide) (Ev.now _)), fun h => by cases h⟩
  | true =>
    by_cases c : 0 ≤ x.f1 ∧ x.f1 ≤ 10000
    · refine ⟨decide (1 ≤ x.f2 ∧ x.f2 ≤ 48), Ev.bind h1 (Ev.pos rfl (Ev.pos c (Ev.now _))), Ev.bind h2 (Ev.pos rfl (Ev.pos c (Ev.now _))), fun h => ?_⟩
      have := of_decide_eq_true h
      have := h3 rfl
      unfold DutyOk
      omega
    · exact ⟨false, Ev.bind h1 (Ev.pos rfl (Ev.neg c (Ev.now _))), Ev.bind h2 (Ev.pos rfl (Ev.neg c (Ev.now _))), fun h => by cases h⟩
end Go.Proofs.Ytjccjmjnlblhaaa.QRestProblems
