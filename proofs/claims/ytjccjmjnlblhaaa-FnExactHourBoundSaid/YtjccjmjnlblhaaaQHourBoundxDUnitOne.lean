/- UnitOne: both sides hold one and the same for a valid unit. Conditions: none. -/
import Derived.Test.YtjccjmjnlblhaaaQHourBoundx2
import Derived.Test.YtjccjmjnlblhaaaQHourBoundx4
import Derived.Test.YtjccjmjnlblhaaaQHourBoundxL
import Derived.Test.YtjccjmjnlblhaaaQHourBoundxDNames
namespace Go.Proofs.Ytjccjmjnlblhaaa.QHourBound
open Go.RowKit Go.Proofs.YtjccjmjnlblhaaaW.PrintWords Go.Proofs.Ytjccjmjnlblhaaa.QOpen Go.Proofs.Ytjccjmjnlblhaaa.QEv
set_option linter.unusedVariables false
set_option linter.unusedSimpArgs false
def UnitOk (x : S143) : Prop := 0 ≤ x.f1 ∧ x.f1 ≤ x.f2 ∧ 1 ≤ x.f2 ∧ x.f2 ≤ 100000 ∧ 0 ≤ x.f3 ∧ x.f3 ≤ 100000 ∧ 0 ≤ x.f4 ∧ x.f4 ≤ 100000000 ∧ 1 ≤ x.f5 ∧ x.f5 ≤ 3 ∧ 1 ≤ x.f6 ∧ x.f6 ≤ 3
theorem unit_both (x : S143) (hx : sm143 x) : ∃ b, Ev (fun k => spec_l13One.f k x.f0 x.f1 x.f2 x.f3 x.f4 x.f5 x.f6) b ∧ Ev (fun k => impl_Unit_valid.f k x.f0 x.f1 x.f2 x.f3 x.f4 x.f5 x.f6) b ∧ (b = true → UnitOk x) := by
  have hz : x.f0.size ≤ 1048576 := hx.1
  obtain ⟨b, h1, h2, h3⟩ := name_both x.f0 (by omega)
  have mq : spec_l00Max.f 1 x.f1 = some (mx x.f1 1) := by
    simp only [spec_l00Max.f, mx]
    split <;> rfl
  have mr : mx x.f1 1 = max x.f1 1 := by
    simp only [mx]
    split <;> omega
  simp only [spec_l13One.f, impl_Unit_valid.f, spec_in_eq, impl_within_eq, mq, mr, Option.bind_some, decide_eq_true_eq]
  cases b with
  | false => exact ⟨false, Ev.bind h1 (Ev.neg (by decide) (Ev.now _)), Ev.bind h2 (Ev.neg (by decide) (Ev.now _)), fun h => by cases h⟩
  | true =>
    by_cases c1 : 0 ≤ x.f1 ∧ x.f1 ≤ 100000
    · by_cases c2 : max x.f1 1 ≤ x.f2 ∧ x.f2 ≤ 100000
      · by_cases c3 : 0 ≤ x.f3 ∧ x.f3 ≤ 100000
        · by_cases c4 : 0 ≤ x.f4 ∧ x.f4 ≤ 100000000
          · by_cases c5 : 1 ≤ x.f5 ∧ x.f5 ≤ 3
            · refine ⟨decide (1 ≤ x.f6 ∧ x.f6 ≤ 3), Ev.bind h1 (Ev.pos rfl (Ev.pos c1 (Ev.pos c2 (Ev.pos c3 (Ev.pos c4 (Ev.pos c5 (Ev.now _))))))), Ev.bind h2 (Ev.pos rfl (Ev.pos c1 (Ev.pos c2 (Ev.pos c3 (Ev.pos c4 (Ev.pos c5 (Ev.now _))))))), fun h => ?_⟩
              have := of_decide_eq_true h
              unfold UnitOk
              omega
            · exact ⟨false, Ev.bind h1 (Ev.pos rfl (Ev.pos c1 (Ev.pos c2 (Ev.pos c3 (Ev.pos c4 (Ev.neg c5 (Ev.now _))))))), Ev.bind h2 (Ev.pos rfl (Ev.pos c1 (Ev.pos c2 (Ev.pos c3 (Ev.pos c4 (Ev.neg c5 (Ev.now _))))))), fun h => by cases h⟩
          · exact ⟨false, Ev.bind h1 (Ev.pos rfl (Ev.pos c1 (Ev.pos c2 (Ev.pos c3 (Ev.neg c4 (Ev.now _)))))), Ev.bind h2 (Ev.pos rfl (Ev.pos c1 (Ev.pos c2 (Ev.pos c3 (Ev.neg c4 (Ev.now _)))))), fun h => by cases h⟩
        · exact ⟨false, Ev.bind h1 (Ev.pos rfl (Ev.pos c1 (Ev.pos c2 (Ev.neg c3 (Ev.now _))))), Ev.bind h2 (Ev.pos rfl (Ev.pos c1 (Ev.pos c2 (Ev.neg c3 (Ev.now _))))), fun h => by cases h⟩
      · exact ⟨false, Ev.bind h1 (Ev.pos rfl (Ev.pos c1 (Ev.neg c2 (Ev.now _)))), Ev.bind h2 (Ev.pos rfl (Ev.pos c1 (Ev.neg c2 (Ev.now _)))), fun h => by cases h⟩
    · exact ⟨false, Ev.bind h1 (Ev.pos rfl (Ev.neg c1 (Ev.now _))), Ev.bind h2 (Ev.pos rfl (Ev.neg c1 (Ev.now _))), fun h => by cases h⟩
end Go.Proofs.Ytjccjmjnlblhaaa.QHourBound
