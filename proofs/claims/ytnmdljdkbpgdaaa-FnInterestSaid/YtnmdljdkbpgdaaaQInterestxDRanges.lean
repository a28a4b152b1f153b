/- Ranges: what both sides hold for a number in a range. Conditions: none. -/
import Derived.Test.YtnmdljdkbpgdaaaQInterestx1
import Derived.Test.YtnmdljdkbpgdaaaQInterestx4
import Derived.Test.YtnmdljdkbpgdaaaQInterestxL
namespace Go.Proofs.Ytnmdljdkbpgdaaa.QInterest
open Go.RowKit Go.Proofs.YtnmdljdkbpgdaaaW.PrintWords Go.Proofs.Ytnmdljdkbpgdaaa.QOpen Go.Proofs.Ytnmdljdkbpgdaaa.QEv
set_option linter.unusedVariables false
set_option linter.unusedSimpArgs false
theorem spec_in_eq (a b c : Int) : spec_l00In.f a b c = some (decide (b ≤ a ∧ a ≤ c)) := by
  unfold spec_l00In.f
  split <;> simp <;> omega
theorem impl_within_eq (a b c : Int) : impl_within.f a b c = some (decide (b ≤ a ∧ a ≤ c)) := by
  unfold impl_within.f
  split <;> simp <;> omega
end Go.Proofs.Ytnmdljdkbpgdaaa.QInterest
