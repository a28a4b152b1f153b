/- Ranges: what both sides hold for a number in a range. Conditions: none. -/
import Derived.Test.YtglhbjmagfchiaaQDayLoadsx1
import Derived.Test.YtglhbjmagfchiaaQDayLoadsx3
import Derived.Test.YtglhbjmagfchiaaQDayLoadsxL
namespace Go.Proofs.Ytglhbjmagfchiaa.QDayLoads
open Go.RowKit Go.Proofs.YtglhbjmagfchiaaW.PrintWords Go.Proofs.Ytglhbjmagfchiaa.QOpen Go.Proofs.Ytglhbjmagfchiaa.QEv
set_option linter.unusedVariables false
set_option linter.unusedSimpArgs false
theorem spec_in_eq (a b c : Int) : spec_l00In.f a b c = some (decide (b ≤ a ∧ a ≤ c)) := by
  unfold spec_l00In.f
  split <;> simp <;> omega
theorem impl_within_eq (a b c : Int) : impl_within.f a b c = some (decide (b ≤ a ∧ a ≤ c)) := by
  unfold impl_within.f
  split <;> simp <;> omega
end Go.Proofs.Ytglhbjmagfchiaa.QDayLoads
