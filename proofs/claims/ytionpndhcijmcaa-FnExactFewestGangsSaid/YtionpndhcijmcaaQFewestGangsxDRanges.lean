/- Ranges: what both sides hold for a number in a range. Conditions: none. -/
import Derived.Test.YtionpndhcijmcaaQFewestGangsx2
import Derived.Test.YtionpndhcijmcaaQFewestGangsx6
import Derived.Test.YtionpndhcijmcaaQFewestGangsxL
namespace Go.Proofs.Ytionpndhcijmcaa.QFewestGangs
open Go.RowKit Go.Proofs.YtionpndhcijmcaaW.PrintWords Go.Proofs.Ytionpndhcijmcaa.QOpen Go.Proofs.Ytionpndhcijmcaa.QEv
set_option linter.unusedVariables false
set_option linter.unusedSimpArgs false
theorem spec_in_eq (a b c : Int) : spec_l00In.f a b c = some (decide (b ≤ a ∧ a ≤ c)) := by
  unfold spec_l00In.f
  split <;> simp <;> omega
theorem impl_within_eq (a b c : Int) : impl_within.f a b c = some (decide (b ≤ a ∧ a ≤ c)) := by
  unfold impl_within.f
  split <;> simp <;> omega
end Go.Proofs.Ytionpndhcijmcaa.QFewestGangs
