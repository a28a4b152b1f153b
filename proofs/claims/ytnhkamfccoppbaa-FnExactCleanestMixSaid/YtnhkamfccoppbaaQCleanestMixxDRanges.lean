/- Ranges: what both sides hold for a number in a range. Conditions: none. -/
import Derived.Test.YtnhkamfccoppbaaQCleanestMixx1
import Derived.Test.YtnhkamfccoppbaaQCleanestMixx4
import Derived.Test.YtnhkamfccoppbaaQCleanestMixxL
namespace Go.Proofs.Ytnhkamfccoppbaa.QCleanestMix
open Go.RowKit Go.Proofs.YtnhkamfccoppbaaW.PrintWords Go.Proofs.Ytnhkamfccoppbaa.QOpen Go.Proofs.Ytnhkamfccoppbaa.QEv
set_option linter.unusedVariables false
set_option linter.unusedSimpArgs false
theorem spec_in_eq (a b c : Int) : spec_l00In.f a b c = some (decide (b ≤ a ∧ a ≤ c)) := by
  unfold spec_l00In.f
  split <;> simp <;> omega
theorem impl_within_eq (a b c : Int) : impl_within.f a b c = some (decide (b ≤ a ∧ a ≤ c)) := by
  unfold impl_within.f
  split <;> simp <;> omega
end Go.Proofs.Ytnhkamfccoppbaa.QCleanestMix
