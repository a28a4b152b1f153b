/- Cut: how many of the first elements of a row lie before a place; halving. Conditions: none. -/
import Derived.Test.YtjccjmjnlblhaaaQMovedTenantxL
namespace Go.Proofs.Ytjccjmjnlblhaaa.QMovedTenant
open Go.RowKit Go.Proofs.YtjccjmjnlblhaaaW.PrintWords Go.Proofs.Ytjccjmjnlblhaaa.QOpen Go.Proofs.Ytjccjmjnlblhaaa.QEv
set_option linter.unusedVariables false
set_option linter.unusedSimpArgs false
def IsCut (p : Nat → Prop) (n c : Nat) : Prop := c ≤ n ∧ (∀ j, j < c → p j) ∧ ∀ j, c ≤ j → j < n → ¬ p j
theorem cut_ex (p : Nat → Prop) (n : Nat) (mono : ∀ i j, i ≤ j → j < n → p j → p i) : ∃ c, IsCut p n c := by
  induction n with
  | zero => exact ⟨0, Nat.le_refl _, fun j h => absurd h (by omega), fun j _ h => absurd h (by omega)⟩
  | succ n ih =>
    obtain ⟨c, h0, h1, h2⟩ := ih (fun i j hi hj => mono i j hi (by omega))
    by_cases h : p n
    · exact ⟨n + 1, Nat.le_refl _, fun j hj => mono j n (by omega) (by omega) h, fun j _ hj => absurd hj (by omega)⟩
    · refine ⟨c, by omega, h1, fun j hj hj2 => ?_⟩
      by_cases e : j = n
      · subst e; exact h
      · exact h2 j hj (by omega)
theorem mid_eq (lo hi : Nat) (h : lo + hi ≤ 1000000) : wrap64 ((IntKind.u64.wrap (wrap64 ((lo : Int) + (hi : Int)))) / 2) = (((lo + hi) / 2 : Nat) : Int) := by
  have e1 : wrap64 ((lo : Int) + (hi : Int)) = ((lo + hi : Nat) : Int) := by rw [wid (by omega) (by omega)]; omega
  have e2 : IntKind.u64.wrap ((lo + hi : Nat) : Int) = ((lo + hi : Nat) : Int) := by
    rw [IntKind.wrap_u64]
    omega
  rw [e1, e2, wid (by omega) (by omega)]
  omega
end Go.Proofs.Ytjccjmjnlblhaaa.QMovedTenant
