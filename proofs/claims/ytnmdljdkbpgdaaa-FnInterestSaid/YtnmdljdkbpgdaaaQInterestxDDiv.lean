/- Div: both sides' rounding division, at numbers that are not negative. Conditions: a from 0 to 2^60, b from 1 to 2^60. -/
import Derived.Test.YtnmdljdkbpgdaaaQInterestx6
import Derived.Test.YtnmdljdkbpgdaaaQInterestx7
import Derived.Test.YtnmdljdkbpgdaaaQInterestxL
namespace Go.Proofs.Ytnmdljdkbpgdaaa.QInterest
open Go.RowKit Go.Proofs.YtnmdljdkbpgdaaaW.PrintWords Go.Proofs.Ytnmdljdkbpgdaaa.QOpen Go.Proofs.Ytnmdljdkbpgdaaa.QEv
set_option linter.unusedVariables false
set_option linter.unusedSimpArgs false
theorem round_eq (a b : Int) (h0 : 0 ≤ a) (hb : 0 < b) : (2 * a + b) / (2 * b) = if a % b ≥ b - a % b then a / b + 1 else a / b := by
  have e : 2 * a + b = (2 * (a % b) + b) + 2 * b * (a / b) := by
    have := Int.emod_add_mul_ediv a b
    have e2 : 2 * b * (a / b) = 2 * (b * (a / b)) := by rw [Int.mul_assoc]
    omega
  have r0 := Int.emod_nonneg a (by omega : b ≠ 0)
  have r1 := Int.emod_lt_of_pos a hb
  rw [e, Int.add_mul_ediv_left _ _ (by omega)]
  generalize a % b = r at *
  split
  · have : (2 * r + b) / (2 * b) = 1 := by
      rw [show 2 * r + b = (2 * r - b) + 2 * b * 1 by omega, Int.add_mul_ediv_left _ _ (by omega), Int.ediv_eq_zero_of_lt (by omega) (by omega)]
      rfl
    omega
  · have : (2 * r + b) / (2 * b) = 0 := Int.ediv_eq_zero_of_lt (by omega) (by omega)
    omega
theorem l01Div_eq (a b : Int) (h0 : 0 ≤ a) (h1 : a ≤ 1152921504606846976) (hb : 0 < b) (hb1 : b ≤ 1152921504606846976) : spec_l01Div.f a b = some ((2 * a + b) / (2 * b)) := by
  have w1 : wrap64 (2 * a) = 2 * a := wid (by omega) (by omega)
  have w2 : wrap64 (2 * b) = 2 * b := wid (by omega) (by omega)
  have w3 : wrap64 (2 * a + b) = 2 * a + b := wid (by omega) (by omega)
  have q0 : 0 ≤ (2 * a + b) / (2 * b) := Int.ediv_nonneg (by omega) (by omega)
  have q1 : (2 * a + b) / (2 * b) ≤ 2 * a + b := Int.ediv_le_self _ (by omega)
  simp only [spec_l01Div.f, w1, w2, w3]
  rw [if_neg (by omega), if_neg (by omega), if_neg (by omega), Int.tdiv_eq_ediv_of_nonneg (by omega), wid (by omega) (by omega)]
theorem divRound_eq (a b : Int) (h0 : 0 ≤ a) (h1 : a ≤ 1152921504606846976) (hb : 0 < b) (hb1 : b ≤ 1152921504606846976) : impl_divRound.f a b = some ((2 * a + b) / (2 * b)) := by
  have r0 := Int.emod_nonneg a (by omega : b ≠ 0)
  have r1 := Int.emod_lt_of_pos a hb
  have q0 : 0 ≤ a / b := Int.ediv_nonneg (by omega) (by omega)
  have q1 : a / b ≤ a := Int.ediv_le_self _ (by omega)
  have am : ∀ x : Int, 0 ≤ x → x ≤ 1152921504606846976 → impl_abs.f x = some x := fun x p q => by
    simp only [impl_abs.f, mx, wid (n := -x) (by omega) (by omega)]
    rw [if_neg (by omega)]
  rw [round_eq a b h0 hb]
  simp only [impl_divRound.f, Int.tmod_eq_emod_of_nonneg h0, Int.tdiv_eq_ediv_of_nonneg h0]
  rw [if_neg (by omega), am _ r0 (by omega), Option.bind_some, am b (by omega) hb1, Option.bind_some, wid (n := b - a % b) (by omega) (by omega), wid (n := a / b) (by omega) (by omega)]
  rw [show (decide (a < 0) == decide (b < 0)) = true by rw [decide_eq_false (by omega), decide_eq_false (by omega)]; rfl, if_pos rfl, wid (n := a / b + 1) (by omega) (by omega)]
  split <;> rfl
end Go.Proofs.Ytnmdljdkbpgdaaa.QInterest
