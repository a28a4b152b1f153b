/- DivS: both sides' rounding division, at all numbers. Conditions: a from -2^60 to 2^60, b from 1 to 2^60. -/
import Derived.Test.YtnmdljdkbpgdaaaQInterestx6
import Derived.Test.YtnmdljdkbpgdaaaQInterestx7
import Derived.Test.YtnmdljdkbpgdaaaQInterestxL
import Derived.Test.YtnmdljdkbpgdaaaQInterestxDDiv
namespace Go.Proofs.Ytnmdljdkbpgdaaa.QInterest
open Go.RowKit Go.Proofs.YtnmdljdkbpgdaaaW.PrintWords Go.Proofs.Ytnmdljdkbpgdaaa.QOpen Go.Proofs.Ytnmdljdkbpgdaaa.QEv
set_option linter.unusedVariables false
set_option linter.unusedSimpArgs false
def rdiv (a b : Int) : Int := if a < 0 then -((b - 2 * a) / (2 * b)) else (2 * a + b) / (2 * b)
theorem l01DivS_eq (a b : Int) (h0 : -1152921504606846976 ≤ a) (h1 : a ≤ 1152921504606846976) (hb : 0 < b) (hb1 : b ≤ 1152921504606846976) : spec_l01Div.f a b = some (rdiv a b) := by
  unfold rdiv
  by_cases c : a < 0
  · have w1 : wrap64 (2 * a) = 2 * a := wid (by omega) (by omega)
    have w2 : wrap64 (2 * b) = 2 * b := wid (by omega) (by omega)
    have w3 : wrap64 (b - 2 * a) = b - 2 * a := wid (by omega) (by omega)
    have q0 : 0 ≤ (b - 2 * a) / (2 * b) := Int.ediv_nonneg (by omega) (by omega)
    have q1 : (b - 2 * a) / (2 * b) ≤ b - 2 * a := Int.ediv_le_self _ (by omega)
    simp only [spec_l01Div.f, w1, w2, w3]
    rw [if_neg (by omega), if_pos c, if_neg (by omega), if_pos c, Int.tdiv_eq_ediv_of_nonneg (by omega), wid (n := (b - 2 * a) / (2 * b)) (by omega) (by omega), wid (by omega) (by omega)]
  · rw [if_neg c, l01Div_eq a b (by omega) h1 hb hb1]
theorem divRoundS_eq (a b : Int) (h0 : -1152921504606846976 ≤ a) (h1 : a ≤ 1152921504606846976) (hb : 0 < b) (hb1 : b ≤ 1152921504606846976) : impl_divRound.f a b = some (rdiv a b) := by
  unfold rdiv
  by_cases c : a < 0
  · obtain ⟨n, rfl⟩ : ∃ n, a = -n := ⟨-a, by omega⟩
    have r0 := Int.emod_nonneg n (by omega : b ≠ 0)
    have r1 := Int.emod_lt_of_pos n hb
    have q0 : 0 ≤ n / b := Int.ediv_nonneg (by omega) (by omega)
    have q1 : n / b ≤ n := Int.ediv_le_self _ (by omega)
    have e1 : impl_abs.f (-(n % b)) = some (n % b) := by
      simp only [impl_abs.f, mx, Int.neg_neg, wid (n := n % b) (by omega) (by omega)]
      split
      · rfl
      · congr 1; omega
    have e2 : impl_abs.f b = some b := by
      simp only [impl_abs.f, mx, wid (n := -b) (by omega) (by omega)]
      rw [if_neg (by omega)]
    rw [if_pos c, show b - 2 * -n = 2 * n + b by omega, round_eq n b (by omega) hb]
    simp only [impl_divRound.f, Int.neg_tmod, Int.neg_tdiv, Int.tmod_eq_emod_of_nonneg (show 0 ≤ n by omega), Int.tdiv_eq_ediv_of_nonneg (show 0 ≤ n by omega)]
    rw [if_neg (by omega), e1, Option.bind_some, e2, Option.bind_some, wid (n := b - n % b) (by omega) (by omega), wid (n := -(n / b)) (by omega) (by omega)]
    have hs : (decide (-n < 0) == decide (b < 0)) = false := by rw [decide_eq_true c, decide_eq_false (by omega)]; rfl
    rw [hs]
    by_cases c2 : n % b ≥ b - n % b
    · rw [if_pos c2, if_pos c2, if_neg (by decide), wid (n := -(n / b) - 1) (by omega) (by omega)]
      congr 1
      omega
    · rw [if_neg c2, if_neg c2]
  · rw [if_neg c, divRound_eq a b (by omega) h1 hb hb1]
theorem rdiv_le (a b : Int) (hb : 0 < b) : (0 ≤ a → 0 ≤ rdiv a b) ∧ (a < 0 → rdiv a b ≤ 0) ∧ (∀ m, 0 ≤ m → a ≤ m → rdiv a b ≤ m) ∧ (∀ m, 0 ≤ m → -m ≤ a → -m ≤ rdiv a b) := by
  have q : ∀ n m : Int, 0 ≤ n → n ≤ m → 0 ≤ (2 * n + b) / (2 * b) ∧ (2 * n + b) / (2 * b) ≤ m := fun n m h0 h1 => by
    refine ⟨Int.ediv_nonneg (by omega) (by omega), ?_⟩
    have : (2 * n + b) / (2 * b) < m + 1 := by
      refine Int.ediv_lt_of_lt_mul (by omega) ?_
      have h2 : m * 1 ≤ m * b := Int.mul_le_mul_of_nonneg_left (by omega) (by omega)
      have e : (m + 1) * (2 * b) = 2 * (m * b) + 2 * b := by
        rw [Int.add_mul, Int.one_mul, show m * (2 * b) = 2 * (m * b) by rw [← Int.mul_assoc, Int.mul_comm m 2, Int.mul_assoc]]
      rw [e]
      omega
    omega
  unfold rdiv
  refine ⟨fun h => ?_, fun h => ?_, fun m h0 h1 => ?_, fun m h0 h1 => ?_⟩
  · rw [if_neg (by omega)]
    exact (q a a h (by omega)).1
  · rw [if_pos h, show b - 2 * a = 2 * -a + b by omega]
    have := (q (-a) (-a) (by omega) (by omega)).1
    omega
  · split
    · rename_i c
      rw [show b - 2 * a = 2 * -a + b by omega]
      have := (q (-a) (-a) (by omega) (by omega)).1
      omega
    · exact (q a m (by omega) h1).2
  · split
    · rename_i c
      rw [show b - 2 * a = 2 * -a + b by omega]
      have := (q (-a) m (by omega) (by omega)).2
      omega
    · rename_i c
      have := (q a a (by omega) (by omega)).1
      omega
end Go.Proofs.Ytnmdljdkbpgdaaa.QInterest
