/- SrcPick: what is drawn from some bytes: it always comes to an end, within its bounds. Conditions: bytes, a place that is not too large. -/
import Derived.Test.YtnmdljdkbpgdaaaQInterestx4
import Derived.Test.YtnmdljdkbpgdaaaQInterestxL
namespace Go.Proofs.Ytnmdljdkbpgdaaa.QInterest
open Go.RowKit Go.Proofs.YtnmdljdkbpgdaaaW.PrintWords Go.Proofs.Ytnmdljdkbpgdaaa.QOpen Go.Proofs.Ytnmdljdkbpgdaaa.QEv
set_option linter.unusedVariables false
set_option linter.unusedSimpArgs false
def BytesOk (c : List Int) : Prop := c.length ≤ 1048576 ∧ ∀ x ∈ c, 0 ≤ x ∧ x ≤ 255
theorem bytes_at (c : List Int) (hc : BytesOk c) (i : Int) (h0 : 0 ≤ i) (h1 : i < (c.length : Int)) : 0 ≤ rd c i ∧ rd c i ≤ 255 := by
  have e : rd c i = c.getD i.toNat 0 := rfl
  rw [e]
  exact hc.2 _ (getD_mem c _ 0 (by omega))
theorem and255 (a : Int) : 0 ≤ Go.bits .and .u64 (IntKind.u64.wrap a / 1099511627776) 255 ∧ Go.bits .and .u64 (IntKind.u64.wrap a / 1099511627776) 255 ≤ 255 := by
  have h : 0 ≤ IntKind.u64.wrap a ∧ IntKind.u64.wrap a < 18446744073709551616 := by
    simp only [IntKind.wrap, IntKind.bits, IntKind.signed]
    constructor <;> simp <;> omega
  generalize IntKind.u64.wrap a = b at *
  rw [Go.u64_and (b / 1099511627776) 255 (by omega) (by omega) (by omega) (by omega)]
  have := @Nat.and_le_right (b / 1099511627776).toNat (255 : Int).toNat
  constructor
  · omega
  · have e : (255 : Int).toNat = 255 := rfl
    omega
theorem and255w (a : Int) : wrap64 (Go.bits .and .u64 (IntKind.u64.wrap a / 1099511627776) 255) = Go.bits .and .u64 (IntKind.u64.wrap a / 1099511627776) 255 := by
  obtain ⟨a0, a1⟩ := and255 a
  exact wid (by omega) (by omega)
theorem next_ev (c : List Int) (hc : BytesOk c) (p s : Int) (h0 : 0 ≤ p) (h1 : p ≤ 4611686018427387904) : ∃ x s' : Int, spec_l00Src_next.f c p s = some (x, p + 1, s') ∧ 0 ≤ x ∧ x ≤ 255 := by
  have w : wrap64 (p + 1) = p + 1 := wid (by omega) (by omega)
  simp only [spec_l00Src_next.f, w]
  by_cases a : p < (c.length : Int)
  · obtain ⟨b0, b1⟩ := bytes_at c hc p h0 a
    rw [if_pos a, if_pos h0]
    have w2 : wrap64 (rd c p) = rd c p := wid (by omega) (by omega)
    rw [if_pos (by omega), w2]
    exact ⟨_, _, rfl, b0, b1⟩
  · rw [if_neg a]
    by_cases b : p + 1 ≤ (c.length : Int)
    · rw [if_pos b]
      exact ⟨_, _, rfl, by omega, by omega⟩
    · rw [if_neg b]
      rw [and255w]
      exact ⟨_, _, rfl, (and255 _).1, (and255 _).2⟩
theorem pick_ev (c : List Int) (hc : BytesOk c) (p s n : Int) (h0 : 0 ≤ p) (h1 : p ≤ 4611686018427387900) (hn : n ≤ 1000000000) : ∃ x p' s' : Int, spec_l00Src_pick.f c p s n = some (x, p', s') ∧ 0 ≤ x ∧ (1 ≤ n → x < n) ∧ p ≤ p' ∧ p' ≤ p + 2 := by
  simp only [spec_l00Src_pick.f]
  by_cases a : n ≤ 1
  · rw [if_pos a]
    exact ⟨0, p, s, rfl, by omega, by omega, by omega, by omega⟩
  · rw [if_neg a]
    obtain ⟨x, s1, e, x0, x1⟩ := next_ev c hc p s h0 (by omega)
    simp only [e, Option.bind_some]
    by_cases b : n > 200
    · rw [if_pos b]
      obtain ⟨y, s2, e2, y0, y1⟩ := next_ev c hc (p + 1) s1 (by omega) (by omega)
      have w1 : wrap64 (x * 256) = x * 256 := wid (by omega) (by omega)
      have w2 : wrap64 (x * 256 + y) = x * 256 + y := wid (by omega) (by omega)
      simp only [e2, Option.bind_some, w1, w2]
      rw [if_neg (by omega), Int.tmod_eq_emod_of_nonneg (by omega)]
      have m0 := Int.emod_nonneg (x * 256 + y) (by omega : n ≠ 0)
      have m1 := Int.emod_lt_of_pos (x * 256 + y) (by omega : 0 < n)
      exact ⟨_, _, _, rfl, m0, fun _ => m1, by omega, by omega⟩
    · rw [if_neg b, if_neg (by omega), Int.tmod_eq_emod_of_nonneg x0]
      have m0 := Int.emod_nonneg x (by omega : n ≠ 0)
      have m1 := Int.emod_lt_of_pos x (by omega : 0 < n)
      exact ⟨_, _, _, rfl, m0, fun _ => m1, by omega, by omega⟩
theorem bytes_of (l : List Int) (h : wfL (wfI .u8) l) (hl : l.length ≤ 1048576) : BytesOk l := ⟨hl, fun x hx => wfI_u8 (h.2 x hx)⟩
end Go.Proofs.Ytnmdljdkbpgdaaa.QInterest
