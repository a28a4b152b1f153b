/- Memo: both sides hold one and the same for a memo. Conditions: none. -/
import Derived.Test.YtnmdljdkbpgdaaaQCommitStatex3
import Derived.Test.YtnmdljdkbpgdaaaQCommitStatex5
import Derived.Test.YtnmdljdkbpgdaaaQCommitStatexL
import Derived.Test.YtnmdljdkbpgdaaaQCommitStatexDNames
namespace Go.Proofs.Ytnmdljdkbpgdaaa.QCommitState
open Go.RowKit Go.Proofs.YtnmdljdkbpgdaaaW.PrintWords Go.Proofs.Ytnmdljdkbpgdaaa.QOpen Go.Proofs.Ytnmdljdkbpgdaaa.QEv
set_option linter.unusedVariables false
set_option linter.unusedSimpArgs false
theorem memoLoop (s : ByteArray) (hs : s.size ≤ 9223372036854775807) : ∀ d i : Nat, i + d = s.size →
    ∃ b, Ev (fun k => spec_l27Memo.l0 k s (i : Int)) b ∧ (20 < s.size → b = false) ∧ (s.size ≤ 20 → Ev (fun k => impl_bytesWithin.l0 k s 32 126 (s.size : Int) (i : Int)) b) := by
  intro d
  induction d with
  | zero =>
    intro i hi
    refine ⟨decide ((s.size : Int) ≤ 20), Ev.succ ?_, fun h => by simp; omega, fun h => Ev.succ ?_⟩
    · simp only [spec_l27Memo.l0]
      exact Ev.neg (by omega) (Ev.now _)
    · simp only [impl_bytesWithin.l0]
      exact Ev.neg (by omega) (Ev.eqn (Ev.now _) (by simp; omega))
  | succ d ih =>
    intro i hi
    obtain ⟨b, h1, h2, h3⟩ := ih (i + 1) (by omega)
    by_cases h : 32 ≤ bt s (i : Int) ∧ bt s (i : Int) ≤ 126
    · refine ⟨b, Ev.succ ?_, h2, fun g => Ev.succ ?_⟩
      · simp only [spec_l27Memo.l0, wnat i (by omega)]
        repeat' first | (with_reducible exact h1) | ((with_reducible refine Ev.pos ?_ ?_); omega) | ((with_reducible refine Ev.neg ?_ ?_); omega)
      · simp only [impl_bytesWithin.l0, wnat i (by omega)]
        repeat' first | (with_reducible exact h3 g) | ((with_reducible refine Ev.pos ?_ ?_); omega) | ((with_reducible refine Ev.neg ?_ ?_); omega)
    · refine ⟨false, Ev.succ ?_, fun _ => rfl, fun g => Ev.succ ?_⟩
      · simp only [spec_l27Memo.l0]
        repeat' first | (with_reducible exact Ev.now _) | ((with_reducible refine Ev.pos ?_ ?_); omega) | ((with_reducible refine Ev.neg ?_ ?_); omega) | (exfalso; omega) | (with_reducible refine Ev.ite (fun _ => ?_) (fun _ => ?_))
      · simp only [impl_bytesWithin.l0]
        repeat' first | (with_reducible exact Ev.now _) | ((with_reducible refine Ev.pos ?_ ?_); omega) | ((with_reducible refine Ev.neg ?_ ?_); omega) | (exfalso; omega) | (with_reducible refine Ev.ite (fun _ => ?_) (fun _ => ?_))
theorem memo_both (s : ByteArray) (hs : s.size ≤ 9223372036854775807) : ∃ b, Ev (fun k => spec_l27Memo.f k s) b ∧ Ev (fun k => impl_memoValid.f k s) b ∧ (b = true → s.size ≤ 20) := by
  obtain ⟨b, h1, h2, h3⟩ := memoLoop s hs s.size 0 (by omega)
  by_cases h : s.size ≤ 20
  · refine ⟨b, ?_, ?_, fun _ => h⟩
    · simp only [spec_l27Memo.f]
      exact h1
    · simp only [impl_memoValid.f, impl_bytesWithin.f]
      exact Ev.pos (by omega) (Ev.bind (h3 h) (Ev.now _))
  · have hb := h2 (by omega)
    subst hb
    refine ⟨false, ?_, ?_, fun h => by cases h⟩
    · simp only [spec_l27Memo.f]
      exact h1
    · simp only [impl_memoValid.f]
      exact Ev.neg (by omega) (Ev.now _)
end Go.Proofs.Ytnmdljdkbpgdaaa.QCommitState
