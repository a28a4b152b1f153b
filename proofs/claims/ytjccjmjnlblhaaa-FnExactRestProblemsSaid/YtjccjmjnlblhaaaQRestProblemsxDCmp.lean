/- Orders of strings and numbers, as the program's comparisons tell them. Conditions: none. -/
import Derived.Test.YtjccjmjnlblhaaaQRestProblemsxL
namespace Go.Proofs.Ytjccjmjnlblhaaa.QRestProblems
open Go.RowKit Go.Proofs.YtjccjmjnlblhaaaW.PrintWords Go.Proofs.Ytjccjmjnlblhaaa.QOpen Go.Proofs.Ytjccjmjnlblhaaa.QEv
set_option linter.unusedVariables false
set_option linter.unusedSimpArgs false
theorem less_irrefl (a : List UInt8) : Op.bytesLess a a = false := by
  have h := Go.Proofs.Ytjccjmjnlblhaaa.QWords.bytesLess_turn a a
  cases e : Op.bytesLess a a with
  | false => rfl
  | true => rw [e] at h; simp at h
theorem less_asymm {a b : List UInt8} (h : Op.bytesLess a b = true) : Op.bytesLess b a = false := by
  have t := Go.Proofs.Ytjccjmjnlblhaaa.QWords.bytesLess_turn a b
  rw [h] at t
  simpa using t.symm
theorem less_eq {a b : List UInt8} (h : Op.bytesLess a b = false) (h' : Op.bytesLess b a = false) : a = b := by
  have t := Go.Proofs.Ytjccjmjnlblhaaa.QWords.bytesLess_turn a b
  rw [h, h'] at t
  simpa using t
theorem less_ne {a b : List UInt8} (h : Op.bytesLess a b = true) : a ≠ b := by
  intro e
  subst e
  rw [less_irrefl] at h
  cases h
end Go.Proofs.Ytjccjmjnlblhaaa.QRestProblems
