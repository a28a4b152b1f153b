/- PostingsP: both sides hold one and the same for valid, and for an account that has a posting. Conditions: none. -/
import Derived.Test.YtnmdljdkbpgdaaaQInterestx5
import Derived.Test.YtnmdljdkbpgdaaaQInterestx6
import Derived.Test.YtnmdljdkbpgdaaaQInterestxL
import Derived.Test.YtnmdljdkbpgdaaaQInterestxDPostOnlyP
namespace Go.Proofs.Ytnmdljdkbpgdaaa.QInterest
open Go.RowKit Go.Proofs.YtnmdljdkbpgdaaaW.PrintWords Go.Proofs.Ytnmdljdkbpgdaaa.QOpen Go.Proofs.Ytnmdljdkbpgdaaa.QEv
set_option linter.unusedVariables false
set_option linter.unusedSimpArgs false
theorem hasLoop (l : List S128) (hl : l.length ≤ 32) (a : ByteArray) : ∀ d i : Nat, i + d = l.length →
    ∃ (b : Bool) (t : Int), Ev (fun k => spec_l23Has.l0 k l a (i : Int)) b ∧ Ev (fun k => slices_IndexFunc_Posting.l0 k l (l.length : Int) (i : Int) a) t ∧ b = decide (t ≥ 0) := by
  intro d
  induction d with
  | zero =>
    intro i hi
    refine ⟨false, -1, Ev.succ ?_, Ev.succ ?_, rfl⟩
    · simp only [spec_l23Has.l0]
      exact Ev.neg (by omega) (Ev.now _)
    · simp only [slices_IndexFunc_Posting.l0]
      exact Ev.neg (by omega) (Ev.now _)
  | succ d ih =>
    intro i hi
    by_cases c : (rd_T128 l (i : Int)).f0.toList = a.toList
    · refine ⟨true, (i : Int), Ev.succ ?_, Ev.succ ?_, (decide_eq_true (by omega)).symm⟩
      · simp only [spec_l23Has.l0]
        repeat' first | (with_reducible exact Ev.now _) | ((with_reducible refine Ev.pos ?_ ?_); focus (first | with_reducible assumption | with_reducible rfl | omega | rfl | trivial)) | ((with_reducible refine Ev.neg ?_ ?_); focus (first | with_reducible assumption | omega | (simp; done) | (dsimp only; omega))) | (with_reducible refine Ev.sb ?_) | dsimp only
      · simp only [slices_IndexFunc_Posting.l0, impl_hasAccount_1.f, beq_iff_eq, Option.bind_some]
        repeat' first | (with_reducible exact Ev.now _) | ((with_reducible refine Ev.pos ?_ ?_); focus (first | with_reducible assumption | with_reducible rfl | omega | rfl | trivial)) | ((with_reducible refine Ev.neg ?_ ?_); focus (first | with_reducible assumption | omega | (simp; done) | (dsimp only; omega))) | (with_reducible refine Ev.sb ?_) | dsimp only
    · obtain ⟨b, t, h1, h2, h3⟩ := ih (i + 1) (by omega)
      refine ⟨b, t, Ev.succ ?_, Ev.succ ?_, h3⟩
      · simp only [spec_l23Has.l0, wnat i (by omega)]
        repeat' first | (with_reducible exact Ev.now _) | (with_reducible exact h1) | ((with_reducible refine Ev.pos ?_ ?_); focus (first | with_reducible assumption | with_reducible rfl | omega | rfl | trivial)) | ((with_reducible refine Ev.neg ?_ ?_); focus (first | with_reducible assumption | omega | (simp; done) | (dsimp only; omega))) | (with_reducible refine Ev.bind h1 ?_) | (with_reducible refine Ev.bind (Ev.shift h1) ?_) | (with_reducible refine Ev.sb ?_) | dsimp only
      · simp only [slices_IndexFunc_Posting.l0, impl_hasAccount_1.f, beq_iff_eq, Option.bind_some, wnat i (by omega)]
        repeat' first | (with_reducible exact Ev.now _) | (with_reducible exact h2) | ((with_reducible refine Ev.pos ?_ ?_); focus (first | with_reducible assumption | with_reducible rfl | omega | rfl | trivial)) | ((with_reducible refine Ev.neg ?_ ?_); focus (first | with_reducible assumption | omega | (simp; done) | (dsimp only; omega))) | (with_reducible refine Ev.bind h2 ?_) | (with_reducible refine Ev.bind (Ev.shift h2) ?_) | (with_reducible refine Ev.sb ?_) | dsimp only
theorem has_both (l : List S128) (hl : l.length ≤ 32) (a : ByteArray) : ∃ b, Ev (fun k => spec_l23Has.f k l a) b ∧ Ev (fun k => impl_hasAccount.f k l a) b := by
  obtain ⟨b, t, h1, h2, h3⟩ := hasLoop l hl a l.length 0 (by omega)
  refine ⟨b, by simp only [spec_l23Has.f]; exact h1, ?_⟩
  simp only [impl_hasAccount.f, slices_ContainsFunc_Posting.f, slices_IndexFunc_Posting.f]
  exact Ev.bind (Ev.bind h2 (Ev.eqn (Ev.now _) h3.symm)) (Ev.now _)
end Go.Proofs.Ytnmdljdkbpgdaaa.QInterest
