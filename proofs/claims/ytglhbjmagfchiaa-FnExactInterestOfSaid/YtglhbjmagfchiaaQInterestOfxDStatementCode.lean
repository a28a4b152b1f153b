/- StatementCode: the program's code for postings, an account, two days and a rate, by what holds of each. Conditions: none. -/
import Derived.Test.YtglhbjmagfchiaaQInterestOfx1
import Derived.Test.YtglhbjmagfchiaaQInterestOfx2
import Derived.Test.YtglhbjmagfchiaaQInterestOfx5
import Derived.Test.YtglhbjmagfchiaaQInterestOfxL
import Derived.Test.YtglhbjmagfchiaaQInterestOfxDPostings
namespace Go.Proofs.Ytglhbjmagfchiaa.QInterestOf
open Go.RowKit Go.Proofs.YtglhbjmagfchiaaW.PrintWords Go.Proofs.Ytglhbjmagfchiaa.QOpen Go.Proofs.Ytglhbjmagfchiaa.QEv
set_option linter.unusedVariables false
set_option linter.unusedSimpArgs false
theorem code_ev (l : List S154) (hl : smL sm154 l) (a : ByteArray) (f u r : Int) : ∃ (v h : Bool) (c : Int),
    Ev (fun k => spec_l23Ok.f k l) v ∧ (v = true → Ev (fun k => spec_l23Has.f k l a) h ∧ l.length ≤ 32 ∧ ∀ j, j < l.length → PostOk (l.getD j z154)) ∧ Ev (fun k => impl_statementCode.f k l a f u r) c ∧
      c = (if v = true then (if 0 ≤ f ∧ f ≤ 100000 ∧ f ≤ u ∧ u ≤ 100000 ∧ 0 ≤ r ∧ r ≤ 100 then (if h = true then 0 else 3) else 2) else 1) := by
  obtain ⟨v, h1, h2, h3⟩ := posts_both l hl
  cases v with
  | false =>
    refine ⟨false, false, 1, h1, (fun h => by cases h), ?_, rfl⟩
    simp only [impl_statementCode.f]
    repeat' first | (with_reducible exact Ev.now _) | (with_reducible exact h2) | ((with_reducible refine Ev.pos ?_ ?_); focus (first | with_reducible assumption | with_reducible rfl | omega | rfl | trivial)) | ((with_reducible refine Ev.neg ?_ ?_); focus (first | with_reducible assumption | omega | (simp; done) | (dsimp only; omega))) | (with_reducible refine Ev.bind h2 ?_) | (with_reducible refine Ev.bind (Ev.shift h2) ?_) | (with_reducible refine Ev.sb ?_) | dsimp only
  | true =>
    obtain ⟨hn, hp⟩ := h3 rfl
    obtain ⟨h, g1, g2⟩ := has_both l hn a
    refine ⟨true, h, _, h1, (fun _ => ⟨g1, hn, hp⟩), ?_, rfl⟩
    rw [if_pos rfl]
    simp only [impl_statementCode.f, impl_accountDay.f, impl_within_eq, Option.bind_some, decide_eq_true_eq]
    refine Ev.bind h2 (Ev.pos rfl ?_)
    by_cases c : 0 ≤ f ∧ f ≤ 100000 ∧ f ≤ u ∧ u ≤ 100000 ∧ 0 ≤ r ∧ r ≤ 100
    · rw [if_pos c]
      refine Ev.pos (by omega) (Ev.pos (by omega) (Ev.succ ?_))
      simp only [impl_statementCode.j0]
      refine Ev.neg (by simp; omega) (Ev.bind g2 ?_)
      cases h
      · exact Ev.neg (by decide) (Ev.now _)
      · exact Ev.pos rfl (Ev.now _)
    · rw [if_neg c]
      by_cases c1 : 0 ≤ f ∧ f ≤ 100000
      · by_cases c2 : f ≤ u ∧ u ≤ 100000
        · refine Ev.pos c1 (Ev.pos c2 (Ev.succ ?_))
          simp only [impl_statementCode.j0]
          exact Ev.pos (by simp; omega) (Ev.now _)
        · refine Ev.pos c1 (Ev.neg c2 (Ev.succ ?_))
          simp only [impl_statementCode.j0]
          exact Ev.pos (by first | rfl | trivial) (Ev.now _)
      · refine Ev.neg c1 (Ev.succ ?_)
        simp only [impl_statementCode.j0]
        exact Ev.pos (by first | rfl | trivial) (Ev.now _)
end Go.Proofs.Ytglhbjmagfchiaa.QInterestOf
