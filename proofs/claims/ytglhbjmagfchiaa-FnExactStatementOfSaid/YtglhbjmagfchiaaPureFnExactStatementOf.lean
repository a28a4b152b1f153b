/- FnExactStatementOf: the program's StatementOf and the reference's return one and the same for all arguments, in memory of the call's own, and the arguments stay as they were. Conditions: none beyond the statement's own guard. -/
import Derived.Test.YtglhbjmagfchiaaQStatementOfx2
import Derived.Test.YtglhbjmagfchiaaQStatementOfx3
import Derived.Test.YtglhbjmagfchiaaQStatementOfx6
import Derived.Test.YtglhbjmagfchiaaQStatementOfx8
import Derived.Test.YtglhbjmagfchiaaQStatementOfxL
import Derived.Test.YtglhbjmagfchiaaQStatementOfxDStatementCode
namespace Go.Proofs.Ytglhbjmagfchiaa.Pure
open Go.RowKit Go.Proofs.Ytglhbjmagfchiaa.QStatementOf Go.Proofs.YtglhbjmagfchiaaW.PrintWords Go.Proofs.Ytglhbjmagfchiaa.QOpen Go.Proofs.Ytglhbjmagfchiaa.QEv
set_option linter.unusedVariables false
set_option linter.unusedSimpArgs false
theorem stateLoop (l : List S154) (hl : l.length ≤ 32) (a : ByteArray) (f u : Int) : ∀ (d i : Nat) (acc : List Int), i + d = l.length → acc.length ≤ i →
    ∃ r : List Int, Ev (fun k => spec_StatementOf.l0 k l a f u acc (i : Int)) (r, 0) ∧ Ev (fun k => impl_StatementOf.l0 k a f u acc l (l.length : Int) (i : Int)) (r, 0) ∧ r.length ≤ 32 := by
  intro d
  induction d with
  | zero =>
    intro i acc hi ha
    refine ⟨acc, Ev.succ ?_, Ev.succ ?_, by omega⟩
    · simp only [spec_StatementOf.l0]
      exact Ev.neg (by omega) (Ev.now _)
    · simp only [impl_StatementOf.l0]
      exact Ev.neg (by omega) (Ev.now _)
  | succ d ih =>
    intro i acc hi ha
    by_cases c : (rd_T154 l (i : Int)).f0.toList = a.toList
    · by_cases c2 : f ≤ (rd_T154 l (i : Int)).f2 ∧ (rd_T154 l (i : Int)).f2 ≤ u
      · obtain ⟨r, h1, h2, h3⟩ := ih (i + 1) (acc ++ [(i : Int)]) (by omega) (by simp; omega)
        refine ⟨r, Ev.succ ?_, Ev.succ ?_, h3⟩
        · simp only [spec_StatementOf.l0, spec_in_eq, Option.bind_some, decide_eq_true_eq, wnat i (by omega)]
          repeat' first | (with_reducible exact Ev.now _) | (with_reducible exact h1) | ((with_reducible refine Ev.pos ?_ ?_); focus (first | with_reducible assumption | with_reducible rfl | omega | rfl | trivial)) | ((with_reducible refine Ev.neg ?_ ?_); focus (first | with_reducible assumption | omega | (simp; done) | (dsimp only; omega))) | (with_reducible refine Ev.bind h1 ?_) | (with_reducible refine Ev.bind (Ev.shift h1) ?_) | (with_reducible refine Ev.sb ?_) | dsimp only
        · simp only [impl_StatementOf.l0, impl_within_eq, Option.bind_some, decide_eq_true_eq, wnat i (by omega)]
          repeat' first | (with_reducible exact Ev.now _) | (with_reducible exact h2) | ((with_reducible refine Ev.pos ?_ ?_); focus (first | with_reducible assumption | with_reducible rfl | omega | rfl | trivial)) | ((with_reducible refine Ev.neg ?_ ?_); focus (first | with_reducible assumption | omega | (simp; done) | (dsimp only; omega))) | (with_reducible refine Ev.bind h2 ?_) | (with_reducible refine Ev.bind (Ev.shift h2) ?_) | (with_reducible refine Ev.sb ?_) | dsimp only
      · obtain ⟨r, h1, h2, h3⟩ := ih (i + 1) acc (by omega) (by omega)
        refine ⟨r, Ev.succ ?_, Ev.succ ?_, h3⟩
        · simp only [spec_StatementOf.l0, spec_in_eq, Option.bind_some, decide_eq_true_eq, wnat i (by omega)]
          repeat' first | (with_reducible exact Ev.now _) | (with_reducible exact h1) | ((with_reducible refine Ev.pos ?_ ?_); focus (first | with_reducible assumption | with_reducible rfl | omega | rfl | trivial)) | ((with_reducible refine Ev.neg ?_ ?_); focus (first | with_reducible assumption | omega | (simp; done) | (dsimp only; omega))) | (with_reducible refine Ev.bind h1 ?_) | (with_reducible refine Ev.bind (Ev.shift h1) ?_) | (with_reducible refine Ev.sb ?_) | dsimp only
        · simp only [impl_StatementOf.l0, impl_within_eq, Option.bind_some, decide_eq_true_eq, wnat i (by omega)]
          repeat' first | (with_reducible exact Ev.now _) | (with_reducible exact h2) | ((with_reducible refine Ev.pos ?_ ?_); focus (first | with_reducible assumption | with_reducible rfl | omega | rfl | trivial)) | ((with_reducible refine Ev.neg ?_ ?_); focus (first | with_reducible assumption | omega | (simp; done) | (dsimp only; omega))) | (with_reducible refine Ev.bind h2 ?_) | (with_reducible refine Ev.bind (Ev.shift h2) ?_) | (with_reducible refine Ev.sb ?_) | dsimp only
    · obtain ⟨r, h1, h2, h3⟩ := ih (i + 1) acc (by omega) (by omega)
      refine ⟨r, Ev.succ ?_, Ev.succ ?_, h3⟩
      · simp only [spec_StatementOf.l0, wnat i (by omega)]
        repeat' first | (with_reducible exact Ev.now _) | (with_reducible exact h1) | ((with_reducible refine Ev.pos ?_ ?_); focus (first | with_reducible assumption | with_reducible rfl | omega | rfl | trivial)) | ((with_reducible refine Ev.neg ?_ ?_); focus (first | with_reducible assumption | omega | (simp; done) | (dsimp only; omega))) | (with_reducible refine Ev.bind h1 ?_) | (with_reducible refine Ev.bind (Ev.shift h1) ?_) | (with_reducible refine Ev.sb ?_) | dsimp only
      · simp only [impl_StatementOf.l0, wnat i (by omega)]
        repeat' first | (with_reducible exact Ev.now _) | (with_reducible exact h2) | ((with_reducible refine Ev.pos ?_ ?_); focus (first | with_reducible assumption | with_reducible rfl | omega | rfl | trivial)) | ((with_reducible refine Ev.neg ?_ ?_); focus (first | with_reducible assumption | omega | (simp; done) | (dsimp only; omega))) | (with_reducible refine Ev.bind h2 ?_) | (with_reducible refine Ev.bind (Ev.shift h2) ?_) | (with_reducible refine Ev.sb ?_) | dsimp only
theorem statement_both (l : List S154) (hl : smL sm154 l) (a : ByteArray) (f u : Int) : ∃ (r : List Int) (c : Int), Ev (fun k => spec_StatementOf.f k l a f u) (r, c) ∧ Ev (fun k => impl_StatementOf.f k l a f u) (r, c) ∧ r.length ≤ 32 := by
  obtain ⟨v, h, c, h1, h2, h3, hc⟩ := code_ev l hl a f u 0
  simp only [spec_StatementOf.f, impl_StatementOf.f, spec_l23Day.f, spec_in_eq, Option.bind_some, decide_eq_true_eq]
  cases v with
  | false =>
    rw [if_neg (by decide)] at hc
    subst hc
    exact ⟨[], 1, Ev.bind h1 (Ev.neg (by decide) (Ev.now _)), Ev.bind h3 (Ev.neg (by decide) (Ev.now _)), by simp⟩
  | true =>
    obtain ⟨g1, hn, hp⟩ := h2 rfl
    rw [if_pos rfl] at hc
    by_cases c1 : 0 ≤ f ∧ f ≤ 100000 ∧ f ≤ u ∧ u ≤ 100000
    · rw [if_pos (by omega)] at hc
      cases h with
      | true =>
        rw [if_pos rfl] at hc
        subst hc
        obtain ⟨r, k1, k2, k3⟩ := stateLoop l hn a f u l.length 0 [] (by omega) (by simp)
        refine ⟨r, 0, Ev.bind h1 (Ev.pos rfl (Ev.pos (by omega) (Ev.succ ?_))), Ev.bind h3 (Ev.pos rfl k2), k3⟩
        simp only [spec_StatementOf.j0]
        exact Ev.neg (by simp; omega) (Ev.bind g1 (Ev.pos rfl k1))
      | false =>
        rw [if_neg (by decide)] at hc
        subst hc
        refine ⟨[], 3, Ev.bind h1 (Ev.pos rfl (Ev.pos (by omega) (Ev.succ ?_))), Ev.bind h3 (Ev.neg (by decide) (Ev.now _)), by simp⟩
        simp only [spec_StatementOf.j0]
        exact Ev.neg (by simp; omega) (Ev.bind g1 (Ev.neg (by decide) (Ev.now _)))
    · rw [if_neg (by omega)] at hc
      subst hc
      refine ⟨[], 2, Ev.bind h1 (Ev.pos rfl ?_), Ev.bind h3 (Ev.neg (by decide) (Ev.now _)), by simp⟩
      by_cases c2 : 0 ≤ f ∧ f ≤ 100000
      · refine Ev.pos c2 (Ev.succ ?_)
        simp only [spec_StatementOf.j0]
        exact Ev.pos (by simp; omega) (Ev.now _)
      · refine Ev.neg c2 (Ev.succ ?_)
        simp only [spec_StatementOf.j0]
        exact Ev.pos (by first | rfl | trivial) (Ev.now _)
theorem FnExactStatementOf : ∀ (x0 : List (S150)) (x1 : ByteArray) (x2 : Int) (x3 : Int), (wfL wf150) x0 → wfS x1 → (wfI .i64) x2 → (wfI .i64) x3 → ∃ k, laws_FnExactStatementOf.f k x0 x1 x2 x3 = some true := by
  intro x0 x1 x2 x3 hw0 hw1 hw2 hw3
  refine Ev.rounds (r := true) ?_
  simp only [laws_FnExactStatementOf.f]
  by_cases c0 : (x1.size : Int) > 1048576
  · exact Ev.pos c0 (Ev.now _)
  refine Ev.neg c0 ?_
  obtain ⟨t, ht, _, _, hs⟩ := laws_szPostingS_ev x0 1048576 hw0 (by omega) (by omega)
  refine Ev.bind ht ?_
  by_cases c : t < 0
  · exact Ev.pos c (Ev.now _)
  refine Ev.neg c ?_
  have sm := hs (by omega)
  have sm2 := smL_map cv150 cv150_sm sm
  have hto := laws_toPostingS_ev x0 sm
  obtain ⟨r, e, h1, h2, h3⟩ := statement_both _ sm2 x1 x2 x3
  have hn := sm2.1
  have q0 := laws_eqPostingS_refl (x0.map cv150) (by omega)
  have q1 := laws_eqInt64S_refl r (by omega)
  obtain ⟨m0, k0, _, _⟩ := laws_markPostingS_ev (x0.map cv150) 1 (by omega) (by omega)
  obtain ⟨m1, k1, e1, j1⟩ := laws_markInt64S_ev r 1 (by omega) (by omega)
  have v1 := laws_heldInt64S_ev 1 (by omega) m1 (by omega) (by rw [e1]; exact j1)
  rw [e1] at v1
  repeat' first | (with_reducible exact Ev.now _) | (with_reducible exact hto) | (with_reducible exact h1) | (with_reducible exact h2) | (with_reducible exact q0) | (with_reducible exact q1) | (with_reducible exact k0) | (with_reducible exact k1) | (with_reducible exact v1) | ((with_reducible refine Ev.pos ?_ ?_); focus (first | with_reducible assumption | with_reducible rfl | omega | rfl | trivial)) | ((with_reducible refine Ev.neg ?_ ?_); focus (first | with_reducible assumption | omega | (simp; done) | (dsimp only; omega))) | (with_reducible refine Ev.bind hto ?_) | (with_reducible refine Ev.bind h1 ?_) | (with_reducible refine Ev.bind h2 ?_) | (with_reducible refine Ev.bind q0 ?_) | (with_reducible refine Ev.bind q1 ?_) | (with_reducible refine Ev.bind k0 ?_) | (with_reducible refine Ev.bind k1 ?_) | (with_reducible refine Ev.bind v1 ?_) | (with_reducible refine Ev.bind (Ev.shift hto) ?_) | (with_reducible refine Ev.bind (Ev.shift h1) ?_) | (with_reducible refine Ev.bind (Ev.shift h2) ?_) | (with_reducible refine Ev.bind (Ev.shift q0) ?_) | (with_reducible refine Ev.bind (Ev.shift q1) ?_) | (with_reducible refine Ev.bind (Ev.shift k0) ?_) | (with_reducible refine Ev.bind (Ev.shift k1) ?_) | (with_reducible refine Ev.bind (Ev.shift v1) ?_) | (refine Ev.succ ?_; simp only [laws_FnExactStatementOf.j0]) | (refine Ev.succ ?_; simp only [laws_FnExactStatementOf.j1]) | (refine Ev.succ ?_; simp only [laws_FnExactStatementOf.j2]) | (with_reducible refine Ev.sb ?_) | dsimp only
end Go.Proofs.Ytglhbjmagfchiaa.Pure
