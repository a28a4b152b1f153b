/- FnExactAncestorsOf: the program's AncestorsOf and the reference's return one and the same for all arguments, in memory of the call's own, and the list stays as it was. Conditions: none beyond the statement's own guard. -/
import Derived.Test.YtnmdljdkbpgdaaaQAncestorsOfx4
import Derived.Test.YtnmdljdkbpgdaaaQAncestorsOfx5
import Derived.Test.YtnmdljdkbpgdaaaQAncestorsOfx7
import Derived.Test.YtnmdljdkbpgdaaaQAncestorsOfx9
import Derived.Test.YtnmdljdkbpgdaaaQAncestorsOfxL
import Derived.Test.YtnmdljdkbpgdaaaQAncestorsOfxDLine
namespace Go.Proofs.Ytnmdljdkbpgdaaa.Pure
open Go.RowKit Go.Proofs.Ytnmdljdkbpgdaaa.QAncestorsOf Go.Proofs.YtnmdljdkbpgdaaaW.PrintWords Go.Proofs.Ytnmdljdkbpgdaaa.QOpen Go.Proofs.Ytnmdljdkbpgdaaa.QEv
set_option linter.unusedVariables false
set_option linter.unusedSimpArgs false
theorem above_both (l : List S119) (hl : smL sm119 l) (a : Int) : ∃ (r : List Int) (c : Int), Ev (fun k => spec_AncestorsOf.f k l a) (r, c) ∧ Ev (fun k => impl_AncestorsOf.f k l a) (r, c) ∧ r.length ≤ 32 := by
  obtain ⟨v, h1, h2, h3⟩ := history_both l hl
  simp only [spec_AncestorsOf.f, impl_AncestorsOf.f, impl_versionsCode.f, impl_allWithin.f, spec_l27Number.f, spec_in_eq, Option.bind_some]
  cases v with
  | false => exact ⟨[], 1, Ev.bind h1 (Ev.neg (by decide) (Ev.now _)), Ev.bind (Ev.bind h2 (Ev.neg (by decide) (Ev.now _))) (Ev.neg (by decide) (Ev.now _)), by simp⟩
  | true =>
    obtain ⟨k1, k2⟩ := h3 rfl
    have ok : HistOk l := ⟨k1, fun j hj => ⟨(k2 j hj).2.1, (k2 j hj).2.2.1⟩⟩
    have e2 : (if ([a] : List Int).length ≤ 9223372036854775807 then some (([a] : List Int).all fun n => decide (1 ≤ n ∧ n ≤ (l.length : Int))) else none) = some (decide (1 ≤ a ∧ a ≤ (l.length : Int))) := by
      rw [if_pos (by simp)]
      simp only [List.all_cons, List.all_nil, Bool.and_true]
    simp only [e2, Option.bind_some]
    by_cases ca : 1 ≤ a ∧ a ≤ (l.length : Int)
    · obtain ⟨p, p1, p2, p3⟩ := line_ends l ok a ca.1 ca.2
      exact ⟨p, 0, Ev.bind h1 (Ev.pos rfl (Ev.pos (decide_eq_true ca) (Ev.bind p3 (Ev.now _)))), Ev.bind (Ev.bind h2 (Ev.pos rfl (Ev.pos (decide_eq_true ca) (Ev.now _)))) (Ev.pos rfl (Ev.bind p2 (Ev.pos (by simp; omega) (Ev.now _)))), by omega⟩
    · exact ⟨[], 3, Ev.bind h1 (Ev.pos rfl (Ev.neg (by simpa using ca) (Ev.now _))), Ev.bind (Ev.bind h2 (Ev.pos rfl (Ev.neg (by rw [decide_eq_false ca]; decide) (Ev.now _)))) (Ev.neg (by decide) (Ev.now _)), by simp⟩
theorem FnExactAncestorsOf : ∀ (x0 : List (S114)) (x1 : Int), (wfL wf114) x0 → (wfI .i64) x1 → ∃ k, laws_FnExactAncestorsOf.f k x0 x1 = some true := by
  intro x0 x1 hw0 hw1
  refine Ev.rounds (r := true) ?_
  simp only [laws_FnExactAncestorsOf.f]
  obtain ⟨t, ht, _, _, hs⟩ := laws_szVersionS_ev x0 1048576 hw0 (by omega) (by omega)
  refine Ev.bind ht ?_
  by_cases c : t < 0
  · exact Ev.pos c (Ev.now _)
  refine Ev.neg c ?_
  have sm := hs (by omega)
  have sm2 := smL_map cv114 cv114_sm sm
  have hto := laws_toVersionS_ev x0 sm
  obtain ⟨r, e, h1, h2, h3⟩ := above_both _ sm2 x1
  have q0 := laws_eqVersionS_refl (x0.map cv114) sm2
  have q2 := laws_eqInt64S_refl r (by omega)
  obtain ⟨b0, m0, k0, b1, b2⟩ := laws_markVersionS_some (x0.map cv114) sm2 1 (by omega) (by omega)
  obtain ⟨m1, k1, e1, j1⟩ := laws_markInt64S_ev r 1 (by omega) (by omega)
  have v1 := laws_heldInt64S_ev 1 (by omega) m1 (by omega) (by rw [e1]; exact j1)
  rw [e1] at v1
  repeat' first | (with_reducible exact Ev.now _) | (with_reducible exact hto) | (with_reducible exact h1) | (with_reducible exact h2) | (with_reducible exact q0) | (with_reducible exact q2) | (with_reducible exact k0) | (with_reducible exact k1) | (with_reducible exact v1) | ((with_reducible refine Ev.pos ?_ ?_); focus (first | with_reducible assumption | with_reducible rfl | omega | rfl | trivial)) | ((with_reducible refine Ev.neg ?_ ?_); focus (first | with_reducible assumption | omega | (simp; done) | (dsimp only; omega))) | (with_reducible refine Ev.bind hto ?_) | (with_reducible refine Ev.bind h1 ?_) | (with_reducible refine Ev.bind h2 ?_) | (with_reducible refine Ev.bind q0 ?_) | (with_reducible refine Ev.bind q2 ?_) | (with_reducible refine Ev.bind k0 ?_) | (with_reducible refine Ev.bind k1 ?_) | (with_reducible refine Ev.bind v1 ?_) | (with_reducible refine Ev.bind (Ev.shift hto) ?_) | (with_reducible refine Ev.bind (Ev.shift h1) ?_) | (with_reducible refine Ev.bind (Ev.shift h2) ?_) | (with_reducible refine Ev.bind (Ev.shift q0) ?_) | (with_reducible refine Ev.bind (Ev.shift q2) ?_) | (with_reducible refine Ev.bind (Ev.shift k0) ?_) | (with_reducible refine Ev.bind (Ev.shift k1) ?_) | (with_reducible refine Ev.bind (Ev.shift v1) ?_) | (refine Ev.succ ?_; simp only [laws_FnExactAncestorsOf.j0]) | (refine Ev.succ ?_; simp only [laws_FnExactAncestorsOf.j1]) | (refine Ev.succ ?_; simp only [laws_FnExactAncestorsOf.j2]) | (with_reducible refine Ev.sb ?_) | dsimp only
end Go.Proofs.Ytnmdljdkbpgdaaa.Pure
