/- FnExactCancelPosting: the program's CancelPosting and the reference's return one and the same for all arguments, the list stays as it was, and the answer is nobody else's. Conditions: none beyond the statement's own guard. -/
import Derived.Test.YtnmdljdkbpgdaaaQCancelPostingx3
import Derived.Test.YtnmdljdkbpgdaaaQCancelPostingx4
import Derived.Test.YtnmdljdkbpgdaaaQCancelPostingx5
import Derived.Test.YtnmdljdkbpgdaaaQCancelPostingx7
import Derived.Test.YtnmdljdkbpgdaaaQCancelPostingx8
import Derived.Test.YtnmdljdkbpgdaaaQCancelPostingx9
import Derived.Test.YtnmdljdkbpgdaaaQCancelPostingxL
import Derived.Test.YtnmdljdkbpgdaaaQCancelPostingxDPut
namespace Go.Proofs.Ytnmdljdkbpgdaaa.Pure
open Go.RowKit Go.Proofs.Ytnmdljdkbpgdaaa.QCancelPosting Go.Proofs.YtnmdljdkbpgdaaaW.PrintWords Go.Proofs.Ytnmdljdkbpgdaaa.QOpen Go.Proofs.Ytnmdljdkbpgdaaa.QEv
set_option linter.unusedVariables false
set_option linter.unusedSimpArgs false
theorem cancel_both (l : List S128) (hl : smL sm128 l) (a d : Int) :
    ∃ (r : List S128) (e : Int), Ev (fun k => spec_CancelPosting.f k l a d) (r, e) ∧ Ev (fun k => impl_CancelPosting.f k l a d) (r, e) ∧ r.length ≤ 32 := by
  obtain ⟨v, h1, h2, h3⟩ := posts_both l hl
  have hn0 := hl.1
  have w : wrap64 ((l.length : Int) - 1) = (l.length : Int) - 1 := wid (by omega) (by omega)
  have sT : Ev (fun k => spec_CancelPosting.j0 k l a d true) ([], 2) := Ev.succ (by simp only [spec_CancelPosting.j0]; exact Ev.pos (by trivial) (Ev.now _))
  have iT : Ev (fun k => impl_CancelPosting.j0 k l a d true) ([], 2) := Ev.succ (by simp only [impl_CancelPosting.j0]; exact Ev.pos (by trivial) (Ev.now _))
  simp only [spec_CancelPosting.f, impl_CancelPosting.f, spec_in_eq, impl_within_eq, spec_l23Day.f, impl_accountDay.f, Option.bind_some, w]
  cases v with
  | false => exact ⟨[], 1, Ev.bind h1 (Ev.neg (by decide) (Ev.now _)), Ev.bind h2 (Ev.neg (by decide) (Ev.now _)), by simp⟩
  | true =>
    have hn := (h3 rfl).1
    by_cases c1 : 0 ≤ a ∧ a ≤ (l.length : Int) - 1
    · cases c2 : decide (0 ≤ d ∧ d ≤ 100000) with
      | false => exact ⟨[], 2, Ev.bind h1 (Ev.pos rfl (Ev.pos (decide_eq_true c1) sT)), Ev.bind h2 (Ev.pos rfl (Ev.pos (decide_eq_true c1) iT)), by simp⟩
      | true =>
        by_cases c3 : d < (rd_T128 l a).f2
        · refine ⟨[], 6, Ev.bind h1 (Ev.pos rfl (Ev.pos (decide_eq_true c1) (Ev.succ ?_))), Ev.bind h2 (Ev.pos rfl (Ev.pos (decide_eq_true c1) (Ev.succ ?_))), by simp⟩
          · simp only [spec_CancelPosting.j0, Bool.not_true]
            exact Ev.neg (by simp) (Ev.pos c1.1 (Ev.pos (by omega) (Ev.pos c3 (Ev.now _))))
          · simp only [impl_CancelPosting.j0, Bool.not_true]
            exact Ev.neg (by simp) (Ev.pos c1.1 (Ev.pos (by omega) (Ev.pos c3 (Ev.now _))))
        · obtain ⟨l1, g1⟩ := put_both l (by omega) ⟨(rd_T128 l a).f0, wrap64 (-((rd_T128 l a).f1)), d⟩
          have hw : Ev (fun k => impl_withPostings.f k l [⟨(rd_T128 l a).f0, wrap64 (-((rd_T128 l a).f1)), d⟩]) (endR l1) := by
            simp only [impl_withPostings.f, clone_eq l (by omega), Option.bind_some]
            exact with_step l l1 [⟨(rd_T128 l a).f0, wrap64 (-((rd_T128 l a).f1)), d⟩] 0 (by simp) (by simp) g1 _ (with_end l1 _ _ (by simp))
          refine ⟨(endR l1).1, (endR l1).2, Ev.bind h1 (Ev.pos rfl (Ev.pos (decide_eq_true c1) (Ev.succ ?_))), Ev.bind h2 (Ev.pos rfl (Ev.pos (decide_eq_true c1) (Ev.succ ?_))), endR_len l1⟩
          · simp only [spec_CancelPosting.j0, Bool.not_true]
            refine Ev.neg (by simp) (Ev.pos c1.1 (Ev.pos (by omega) (Ev.neg c3 (Ev.bind g1.1 ?_))))
            by_cases c4 : (l1.length : Int) > 32
            · rw [endR_pos _ c4]; exact Ev.pos c4 (Ev.now _)
            · rw [endR_neg _ c4]; exact Ev.neg c4 (Ev.now _)
          · simp only [impl_CancelPosting.j0, Bool.not_true]
            exact Ev.neg (by simp) (Ev.pos c1.1 (Ev.pos (by omega) (Ev.neg c3 (Ev.bind hw (Ev.now _)))))
    · exact ⟨[], 2, Ev.bind h1 (Ev.pos rfl (Ev.neg (by simpa using c1) sT)), Ev.bind h2 (Ev.pos rfl (Ev.neg (by simpa using c1) iT)), by simp⟩
theorem FnExactCancelPosting : ∀ (x0 : List (S126)) (x1 : Int) (x2 : Int), (wfL wf126) x0 → (wfI .i64) x1 → (wfI .i64) x2 → ∃ k, laws_FnExactCancelPosting.f k x0 x1 x2 = some true := by
  intro x0 x1 x2 hw0 hw1 hw2
  refine Ev.rounds (r := true) ?_
  simp only [laws_FnExactCancelPosting.f]
  obtain ⟨t, ht, _, _, hs⟩ := laws_szPostingS_ev x0 1048576 hw0 (by omega) (by omega)
  refine Ev.bind ht ?_
  by_cases c : t < 0
  · exact Ev.pos c (Ev.now _)
  refine Ev.neg c ?_
  have sm := hs (by omega)
  have sm2 := smL_map cv126 cv126_sm sm
  have hto := laws_toPostingS_ev x0 sm
  have hn := sm2.1
  obtain ⟨r, e, h1, h2, h3⟩ := cancel_both _ sm2 x1 x2
  have q0 := laws_eqPostingS_refl (x0.map cv126) (by omega)
  have q1 := laws_eqPostingS_refl r (by omega)
  obtain ⟨m0, k0, _, _⟩ := laws_markPostingS_ev (x0.map cv126) 1 (by omega) (by omega)
  obtain ⟨m1, k1, e1, j1⟩ := laws_markPostingS_ev r 1 (by omega) (by omega)
  have v1 := laws_heldPostingS_ev 1 (by omega) m1 (by omega) (by rw [e1]; exact j1)
  rw [e1] at v1
  repeat' first | (with_reducible exact Ev.now _) | (with_reducible exact hto) | (with_reducible exact h1) | (with_reducible exact h2) | (with_reducible exact q0) | (with_reducible exact q1) | (with_reducible exact k0) | (with_reducible exact k1) | (with_reducible exact v1) | ((with_reducible refine Ev.pos ?_ ?_); focus (first | with_reducible assumption | with_reducible rfl | omega | rfl | trivial)) | ((with_reducible refine Ev.neg ?_ ?_); focus (first | with_reducible assumption | omega | (simp; done) | (dsimp only; omega))) | (with_reducible refine Ev.bind hto ?_) | (with_reducible refine Ev.bind h1 ?_) | (with_reducible refine Ev.bind h2 ?_) | (with_reducible refine Ev.bind q0 ?_) | (with_reducible refine Ev.bind q1 ?_) | (with_reducible refine Ev.bind k0 ?_) | (with_reducible refine Ev.bind k1 ?_) | (with_reducible refine Ev.bind v1 ?_) | (with_reducible refine Ev.bind (Ev.shift hto) ?_) | (with_reducible refine Ev.bind (Ev.shift h1) ?_) | (with_reducible refine Ev.bind (Ev.shift h2) ?_) | (with_reducible refine Ev.bind (Ev.shift q0) ?_) | (with_reducible refine Ev.bind (Ev.shift q1) ?_) | (with_reducible refine Ev.bind (Ev.shift k0) ?_) | (with_reducible refine Ev.bind (Ev.shift k1) ?_) | (with_reducible refine Ev.bind (Ev.shift v1) ?_) | (refine Ev.succ ?_; simp only [laws_FnExactCancelPosting.j0]) | (refine Ev.succ ?_; simp only [laws_FnExactCancelPosting.j1]) | (refine Ev.succ ?_; simp only [laws_FnExactCancelPosting.j2]) | (with_reducible refine Ev.sb ?_) | dsimp only
end Go.Proofs.Ytnmdljdkbpgdaaa.Pure
