/- FnExactMergePostings: the program's MergePostings and the reference's return one and the same for all arguments, the lists stay as they were, and the answer is nobody else's. Conditions: none beyond the statement's own guard. -/
import Derived.Test.YtnmdljdkbpgdaaaQMergePostingsx8
import Derived.Test.YtnmdljdkbpgdaaaQMergePostingsxL
import Derived.Test.YtnmdljdkbpgdaaaQMergePostingsxDMerge
namespace Go.Proofs.Ytnmdljdkbpgdaaa.Pure
open Go.RowKit Go.Proofs.Ytnmdljdkbpgdaaa.QMergePostings Go.Proofs.YtnmdljdkbpgdaaaW.PrintWords Go.Proofs.Ytnmdljdkbpgdaaa.QOpen Go.Proofs.Ytnmdljdkbpgdaaa.QEv
set_option linter.unusedVariables false
set_option linter.unusedSimpArgs false
theorem FnExactMergePostings : ∀ (x0 : List (S126)) (x1 : List (S126)), (wfL wf126) x0 → (wfL wf126) x1 → ∃ k, laws_FnExactMergePostings.f k x0 x1 = some true := by
  intro x0 x1 hw0 hw1
  refine Ev.rounds (r := true) ?_
  simp only [laws_FnExactMergePostings.f]
  obtain ⟨t, ht, t0, t1, hs⟩ := laws_szPostingS_ev x0 1048576 hw0 (by omega) (by omega)
  refine Ev.bind ht ?_
  by_cases c : t < 0
  · exact Ev.pos c (Ev.now _)
  refine Ev.neg c ?_
  obtain ⟨u, hu, _, _, hs2⟩ := laws_szPostingS_ev x1 t hw1 (by omega) (by omega)
  refine Ev.bind hu ?_
  by_cases c2 : u < 0
  · exact Ev.pos c2 (Ev.now _)
  refine Ev.neg c2 ?_
  have sm := hs (by omega)
  have smb := hs2 (by omega)
  have sm2 := smL_map cv126 cv126_sm sm
  have smb2 := smL_map cv126 cv126_sm smb
  have hto := laws_toPostingS_ev x0 sm
  have htb := laws_toPostingS_ev x1 smb
  have hn := sm2.1
  have hnb := smb2.1
  obtain ⟨r, e, h1, h2, h3⟩ := merge_both _ sm2 _ smb2
  have q0 := laws_eqPostingS_refl (x0.map cv126) (by omega)
  have qb := laws_eqPostingS_refl (x1.map cv126) (by omega)
  have q1 := laws_eqPostingS_refl r (by omega)
  obtain ⟨m0, k0, _, _⟩ := laws_markPostingS_ev (x0.map cv126) 1 (by omega) (by omega)
  obtain ⟨mb, kb, _, _⟩ := laws_markPostingS_ev (x1.map cv126) (1 + 3 * ((x0.map cv126).length : Int)) (by omega) (by omega)
  obtain ⟨m1, k1, e1, j1⟩ := laws_markPostingS_ev r 1 (by omega) (by omega)
  have v1 := laws_heldPostingS_ev 1 (by omega) m1 (by omega) (by rw [e1]; exact j1)
  rw [e1] at v1
  repeat' first | (with_reducible exact Ev.now _) | (with_reducible exact hto) | (with_reducible exact htb) | (with_reducible exact h1) | (with_reducible exact h2) | (with_reducible exact q0) | (with_reducible exact qb) | (with_reducible exact q1) | (with_reducible exact k0) | (with_reducible exact kb) | (with_reducible exact k1) | (with_reducible exact v1) | ((with_reducible refine Ev.pos ?_ ?_); focus (first | with_reducible assumption | with_reducible rfl | omega | rfl | trivial)) | ((with_reducible refine Ev.neg ?_ ?_); focus (first | with_reducible assumption | omega | (simp; done) | (dsimp only; omega))) | (with_reducible refine Ev.bind hto ?_) | (with_reducible refine Ev.bind htb ?_) | (with_reducible refine Ev.bind h1 ?_) | (with_reducible refine Ev.bind h2 ?_) | (with_reducible refine Ev.bind q0 ?_) | (with_reducible refine Ev.bind qb ?_) | (with_reducible refine Ev.bind q1 ?_) | (with_reducible refine Ev.bind k0 ?_) | (with_reducible refine Ev.bind kb ?_) | (with_reducible refine Ev.bind k1 ?_) | (with_reducible refine Ev.bind v1 ?_) | (with_reducible refine Ev.bind (Ev.shift hto) ?_) | (with_reducible refine Ev.bind (Ev.shift htb) ?_) | (with_reducible refine Ev.bind (Ev.shift h1) ?_) | (with_reducible refine Ev.bind (Ev.shift h2) ?_) | (with_reducible refine Ev.bind (Ev.shift q0) ?_) | (with_reducible refine Ev.bind (Ev.shift qb) ?_) | (with_reducible refine Ev.bind (Ev.shift q1) ?_) | (with_reducible refine Ev.bind (Ev.shift k0) ?_) | (with_reducible refine Ev.bind (Ev.shift kb) ?_) | (with_reducible refine Ev.bind (Ev.shift k1) ?_) | (with_reducible refine Ev.bind (Ev.shift v1) ?_) | (refine Ev.succ ?_; simp only [laws_FnExactMergePostings.j0]) | (refine Ev.succ ?_; simp only [laws_FnExactMergePostings.j1]) | (refine Ev.succ ?_; simp only [laws_FnExactMergePostings.j2]) | (with_reducible refine Ev.sb ?_) | dsimp only
end Go.Proofs.Ytnmdljdkbpgdaaa.Pure
