/- FnExactDoneBy: the program's DoneBy and the reference's return one and the same for all arguments, in memory of the call's own, and the arguments stay as they were. Conditions: none beyond the statement's own guard. -/
import Derived.Test.YtionpndhcijmcaaQDoneByx5
import Derived.Test.YtionpndhcijmcaaQDoneByx6
import Derived.Test.YtionpndhcijmcaaQDoneByx9
import Derived.Test.YtionpndhcijmcaaQDoneByx10
import Derived.Test.YtionpndhcijmcaaQDoneByxL
import Derived.Test.YtionpndhcijmcaaQDoneByxDEnds
namespace Go.Proofs.Ytionpndhcijmcaa.Pure
open Go.RowKit Go.Proofs.Ytionpndhcijmcaa.QDoneBy Go.Proofs.YtionpndhcijmcaaW.PrintWords Go.Proofs.Ytionpndhcijmcaa.QOpen Go.Proofs.Ytionpndhcijmcaa.QEv
set_option linter.unusedVariables false
set_option linter.unusedSimpArgs false
theorem doneLoop (w : Int) (n : List Int) (hn : n.length ≤ 8) : ∀ (d i : Nat) (acc : List Int), i + d = n.length → acc.length ≤ i →
    ∃ r : List Int, Ev (fun k => spec_DoneBy.l0 k w n acc (i : Int)) (r, 0) ∧ Ev (fun k => impl_DoneBy.l0 k w acc n (n.length : Int) (i : Int)) (r, 0) ∧ r.length ≤ 8 := by
  intro d
  induction d with
  | zero =>
    intro i acc hi ha
    refine ⟨acc, Ev.succ ?_, Ev.succ ?_, by omega⟩
    · simp only [spec_DoneBy.l0]
      exact Ev.neg (by omega) (Ev.now _)
    · simp only [impl_DoneBy.l0]
      exact Ev.neg (by omega) (Ev.now _)
  | succ d ih =>
    intro i acc hi ha
    by_cases c : rd n (i : Int) ≤ w
    · obtain ⟨r, h1, h2, h3⟩ := ih (i + 1) (acc ++ [(i : Int)]) (by omega) (by simp; omega)
      refine ⟨r, Ev.succ ?_, Ev.succ ?_, h3⟩
      · simp only [spec_DoneBy.l0, wnat i (by omega)]
        exact Ev.pos (by omega) (Ev.pos (by omega) (Ev.pos c (Ev.pos (by omega) h1)))
      · simp only [impl_DoneBy.l0, wnat i (by omega)]
        exact Ev.pos (by omega) (Ev.pos (by omega) (Ev.pos (by omega) (Ev.pos c (Ev.pos (by omega) h2))))
    · obtain ⟨r, h1, h2, h3⟩ := ih (i + 1) acc (by omega) (by omega)
      refine ⟨r, Ev.succ ?_, Ev.succ ?_, h3⟩
      · simp only [spec_DoneBy.l0, wnat i (by omega)]
        exact Ev.pos (by omega) (Ev.pos (by omega) (Ev.neg c h1))
      · simp only [impl_DoneBy.l0, wnat i (by omega)]
        exact Ev.pos (by omega) (Ev.pos (by omega) (Ev.pos (by omega) (Ev.neg c h2)))
theorem done_both (l : List S47) (hl : smL sm47 l) (o : List Int) (ho : o.length ≤ 1048576) (g w : Int) : ∃ (t : List Int) (c : Int), Ev (fun k => spec_DoneBy.f k l o g w) (t, c) ∧ Ev (fun k => impl_DoneBy.f k l o g w) (t, c) ∧ t.length ≤ 8 := by
  obtain ⟨c, h1, h2, h3⟩ := ask_both l hl o ho g
  simp only [spec_DoneBy.f, impl_DoneBy.f, spec_l20Time.f, spec_in_eq, impl_within_eq, Option.bind_some, decide_eq_true_eq]
  by_cases e : c = 0
  · subst e
    by_cases q : 0 ≤ w ∧ w ≤ 10000
    · obtain ⟨r, a1, a2, a3⟩ := ends_both l o g (h3 rfl)
      have := (h3 rfl).1
      obtain ⟨t, b1, b2, b3⟩ := doneLoop w r (by omega) r.length 0 [] (by omega) (by simp)
      refine ⟨t, 0, Ev.bind h1 (Ev.pos rfl (Ev.succ ?_)), Ev.bind h2 (Ev.pos rfl (Ev.pos q (Ev.bind a2 b2))), b3⟩
      simp only [spec_DoneBy.j0]
      refine Ev.neg (by simp [q]) (Ev.succ ?_)
      simp only [spec_DoneBy.j1]
      exact Ev.pos (by first | rfl | trivial) (Ev.bind a1 b1)
    · refine ⟨[], 2, Ev.bind h1 (Ev.pos rfl (Ev.succ ?_)), Ev.bind h2 (Ev.pos rfl (Ev.neg q (Ev.now _))), by simp⟩
      simp only [spec_DoneBy.j0]
      refine Ev.pos (by simp; omega) (Ev.succ ?_)
      simp only [spec_DoneBy.j1]
      exact Ev.neg (by decide) (Ev.now _)
  · refine ⟨[], c, Ev.bind h1 (Ev.neg e (Ev.succ ?_)), Ev.bind h2 (Ev.neg e (Ev.now _)), by simp⟩
    simp only [spec_DoneBy.j0]
    refine Ev.neg (by decide) (Ev.succ ?_)
    simp only [spec_DoneBy.j1]
    exact Ev.neg e (Ev.now _)
theorem FnExactDoneBy : ∀ (x0 : List (S62)) (x1 : List Int) (x2 : Int) (x3 : Int), (wfL wf62) x0 → (wfL (wfI .i64)) x1 → (wfI .i64) x2 → (wfI .i64) x3 → ∃ k, laws_FnExactDoneBy.f k x0 x1 x2 x3 = some true := by
  intro x0 x1 x2 x3 hw0 hw1 hw2 hw3
  refine Ev.rounds (r := true) ?_
  simp only [laws_FnExactDoneBy.f]
  by_cases c0 : (x1.length : Int) > 1048576
  · exact Ev.pos c0 (Ev.now _)
  refine Ev.neg c0 ?_
  obtain ⟨t, ht, _, _, hs⟩ := laws_szRepairS_ev x0 1048576 hw0 (by omega) (by omega)
  refine Ev.bind ht ?_
  by_cases c : t < 0
  · exact Ev.pos c (Ev.now _)
  refine Ev.neg c ?_
  have sm := hs (by omega)
  have sm2 := smL_map cv62 cv62_sm sm
  have hto := laws_toRepairS_ev x0 sm
  have ho1 := laws_toInt64S_ev x1 ⟨by omega, fun _ _ => trivial⟩
  obtain ⟨r, e, h1, h2, h3⟩ := done_both _ sm2 x1 (by omega) x2 x3
  have hn := sm2.1
  have q0 := laws_eqRepairS_refl (x0.map cv62) (by omega)
  have q1 := laws_eqInt64S_refl x1 (by omega)
  have q2 := laws_eqInt64S_refl r (by omega)
  obtain ⟨m0, k0, _, _⟩ := laws_markRepairS_ev (x0.map cv62) 1 (by omega) (by omega)
  obtain ⟨m2, k2, _, _⟩ := laws_markInt64S_ev x1 (1 + 4 * ((x0.map cv62).length : Int)) (by omega) (by omega)
  obtain ⟨m1, k1, e1, j1⟩ := laws_markInt64S_ev r 1 (by omega) (by omega)
  have v1 := laws_heldInt64S_ev 1 (by omega) m1 (by omega) (by rw [e1]; exact j1)
  rw [e1] at v1
  repeat' first | (with_reducible exact Ev.now _) | ((with_reducible refine Ev.pos ?_ ?_); focus (first | rfl | omega | trivial)) | ((with_reducible refine Ev.neg ?_ ?_); focus (first | omega | (simp; done) | (dsimp only; omega))) | (with_reducible refine Ev.bind hto ?_) | (with_reducible refine Ev.bind ho1 ?_) | (with_reducible refine Ev.bind h1 ?_) | (with_reducible refine Ev.bind h2 ?_) | (with_reducible refine Ev.bind q0 ?_) | (with_reducible refine Ev.bind q1 ?_) | (with_reducible refine Ev.bind q2 ?_) | (with_reducible refine Ev.bind k0 ?_) | (with_reducible refine Ev.bind k2 ?_) | (with_reducible refine Ev.bind k1 ?_) | (with_reducible refine Ev.bind v1 ?_) | (with_reducible refine Ev.bind (Ev.shift hto) ?_) | (with_reducible refine Ev.bind (Ev.shift ho1) ?_) | (with_reducible refine Ev.bind (Ev.shift h1) ?_) | (with_reducible refine Ev.bind (Ev.shift h2) ?_) | (with_reducible refine Ev.bind (Ev.shift q0) ?_) | (with_reducible refine Ev.bind (Ev.shift q1) ?_) | (with_reducible refine Ev.bind (Ev.shift q2) ?_) | (with_reducible refine Ev.bind (Ev.shift k0) ?_) | (with_reducible refine Ev.bind (Ev.shift k2) ?_) | (with_reducible refine Ev.bind (Ev.shift k1) ?_) | (with_reducible refine Ev.bind (Ev.shift v1) ?_) | (refine Ev.succ ?_; simp only [laws_FnExactDoneBy.j0]) | (refine Ev.succ ?_; simp only [laws_FnExactDoneBy.j1]) | (refine Ev.succ ?_; simp only [laws_FnExactDoneBy.j2]) | dsimp only
end Go.Proofs.Ytionpndhcijmcaa.Pure
