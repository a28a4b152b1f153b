/- FnExactLatestEnd: the program's LatestEnd and the reference's return one and the same for all arguments, and the arguments stay as they were. Conditions: none beyond the statement's own guard. -/
import Derived.Test.YtionpndhcijmcaaQLatestEndx6
import Derived.Test.YtionpndhcijmcaaQLatestEndx9
import Derived.Test.YtionpndhcijmcaaQLatestEndx10
import Derived.Test.YtionpndhcijmcaaQLatestEndxL
import Derived.Test.YtionpndhcijmcaaQLatestEndxDLast
namespace Go.Proofs.Ytionpndhcijmcaa.Pure
open Go.RowKit Go.Proofs.Ytionpndhcijmcaa.QLatestEnd Go.Proofs.YtionpndhcijmcaaW.PrintWords Go.Proofs.Ytionpndhcijmcaa.QOpen Go.Proofs.Ytionpndhcijmcaa.QEv
set_option linter.unusedVariables false
set_option linter.unusedSimpArgs false
theorem latest_both (l : List S47) (hl : smL sm47 l) (o : List Int) (ho : o.length ≤ 1048576) (g : Int) : ∃ (t c : Int), Ev (fun k => spec_LatestEnd.f k l o g) (t, c) ∧ Ev (fun k => impl_LatestEnd.f k l o g) (t, c) := by
  obtain ⟨c, h1, h2, h3⟩ := ask_both l hl o ho g
  simp only [spec_LatestEnd.f, impl_LatestEnd.f]
  by_cases e : c = 0
  · obtain ⟨r, t, a1, a2, a3⟩ := last_both l o g (h3 e)
    exact ⟨t, 0, Ev.bind h1 (Ev.pos e (Ev.bind a1 (Ev.bind a2 (Ev.now _)))), Ev.bind h2 (Ev.pos e (Ev.bind a3 (Ev.now _)))⟩
  · exact ⟨0, c, Ev.bind h1 (Ev.neg e (Ev.now _)), Ev.bind h2 (Ev.neg e (Ev.now _))⟩
theorem FnExactLatestEnd : ∀ (x0 : List (S62)) (x1 : List Int) (x2 : Int), (wfL wf62) x0 → (wfL (wfI .i64)) x1 → (wfI .i64) x2 → ∃ k, laws_FnExactLatestEnd.f k x0 x1 x2 = some true := by
  intro x0 x1 x2 hw0 hw1 hw2
  refine Ev.rounds (r := true) ?_
  simp only [laws_FnExactLatestEnd.f]
  by_cases c0 : (x1.length : Int) > 1048576
  · exact Ev.pos c0 (Ev.now _)
  refine Ev.neg c0 ?_
  obtain ⟨t, ht, _, _, hs⟩ := laws_szRepairS_ev x0 1048576 hw0 (by omega) (by omega)
  refine Ev.bind ht ?_
  by_cases c : t < 0
  · exact Ev.pos c (Ev.now _)
  refine Ev.neg c ?_
  have sm := hs (by omega)
  have sm2 := smL_map cv62 cv62_sm sm
  have hto := laws_toRepairS_ev x0 sm
  have ho1 := laws_toInt64S_ev x1 ⟨by omega, fun _ _ => trivial⟩
  obtain ⟨r, e, h1, h2⟩ := latest_both _ sm2 x1 (by omega) x2
  have hn := sm2.1
  have q0 := laws_eqRepairS_refl (x0.map cv62) (by omega)
  have q1 := laws_eqInt64S_refl x1 (by omega)
  repeat' first | (with_reducible exact Ev.now _) | ((with_reducible refine Ev.pos ?_ ?_); focus (first | rfl | omega | trivial)) | ((with_reducible refine Ev.neg ?_ ?_); focus (first | omega | (simp; done) | (dsimp only; omega))) | (with_reducible refine Ev.bind hto ?_) | (with_reducible refine Ev.bind ho1 ?_) | (with_reducible refine Ev.bind h1 ?_) | (with_reducible refine Ev.bind h2 ?_) | (with_reducible refine Ev.bind q0 ?_) | (with_reducible refine Ev.bind q1 ?_) | (with_reducible refine Ev.bind (Ev.shift hto) ?_) | (with_reducible refine Ev.bind (Ev.shift ho1) ?_) | (with_reducible refine Ev.bind (Ev.shift h1) ?_) | (with_reducible refine Ev.bind (Ev.shift h2) ?_) | (with_reducible refine Ev.bind (Ev.shift q0) ?_) | (with_reducible refine Ev.bind (Ev.shift q1) ?_) | (refine Ev.succ ?_; simp only [laws_FnExactLatestEnd.j0]) | dsimp only
end Go.Proofs.Ytionpndhcijmcaa.Pure
