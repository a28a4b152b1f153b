/- FnExactEndTimes: the program's EndTimes and the reference's return one and the same for all arguments, in memory of the call's own, and the arguments stay as they were. Conditions: none beyond the statement's own guard. -/
import Derived.Test.YtionpndhcijmcaaQEndTimesx5
import Derived.Test.YtionpndhcijmcaaQEndTimesx9
import Derived.Test.YtionpndhcijmcaaQEndTimesx10
import Derived.Test.YtionpndhcijmcaaQEndTimesxL
import Derived.Test.YtionpndhcijmcaaQEndTimesxDEnds
namespace Go.Proofs.Ytionpndhcijmcaa.Pure
open Go.RowKit Go.Proofs.Ytionpndhcijmcaa.QEndTimes Go.Proofs.YtionpndhcijmcaaW.PrintWords Go.Proofs.Ytionpndhcijmcaa.QOpen Go.Proofs.Ytionpndhcijmcaa.QEv
set_option linter.unusedVariables false
set_option linter.unusedSimpArgs false
theorem endTimes_both (l : List S47) (hl : smL sm47 l) (o : List Int) (ho : o.length ≤ 1048576) : ∃ (t : List Int) (c : Int), Ev (fun k => spec_EndTimes.f k l o) (t, c) ∧ Ev (fun k => impl_EndTimes.f k l o) (t, c) ∧ t.length ≤ 8 := by
  obtain ⟨c, h1, h2, h3⟩ := ask_both l hl o ho 1
  simp only [spec_EndTimes.f, impl_EndTimes.f, impl_GangEnds.f]
  by_cases e : c = 0
  · obtain ⟨r, a1, a2, a3⟩ := ends_both l o 1 (h3 e)
    have := (h3 e).1
    exact ⟨r, 0, Ev.bind h1 (Ev.pos e (Ev.bind a1 (Ev.now _))), Ev.bind (Ev.bind h2 (Ev.pos e (Ev.bind a2 (Ev.now _)))) (Ev.now _), by omega⟩
  · exact ⟨[], c, Ev.bind h1 (Ev.neg e (Ev.now _)), Ev.bind (Ev.bind h2 (Ev.neg e (Ev.now _))) (Ev.now _), by simp⟩
theorem FnExactEndTimes : ∀ (x0 : List (S62)) (x1 : List Int), (wfL wf62) x0 → (wfL (wfI .i64)) x1 → ∃ k, laws_FnExactEndTimes.f k x0 x1 = some true := by
  intro x0 x1 hw0 hw1
  refine Ev.rounds (r := true) ?_
  simp only [laws_FnExactEndTimes.f]
  by_cases c0 : (x1.length : Int) > 1048576
  · exact Ev.pos c0 (Ev.now _)
  refine Ev.neg c0 ?_
  obtain ⟨t, ht, _, _, hs⟩ := laws_szRepairS_ev x0 1048576 hw0 (by omega) (by omega)
  refine Ev.bind ht ?_
  by_cases c : t < 0
  · exact Ev.pos c (Ev.now _)
  refine Ev.neg c ?_
  have sm := hs (by omega)
  have sm2 := smL_map cv62 cv62_sm sm
  have hto := laws_toRepairS_ev x0 sm
  have ho1 := laws_toInt64S_ev x1 ⟨by omega, fun _ _ => trivial⟩
  obtain ⟨r, e, h1, h2, h3⟩ := endTimes_both _ sm2 x1 (by omega)
  have hn := sm2.1
  have q0 := laws_eqRepairS_refl (x0.map cv62) (by omega)
  have q1 := laws_eqInt64S_refl x1 (by omega)
  have q2 := laws_eqInt64S_refl r (by omega)
  obtain ⟨m0, k0, _, _⟩ := laws_markRepairS_ev (x0.map cv62) 1 (by omega) (by omega)
  obtain ⟨m2, k2, _, _⟩ := laws_markInt64S_ev x1 (1 + 4 * ((x0.map cv62).length : Int)) (by omega) (by omega)
  obtain ⟨m1, k1, e1, j1⟩ := laws_markInt64S_ev r 1 (by omega) (by omega)
  have v1 := laws_heldInt64S_ev 1 (by omega) m1 (by omega) (by rw [e1]; exact j1)
  rw [e1] at v1
  repeat' first | (with_reducible exact Ev.now _) | ((with_reducible refine Ev.pos ?_ ?_); focus (first | rfl | omega | trivial)) | ((with_reducible refine Ev.neg ?_ ?_); focus (first | omega | (simp; done) | (dsimp only; omega))) | (with_reducible refine Ev.bind hto ?_) | (with_reducible refine Ev.bind ho1 ?_) | (with_reducible refine Ev.bind h1 ?_) | (with_reducible refine Ev.bind h2 ?_) | (with_reducible refine Ev.bind q0 ?_) | (with_reducible refine Ev.bind q1 ?_) | (with_reducible refine Ev.bind q2 ?_) | (with_reducible refine Ev.bind k0 ?_) | (with_reducible refine Ev.bind k2 ?_) | (with_reducible refine Ev.bind k1 ?_) | (with_reducible refine Ev.bind v1 ?_) | (with_reducible refine Ev.bind (Ev.shift hto) ?_) | (with_reducible refine Ev.bind (Ev.shift ho1) ?_) | (with_reducible refine Ev.bind (Ev.shift h1) ?_) | (with_reducible refine Ev.bind (Ev.shift h2) ?_) | (with_reducible refine Ev.bind (Ev.shift q0) ?_) | (with_reducible refine Ev.bind (Ev.shift q1) ?_) | (with_reducible refine Ev.bind (Ev.shift q2) ?_) | (with_reducible refine Ev.bind (Ev.shift k0) ?_) | (with_reducible refine Ev.bind (Ev.shift k2) ?_) | (with_reducible refine Ev.bind (Ev.shift k1) ?_) | (with_reducible refine Ev.bind (Ev.shift v1) ?_) | (refine Ev.succ ?_; simp only [laws_FnExactEndTimes.j0]) | (refine Ev.succ ?_; simp only [laws_FnExactEndTimes.j1]) | (refine Ev.succ ?_; simp only [laws_FnExactEndTimes.j2]) | dsimp only
end Go.Proofs.Ytionpndhcijmcaa.Pure
