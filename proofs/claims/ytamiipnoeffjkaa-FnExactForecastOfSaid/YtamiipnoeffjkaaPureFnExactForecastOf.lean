/- FnExactForecastOf: the program's ForecastOf and the reference's return one and the same for all arguments, the arguments stay as they were, and the list is nobody else's. Conditions: none beyond the statement's own guard. -/
import Derived.Test.YtamiipnoeffjkaaQForecastOfx5
import Derived.Test.YtamiipnoeffjkaaQForecastOfx9
import Derived.Test.YtamiipnoeffjkaaQForecastOfx10
import Derived.Test.YtamiipnoeffjkaaQForecastOfxL
import Derived.Test.YtamiipnoeffjkaaQForecastOfxDForecast
namespace Go.Proofs.Ytamiipnoeffjkaa.Pure
open Go.RowKit Go.Proofs.Ytamiipnoeffjkaa.QForecastOf Go.Proofs.YtamiipnoeffjkaaW.PrintWords Go.Proofs.Ytamiipnoeffjkaa.QOpen Go.Proofs.Ytamiipnoeffjkaa.QEv
set_option linter.unusedVariables false
set_option linter.unusedSimpArgs false
theorem forecast_both (l : List S96) (hl : smL sm96 l) (o : List Int) (ho : o.length ≤ 1048576) : ∃ (r : List Int) (c : Int), Ev (fun k => spec_ForecastOf.f k l o) (r, c) ∧ Ev (fun k => impl_ForecastOf.f k l o) (r, c) ∧ r.length ≤ 24 := by
  obtain ⟨r, c, h1, h2, h3, h4, h5⟩ := fore_ask l hl o ho
  refine ⟨r, c, ?_, h2, h3⟩
  simp only [spec_ForecastOf.f]
  by_cases e : c = 0
  · subst e
    exact Ev.bind h1 (Ev.pos rfl (Ev.bind (h5 rfl).1 (Ev.now _)))
  · rw [h4 e]
    exact Ev.bind h1 (Ev.neg e (Ev.now _))
theorem FnExactForecastOf : ∀ (x0 : List (S153)) (x1 : List Int), (wfL wf153) x0 → (wfL (wfI .i64)) x1 → ∃ k, laws_FnExactForecastOf.f k x0 x1 = some true := by
  intro x0 x1 hw0 hw1
  refine Ev.rounds (r := true) ?_
  simp only [laws_FnExactForecastOf.f]
  by_cases c0 : (x1.length : Int) > 1048576
  · exact Ev.pos c0 (Ev.now _)
  refine Ev.neg c0 ?_
  obtain ⟨t, ht, _, _, hs⟩ := laws_szBuildingS_ev x0 1048576 hw0 (by omega) (by omega)
  refine Ev.bind ht ?_
  by_cases c : t < 0
  · exact Ev.pos c (Ev.now _)
  refine Ev.neg c ?_
  have sm := hs (by omega)
  have sm2 := smL_map cv153 cv153_sm sm
  have hto := laws_toBuildingS_ev x0 sm
  have ho1 := laws_toInt64S_ev x1 ⟨by omega, fun _ _ => trivial⟩
  obtain ⟨r, e, h1, h2, h3⟩ := forecast_both _ sm2 x1 (by omega)
  have q0 := laws_eqBuildingS_refl (x0.map cv153) sm2
  have q1 := laws_eqInt64S_refl x1 (by omega)
  have q2 := laws_eqInt64S_refl r (by omega)
  obtain ⟨b0, m0, k0, b1, b2⟩ := laws_markBuildingS_some (x0.map cv153) sm2 1 (by omega) (by omega)
  obtain ⟨m2, k2, _, _⟩ := laws_markInt64S_ev x1 b0 (by omega) (by omega)
  obtain ⟨m1, k1, e1, j1⟩ := laws_markInt64S_ev r 1 (by omega) (by omega)
  have v1 := laws_heldInt64S_ev 1 (by omega) m1 (by omega) (by rw [e1]; exact j1)
  rw [e1] at v1
  repeat' first | (with_reducible exact Ev.now _) | (with_reducible exact hto) | (with_reducible exact ho1) | (with_reducible exact h1) | (with_reducible exact h2) | (with_reducible exact q0) | (with_reducible exact q1) | (with_reducible exact q2) | (with_reducible exact k0) | (with_reducible exact k2) | (with_reducible exact k1) | (with_reducible exact v1) | ((with_reducible refine Ev.pos ?_ ?_); focus (first | with_reducible assumption | with_reducible rfl | omega | rfl | trivial)) | ((with_reducible refine Ev.neg ?_ ?_); focus (first | with_reducible assumption | omega | (simp; done) | (dsimp only; omega))) | (with_reducible refine Ev.bind hto ?_) | (with_reducible refine Ev.bind ho1 ?_) | (with_reducible refine Ev.bind h1 ?_) | (with_reducible refine Ev.bind h2 ?_) | (with_reducible refine Ev.bind q0 ?_) | (with_reducible refine Ev.bind q1 ?_) | (with_reducible refine Ev.bind q2 ?_) | (with_reducible refine Ev.bind k0 ?_) | (with_reducible refine Ev.bind k2 ?_) | (with_reducible refine Ev.bind k1 ?_) | (with_reducible refine Ev.bind v1 ?_) | (with_reducible refine Ev.bind (Ev.shift hto) ?_) | (with_reducible refine Ev.bind (Ev.shift ho1) ?_) | (with_reducible refine Ev.bind (Ev.shift h1) ?_) | (with_reducible refine Ev.bind (Ev.shift h2) ?_) | (with_reducible refine Ev.bind (Ev.shift q0) ?_) | (with_reducible refine Ev.bind (Ev.shift q1) ?_) | (with_reducible refine Ev.bind (Ev.shift q2) ?_) | (with_reducible refine Ev.bind (Ev.shift k0) ?_) | (with_reducible refine Ev.bind (Ev.shift k2) ?_) | (with_reducible refine Ev.bind (Ev.shift k1) ?_) | (with_reducible refine Ev.bind (Ev.shift v1) ?_) | (refine Ev.succ ?_; simp only [laws_FnExactForecastOf.j0]) | (refine Ev.succ ?_; simp only [laws_FnExactForecastOf.j1]) | (refine Ev.succ ?_; simp only [laws_FnExactForecastOf.j2]) | (with_reducible refine Ev.sb ?_) | dsimp only
end Go.Proofs.Ytamiipnoeffjkaa.Pure
