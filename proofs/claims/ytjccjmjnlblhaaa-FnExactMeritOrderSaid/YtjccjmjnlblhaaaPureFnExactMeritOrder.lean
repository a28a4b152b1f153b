/- FnExactMeritOrder: the program's MeritOrder and the reference's return one and the same for all arguments, and the units stay as they were. Conditions: none beyond the statement's own guard. -/
import Derived.Test.YtjccjmjnlblhaaaQMeritOrderx3
import Derived.Test.YtjccjmjnlblhaaaQMeritOrderx8
import Derived.Test.YtjccjmjnlblhaaaQMeritOrderx10
import Derived.Test.YtjccjmjnlblhaaaQMeritOrderxL
import Derived.Test.YtjccjmjnlblhaaaQMeritOrderxDUnits2
import Derived.Test.YtjccjmjnlblhaaaQMeritOrderxDMerit
namespace Go.Proofs.Ytjccjmjnlblhaaa.Pure
open Go.RowKit Go.Proofs.Ytjccjmjnlblhaaa.QMeritOrder Go.Proofs.YtjccjmjnlblhaaaW.PrintWords Go.Proofs.Ytjccjmjnlblhaaa.QOpen Go.Proofs.Ytjccjmjnlblhaaa.QEv
set_option linter.unusedVariables false
set_option linter.unusedSimpArgs false
theorem order_both (u : List S143) (hu : smL sm143 u) : ∃ (r : List Int) (e : Int), Ev (fun k => spec_MeritOrder.f k u) (r, e) ∧ Ev (fun k => impl_MeritOrder.f k u) (r, e) ∧ r.length ≤ 20 := by
  obtain ⟨v, g1, g2, g3⟩ := units_both u hu
  simp only [spec_MeritOrder.f, impl_MeritOrder.f]
  cases v with
  | false => exact ⟨[], 1, Ev.bind g1 (Ev.neg (by decide) (Ev.now _)), Ev.bind g2 (Ev.neg (by decide) (Ev.now _)), by simp⟩
  | true =>
    obtain ⟨u1, u2, _⟩ := g3 rfl
    obtain ⟨o, o1, o2, o3, o4⟩ := merit_both u u1 (by omega)
    exact ⟨o, 0, Ev.bind g1 (Ev.pos rfl (Ev.bind o3 (Ev.now _))), Ev.bind g2 (Ev.pos rfl (Ev.bind o4 (Ev.now _))), by omega⟩
theorem FnExactMeritOrder : ∀ (x0 : List (S140)), (wfL wf140) x0 → ∃ k, laws_FnExactMeritOrder.f k x0 = some true := by
  intro x0 hw0
  refine Ev.rounds (r := true) ?_
  simp only [laws_FnExactMeritOrder.f]
  obtain ⟨t, ht, _, _, hs⟩ := laws_szUnitS_ev x0 1048576 hw0 (by omega) (by omega)
  refine Ev.bind ht ?_
  by_cases c : t < 0
  · exact Ev.pos c (Ev.now _)
  refine Ev.neg c ?_
  have sm := hs (by omega)
  have sm2 := smL_map cv140 cv140_sm sm
  have hto := laws_toUnitS_ev x0 sm
  have hn := sm2.1
  obtain ⟨r, e, h1, h2, h3⟩ := order_both _ sm2
  have q0 := laws_eqUnitS_refl (x0.map cv140) (by omega)
  have q2 := laws_eqInt64S_refl r (by omega)
  obtain ⟨m0, k0, _, _⟩ := laws_markUnitS_ev (x0.map cv140) 1 (by omega) (by omega)
  obtain ⟨m1, k1, e1, j1⟩ := laws_markInt64S_ev r 1 (by omega) (by omega)
  have v1 := laws_heldInt64S_ev 1 (by omega) m1 (by omega) (by rw [e1]; exact j1)
  rw [e1] at v1
  repeat' first | (with_reducible exact Ev.now _) | (with_reducible exact hto) | (with_reducible exact h1) | (with_reducible exact h2) | (with_reducible exact q0) | (with_reducible exact q2) | (with_reducible exact k0) | (with_reducible exact k1) | (with_reducible exact v1) | ((with_reducible refine Ev.pos ?_ ?_); focus (first | with_reducible assumption | with_reducible rfl | omega | rfl | trivial)) | ((with_reducible refine Ev.neg ?_ ?_); focus (first | with_reducible assumption | omega | (simp; done) | (dsimp only; omega))) | (with_reducible refine Ev.bind hto ?_) | (with_reducible refine Ev.bind h1 ?_) | (with_reducible refine Ev.bind h2 ?_) | (with_reducible refine Ev.bind q0 ?_) | (with_reducible refine Ev.bind q2 ?_) | (with_reducible refine Ev.bind k0 ?_) | (with_reducible refine Ev.bind k1 ?_) | (with_reducible refine Ev.bind v1 ?_) | (with_reducible refine Ev.bind (Ev.shift hto) ?_) | (with_reducible refine Ev.bind (Ev.shift h1) ?_) | (with_reducible refine Ev.bind (Ev.shift h2) ?_) | (with_reducible refine Ev.bind (Ev.shift q0) ?_) | (with_reducible refine Ev.bind (Ev.shift q2) ?_) | (with_reducible refine Ev.bind (Ev.shift k0) ?_) | (with_reducible refine Ev.bind (Ev.shift k1) ?_) | (with_reducible refine Ev.bind (Ev.shift v1) ?_) | (refine Ev.succ ?_; simp only [laws_FnExactMeritOrder.j0]) | (refine Ev.succ ?_; simp only [laws_FnExactMeritOrder.j1]) | (refine Ev.succ ?_; simp only [laws_FnExactMeritOrder.j2]) | (with_reducible refine Ev.sb ?_) | dsimp only
end Go.Proofs.Ytjccjmjnlblhaaa.Pure
