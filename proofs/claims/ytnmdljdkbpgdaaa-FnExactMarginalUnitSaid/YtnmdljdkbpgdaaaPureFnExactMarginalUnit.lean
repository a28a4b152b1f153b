/- FnExactMarginalUnit: the program's MarginalUnit and the reference's return one and the same for all arguments, and the units stay as they were. Conditions: none beyond the statement's own guard. -/
import Derived.Test.YtnmdljdkbpgdaaaQMarginalUnitx3
import Derived.Test.YtnmdljdkbpgdaaaQMarginalUnitx6
import Derived.Test.YtnmdljdkbpgdaaaQMarginalUnitx8
import Derived.Test.YtnmdljdkbpgdaaaQMarginalUnitx9
import Derived.Test.YtnmdljdkbpgdaaaQMarginalUnitxL
import Derived.Test.YtnmdljdkbpgdaaaQMarginalUnitxDUnits2
import Derived.Test.YtnmdljdkbpgdaaaQMarginalUnitxDMerit
namespace Go.Proofs.Ytnmdljdkbpgdaaa.Pure
open Go.RowKit Go.Proofs.Ytnmdljdkbpgdaaa.QMarginalUnit Go.Proofs.YtnmdljdkbpgdaaaW.PrintWords Go.Proofs.Ytnmdljdkbpgdaaa.QOpen Go.Proofs.Ytnmdljdkbpgdaaa.QEv
set_option linter.unusedVariables false
set_option linter.unusedSimpArgs false
theorem marginLoop (u : List S147) (o : List Int) (ok : MeritOk u o) : ∀ (d i : Nat) (c : Int), i + d = o.length → ∃ r e : Int, Ev (fun k => spec_MarginalUnit.l0 k u c o (i : Int)) (r, e) ∧ Ev (fun k => impl_MarginalUnit.l0 k u c o (o.length : Int) (i : Int)) (r, e) := by
  have ho := ok.1
  intro d
  induction d with
  | zero =>
    intro i c hi
    refine ⟨0, 3, Ev.succ ?_, Ev.succ ?_⟩
    · simp only [spec_MarginalUnit.l0]
      exact Ev.neg (by omega) (Ev.now _)
    · simp only [impl_MarginalUnit.l0]
      exact Ev.neg (by omega) (Ev.now _)
  | succ d ih =>
    intro i c hi
    have hq := ok.2 (rd o (i : Int)) (getD_mem o i 0 (by omega))
    by_cases cc : wrap64 (c - (rd_T147 u (rd o (i : Int))).f2) ≤ 0
    · refine ⟨rd o (i : Int), 0, Ev.succ ?_, Ev.succ ?_⟩
      · simp only [spec_MarginalUnit.l0]
        exact Ev.pos (by omega) (Ev.pos (by omega) (Ev.pos hq.1 (Ev.pos hq.2 (Ev.pos cc (Ev.now _)))))
      · simp only [impl_MarginalUnit.l0]
        exact Ev.pos (by omega) (Ev.pos (by omega) (Ev.pos (by omega) (Ev.pos hq.1 (Ev.pos hq.2 (Ev.pos cc (Ev.now _))))))
    · obtain ⟨r, e, h1, h2⟩ := ih (i + 1) (wrap64 (c - (rd_T147 u (rd o (i : Int))).f2)) (by omega)
      refine ⟨r, e, Ev.succ ?_, Ev.succ ?_⟩
      · simp only [spec_MarginalUnit.l0, wnat i (by omega)]
        exact Ev.pos (by omega) (Ev.pos (by omega) (Ev.pos hq.1 (Ev.pos hq.2 (Ev.neg cc h1))))
      · simp only [impl_MarginalUnit.l0, wnat i (by omega)]
        exact Ev.pos (by omega) (Ev.pos (by omega) (Ev.pos (by omega) (Ev.pos hq.1 (Ev.pos hq.2 (Ev.neg cc h2)))))
theorem demand_eq (a : Int) : spec_l13Demand.f a = some (decide (0 ≤ a ∧ a ≤ 400000)) := by
  simp only [spec_l13Demand.f, spec_in_eq, Option.bind_some]
theorem margin_both (u : List S147) (hu : smL sm147 u) (a : Int) : ∃ r e : Int, Ev (fun k => spec_MarginalUnit.f k u a) (r, e) ∧ Ev (fun k => impl_MarginalUnit.f k u a) (r, e) := by
  obtain ⟨v, g1, g2, g3⟩ := units_both u hu
  simp only [spec_MarginalUnit.f, spec_l15One.f, impl_MarginalUnit.f, impl_demandOk.f, demand_eq, impl_within_eq, Option.bind_some]
  cases v with
  | false => exact ⟨0, 1, Ev.bind (a := 1) (Ev.bind g1 (Ev.neg (by decide) (Ev.now _))) (Ev.neg (by decide) (Ev.now _)), Ev.bind g2 (Ev.neg (by decide) (Ev.now _))⟩
  | true =>
    by_cases c : 0 ≤ a ∧ a ≤ 400000
    · by_cases c0 : a = 0
      · exact ⟨0, 6, Ev.bind (a := 0) (Ev.bind g1 (Ev.pos rfl (Ev.pos (decide_eq_true c) (Ev.now _)))) (Ev.pos rfl (Ev.pos c0 (Ev.now _))), Ev.bind g2 (Ev.pos rfl (Ev.pos (decide_eq_true c) (Ev.pos c0 (Ev.now _))))⟩
      · obtain ⟨u1, u2, _⟩ := g3 rfl
        obtain ⟨o, o1, o2, o3, o4⟩ := merit_both u u1 (by omega)
        obtain ⟨r, e, k1, k2⟩ := marginLoop u o o2 o.length 0 a (by omega)
        exact ⟨r, e, Ev.bind (a := 0) (Ev.bind g1 (Ev.pos rfl (Ev.pos (decide_eq_true c) (Ev.now _)))) (Ev.pos rfl (Ev.neg c0 (Ev.bind o3 k1))), Ev.bind g2 (Ev.pos rfl (Ev.pos (decide_eq_true c) (Ev.neg c0 (Ev.bind o4 k2))))⟩
    · exact ⟨0, 2, Ev.bind (a := 2) (Ev.bind g1 (Ev.pos rfl (Ev.neg (by simpa using c) (Ev.now _)))) (Ev.neg (by decide) (Ev.now _)), Ev.bind g2 (Ev.pos rfl (Ev.neg (by simpa using c) (Ev.now _)))⟩
theorem FnExactMarginalUnit : ∀ (x0 : List (S142)) (x1 : Int), (wfL wf142) x0 → (wfI .i64) x1 → ∃ k, laws_FnExactMarginalUnit.f k x0 x1 = some true := by
  intro x0 x1 hw0 hw1
  refine Ev.rounds (r := true) ?_
  simp only [laws_FnExactMarginalUnit.f]
  obtain ⟨t, ht, _, _, hs⟩ := laws_szUnitS_ev x0 1048576 hw0 (by omega) (by omega)
  refine Ev.bind ht ?_
  by_cases c : t < 0
  · exact Ev.pos c (Ev.now _)
  refine Ev.neg c ?_
  have sm := hs (by omega)
  have sm2 := smL_map cv142 cv142_sm sm
  have hto := laws_toUnitS_ev x0 sm
  have hn := sm2.1
  obtain ⟨r, e, h1, h2⟩ := margin_both _ sm2 x1
  have q0 := laws_eqUnitS_refl (x0.map cv142) (by omega)
  repeat' first | (with_reducible exact Ev.now _) | (with_reducible exact hto) | (with_reducible exact h1) | (with_reducible exact h2) | (with_reducible exact q0) | ((with_reducible refine Ev.pos ?_ ?_); focus (first | with_reducible assumption | with_reducible rfl | omega | rfl | trivial)) | ((with_reducible refine Ev.neg ?_ ?_); focus (first | with_reducible assumption | omega | (simp; done) | (dsimp only; omega))) | (with_reducible refine Ev.bind hto ?_) | (with_reducible refine Ev.bind h1 ?_) | (with_reducible refine Ev.bind h2 ?_) | (with_reducible refine Ev.bind q0 ?_) | (with_reducible refine Ev.bind (Ev.shift hto) ?_) | (with_reducible refine Ev.bind (Ev.shift h1) ?_) | (with_reducible refine Ev.bind (Ev.shift h2) ?_) | (with_reducible refine Ev.bind (Ev.shift q0) ?_) | (refine Ev.succ ?_; simp only [laws_FnExactMarginalUnit.j0]) | (with_reducible refine Ev.sb ?_) | dsimp only
end Go.Proofs.Ytnmdljdkbpgdaaa.Pure
