/- FnExactHourBound: the program's HourBound and the reference's return one and the same for all arguments, and the units stay as they were. Conditions: none beyond the statement's own guard. -/
import Derived.Test.YtjccjmjnlblhaaaQHourBoundx3
import Derived.Test.YtjccjmjnlblhaaaQHourBoundx4
import Derived.Test.YtjccjmjnlblhaaaQHourBoundx6
import Derived.Test.YtjccjmjnlblhaaaQHourBoundx8
import Derived.Test.YtjccjmjnlblhaaaQHourBoundx9
import Derived.Test.YtjccjmjnlblhaaaQHourBoundxL
import Derived.Test.YtjccjmjnlblhaaaQHourBoundxDUnits2
import Derived.Test.YtjccjmjnlblhaaaQHourBoundxDMerit
namespace Go.Proofs.Ytjccjmjnlblhaaa.Pure
open Go.RowKit Go.Proofs.Ytjccjmjnlblhaaa.QHourBound Go.Proofs.YtjccjmjnlblhaaaW.PrintWords Go.Proofs.Ytjccjmjnlblhaaa.QOpen Go.Proofs.Ytjccjmjnlblhaaa.QEv
set_option linter.unusedVariables false
set_option linter.unusedSimpArgs false
theorem min_eq (a b : Int) : spec_l00Min.f a b = some (mn b a) := by
  simp only [spec_l00Min.f, mn]
  by_cases c : a < b
  · rw [if_pos c, if_pos c]
  · rw [if_neg c, if_neg c]
theorem boundLoop (u : List S143) (o : List Int) (ok : MeritOk u o) : ∀ (d i : Nat) (c s : Int), i + d = o.length → ∃ (r : Int) (e : Bool), Ev (fun k => spec_l15Hour.l0 k u c o s (i : Int)) (r, e) ∧ Ev (fun k => impl_hourBound.l0 k u c s o (o.length : Int) (i : Int)) (r, e) := by
  have ho := ok.1
  intro d
  induction d with
  | zero =>
    intro i c s hi
    refine ⟨s, (c == 0), Ev.succ ?_, Ev.succ ?_⟩
    · simp only [spec_l15Hour.l0]
      exact Ev.neg (by omega) (Ev.now _)
    · simp only [impl_hourBound.l0]
      exact Ev.neg (by omega) (Ev.now _)
  | succ d ih =>
    intro i c s hi
    have hq := ok.2 (rd o (i : Int)) (getD_mem o i 0 (by omega))
    obtain ⟨r, e, h1, h2⟩ := ih (i + 1) (wrap64 (c - mn (rd_T143 u (rd o (i : Int))).f2 c)) (wrap64 (s + wrap64 (mn (rd_T143 u (rd o (i : Int))).f2 c * (rd_T143 u (rd o (i : Int))).f3))) (by omega)
    refine ⟨r, e, Ev.succ ?_, Ev.succ ?_⟩
    · simp only [spec_l15Hour.l0, wnat i (by omega), min_eq, Option.bind_some]
      exact Ev.pos (by omega) (Ev.pos (by omega) (Ev.pos hq.1 (Ev.pos hq.2 h1)))
    · simp only [impl_hourBound.l0, wnat i (by omega)]
      exact Ev.pos (by omega) (Ev.pos (by omega) (Ev.pos (by omega) (Ev.pos hq.1 (Ev.pos hq.2 h2))))
theorem demand_eq (a : Int) : spec_l13Demand.f a = some (decide (0 ≤ a ∧ a ≤ 400000)) := by
  simp only [spec_l13Demand.f, spec_in_eq, Option.bind_some]
theorem bound_both (u : List S143) (hu : smL sm143 u) (a : Int) : ∃ r e : Int, Ev (fun k => spec_HourBound.f k u a) (r, e) ∧ Ev (fun k => impl_HourBound.f k u a) (r, e) := by
  obtain ⟨v, g1, g2, g3⟩ := units_both u hu
  simp only [spec_HourBound.f, spec_l15One.f, spec_l15Hour.f, impl_HourBound.f, impl_hourBound.f, impl_demandOk.f, impl_orNotFound.f, demand_eq, impl_within_eq, Option.bind_some]
  cases v with
  | false => exact ⟨0, 1, Ev.bind (a := 1) (Ev.bind g1 (Ev.neg (by decide) (Ev.now _))) (Ev.neg (by decide) (Ev.now _)), Ev.bind g2 (Ev.neg (by decide) (Ev.now _))⟩
  | true =>
    by_cases c : 0 ≤ a ∧ a ≤ 400000
    · obtain ⟨u1, u2, _⟩ := g3 rfl
      obtain ⟨o, o1, o2, o3, o4⟩ := merit_both u u1 (by omega)
      obtain ⟨r, e, k1, k2⟩ := boundLoop u o o2 o.length 0 a 0 (by omega)
      cases e with
      | true => exact ⟨r, 0, Ev.bind (a := 0) (Ev.bind g1 (Ev.pos rfl (Ev.pos (decide_eq_true c) (Ev.now _)))) (Ev.pos rfl (Ev.bind (Ev.bind o3 k1) (Ev.pos rfl (Ev.now _)))), Ev.bind g2 (Ev.pos rfl (Ev.pos (decide_eq_true c) (Ev.bind (Ev.bind o4 k2) (Ev.bind (a := (r, 0)) (Ev.pos rfl (Ev.now _)) (Ev.now _)))))⟩
      | false => exact ⟨0, 3, Ev.bind (a := 0) (Ev.bind g1 (Ev.pos rfl (Ev.pos (decide_eq_true c) (Ev.now _)))) (Ev.pos rfl (Ev.bind (Ev.bind o3 k1) (Ev.neg (fun z => by cases z) (Ev.now _)))), Ev.bind g2 (Ev.pos rfl (Ev.pos (decide_eq_true c) (Ev.bind (Ev.bind o4 k2) (Ev.bind (a := (0, 3)) (Ev.neg (fun z => by cases z) (Ev.now _)) (Ev.now _)))))⟩
    · exact ⟨0, 2, Ev.bind (a := 2) (Ev.bind g1 (Ev.pos rfl (Ev.neg (by simpa using c) (Ev.now _)))) (Ev.neg (by decide) (Ev.now _)), Ev.bind g2 (Ev.pos rfl (Ev.neg (by simpa using c) (Ev.now _)))⟩
theorem FnExactHourBound : ∀ (x0 : List (S140)) (x1 : Int), (wfL wf140) x0 → (wfI .i64) x1 → ∃ k, laws_FnExactHourBound.f k x0 x1 = some true := by
  intro x0 x1 hw0 hw1
  refine Ev.rounds (r := true) ?_
  simp only [laws_FnExactHourBound.f]
  obtain ⟨t, ht, _, _, hs⟩ := laws_szUnitS_ev x0 1048576 hw0 (by omega) (by omega)
  refine Ev.bind ht ?_
  by_cases c : t < 0
  · exact Ev.pos c (Ev.now _)
  refine Ev.neg c ?_
  have sm := hs (by omega)
  have sm2 := smL_map cv140 cv140_sm sm
  have hto := laws_toUnitS_ev x0 sm
  have hn := sm2.1
  obtain ⟨r, e, h1, h2⟩ := bound_both _ sm2 x1
  have q0 := laws_eqUnitS_refl (x0.map cv140) (by omega)
  repeat' first | (with_reducible exact Ev.now _) | (with_reducible exact hto) | (with_reducible exact h1) | (with_reducible exact h2) | (with_reducible exact q0) | ((with_reducible refine Ev.pos ?_ ?_); focus (first | with_reducible assumption | with_reducible rfl | omega | rfl | trivial)) | ((with_reducible refine Ev.neg ?_ ?_); focus (first | with_reducible assumption | omega | (simp; done) | (dsimp only; omega))) | (with_reducible refine Ev.bind hto ?_) | (with_reducible refine Ev.bind h1 ?_) | (with_reducible refine Ev.bind h2 ?_) | (with_reducible refine Ev.bind q0 ?_) | (with_reducible refine Ev.bind (Ev.shift hto) ?_) | (with_reducible refine Ev.bind (Ev.shift h1) ?_) | (with_reducible refine Ev.bind (Ev.shift h2) ?_) | (with_reducible refine Ev.bind (Ev.shift q0) ?_) | (refine Ev.succ ?_; simp only [laws_FnExactHourBound.j0]) | (with_reducible refine Ev.sb ?_) | dsimp only
end Go.Proofs.Ytjccjmjnlblhaaa.Pure
