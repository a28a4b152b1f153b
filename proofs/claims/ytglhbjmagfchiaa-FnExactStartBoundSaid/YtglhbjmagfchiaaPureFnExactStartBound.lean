/- FnExactStartBound: the program's StartBound and the reference's return one and the same for all arguments, and the arguments stay as they were. Conditions: none beyond the statement's own guard. -/
import Derived.Test.YtglhbjmagfchiaaQStartBoundx1
import Derived.Test.YtglhbjmagfchiaaQStartBoundx2
import Derived.Test.YtglhbjmagfchiaaQStartBoundx3
import Derived.Test.YtglhbjmagfchiaaQStartBoundx6
import Derived.Test.YtglhbjmagfchiaaQStartBoundx8
import Derived.Test.YtglhbjmagfchiaaQStartBoundxL
import Derived.Test.YtglhbjmagfchiaaQStartBoundxDUnits2
namespace Go.Proofs.Ytglhbjmagfchiaa.Pure
open Go.RowKit Go.Proofs.Ytglhbjmagfchiaa.QStartBound Go.Proofs.YtglhbjmagfchiaaW.PrintWords Go.Proofs.Ytglhbjmagfchiaa.QOpen Go.Proofs.Ytglhbjmagfchiaa.QEv
set_option linter.unusedVariables false
set_option linter.unusedSimpArgs false
theorem demLoop (f : List Int) (hf : f.length ≤ 1048576) : ∀ d i : Nat, i + d = f.length → Ev (fun k => spec_l13Demands.l0 k f (i : Int)) ((f.drop i).all (fun n => decide (0 ≤ n ∧ n ≤ 400000)) && decide (1 ≤ (f.length : Int) ∧ (f.length : Int) ≤ 12)) := by
  intro d
  induction d with
  | zero =>
    intro i hi
    rw [drop_end _ _ hi]
    refine Ev.succ ?_
    simp only [spec_l13Demands.l0, spec_in_eq, Option.bind_some]
    exact Ev.neg (by omega) (Ev.eqn (Ev.now _) (by simp))
  | succ d ih =>
    intro i hi
    rw [drop_step f i 0 (by omega), List.all_cons]
    have e0 : rd f (i : Int) = f.getD i 0 := rfl
    by_cases c : 0 ≤ f.getD i 0 ∧ f.getD i 0 ≤ 400000
    · have h := ih (i + 1) (by omega)
      rw [decide_eq_true c, Bool.true_and]
      refine Ev.succ ?_
      simp only [spec_l13Demands.l0, spec_l13Demand.f, spec_in_eq, Option.bind_some, decide_eq_true_eq, e0, wnat i (by omega)]
      exact Ev.pos (by omega) (Ev.pos (by omega) (Ev.pos c h))
    · rw [decide_eq_false c, Bool.false_and, Bool.false_and]
      refine Ev.succ ?_
      simp only [spec_l13Demands.l0, spec_l13Demand.f, spec_in_eq, Option.bind_some, decide_eq_true_eq, e0]
      exact Ev.pos (by omega) (Ev.pos (by omega) (Ev.neg c (Ev.now _)))
theorem ask_both (l : List S184) (hl : smL sm184 l) (f : List Int) (hf : f.length ≤ 1048576) : ∃ c : Int, Ev (fun k => spec_l15Ask.f k l f) c ∧ Ev (fun k => impl_demandsCode.f k l f) c ∧
    (c = 0 → 1 ≤ l.length ∧ l.length ≤ 4 ∧ f.length ≤ 12 ∧ (∀ j, j < f.length → 0 ≤ f.getD j 0 ∧ f.getD j 0 ≤ 400000)) := by
  obtain ⟨v, h1, h2, h3⟩ := units_both l hl
  simp only [spec_l15Ask.f, impl_demandsCode.f]
  cases v with
  | false => exact ⟨1, Ev.bind h1 (Ev.neg (by decide) (Ev.now _)), Ev.bind h2 (Ev.neg (by decide) (Ev.now _)), fun h => by cases h⟩
  | true =>
    obtain ⟨n1, n2, hu⟩ := h3 rfl
    have hd := demLoop f hf f.length 0 (by omega)
    rw [List.drop_zero] at hd
    have hd' : Ev (fun k => spec_l13Demands.f k f) (f.all (fun n => decide (0 ≤ n ∧ n ≤ 400000)) && decide (1 ≤ (f.length : Int) ∧ (f.length : Int) ≤ 12)) := by
      simp only [spec_l13Demands.f]
      exact hd
    have hi : impl_allWithin.f f 0 400000 = some (f.all fun n => decide (0 ≤ n ∧ n ≤ 400000)) := by
      simp only [impl_allWithin.f]
      rw [if_pos (by omega)]
    simp only [hi, Option.bind_some]
    by_cases c : 1 ≤ (f.length : Int) ∧ (f.length : Int) ≤ 12
    · rw [decide_eq_true c, Bool.and_true] at hd'
      cases hq : f.all (fun n => decide (0 ≤ n ∧ n ≤ 400000)) with
      | true =>
        rw [hq] at hd'
        refine ⟨0, Ev.bind h1 (Ev.pos rfl (Ev.bind hd' (Ev.pos rfl (Ev.now _)))), Ev.bind h2 (Ev.pos rfl (Ev.neg (by omega) (Ev.neg (by omega) (Ev.pos rfl (Ev.now _))))), fun _ => ⟨n1, n2, by omega, fun j hj => ?_⟩⟩
        have := List.all_eq_true.1 hq _ (getD_mem f j 0 hj)
        simpa using this
      | false =>
        rw [hq] at hd'
        exact ⟨7, Ev.bind h1 (Ev.pos rfl (Ev.bind hd' (Ev.neg (by decide) (Ev.now _)))), Ev.bind h2 (Ev.pos rfl (Ev.neg (by omega) (Ev.neg (by omega) (Ev.neg (by decide) (Ev.now _))))), fun h => by cases h⟩
    · rw [decide_eq_false c, Bool.and_false] at hd'
      refine ⟨7, Ev.bind h1 (Ev.pos rfl (Ev.bind hd' (Ev.neg (by decide) (Ev.now _)))), Ev.bind h2 (Ev.pos rfl ?_), fun h => by cases h⟩
      by_cases c1 : (f.length : Int) < 1
      · exact Ev.pos c1 (Ev.now _)
      · exact Ev.neg c1 (Ev.pos (by omega) (Ev.now _))
theorem smin_eq (a b : Int) : spec_l00Min.f a b = some (min a b) := by
  simp only [spec_l00Min.f]
  split <;> (congr 1; omega)
theorem smax_eq (a b : Int) : spec_l00Max.f a b = some (max a b) := by
  simp only [spec_l00Max.f]
  split <;> (congr 1; omega)
theorem mn_eq (a b : Int) : mn a b = min a b := by
  simp only [mn]
  split <;> omega
/-- The greatest demand and their sum: both are 0, or none is. -/
theorem sumLoop (l : List S184) (f : List Int) (hn : f.length ≤ 12) (hf : ∀ j, j < f.length → 0 ≤ f.getD j 0 ∧ f.getD j 0 ≤ 400000) : ∀ (d i : Nat) (m s : Int), i + d = f.length → 0 ≤ m → 0 ≤ s → s ≤ (i : Int) * 400000 → (m = 0 ↔ s = 0) →
    ∃ m' s' : Int, (m' = 0 ↔ s' = 0) ∧ Ev (fun k => impl_sumOf.l0 k s f (f.length : Int) (i : Int)) s' ∧ ∀ r, Ev (fun k => spec_l15Start.l0 k l f m' (f.length : Int)) r → Ev (fun k => spec_l15Start.l0 k l f m (i : Int)) r := by
  intro d
  induction d with
  | zero =>
    intro i m s hi h0 h1 h2 h3
    have e : i = f.length := by omega
    subst e
    refine ⟨m, s, h3, Ev.succ ?_, fun r h => h⟩
    simp only [impl_sumOf.l0]
    exact Ev.neg (by omega) (Ev.now _)
  | succ d ih =>
    intro i m s hi h0 h1 h2 h3
    obtain ⟨p, q⟩ := hf i (by omega)
    have e0 : rd f (i : Int) = f.getD i 0 := rfl
    generalize f.getD i 0 = x at *
    have w : wrap64 (s + x) = s + x := wid (by omega) (by omega)
    obtain ⟨m', s', a, b, c⟩ := ih (i + 1) (max m x) (s + x) (by omega) (by omega) (by omega) (by omega) (by omega)
    refine ⟨m', s', a, Ev.succ ?_, fun r h => Ev.succ ?_⟩
    · simp only [impl_sumOf.l0, e0, w, wnat i (by omega)]
      exact Ev.pos (by omega) (Ev.pos (by omega) (Ev.pos (by omega) b))
    · simp only [spec_l15Start.l0, e0, smax_eq, Option.bind_some, wnat i (by omega)]
      exact Ev.pos (by omega) (Ev.pos (by omega) (c r h))
theorem leastLoop (l : List S184) (hn : l.length ≤ 4) : ∀ (d i : Nat) (m : Int), i + d = l.length →
    ∃ r, Ev (fun k => spec_l15Start.l1 k l m (i : Int)) r ∧ Ev (fun k => impl_startBound.l0 k m l (l.length : Int) (i : Int)) r := by
  intro d
  induction d with
  | zero =>
    intro i m hi
    refine ⟨m, Ev.succ ?_, Ev.succ ?_⟩
    · simp only [spec_l15Start.l1]
      exact Ev.neg (by omega) (Ev.now _)
    · simp only [impl_startBound.l0]
      exact Ev.neg (by omega) (Ev.now _)
  | succ d ih =>
    intro i m hi
    obtain ⟨r, h1, h2⟩ := ih (i + 1) (min m (rd_T184 l (i : Int)).f4) (by omega)
    refine ⟨r, Ev.succ ?_, Ev.succ ?_⟩
    · simp only [spec_l15Start.l1, smin_eq, Option.bind_some, wnat i (by omega)]
      exact Ev.pos (by omega) (Ev.pos (by omega) h1)
    · simp only [impl_startBound.l0, mn_eq, wnat i (by omega)]
      exact Ev.pos (by omega) (Ev.pos (by omega) (Ev.pos (by omega) h2))
theorem start_both (l : List S184) (hl : smL sm184 l) (f : List Int) (hf : f.length ≤ 1048576) : ∃ (r c : Int), Ev (fun k => spec_StartBound.f k l f) (r, c) ∧ Ev (fun k => impl_StartBound.f k l f) (r, c) := by
  obtain ⟨c, h1, h2, h3⟩ := ask_both l hl f hf
  simp only [spec_StartBound.f, impl_StartBound.f]
  by_cases e : c = 0
  · obtain ⟨n1, n2, n3, hd⟩ := h3 e
    obtain ⟨m', s', a, b, k⟩ := sumLoop l f n3 hd f.length 0 0 0 (by omega) (by omega) (by omega) (by omega) (by omega)
    have b' : Ev (fun k => impl_sumOf.f k f) s' := by
      simp only [impl_sumOf.f]
      exact b
    by_cases z : s' = 0
    · have g1 : Ev (fun k => spec_l15Start.f k l f) 0 := by
        simp only [spec_l15Start.f]
        refine k 0 (Ev.succ ?_)
        simp only [spec_l15Start.l0]
        exact Ev.neg (by omega) (Ev.pos (a.2 z) (Ev.now _))
      have g2 : Ev (fun k => impl_startBound.f k l f) 0 := by
        simp only [impl_startBound.f]
        exact Ev.bind b' (Ev.pos z (Ev.now _))
      exact ⟨0, 0, Ev.bind h1 (Ev.pos e (Ev.bind g1 (Ev.now _))), Ev.bind h2 (Ev.pos e (Ev.bind g2 (Ev.now _)))⟩
    · obtain ⟨r, x1, x2⟩ := leastLoop l n2 (l.length - 1) 1 (rd_T184 l 0).f4 (by omega)
      have g1 : Ev (fun k => spec_l15Start.f k l f) r := by
        simp only [spec_l15Start.f]
        refine k r (Ev.succ ?_)
        simp only [spec_l15Start.l0]
        exact Ev.neg (by omega) (Ev.neg (fun q => z (a.1 q)) (Ev.pos (by omega) x1))
      have g2 : Ev (fun k => impl_startBound.f k l f) r := by
        simp only [impl_startBound.f]
        refine Ev.bind b' (Ev.neg z (Ev.pos (by omega) (Ev.succ ?_)))
        simp only [impl_startBound.l0, mn_eq, show min (rd_T184 l 0).f4 (rd_T184 l 0).f4 = (rd_T184 l 0).f4 by omega, show wrap64 ((0 : Int) + 1) = 1 by unfold wrap64; omega]
        exact Ev.pos (by omega) (Ev.pos (by omega) (Ev.pos (by omega) x2))
      exact ⟨r, 0, Ev.bind h1 (Ev.pos e (Ev.bind g1 (Ev.now _))), Ev.bind h2 (Ev.pos e (Ev.bind g2 (Ev.now _)))⟩
  · exact ⟨0, c, Ev.bind h1 (Ev.neg e (Ev.now _)), Ev.bind h2 (Ev.neg e (Ev.now _))⟩
theorem FnExactStartBound : ∀ (x0 : List (S182)) (x1 : List Int), (wfL wf182) x0 → (wfL (wfI .i64)) x1 → ∃ k, laws_FnExactStartBound.f k x0 x1 = some true := by
  intro x0 x1 hw0 hw1
  refine Ev.rounds (r := true) ?_
  simp only [laws_FnExactStartBound.f]
  by_cases c0 : (x1.length : Int) > 1048576
  · exact Ev.pos c0 (Ev.now _)
  refine Ev.neg c0 ?_
  obtain ⟨t, ht, _, _, hs⟩ := laws_szUnitS_ev x0 1048576 hw0 (by omega) (by omega)
  refine Ev.bind ht ?_
  by_cases c : t < 0
  · exact Ev.pos c (Ev.now _)
  refine Ev.neg c ?_
  have sm := hs (by omega)
  have sm2 := smL_map cv182 cv182_sm sm
  have hto := laws_toUnitS_ev x0 sm
  have ho1 := laws_toInt64S_ev x1 ⟨by omega, fun _ _ => trivial⟩
  obtain ⟨r, e, h1, h2⟩ := start_both _ sm2 x1 (by omega)
  have hn := sm2.1
  have q0 := laws_eqUnitS_refl (x0.map cv182) (by omega)
  have q1 := laws_eqInt64S_refl x1 (by omega)
  repeat' first | (with_reducible exact Ev.now _) | (with_reducible exact hto) | (with_reducible exact ho1) | (with_reducible exact h1) | (with_reducible exact h2) | (with_reducible exact q0) | (with_reducible exact q1) | ((with_reducible refine Ev.pos ?_ ?_); focus (first | with_reducible assumption | with_reducible rfl | omega | rfl | trivial)) | ((with_reducible refine Ev.neg ?_ ?_); focus (first | with_reducible assumption | omega | (simp; done) | (dsimp only; omega))) | (with_reducible refine Ev.bind hto ?_) | (with_reducible refine Ev.bind ho1 ?_) | (with_reducible refine Ev.bind h1 ?_) | (with_reducible refine Ev.bind h2 ?_) | (with_reducible refine Ev.bind q0 ?_) | (with_reducible refine Ev.bind q1 ?_) | (with_reducible refine Ev.bind (Ev.shift hto) ?_) | (with_reducible refine Ev.bind (Ev.shift ho1) ?_) | (with_reducible refine Ev.bind (Ev.shift h1) ?_) | (with_reducible refine Ev.bind (Ev.shift h2) ?_) | (with_reducible refine Ev.bind (Ev.shift q0) ?_) | (with_reducible refine Ev.bind (Ev.shift q1) ?_) | (refine Ev.succ ?_; simp only [laws_FnExactStartBound.j0]) | (with_reducible refine Ev.sb ?_) | dsimp only
end Go.Proofs.Ytglhbjmagfchiaa.Pure
