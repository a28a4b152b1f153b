/- FnExactBestScale: the program's BestScale and the reference's return one and the same for all arguments, and the arguments stay as they were. Conditions: none beyond the statement's own guard. -/
import Derived.Test.YtglhbjmagfchiaaQBestScalex1
import Derived.Test.YtglhbjmagfchiaaQBestScalex3
import Derived.Test.YtglhbjmagfchiaaQBestScalex5
import Derived.Test.YtglhbjmagfchiaaQBestScalex6
import Derived.Test.YtglhbjmagfchiaaQBestScalex8
import Derived.Test.YtglhbjmagfchiaaQBestScalex10
import Derived.Test.YtglhbjmagfchiaaQBestScalexL
import Derived.Test.YtglhbjmagfchiaaQBestScalexDReadings
namespace Go.Proofs.Ytglhbjmagfchiaa.Pure
open Go.RowKit Go.Proofs.Ytglhbjmagfchiaa.QBestScale Go.Proofs.YtglhbjmagfchiaaW.PrintWords Go.Proofs.Ytglhbjmagfchiaa.QOpen Go.Proofs.Ytglhbjmagfchiaa.QEv
set_option linter.unusedVariables false
set_option linter.unusedSimpArgs false
theorem askLoop (f : List Int) (hf : f.length ≤ 1048576) : ∀ d i : Nat, i + d = f.length → Ev (fun k => spec_l06Ask.l0 k f (i : Int)) (if (f.drop i).all (fun n => decide (0 ≤ n ∧ n ≤ 1000000000)) = true then (0 : Int) else 7) := by
  intro d
  induction d with
  | zero =>
    intro i hi
    rw [drop_end _ _ hi]
    refine Ev.succ ?_
    simp only [spec_l06Ask.l0]
    exact Ev.neg (by omega) (Ev.now _)
  | succ d ih =>
    intro i hi
    rw [drop_step f i 0 (by omega), List.all_cons]
    have e0 : rd f (i : Int) = f.getD i 0 := rfl
    by_cases c : 0 ≤ f.getD i 0 ∧ f.getD i 0 ≤ 1000000000
    · have h := ih (i + 1) (by omega)
      rw [decide_eq_true c, Bool.true_and]
      refine Ev.succ ?_
      simp only [spec_l06Ask.l0, spec_l06Counter.f, spec_in_eq, Option.bind_some, decide_eq_true_eq, e0, wnat i (by omega)]
      exact Ev.pos (by omega) (Ev.pos (by omega) (Ev.pos c h))
    · rw [decide_eq_false c, Bool.false_and, if_neg (by decide)]
      refine Ev.succ ?_
      simp only [spec_l06Ask.l0, spec_l06Counter.f, spec_in_eq, Option.bind_some, decide_eq_true_eq, e0]
      exact Ev.pos (by omega) (Ev.pos (by omega) (Ev.neg c (Ev.now _)))
theorem abs_both (x : Int) (h0 : -9000000000000000000 ≤ x) (h1 : x ≤ 9000000000000000000) : spec_l03Abs.f x = some (max x (-x)) ∧ impl_abs.f x = some (max x (-x)) := by
  have w : wrap64 (-x) = -x := wid (by omega) (by omega)
  constructor
  · simp only [spec_l03Abs.f, spec_l00Max.f, w]
    split <;> (simp only [Option.bind_some]; congr 1; omega)
  · simp only [impl_abs.f, mx, w]
    split <;> (congr 1; omega)
theorem errLoop (p f : List Int) (hn : p.length ≤ 48) (hl : f.length = p.length) (hp : ∀ x ∈ p, 0 ≤ x ∧ x ≤ 1000000000) (hf : ∀ x ∈ f, 0 ≤ x ∧ x ≤ 1000000000) (s : Int) (s0 : 0 ≤ s) (s1 : s ≤ 3000) : ∀ (d i : Nat) (acc : Int), i + d = p.length → 0 ≤ acc → acc ≤ (i : Int) * 4000000000000 →
    ∃ e, Ev (fun k => spec_l06Error.l0 k p f s acc (i : Int)) e ∧ Ev (fun k => impl_scaledError.l0 k f s acc p (p.length : Int) (i : Int)) e ∧ 0 ≤ e := by
  intro d
  induction d with
  | zero =>
    intro i acc hi h0 h1
    refine ⟨acc, Ev.succ ?_, Ev.succ ?_, h0⟩
    · simp only [spec_l06Error.l0]
      exact Ev.neg (by omega) (Ev.now _)
    · simp only [impl_scaledError.l0]
      exact Ev.neg (by omega) (Ev.now _)
  | succ d ih =>
    intro i acc hi h0 h1
    have ep : rd p (i : Int) = p.getD i 0 := rfl
    have ef : rd f (i : Int) = f.getD i 0 := rfl
    obtain ⟨p0, p1⟩ := hp _ (getD_mem p i 0 (by omega))
    obtain ⟨f0, f1⟩ := hf _ (getD_mem f i 0 (by omega))
    generalize p.getD i 0 = P at *
    generalize f.getD i 0 = F at *
    have m0 : 0 ≤ F * s := Int.mul_nonneg f0 s0
    have m1 : F * s ≤ 1000000000 * 3000 := Int.mul_le_mul f1 s1 s0 (by omega)
    have w1 : wrap64 (F * s) = F * s := wid (by omega) (by omega)
    have d1 := l01DivS_eq (F * s) 1000 (by omega) (by omega) (by omega) (by omega)
    have d2 := divRoundS_eq (F * s) 1000 (by omega) (by omega) (by omega) (by omega)
    obtain ⟨b0, _, b1, _⟩ := rdiv_le (F * s) 1000 (by omega)
    have b0 := b0 m0
    have b1 := b1 3000000000000 (by omega) (by omega)
    generalize rdiv (F * s) 1000 = v at *
    have w2 : wrap64 (P - v) = P - v := wid (by omega) (by omega)
    obtain ⟨a1, a2⟩ := abs_both (P - v) (by omega) (by omega)
    have w3 : wrap64 (acc + max (P - v) (-(P - v))) = acc + max (P - v) (-(P - v)) := wid (by omega) (by omega)
    obtain ⟨e, h1, h2, h3⟩ := ih (i + 1) (acc + max (P - v) (-(P - v))) (by omega) (by omega) (by omega)
    refine ⟨e, Ev.succ ?_, Ev.succ ?_, h3⟩
    · simp only [spec_l06Error.l0, ep, ef, w1, d1, Option.bind_some, w2, a1, w3, wnat i (by omega)]
      exact Ev.pos (by omega) (Ev.pos (by omega) (Ev.pos (by omega) h1))
    · simp only [impl_scaledError.l0, ep, ef, w1, d2, Option.bind_some, w2, a2, w3, wnat i (by omega)]
      exact Ev.pos (by omega) (Ev.pos (by omega) (Ev.pos (by omega) (Ev.pos (by omega) h2)))
theorem err_both (p f : List Int) (hn : p.length ≤ 48) (hl : f.length = p.length) (hp : ∀ x ∈ p, 0 ≤ x ∧ x ≤ 1000000000) (hf : ∀ x ∈ f, 0 ≤ x ∧ x ≤ 1000000000) (s : Int) (s0 : 0 ≤ s) (s1 : s ≤ 3000) : ∃ e, Ev (fun k => spec_l06Error.f k p f s) e ∧ Ev (fun k => impl_scaledError.f k p f s) e ∧ 0 ≤ e := by
  simp only [spec_l06Error.f, impl_scaledError.f]
  exact errLoop p f hn hl hp hf s s0 s1 p.length 0 0 (by omega) (by omega) (by omega)
theorem scaleLoop (p f : List Int) (hn : p.length ≤ 48) (hl : f.length = p.length) (hp : ∀ x ∈ p, 0 ≤ x ∧ x ≤ 1000000000) (hf : ∀ x ∈ f, 0 ≤ x ∧ x ≤ 1000000000) : ∀ (d : Nat) (s best least : Int), s + d = 3001 → 0 ≤ s → 0 ≤ least →
    ∃ r : Int, Ev (fun k => spec_BestScale.l0 k f p best least s) (r, 0) ∧ Ev (fun k => impl_BestScale.l0 k f p best least s) (r, 0) := by
  intro d
  induction d with
  | zero =>
    intro s best least hs h0 h1
    refine ⟨best, Ev.succ ?_, Ev.succ ?_⟩
    · simp only [spec_BestScale.l0]
      exact Ev.neg (by omega) (Ev.now _)
    · simp only [impl_BestScale.l0]
      exact Ev.neg (by omega) (Ev.now _)
  | succ d ih =>
    intro s best least hs h0 h1
    obtain ⟨e, g1, g2, g3⟩ := err_both p f hn hl hp hf s h0 (by omega)
    have w : wrap64 (s + 1) = s + 1 := wid (by omega) (by omega)
    by_cases c : e < least
    · obtain ⟨r, k1, k2⟩ := ih (s + 1) s e (by omega) (by omega) g3
      refine ⟨r, Ev.succ ?_, Ev.succ ?_⟩
      · simp only [spec_BestScale.l0, w]
        exact Ev.pos (by omega) (Ev.bind g1 (Ev.pos c k1))
      · simp only [impl_BestScale.l0, w]
        exact Ev.pos (by omega) (Ev.bind g2 (Ev.neg (by omega) (Ev.pos c k2)))
    · obtain ⟨r, k1, k2⟩ := ih (s + 1) best least (by omega) (by omega) h1
      refine ⟨r, Ev.succ ?_, Ev.succ ?_⟩
      · simp only [spec_BestScale.l0, w]
        exact Ev.pos (by omega) (Ev.bind g1 (Ev.neg c k1))
      · simp only [impl_BestScale.l0, w]
        exact Ev.pos (by omega) (Ev.bind g2 (Ev.neg (by omega) (Ev.neg c k2)))
theorem ask_both (l : List S134) (hl : l.length ≤ 1048576) (f : List Int) (hf : f.length ≤ 1048576) : ∃ c : Int, Ev (fun k => spec_l06Ask.f k l f) c ∧ Ev (fun k => impl_forecastCode.f k l f) c ∧
    (c = 0 → ∃ p : List Int, Ev (fun k => spec_l06Powers.f k l) p ∧ Ev (fun k => impl_powersOf.f k l) p ∧ p.length ≤ 48 ∧ f.length = p.length ∧ (∀ x ∈ p, 0 ≤ x ∧ x ≤ 1000000000) ∧ (∀ x ∈ f, 0 ≤ x ∧ x ≤ 1000000000)) := by
  obtain ⟨v, h1, h2, h3⟩ := reads_both l hl
  simp only [spec_l06Ask.f, impl_forecastCode.f]
  cases v with
  | false => exact ⟨1, Ev.bind h1 (Ev.neg (by decide) (Ev.now _)), Ev.bind h2 (Ev.neg (by decide) (Ev.now _)), fun h => by cases h⟩
  | true =>
    obtain ⟨hn, hr⟩ := h3 rfl
    obtain ⟨p, g1, g2, g3, g4⟩ := pow_both l hn hr
    by_cases c : (f.length : Int) = (p.length : Int)
    · have ha := askLoop f hf f.length 0 (by omega)
      rw [List.drop_zero] at ha
      have hi : impl_allWithin.f f 0 1000000000 = some (f.all fun n => decide (0 ≤ n ∧ n ≤ 1000000000)) := by
        simp only [impl_allWithin.f]
        rw [if_pos (by omega)]
      simp only [hi, Option.bind_some]
      cases hq : f.all (fun n => decide (0 ≤ n ∧ n ≤ 1000000000)) with
      | true =>
        rw [hq, if_pos rfl] at ha
        refine ⟨0, Ev.bind h1 (Ev.pos rfl (Ev.bind g1 (Ev.pos c ha))), Ev.bind h2 (Ev.pos rfl (Ev.bind g2 (Ev.pos c (Ev.pos rfl (Ev.now _))))), fun _ => ⟨p, g1, g2, g3, by omega, g4, fun x hx => ?_⟩⟩
        have := List.all_eq_true.1 hq x hx
        simpa using this
      | false =>
        rw [hq, if_neg (by decide)] at ha
        exact ⟨7, Ev.bind h1 (Ev.pos rfl (Ev.bind g1 (Ev.pos c ha))), Ev.bind h2 (Ev.pos rfl (Ev.bind g2 (Ev.pos c (Ev.neg (by decide) (Ev.now _))))), fun h => by cases h⟩
    · exact ⟨7, Ev.bind h1 (Ev.pos rfl (Ev.bind g1 (Ev.neg c (Ev.now _)))), Ev.bind h2 (Ev.pos rfl (Ev.bind g2 (Ev.neg c (Ev.now _)))), fun h => by cases h⟩
theorem best_both (l : List S134) (hl : l.length ≤ 1048576) (f : List Int) (hf : f.length ≤ 1048576) : ∃ (r c : Int), Ev (fun k => spec_BestScale.f k l f) (r, c) ∧ Ev (fun k => impl_BestScale.f k l f) (r, c) := by
  obtain ⟨c, h1, h2, h3⟩ := ask_both l hl f hf
  simp only [spec_BestScale.f, impl_BestScale.f]
  by_cases e : c = 0
  · obtain ⟨p, g1, g2, g3, g4, g5, g6⟩ := h3 e
    obtain ⟨x, k1, k2, k3⟩ := err_both p f g3 g4 g5 g6 0 (by omega) (by omega)
    obtain ⟨r, m1, m2⟩ := scaleLoop p f g3 g4 g5 g6 3000 1 0 x (by omega) (by omega) k3
    refine ⟨r, 0, Ev.bind h1 (Ev.pos e (Ev.bind g1 (Ev.bind k1 m1))), Ev.bind h2 (Ev.pos e (Ev.bind g2 (Ev.succ ?_)))⟩
    simp only [impl_BestScale.l0, show wrap64 ((0 : Int) + 1) = 1 by unfold wrap64; omega]
    exact Ev.pos (by omega) (Ev.bind k2 (Ev.pos (by omega) m2))
  · exact ⟨0, c, Ev.bind h1 (Ev.neg e (Ev.now _)), Ev.bind h2 (Ev.neg e (Ev.now _))⟩
theorem FnExactBestScale : ∀ (x0 : List (S136)) (x1 : List Int), (wfL wf136) x0 → (wfL (wfI .i64)) x1 → ∃ k, laws_FnExactBestScale.f k x0 x1 = some true := by
  intro x0 x1 hw0 hw1
  refine Ev.rounds (r := true) ?_
  simp only [laws_FnExactBestScale.f]
  by_cases c0 : (x1.length : Int) > 1048576
  · exact Ev.pos c0 (Ev.now _)
  refine Ev.neg c0 ?_
  obtain ⟨t, ht, _, _, hs⟩ := laws_szReadingS_ev x0 1048576 hw0 (by omega) (by omega)
  refine Ev.bind ht ?_
  by_cases c : t < 0
  · exact Ev.pos c (Ev.now _)
  refine Ev.neg c ?_
  have sm := hs (by omega)
  have hto := laws_toReadingS_ev x0 sm
  have ho1 := laws_toInt64S_ev x1 ⟨by omega, fun _ _ => trivial⟩
  have hn := sm.1
  obtain ⟨r, e, h1, h2⟩ := best_both (x0.map cv136) (by simpa using hn) x1 (by omega)
  have q0 := laws_eqReadingS_refl (x0.map cv136) (by simp; omega)
  have q1 := laws_eqInt64S_refl x1 (by omega)
  repeat' first | (with_reducible exact Ev.now _) | (with_reducible exact hto) | (with_reducible exact ho1) | (with_reducible exact h1) | (with_reducible exact h2) | (with_reducible exact q0) | (with_reducible exact q1) | ((with_reducible refine Ev.pos ?_ ?_); focus (first | with_reducible assumption | with_reducible rfl | omega | rfl | trivial)) | ((with_reducible refine Ev.neg ?_ ?_); focus (first | with_reducible assumption | omega | (simp; done) | (dsimp only; omega))) | (with_reducible refine Ev.bind hto ?_) | (with_reducible refine Ev.bind ho1 ?_) | (with_reducible refine Ev.bind h1 ?_) | (with_reducible refine Ev.bind h2 ?_) | (with_reducible refine Ev.bind q0 ?_) | (with_reducible refine Ev.bind q1 ?_) | (with_reducible refine Ev.bind (Ev.shift hto) ?_) | (with_reducible refine Ev.bind (Ev.shift ho1) ?_) | (with_reducible refine Ev.bind (Ev.shift h1) ?_) | (with_reducible refine Ev.bind (Ev.shift h2) ?_) | (with_reducible refine Ev.bind (Ev.shift q0) ?_) | (with_reducible refine Ev.bind (Ev.shift q1) ?_) | (refine Ev.succ ?_; simp only [laws_FnExactBestScale.j0]) | (with_reducible refine Ev.sb ?_) | dsimp only
end Go.Proofs.Ytglhbjmagfchiaa.Pure
