/- Building: both sides hold one and the same for a valid building, and for outdoor temperatures of a day. Conditions: none. -/
import Derived.Test.YtjccjmjnlblhaaaQForecastsx3
import Derived.Test.YtjccjmjnlblhaaaQForecastsx8
import Derived.Test.YtjccjmjnlblhaaaQForecastsx9
import Derived.Test.YtjccjmjnlblhaaaQForecastsxL
import Derived.Test.YtjccjmjnlblhaaaQForecastsxDNames
namespace Go.Proofs.Ytjccjmjnlblhaaa.QForecasts
open Go.RowKit Go.Proofs.YtjccjmjnlblhaaaW.PrintWords Go.Proofs.Ytjccjmjnlblhaaa.QOpen Go.Proofs.Ytjccjmjnlblhaaa.QEv
set_option linter.unusedVariables false
set_option linter.unusedSimpArgs false
def BuildOk (x : S94) : Prop := 0 ≤ x.f1 ∧ x.f1 ≤ 15 ∧ 0 ≤ x.f2 ∧ x.f2 ≤ 1000000 ∧ 0 ≤ x.f3 ∧ x.f3 ≤ 100000 ∧ -4000 ≤ x.f4 ∧ x.f4 ≤ 4500 ∧ x.f5.length = 24 ∧ ∀ j, j < 24 → 0 ≤ x.f5.getD j 0 ∧ x.f5.getD j 0 ≤ 3000
theorem profLoop (n : ByteArray) (a b c e : Int) (p : List Int) (hp : p.length ≤ 1048576) : ∀ d i : Nat, i + d = p.length → Ev (fun k => spec_l05One.l0 k (i : Int) n a b c e p) ((p.drop i).all (fun n => decide (0 ≤ n ∧ n ≤ 3000))) := by
  intro d
  induction d with
  | zero =>
    intro i hi
    rw [drop_end _ _ hi]
    refine Ev.succ ?_
    simp only [spec_l05One.l0]
    exact Ev.neg (by omega) (Ev.now _)
  | succ d ih =>
    intro i hi
    rw [drop_step p i 0 (by omega), List.all_cons]
    have e0 : rd p (i : Int) = p.getD i 0 := rfl
    by_cases c : 0 ≤ p.getD i 0 ∧ p.getD i 0 ≤ 3000
    · have h := ih (i + 1) (by omega)
      rw [decide_eq_true c, Bool.true_and]
      refine Ev.succ ?_
      simp only [spec_l05One.l0, spec_in_eq, Option.bind_some, decide_eq_true_eq, e0, wnat i (by omega)]
      exact Ev.pos (by omega) (Ev.pos (by omega) (Ev.pos c h))
    · rw [decide_eq_false c, Bool.false_and]
      refine Ev.succ ?_
      simp only [spec_l05One.l0, spec_in_eq, Option.bind_some, decide_eq_true_eq, e0]
      exact Ev.pos (by omega) (Ev.pos (by omega) (Ev.neg c (Ev.now _)))
theorem build_both (x : S94) (hz : x.f0.size ≤ 1048576) (hp : x.f5.length ≤ 1048576) : ∃ b, Ev (fun k => spec_l05One.f k x.f0 x.f1 x.f2 x.f3 x.f4 x.f5) b ∧ Ev (fun k => impl_Building_valid.f k x.f0 x.f1 x.f2 x.f3 x.f4 x.f5) b ∧ (b = true → BuildOk x) := by
  obtain ⟨b, h1, h2, h3⟩ := name_both x.f0 (by omega)
  have hi : impl_allWithin.f x.f5 0 3000 = some (x.f5.all fun n => decide (0 ≤ n ∧ n ≤ 3000)) := by
    simp only [impl_allWithin.f]
    rw [if_pos (by omega)]
  have jt : ∀ n a b c e p, Ev (fun k => spec_l05One.j0 k true n a b c e p) false := fun n a b c e p => by
    refine Ev.succ ?_
    simp only [spec_l05One.j0]
    exact Ev.pos (by first | rfl | trivial) (Ev.now _)
  simp only [spec_l05One.f, impl_Building_valid.f, spec_l05Outdoor.f, impl_nodeOk.f, impl_outdoorOk.f, spec_in_eq, impl_within_eq, hi, Option.bind_some, decide_eq_true_eq]
  cases b with
  | false => exact ⟨false, Ev.bind h1 (Ev.neg (by decide) (jt _ _ _ _ _ _)), Ev.bind h2 (Ev.neg (by decide) (Ev.now _)), fun h => by cases h⟩
  | true =>
    by_cases c1 : 0 ≤ x.f1 ∧ x.f1 ≤ 15
    · by_cases c2 : 0 ≤ x.f2 ∧ x.f2 ≤ 1000000
      · by_cases c3 : 0 ≤ x.f3 ∧ x.f3 ≤ 100000
        · by_cases c4 : -4000 ≤ x.f4 ∧ x.f4 ≤ 4500
          · by_cases c5 : (x.f5.length : Int) = 24
            · have hl := profLoop x.f0 x.f1 x.f2 x.f3 x.f4 x.f5 hp x.f5.length 0 (by omega)
              rw [List.drop_zero] at hl
              refine ⟨x.f5.all fun n => decide (0 ≤ n ∧ n ≤ 3000), Ev.bind h1 (Ev.pos rfl (Ev.pos c1 (Ev.pos c2 (Ev.pos c3 (Ev.pos c4 (Ev.succ ?_)))))), Ev.bind h2 (Ev.pos rfl (Ev.pos c1 (Ev.pos c2 (Ev.pos c3 (Ev.pos c4 (Ev.pos c5 (Ev.now _))))))), fun h => ?_⟩
              · simp only [spec_l05One.j0]
                exact Ev.neg (by simp; omega) hl
              · refine ⟨c1.1, c1.2, c2.1, c2.2, c3.1, c3.2, c4.1, c4.2, by omega, fun j hj => ?_⟩
                have := List.all_eq_true.1 h _ (getD_mem x.f5 j 0 (by omega))
                simpa using this
            · refine ⟨false, Ev.bind h1 (Ev.pos rfl (Ev.pos c1 (Ev.pos c2 (Ev.pos c3 (Ev.pos c4 (Ev.succ ?_)))))), Ev.bind h2 (Ev.pos rfl (Ev.pos c1 (Ev.pos c2 (Ev.pos c3 (Ev.pos c4 (Ev.neg c5 (Ev.now _))))))), fun h => by cases h⟩
              simp only [spec_l05One.j0]
              exact Ev.pos (by simp; omega) (Ev.now _)
          · exact ⟨false, Ev.bind h1 (Ev.pos rfl (Ev.pos c1 (Ev.pos c2 (Ev.pos c3 (Ev.neg c4 (jt _ _ _ _ _ _)))))), Ev.bind h2 (Ev.pos rfl (Ev.pos c1 (Ev.pos c2 (Ev.pos c3 (Ev.neg c4 (Ev.now _)))))), fun h => by cases h⟩
        · exact ⟨false, Ev.bind h1 (Ev.pos rfl (Ev.pos c1 (Ev.pos c2 (Ev.neg c3 (jt _ _ _ _ _ _))))), Ev.bind h2 (Ev.pos rfl (Ev.pos c1 (Ev.pos c2 (Ev.neg c3 (Ev.now _))))), fun h => by cases h⟩
      · exact ⟨false, Ev.bind h1 (Ev.pos rfl (Ev.pos c1 (Ev.neg c2 (jt _ _ _ _ _ _)))), Ev.bind h2 (Ev.pos rfl (Ev.pos c1 (Ev.neg c2 (Ev.now _)))), fun h => by cases h⟩
    · exact ⟨false, Ev.bind h1 (Ev.pos rfl (Ev.neg c1 (jt _ _ _ _ _ _))), Ev.bind h2 (Ev.pos rfl (Ev.neg c1 (Ev.now _))), fun h => by cases h⟩
end Go.Proofs.Ytjccjmjnlblhaaa.QForecasts
