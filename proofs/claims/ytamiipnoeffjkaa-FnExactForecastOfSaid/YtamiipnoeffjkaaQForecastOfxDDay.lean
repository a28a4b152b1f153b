/- Day: both sides hold one and the same for outdoor temperatures of a day. Conditions: none. -/
import Derived.Test.YtamiipnoeffjkaaQForecastOfx3
import Derived.Test.YtamiipnoeffjkaaQForecastOfx4
import Derived.Test.YtamiipnoeffjkaaQForecastOfx5
import Derived.Test.YtamiipnoeffjkaaQForecastOfx8
import Derived.Test.YtamiipnoeffjkaaQForecastOfxL
import Derived.Test.YtamiipnoeffjkaaQForecastOfxDRanges
namespace Go.Proofs.Ytamiipnoeffjkaa.QForecastOf
open Go.RowKit Go.Proofs.YtamiipnoeffjkaaW.PrintWords Go.Proofs.Ytamiipnoeffjkaa.QOpen Go.Proofs.Ytamiipnoeffjkaa.QEv
set_option linter.unusedVariables false
set_option linter.unusedSimpArgs false
def DayOk (o : List Int) : Prop := o.length = 24 ∧ ∀ j, j < 24 → -4000 ≤ o.getD j 0 ∧ o.getD j 0 ≤ 4500
theorem dayLoop (o : List Int) (ho : o.length ≤ 1048576) : ∀ d i : Nat, i + d = o.length → Ev (fun k => spec_l05Day.l0 k o (i : Int)) ((o.drop i).all (fun n => decide (-4000 ≤ n ∧ n ≤ 4500)) && ((o.length : Int) == 24)) := by
  intro d
  induction d with
  | zero =>
    intro i hi
    rw [drop_end _ _ hi]
    refine Ev.succ ?_
    simp only [spec_l05Day.l0]
    exact Ev.neg (by omega) (Ev.eqn (Ev.now _) (by simp))
  | succ d ih =>
    intro i hi
    rw [drop_step o i 0 (by omega), List.all_cons]
    have e0 : rd o (i : Int) = o.getD i 0 := rfl
    by_cases c : -4000 ≤ o.getD i 0 ∧ o.getD i 0 ≤ 4500
    · have h := ih (i + 1) (by omega)
      rw [decide_eq_true c, Bool.true_and]
      refine Ev.succ ?_
      simp only [spec_l05Day.l0, spec_l05Outdoor.f, spec_in_eq, Option.bind_some, decide_eq_true_eq, e0, wnat i (by omega)]
      exact Ev.pos (by omega) (Ev.pos (by omega) (Ev.pos c h))
    · rw [decide_eq_false c, Bool.false_and, Bool.false_and]
      refine Ev.succ ?_
      simp only [spec_l05Day.l0, spec_l05Outdoor.f, spec_in_eq, Option.bind_some, decide_eq_true_eq, e0]
      exact Ev.pos (by omega) (Ev.pos (by omega) (Ev.neg c (Ev.now _)))
theorem day_both (o : List Int) (ho : o.length ≤ 1048576) : ∃ b, Ev (fun k => spec_l05Day.f k o) b ∧ impl_outdoorsOk.f o = some b ∧ (b = true → DayOk o) := by
  have h := dayLoop o ho o.length 0 (by omega)
  rw [List.drop_zero] at h
  have hi : impl_allWithin.f o (-4000) 4500 = some (o.all fun n => decide (-4000 ≤ n ∧ n ≤ 4500)) := by
    simp only [impl_allWithin.f]
    rw [if_pos (by omega)]
  refine ⟨_, by simp only [spec_l05Day.f]; exact h, ?_, fun hb => ?_⟩
  · simp only [impl_outdoorsOk.f, hi, Option.bind_some]
    by_cases c : (o.length : Int) = 24
    · rw [if_pos c, c]
      simp
    · rw [if_neg c]
      have : ((o.length : Int) == 24) = false := by simpa using c
      rw [this, Bool.and_false]
  · rw [Bool.and_eq_true] at hb
    have c : (o.length : Int) = 24 := by simpa using hb.2
    refine ⟨by omega, fun j hj => ?_⟩
    have := List.all_eq_true.1 hb.1 _ (getD_mem o j 0 (by omega))
    simpa using this
end Go.Proofs.Ytamiipnoeffjkaa.QForecastOf
