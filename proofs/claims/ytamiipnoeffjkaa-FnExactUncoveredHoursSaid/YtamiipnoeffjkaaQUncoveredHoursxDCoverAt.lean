/- CoverAt: who works at an hour, by a filter. Conditions: duties as stated. -/
import Derived.Test.YtamiipnoeffjkaaQUncoveredHoursx2
import Derived.Test.YtamiipnoeffjkaaQUncoveredHoursx3
import Derived.Test.YtamiipnoeffjkaaQUncoveredHoursx6
import Derived.Test.YtamiipnoeffjkaaQUncoveredHoursxL
import Derived.Test.YtamiipnoeffjkaaQUncoveredHoursxDDuties
namespace Go.Proofs.Ytamiipnoeffjkaa.QUncoveredHours
open Go.RowKit Go.Proofs.YtamiipnoeffjkaaW.PrintWords Go.Proofs.Ytamiipnoeffjkaa.QOpen Go.Proofs.Ytamiipnoeffjkaa.QEv
set_option linter.unusedVariables false
set_option linter.unusedSimpArgs false
def cov (h : Int) (x : S120) : Bool := !x.f3 && (decide (x.f1 ≤ h) && decide (h < x.f1 + x.f2))
theorem at_eq (x : S120) (hx : DutyOk x) (h : Int) : spec_l26At.f x.f0 x.f1 x.f2 x.f3 h = some (decide (x.f1 ≤ h) && decide (h < x.f1 + x.f2)) := by
  obtain ⟨_, _, q1, q2, q3, q4⟩ := hx
  simp only [spec_l26At.f, wid (n := x.f1 + x.f2) (by omega) (by omega)]
  by_cases c : h ≥ x.f1
  · rw [if_pos c]
    simp; omega
  · rw [if_neg c]
    simp; omega
theorem end_eq (x : S120) (hx : DutyOk x) : impl_Duty_end.f x.f0 x.f1 x.f2 x.f3 = some (x.f1 + x.f2) := by
  obtain ⟨_, _, q1, q2, q3, q4⟩ := hx
  simp only [impl_Duty_end.f, wid (n := x.f1 + x.f2) (by omega) (by omega)]
theorem personsLoop (l : List S120) (hl : l.length ≤ 32) (hd : ∀ j, j < l.length → DutyOk (l.getD j z120)) (h : Int) : ∀ (d i : Nat) (acc : List ByteArray), i + d = l.length → acc.length ≤ i →
    Ev (fun k => impl_personsAt.l0 k h false acc l (l.length : Int) (i : Int)) (acc ++ ((l.drop i).filter (cov h)).map (·.f0)) := by
  intro d
  induction d with
  | zero =>
    intro i acc hi ha
    refine Ev.succ ?_
    simp only [impl_personsAt.l0]
    refine Ev.neg (by omega) (Ev.eqn (Ev.now _) ?_)
    rw [drop_end _ _ hi]
    simp
  | succ d ih =>
    intro i acc hi ha
    have hok : DutyOk (rd_T120 l (i : Int)) := hd i (by omega)
    rw [drop_step l i z120 (by omega)]
    have e0 : l.getD i z120 = rd_T120 l (i : Int) := rfl
    rw [e0]
    refine Ev.succ ?_
    simp only [impl_personsAt.l0, end_eq _ hok, Option.bind_some, wnat i (by omega)]
    refine Ev.pos (by omega) (Ev.pos (by omega) (Ev.pos (by omega) ?_))
    generalize rd_T120 l (i : Int) = x at *
    have g := ih (i + 1) (acc ++ [x.f0]) (by omega) (by simp; omega)
    have g' := ih (i + 1) acc (by omega) (by omega)
    refine Ev.ite (fun c => ?_) (fun c => ?_)
    · refine Ev.ite (fun c2 => ?_) (fun c2 => ?_)
      · refine Ev.ite (fun c3 => ?_) (fun c3 => ?_)
        · refine Ev.pos (by omega) (Ev.eqn g ?_)
          have : cov h x = true := by simp [cov] at c ⊢; simp_all
          simp [this]
        · refine Ev.eqn g' ?_
          have : cov h x = false := by simp [cov] at c ⊢; intro _ _; omega
          simp [this]
      · refine Ev.eqn g' ?_
        have : cov h x = false := by simp [cov] at c ⊢; intro _ _; omega
        simp [this]
    · refine Ev.eqn g' ?_
      have : cov h x = false := by simp [cov] at c ⊢; intro _; simp_all
      simp [this]
theorem persons_ev (l : List S120) (hl : l.length ≤ 32) (hd : ∀ j, j < l.length → DutyOk (l.getD j z120)) (h : Int) : Ev (fun k => impl_personsAt.f k l h false) ((l.filter (cov h)).map (·.f0)) := by
  simp only [impl_personsAt.f]
  exact Ev.eqn (personsLoop l hl hd h l.length 0 [] (by omega) (by simp)) (by simp)
end Go.Proofs.Ytamiipnoeffjkaa.QUncoveredHours
