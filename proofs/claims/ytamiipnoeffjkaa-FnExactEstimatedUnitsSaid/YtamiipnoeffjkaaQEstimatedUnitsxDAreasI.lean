/- AreasI: areas and units of tenants, by the program's loops. Conditions: at most 12 tenants. -/
import Derived.Test.YtamiipnoeffjkaaQEstimatedUnitsx5
import Derived.Test.YtamiipnoeffjkaaQEstimatedUnitsxL
namespace Go.Proofs.Ytamiipnoeffjkaa.QEstimatedUnits
open Go.RowKit Go.Proofs.YtamiipnoeffjkaaW.PrintWords Go.Proofs.Ytamiipnoeffjkaa.QOpen Go.Proofs.Ytamiipnoeffjkaa.QEv
set_option linter.unusedVariables false
set_option linter.unusedSimpArgs false
theorem areasI (l : List S135) (hl : l.length ≤ 12) : ∀ (d i : Nat) (acc : List Int), i + d = l.length → acc.length = i → Ev (fun k => impl_areasOf.l0 k acc l (l.length : Int) (i : Int)) (acc ++ (l.drop i).map (·.f1)) := by
  intro d
  induction d with
  | zero =>
    intro i acc hi ha
    rw [drop_end _ _ hi]
    refine Ev.succ ?_
    simp only [impl_areasOf.l0]
    exact Ev.neg (by omega) (Ev.eqn (Ev.now _) (by simp))
  | succ d ih =>
    intro i acc hi ha
    have h2 := ih (i + 1) (acc ++ [(rd_T135 l (i : Int)).f1]) (by omega) (by simp; omega)
    have e : acc ++ (l.drop i).map (·.f1) = (acc ++ [(rd_T135 l (i : Int)).f1]) ++ (l.drop (i + 1)).map (·.f1) := by
      rw [drop_step l i z135 (by omega)]
      simp
      rfl
    rw [e]
    refine Ev.succ ?_
    simp only [impl_areasOf.l0, wnat i (by omega)]
    exact Ev.pos (by omega) (Ev.pos (by omega) (Ev.pos (by omega) (Ev.pos (by omega) h2)))
theorem unitsI (l : List S135) (hl : l.length ≤ 12) : ∀ (d i : Nat) (acc : List Int), i + d = l.length → acc.length = i → Ev (fun k => impl_unitsOf.l0 k acc l (l.length : Int) (i : Int)) (acc ++ (l.drop i).map (·.f2)) := by
  intro d
  induction d with
  | zero =>
    intro i acc hi ha
    rw [drop_end _ _ hi]
    refine Ev.succ ?_
    simp only [impl_unitsOf.l0]
    exact Ev.neg (by omega) (Ev.eqn (Ev.now _) (by simp))
  | succ d ih =>
    intro i acc hi ha
    have h2 := ih (i + 1) (acc ++ [(rd_T135 l (i : Int)).f2]) (by omega) (by simp; omega)
    have e : acc ++ (l.drop i).map (·.f2) = (acc ++ [(rd_T135 l (i : Int)).f2]) ++ (l.drop (i + 1)).map (·.f2) := by
      rw [drop_step l i z135 (by omega)]
      simp
      rfl
    rw [e]
    refine Ev.succ ?_
    simp only [impl_unitsOf.l0, wnat i (by omega)]
    exact Ev.pos (by omega) (Ev.pos (by omega) (Ev.pos (by omega) (Ev.pos (by omega) h2)))
end Go.Proofs.Ytamiipnoeffjkaa.QEstimatedUnits
