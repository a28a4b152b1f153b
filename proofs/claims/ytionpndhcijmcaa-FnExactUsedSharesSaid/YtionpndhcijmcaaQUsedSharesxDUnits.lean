/- Units: the units of tenants, by both sides. Conditions: at most 12 tenants. -/
import Derived.Test.YtionpndhcijmcaaQUsedSharesx4
import Derived.Test.YtionpndhcijmcaaQUsedSharesxL
import Derived.Test.YtionpndhcijmcaaQUsedSharesxDDivide
namespace Go.Proofs.Ytionpndhcijmcaa.QUsedShares
open Go.RowKit Go.Proofs.YtionpndhcijmcaaW.PrintWords Go.Proofs.Ytionpndhcijmcaa.QOpen Go.Proofs.Ytionpndhcijmcaa.QEv
set_option linter.unusedVariables false
set_option linter.unusedSimpArgs false
theorem unitsLoop (l : List S89) (hl : l.length ≤ 12) : ∀ (d i : Nat) (acc : List Int), i + d = l.length → acc.length = i →
    Ev (fun k => spec_l22Units.l0 k l acc (i : Int)) (acc ++ (l.drop i).map (·.f2)) ∧ Ev (fun k => impl_unitsOf.l0 k acc l (l.length : Int) (i : Int)) (acc ++ (l.drop i).map (·.f2)) := by
  intro d
  induction d with
  | zero =>
    intro i acc hi ha
    rw [drop_end _ _ hi]
    refine ⟨Ev.succ ?_, Ev.succ ?_⟩
    · simp only [spec_l22Units.l0]
      exact Ev.neg (by omega) (Ev.eqn (Ev.now _) (by simp))
    · simp only [impl_unitsOf.l0]
      exact Ev.neg (by omega) (Ev.eqn (Ev.now _) (by simp))
  | succ d ih =>
    intro i acc hi ha
    obtain ⟨h1, h2⟩ := ih (i + 1) (acc ++ [(rd_T89 l (i : Int)).f2]) (by omega) (by simp; omega)
    have e : acc ++ (l.drop i).map (·.f2) = (acc ++ [(rd_T89 l (i : Int)).f2]) ++ (l.drop (i + 1)).map (·.f2) := by
      rw [drop_step l i z89 (by omega)]
      simp
      rfl
    rw [e]
    refine ⟨Ev.succ ?_, Ev.succ ?_⟩
    · simp only [spec_l22Units.l0, wnat i (by omega)]
      exact Ev.pos (by omega) (Ev.pos (by omega) (Ev.pos (by omega) h1))
    · simp only [impl_unitsOf.l0, wnat i (by omega)]
      exact Ev.pos (by omega) (Ev.pos (by omega) (Ev.pos (by omega) (Ev.pos (by omega) h2)))
theorem units_both (l : List S89) (hl : l.length ≤ 12) : Ev (fun k => spec_l22Units.f k l) (l.map (·.f2)) ∧ Ev (fun k => impl_unitsOf.f k l) (l.map (·.f2)) := by
  obtain ⟨h1, h2⟩ := unitsLoop l hl l.length 0 [] (by omega) rfl
  refine ⟨?_, ?_⟩
  · simp only [spec_l22Units.f]
    exact Ev.eqn h1 (by simp)
  · simp only [impl_unitsOf.f]
    exact Ev.eqn h2 (by simp)
theorem wok_units (l : List S89) (hl : l.length ≤ 12) (hd : ∀ j, j < l.length → TenantOk (l.getD j z89)) : WOk (l.map (·.f2)) := by
  refine ⟨by simpa using hl, fun j hj => ?_⟩
  have hj' : j < l.length := by simpa using hj
  rw [getD_map (·.f2) l j z89 0 hj']
  obtain ⟨a, b, c, d⟩ := hd j hj'
  omega
end Go.Proofs.Ytionpndhcijmcaa.QUsedShares
