/- Areas: the areas of tenants, by both sides. Conditions: at most 12 tenants. -/
import Derived.Test.YtionpndhcijmcaaQFixedSharesx2
import Derived.Test.YtionpndhcijmcaaQFixedSharesx3
import Derived.Test.YtionpndhcijmcaaQFixedSharesxL
import Derived.Test.YtionpndhcijmcaaQFixedSharesxDDivide
namespace Go.Proofs.Ytionpndhcijmcaa.QFixedShares
open Go.RowKit Go.Proofs.YtionpndhcijmcaaW.PrintWords Go.Proofs.Ytionpndhcijmcaa.QOpen Go.Proofs.Ytionpndhcijmcaa.QEv
set_option linter.unusedVariables false
set_option linter.unusedSimpArgs false
theorem areasLoop (l : List S89) (hl : l.length ≤ 12) : ∀ (d i : Nat) (acc : List Int), i + d = l.length → acc.length = i →
    Ev (fun k => spec_l22Areas.l0 k l acc (i : Int)) (acc ++ (l.drop i).map (·.f1)) ∧ Ev (fun k => impl_areasOf.l0 k acc l (l.length : Int) (i : Int)) (acc ++ (l.drop i).map (·.f1)) := by
  intro d
  induction d with
  | zero =>
    intro i acc hi ha
    rw [drop_end _ _ hi]
    refine ⟨Ev.succ ?_, Ev.succ ?_⟩
    · simp only [spec_l22Areas.l0]
      exact Ev.neg (by omega) (Ev.eqn (Ev.now _) (by simp))
    · simp only [impl_areasOf.l0]
      exact Ev.neg (by omega) (Ev.eqn (Ev.now _) (by simp))
  | succ d ih =>
    intro i acc hi ha
    obtain ⟨h1, h2⟩ := ih (i + 1) (acc ++ [(rd_T89 l (i : Int)).f1]) (by omega) (by simp; omega)
    have e : acc ++ (l.drop i).map (·.f1) = (acc ++ [(rd_T89 l (i : Int)).f1]) ++ (l.drop (i + 1)).map (·.f1) := by
      rw [drop_step l i z89 (by omega)]
      simp
      rfl
    rw [e]
    refine ⟨Ev.succ ?_, Ev.succ ?_⟩
    · simp only [spec_l22Areas.l0, wnat i (by omega)]
      exact Ev.pos (by omega) (Ev.pos (by omega) (Ev.pos (by omega) h1))
    · simp only [impl_areasOf.l0, wnat i (by omega)]
      exact Ev.pos (by omega) (Ev.pos (by omega) (Ev.pos (by omega) (Ev.pos (by omega) h2)))
theorem areas_both (l : List S89) (hl : l.length ≤ 12) : Ev (fun k => spec_l22Areas.f k l) (l.map (·.f1)) ∧ Ev (fun k => impl_areasOf.f k l) (l.map (·.f1)) := by
  obtain ⟨h1, h2⟩ := areasLoop l hl l.length 0 [] (by omega) rfl
  refine ⟨?_, ?_⟩
  · simp only [spec_l22Areas.f]
    exact Ev.eqn h1 (by simp)
  · simp only [impl_areasOf.f]
    exact Ev.eqn h2 (by simp)
theorem wok_areas (l : List S89) (hl : l.length ≤ 12) (hd : ∀ j, j < l.length → TenantOk (l.getD j z89)) : WOk (l.map (·.f1)) ∧ ∀ j, j < (l.map (·.f1)).length → 1 ≤ (l.map (·.f1)).getD j 0 := by
  have g : ∀ j, j < l.length → (l.map (·.f1)).getD j 0 = (l.getD j z89).f1 := fun j hj => getD_map (·.f1) l j z89 0 hj
  refine ⟨⟨by simpa using hl, fun j hj => ?_⟩, fun j hj => ?_⟩
  · have hj' : j < l.length := by simpa using hj
    rw [g j hj']
    obtain ⟨a, b, c, d⟩ := hd j hj'
    omega
  · have hj' : j < l.length := by simpa using hj
    rw [g j hj']
    exact (hd j hj').1
end Go.Proofs.Ytionpndhcijmcaa.QFixedShares
