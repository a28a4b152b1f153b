/- FnExactFuelText: the program's FuelText and the reference's return one and the same for all arguments. Conditions: none beyond the statement's own guard. -/
import Derived.Test.YtidfchlgdmnopaaDoorQFuelTextx1
import Derived.Test.YtidfchlgdmnopaaDoorQFuelTextx2
import Derived.Test.YtidfchlgdmnopaaDoorQFuelTextx3
import Derived.Test.YtidfchlgdmnopaaDoorQFuelTextx4
import Derived.Test.YtidfchlgdmnopaaDoorQFuelTextxL
import Derived.Test.YtidfchlgdmnopaaDoorQFuelTextxDNames
import Derived.Test.YtidfchlgdmnopaaDoorQFuelTextxDListText
namespace Go.Proofs.YtidfchlgdmnopaaDoor.Pure
open Go.RowKit Go.Proofs.YtidfchlgdmnopaaDoor.QFuelText Go.Proofs.YtidfchlgdmnopaaDoorW.PrintWords Go.Proofs.YtidfchlgdmnopaaDoor.QOpen Go.Proofs.YtidfchlgdmnopaaDoor.QEv
set_option linter.unusedVariables false
set_option linter.unusedSimpArgs false
theorem one_both (x : S72) (hx : x.f0.size ≤ 1048576) : ∃ b, Ev (fun k => spec_l16One.f k x.f0 x.f1 x.f2 x.f3) b ∧ Ev (fun k => impl_Fuel_valid.f k x.f0 x.f1 x.f2 x.f3) b ∧ (b = true → 0 ≤ x.f1 ∧ x.f1 ≤ 20 ∧ 0 ≤ x.f2 ∧ x.f2 ≤ 1000 ∧ 0 ≤ x.f3 ∧ x.f3 ≤ 20) := by
  obtain ⟨b, h1, h2, _⟩ := name_both x.f0 (by omega)
  simp only [spec_l16One.f, impl_Fuel_valid.f, spec_in_eq, impl_within_eq, Option.bind_some, decide_eq_true_eq]
  cases b with
  | false => exact ⟨false, Ev.bind h1 (Ev.neg (by decide) (Ev.now _)), Ev.bind h2 (Ev.neg (by decide) (Ev.now _)), fun h => by cases h⟩
  | true =>
    by_cases c1 : 0 ≤ x.f1 ∧ x.f1 ≤ 20
    case neg => exact ⟨false, Ev.bind h1 (Ev.pos rfl (Ev.neg c1 (Ev.now _))), Ev.bind h2 (Ev.pos rfl (Ev.neg c1 (Ev.now _))), fun h => by cases h⟩
    by_cases c2 : 0 ≤ x.f2 ∧ x.f2 ≤ 1000
    case neg => exact ⟨false, Ev.bind h1 (Ev.pos rfl (Ev.pos c1 (Ev.neg c2 (Ev.now _)))), Ev.bind h2 (Ev.pos rfl (Ev.pos c1 (Ev.neg c2 (Ev.now _)))), fun h => by cases h⟩
    refine ⟨decide (0 ≤ x.f3 ∧ x.f3 ≤ 20), Ev.bind h1 (Ev.pos rfl (Ev.pos c1 (Ev.pos c2 (Ev.now _)))), Ev.bind h2 (Ev.pos rfl (Ev.pos c1 (Ev.pos c2 (Ev.now _)))), fun h => ?_⟩
    have := of_decide_eq_true h
    omega
theorem text_both (x : S72) (hx : x.f0.size ≤ 1048576) : ∃ s, Ev (fun k => spec_FuelText.f k x.f0 x.f1 x.f2 x.f3) s ∧ Ev (fun k => impl_FuelText.f k x.f0 x.f1 x.f2 x.f3) s := by
  obtain ⟨b, g1, g2, g3⟩ := one_both x hx
  simp only [spec_FuelText.f, impl_FuelText.f]
  cases b with
  | false => exact ⟨_, Ev.bind g1 (Ev.neg (by decide) (Ev.now _)), Ev.bind g2 (Ev.neg (by decide) (Ev.now _))⟩
  | true =>
    have ok := g3 rfl
    obtain ⟨s, d1, d2, d3⟩ := with_id x.f0 hx [x.f1, x.f2, x.f3] (by simp) (by simp) (by
      intro y hy
      simp only [List.mem_cons, List.mem_nil_iff, or_false] at hy
      rcases hy with rfl | rfl | rfl <;> omega)
    have z1 : (⟨#[32]⟩ : ByteArray).size = 1 := rfl
    refine ⟨_, Ev.bind g1 (Ev.pos rfl (Ev.bind (r := ((x.f0 ++ (⟨#[32]⟩ : ByteArray)) ++ s)) ?_ (Ev.now _))), Ev.bind g2 (Ev.pos rfl (Ev.bind d3 (Ev.now _)))⟩
    simp only [spec_l16Text.f]
    exact Ev.pos (by omega) (Ev.bind d1 (Ev.pos (by rw [ByteArray.size_append]; omega) (Ev.now _)))
theorem FnExactFuelText : ∀ (x0 : S69), wf69 x0 → ∃ k, laws_FnExactFuelText.f k x0.f0 x0.f1 x0.f2 x0.f3 = some true := by
  intro x0 hw0
  refine Ev.rounds (r := true) ?_
  simp only [laws_FnExactFuelText.f]
  obtain ⟨t, ht, _, _, hs⟩ := laws_szFuel_ev x0 1048576 hw0 (by omega) (by omega)
  refine Ev.bind ht ?_
  by_cases c : t < 0
  · exact Ev.pos c (Ev.now _)
  refine Ev.neg c ?_
  have sm := hs (by omega)
  have hto := laws_toFuel_ev x0 sm
  obtain ⟨s, h1, h2⟩ := text_both (cv69 x0) (cv69_sm x0 sm).1
  exact Ev.bind hto (Ev.bind h1 (Ev.bind hto (Ev.bind h2 (Ev.pos rfl (Ev.now _)))))
end Go.Proofs.YtidfchlgdmnopaaDoor.Pure
