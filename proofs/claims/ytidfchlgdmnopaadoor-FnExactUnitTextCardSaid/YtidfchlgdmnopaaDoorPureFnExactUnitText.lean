/- FnExactUnitText: the program's UnitText and the reference's return one and the same for all arguments. Conditions: none beyond the statement's own guard. -/
import Derived.Test.YtidfchlgdmnopaaDoorQUnitTextx2
import Derived.Test.YtidfchlgdmnopaaDoorQUnitTextx4
import Derived.Test.YtidfchlgdmnopaaDoorQUnitTextx5
import Derived.Test.YtidfchlgdmnopaaDoorQUnitTextxL
import Derived.Test.YtidfchlgdmnopaaDoorQUnitTextxDUnitOne
import Derived.Test.YtidfchlgdmnopaaDoorQUnitTextxDListText
namespace Go.Proofs.YtidfchlgdmnopaaDoor.Pure
open Go.RowKit Go.Proofs.YtidfchlgdmnopaaDoor.QUnitText Go.Proofs.YtidfchlgdmnopaaDoorW.PrintWords Go.Proofs.YtidfchlgdmnopaaDoor.QOpen Go.Proofs.YtidfchlgdmnopaaDoor.QEv
set_option linter.unusedVariables false
set_option linter.unusedSimpArgs false
theorem text_both (x : S26) (hx : sm26 x) : ∃ s, Ev (fun k => spec_UnitText.f k x.f0 x.f1 x.f2 x.f3 x.f4 x.f5 x.f6) s ∧ Ev (fun k => impl_UnitText.f k x.f0 x.f1 x.f2 x.f3 x.f4 x.f5 x.f6) s := by
  obtain ⟨b, g1, g2, g3⟩ := unit_both x hx
  have hz : x.f0.size ≤ 1048576 := hx.1
  simp only [spec_UnitText.f, impl_UnitText.f]
  cases b with
  | false => exact ⟨_, Ev.bind g1 (Ev.neg (by decide) (Ev.now _)), Ev.bind g2 (Ev.neg (by decide) (Ev.now _))⟩
  | true =>
    have ok := g3 rfl
    unfold UnitOk at ok
    obtain ⟨s, d1, d2, d3⟩ := with_id x.f0 hz [x.f1, x.f2, x.f3, x.f4, x.f5, x.f6] (by simp) (by simp) (by
      intro y hy
      simp only [List.mem_cons, List.mem_nil_iff, or_false] at hy
      rcases hy with rfl | rfl | rfl | rfl | rfl | rfl <;> omega)
    have z1 : (⟨#[32]⟩ : ByteArray).size = 1 := rfl
    refine ⟨_, Ev.bind g1 (Ev.pos rfl (Ev.bind (r := ((x.f0 ++ (⟨#[32]⟩ : ByteArray)) ++ s)) ?_ (Ev.now _))), Ev.bind g2 (Ev.pos rfl (Ev.bind d3 (Ev.now _)))⟩
    simp only [spec_l13Text.f]
    exact Ev.pos (by omega) (Ev.bind d1 (Ev.pos (by rw [ByteArray.size_append]; omega) (Ev.now _)))
theorem FnExactUnitText : ∀ (x0 : S23), wf23 x0 → ∃ k, laws_FnExactUnitText.f k x0.f0 x0.f1 x0.f2 x0.f3 x0.f4 x0.f5 x0.f6 = some true := by
  intro x0 hw0
  refine Ev.rounds (r := true) ?_
  simp only [laws_FnExactUnitText.f]
  obtain ⟨t, ht, _, _, hs⟩ := laws_szUnit_ev x0 1048576 hw0 (by omega) (by omega)
  refine Ev.bind ht ?_
  by_cases c : t < 0
  · exact Ev.pos c (Ev.now _)
  refine Ev.neg c ?_
  have sm := hs (by omega)
  have hto := laws_toUnit_ev x0 sm
  obtain ⟨s, h1, h2⟩ := text_both (cv23 x0) (cv23_sm x0 sm)
  exact Ev.bind hto (Ev.bind h1 (Ev.bind hto (Ev.bind h2 (Ev.pos rfl (Ev.now _)))))
end Go.Proofs.YtidfchlgdmnopaaDoor.Pure
