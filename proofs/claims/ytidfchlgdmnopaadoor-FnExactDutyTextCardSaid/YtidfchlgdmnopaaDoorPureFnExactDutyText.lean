/- FnExactDutyText: the program's DutyText and the reference's return one and the same for all arguments. Conditions: none beyond the statement's own guard. -/
import Derived.Test.YtidfchlgdmnopaaDoorQDutyTextx2
import Derived.Test.YtidfchlgdmnopaaDoorQDutyTextx3
import Derived.Test.YtidfchlgdmnopaaDoorQDutyTextx4
import Derived.Test.YtidfchlgdmnopaaDoorQDutyTextxL
import Derived.Test.YtidfchlgdmnopaaDoorQDutyTextxDDutyOne
import Derived.Test.YtidfchlgdmnopaaDoorQDutyTextxDListText
namespace Go.Proofs.YtidfchlgdmnopaaDoor.Pure
open Go.RowKit Go.Proofs.YtidfchlgdmnopaaDoor.QDutyText Go.Proofs.YtidfchlgdmnopaaDoorW.PrintWords Go.Proofs.YtidfchlgdmnopaaDoor.QOpen Go.Proofs.YtidfchlgdmnopaaDoor.QEv
set_option linter.unusedVariables false
set_option linter.unusedSimpArgs false
theorem text_both (x : S86) (hx : x.f0.size ≤ 1048576) : ∃ s, Ev (fun k => spec_DutyText.f k x.f0 x.f1 x.f2 x.f3) s ∧ Ev (fun k => impl_DutyText.f k x.f0 x.f1 x.f2 x.f3) s := by
  obtain ⟨b, g1, g2, g3⟩ := duty_both x (by omega)
  simp only [spec_DutyText.f, impl_DutyText.f]
  cases b with
  | false => exact ⟨_, Ev.bind g1 (Ev.neg (by decide) (Ev.now _)), Ev.bind g2 (Ev.neg (by decide) (Ev.now _))⟩
  | true =>
    have ok := g3 rfl
    unfold DutyOk at ok
    obtain ⟨s, d1, d2, d3⟩ := with_id x.f0 hx [x.f1, x.f2] (by simp) (by simp) (by
      intro y hy
      simp only [List.mem_cons, List.mem_nil_iff, or_false] at hy
      rcases hy with rfl | rfl <;> omega)
    have z1 : (⟨#[32]⟩ : ByteArray).size = 1 := rfl
    have z2 : ((x.f0 ++ (⟨#[32]⟩ : ByteArray)) ++ s).size ≤ 2000000 := by
      rw [ByteArray.size_append, ByteArray.size_append]
      omega
    cases h : x.f3 with
    | true =>
      rw [h] at g1 g2
      refine ⟨((x.f0 ++ (⟨#[32]⟩ : ByteArray)) ++ s) ++ (⟨#[32, 99, 97, 108, 108]⟩ : ByteArray), Ev.bind g1 (Ev.pos rfl (Ev.bind (r := ((x.f0 ++ (⟨#[32]⟩ : ByteArray)) ++ s) ++ (⟨#[32, 99, 97, 108, 108]⟩ : ByteArray)) ?_ (Ev.now _))), Ev.bind g2 (Ev.pos rfl (Ev.pos (by first | rfl | trivial) (Ev.bind d3 (Ev.pos (by omega) (Ev.now _)))))⟩
      simp only [spec_l26Text.f]
      exact Ev.pos (by omega) (Ev.bind d1 (Ev.pos (by rw [ByteArray.size_append]; omega) (Ev.pos (by first | rfl | trivial) (Ev.pos (by omega) (Ev.now _)))))
    | false =>
      rw [h] at g1 g2
      refine ⟨((x.f0 ++ (⟨#[32]⟩ : ByteArray)) ++ s) ++ (⟨#[32, 119, 111, 114, 107]⟩ : ByteArray), Ev.bind g1 (Ev.pos rfl (Ev.bind (r := ((x.f0 ++ (⟨#[32]⟩ : ByteArray)) ++ s) ++ (⟨#[32, 119, 111, 114, 107]⟩ : ByteArray)) ?_ (Ev.now _))), Ev.bind g2 (Ev.pos rfl (Ev.neg (by simp) (Ev.bind d3 (Ev.pos (by omega) (Ev.now _)))))⟩
      simp only [spec_l26Text.f]
      exact Ev.pos (by omega) (Ev.bind d1 (Ev.pos (by rw [ByteArray.size_append]; omega) (Ev.neg (by simp) (Ev.pos (by omega) (Ev.now _)))))
theorem FnExactDutyText : ∀ (x0 : S83), wf83 x0 → ∃ k, laws_FnExactDutyText.f k x0.f0 x0.f1 x0.f2 x0.f3 = some true := by
  intro x0 hw0
  refine Ev.rounds (r := true) ?_
  simp only [laws_FnExactDutyText.f]
  obtain ⟨t, ht, _, _, hs⟩ := laws_szDuty_ev x0 1048576 hw0 (by omega) (by omega)
  refine Ev.bind ht ?_
  by_cases c : t < 0
  · exact Ev.pos c (Ev.now _)
  refine Ev.neg c ?_
  have sm := hs (by omega)
  have hto := laws_toDuty_ev x0 sm
  obtain ⟨s, h1, h2⟩ := text_both (cv83 x0) (cv83_sm x0 sm).1
  exact Ev.bind hto (Ev.bind h1 (Ev.bind hto (Ev.bind h2 (Ev.pos rfl (Ev.now _)))))
end Go.Proofs.YtidfchlgdmnopaaDoor.Pure
