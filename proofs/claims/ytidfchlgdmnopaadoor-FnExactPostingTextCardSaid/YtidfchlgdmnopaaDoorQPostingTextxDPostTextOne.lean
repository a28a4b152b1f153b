/- PostTextOne: both sides hold one and the same for a valid posting. Conditions: none. -/
import Derived.Test.YtidfchlgdmnopaaDoorQPostingTextx1
import Derived.Test.YtidfchlgdmnopaaDoorQPostingTextx2
import Derived.Test.YtidfchlgdmnopaaDoorQPostingTextxL
import Derived.Test.YtidfchlgdmnopaaDoorQPostingTextxDNames
namespace Go.Proofs.YtidfchlgdmnopaaDoor.QPostingText
open Go.RowKit Go.Proofs.YtidfchlgdmnopaaDoorW.PrintWords Go.Proofs.YtidfchlgdmnopaaDoor.QOpen Go.Proofs.YtidfchlgdmnopaaDoor.QEv
set_option linter.unusedVariables false
set_option linter.unusedSimpArgs false
def PostOk (x : S44) : Prop := -1000000000 ≤ x.f1 ∧ x.f1 ≤ 1000000000 ∧ 0 ≤ x.f2 ∧ x.f2 ≤ 100000
theorem post_both (x : S44) (hx : sm44 x) : ∃ b, Ev (fun k => spec_l23One.f k x.f0 x.f1 x.f2) b ∧ Ev (fun k => impl_Posting_valid.f k x.f0 x.f1 x.f2) b ∧ (b = true → PostOk x) := by
  have hz : x.f0.size ≤ 1048576 := hx.1
  obtain ⟨b, h1, h2, h3⟩ := name_both x.f0 (by omega)
  simp only [spec_l23One.f, impl_Posting_valid.f, spec_l23Day.f, impl_accountDay.f, spec_in_eq, impl_within_eq, Option.bind_some, decide_eq_true_eq]
  cases b with
  | false => exact ⟨false, Ev.bind h1 (Ev.neg (by decide) (Ev.now _)), Ev.bind h2 (Ev.neg (by decide) (Ev.now _)), fun h => by cases h⟩
  | true =>
    by_cases c : -1000000000 ≤ x.f1 ∧ x.f1 ≤ 1000000000
    · by_cases c2 : x.f1 = 0
      · exact ⟨false, Ev.bind h1 (Ev.pos rfl (Ev.pos c (Ev.pos c2 (Ev.now _)))), Ev.bind h2 (Ev.pos rfl (Ev.pos c (Ev.pos c2 (Ev.now _)))), fun h => by cases h⟩
      · refine ⟨decide (0 ≤ x.f2 ∧ x.f2 ≤ 100000), Ev.bind h1 (Ev.pos rfl (Ev.pos c (Ev.neg c2 (Ev.now _)))), Ev.bind h2 (Ev.pos rfl (Ev.pos c (Ev.neg c2 (Ev.now _)))), fun h => ?_⟩
        have := of_decide_eq_true h
        unfold PostOk
        omega
    · exact ⟨false, Ev.bind h1 (Ev.pos rfl (Ev.neg c (Ev.now _))), Ev.bind h2 (Ev.pos rfl (Ev.neg c (Ev.now _))), fun h => by cases h⟩
end Go.Proofs.YtidfchlgdmnopaaDoor.QPostingText
