/- FnExactPostingText: the program's PostingText and the reference's return one and the same for all arguments. Conditions: none beyond the statement's own guard. -/
import Derived.Test.YtidfchlgdmnopaaDoorQPostingTextx2
import Derived.Test.YtidfchlgdmnopaaDoorQPostingTextx3
import Derived.Test.YtidfchlgdmnopaaDoorQPostingTextx4
import Derived.Test.YtidfchlgdmnopaaDoorQPostingTextxL
import Derived.Test.YtidfchlgdmnopaaDoorQPostingTextxDPostTextOne
import Derived.Test.YtidfchlgdmnopaaDoorQPostingTextxDDec
namespace Go.Proofs.YtidfchlgdmnopaaDoor.Pure
open Go.RowKit Go.Proofs.YtidfchlgdmnopaaDoor.QPostingText Go.Proofs.YtidfchlgdmnopaaDoorW.PrintWords Go.Proofs.YtidfchlgdmnopaaDoor.QOpen Go.Proofs.YtidfchlgdmnopaaDoor.QEv
set_option linter.unusedVariables false
set_option linter.unusedSimpArgs false
theorem posting_text (x : S44) (hx : sm44 x) (h1 : -9223372036854775808 ≤ x.f1 ∧ x.f1 ≤ 9223372036854775807) (h2 : -9223372036854775808 ≤ x.f2 ∧ x.f2 ≤ 9223372036854775807) :
    ∃ s, Ev (fun k => spec_PostingText.f k x.f0 x.f1 x.f2) s ∧ Ev (fun k => impl_PostingText.f k x.f0 x.f1 x.f2) s := by
  obtain ⟨b, g1, g2, _⟩ := post_both x hx
  have hz : x.f0.size ≤ 1048576 := hx.1
  simp only [spec_PostingText.f, impl_PostingText.f, dec_impl x.f1 h1.1 h1.2, dec_impl x.f2 h2.1 h2.2, Option.bind_some]
  have d1 := dec_spec x.f1 h1.1 h1.2
  have d2 := dec_spec x.f2 h2.1 h2.2
  have n1 := decOf_size x.f1 h1.1 h1.2
  have n2 := decOf_size x.f2 h2.1 h2.2
  have z1 : (⟨#[32]⟩ : ByteArray).size = 1 := rfl
  have z2 : (⟨#[64]⟩ : ByteArray).size = 1 := rfl
  cases b with
  | false => exact ⟨_, Ev.bind g1 (Ev.neg (by decide) (Ev.now _)), Ev.bind g2 (Ev.neg (by decide) (Ev.now _))⟩
  | true =>
    refine ⟨_, Ev.bind g1 (Ev.pos rfl ?_), Ev.bind g2 (Ev.pos rfl (Ev.pos (by omega) (Ev.pos (by simp only [ByteArray.size_append]; omega) (Ev.pos (by simp only [ByteArray.size_append]; omega) (Ev.pos (by simp only [ByteArray.size_append]; omega) (Ev.now _))))))⟩
    simp only [spec_l23Text.f]
    exact Ev.bind (Ev.pos (by omega) (Ev.bind d1 (Ev.pos (by simp only [ByteArray.size_append]; omega) (Ev.pos (by simp only [ByteArray.size_append]; omega) (Ev.bind d2 (Ev.pos (by simp only [ByteArray.size_append]; omega) (Ev.now _))))))) (Ev.now _)
theorem FnExactPostingText : ∀ (x0 : S41), wf41 x0 → ∃ k, laws_FnExactPostingText.f k x0.f0 x0.f1 x0.f2 = some true := by
  intro x0 hw0
  refine Ev.rounds (r := true) ?_
  simp only [laws_FnExactPostingText.f]
  obtain ⟨t, ht, _, _, hs⟩ := laws_szPosting_ev x0 1048576 hw0 (by omega) (by omega)
  refine Ev.bind ht ?_
  by_cases c : t < 0
  · exact Ev.pos c (Ev.now _)
  refine Ev.neg c ?_
  have sm := hs (by omega)
  have hto := laws_toPosting_ev x0 sm
  have w1 := wfI_i64 (show wfI .i64 x0.f1 from hw0.2.1)
  have w2 := wfI_i64 (show wfI .i64 x0.f2 from hw0.2.2)
  obtain ⟨s, h1, h2⟩ := posting_text (cv41 x0) (cv41_sm x0 sm) w1 w2
  exact Ev.bind hto (Ev.bind h1 (Ev.bind hto (Ev.bind h2 (Ev.pos rfl (Ev.now _)))))
end Go.Proofs.YtidfchlgdmnopaaDoor.Pure
