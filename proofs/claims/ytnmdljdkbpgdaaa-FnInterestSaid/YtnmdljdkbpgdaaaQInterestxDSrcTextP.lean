/- SrcTextP: a text that is drawn. Conditions: as for what is drawn. -/
import Derived.Test.YtnmdljdkbpgdaaaQInterestx4
import Derived.Test.YtnmdljdkbpgdaaaQInterestxL
import Derived.Test.YtnmdljdkbpgdaaaQInterestxDSrcPick
namespace Go.Proofs.Ytnmdljdkbpgdaaa.QInterest
open Go.RowKit Go.Proofs.YtnmdljdkbpgdaaaW.PrintWords Go.Proofs.Ytnmdljdkbpgdaaa.QOpen Go.Proofs.Ytnmdljdkbpgdaaa.QEv
set_option linter.unusedVariables false
set_option linter.unusedSimpArgs false
theorem text_ev (c : List Int) (hc : BytesOk c) (p s : Int) (l : List ByteArray) (h0 : 0 ≤ p) (h1 : p ≤ 4611686018427387900) (hl : 1 ≤ l.length) (hl2 : l.length ≤ 1000000) : ∃ (x : ByteArray) (p' s' : Int), spec_l00Src_text.f c p s l = some (x, p', s') ∧ x ∈ l ∧ p ≤ p' ∧ p' ≤ p + 2 := by
  obtain ⟨x, p', s', e, x0, x1, p0, p1⟩ := pick_ev c hc p s (l.length : Int) h0 h1 (by omega)
  have x1 := x1 (by omega)
  simp only [spec_l00Src_text.f, e, Option.bind_some]
  rw [if_pos x0, if_pos x1]
  refine ⟨_, _, _, rfl, ?_, p0, p1⟩
  exact getD_mem l x.toNat ByteArray.empty (by omega)
end Go.Proofs.Ytnmdljdkbpgdaaa.QInterest
