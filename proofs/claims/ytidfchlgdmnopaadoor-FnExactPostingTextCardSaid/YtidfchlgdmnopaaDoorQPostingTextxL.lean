/- The plain laws of the laws' own helpers: sizes, copies, comparisons, marks. Conditions: those that each states. -/
import Derived.Test.YtidfchlgdmnopaaDoorQPostingTextx1
import Derived.Test.YtidfchlgdmnopaaDoorQPostingTextx2
import Derived.Test.YtidfchlgdmnopaaDoorQPostingTextxO
import Derived.Test.YtidfchlgdmnopaaDoorQEv
namespace Go.Proofs.YtidfchlgdmnopaaDoor.QPostingText
open Go.RowKit Go.Proofs.YtidfchlgdmnopaaDoorW.PrintWords Go.Proofs.YtidfchlgdmnopaaDoor.QOpen Go.Proofs.YtidfchlgdmnopaaDoor.QEv
set_option linter.unusedVariables false
set_option linter.unusedSimpArgs false
def sm41 (x : S41) : Prop := smS x.f0 ∧ smT x.f1 ∧ smT x.f2
theorem laws_szPosting_ev (x : S41) (left : Int) (hx : wf41 x) (h0 : 0 ≤ left) (h1 : left ≤ 1048576) : ∃ t, Ev (fun k => laws_szPosting.f (x.f0) (x.f1) (x.f2) left) t ∧ -1 ≤ t ∧ t ≤ left ∧ (0 ≤ t → sm41 x) := by
  obtain ⟨hx0, hx1, hx2⟩ := hx
  simp only [laws_szPosting.f]
  have hs0 : x.f0.size ≤ 9223372036854775807 := hx0
  have w0 : wrap64 (left - (x.f0.size : Int)) = left - (x.f0.size : Int) := wid (by omega) (by omega)
  simp only [w0]
  by_cases c0 : left - (x.f0.size : Int) < 0
  · exact ⟨-1, Ev.pos c0 (Ev.now _), by omega, by omega, fun h => absurd h (by omega)⟩
  exact ⟨(left - (x.f0.size : Int)), Ev.neg c0 (Ev.now _), by omega, by omega, fun h => ⟨(show x.f0.size ≤ 1048576 by omega), trivial, trivial⟩⟩
def cv41 (x : S41) : S44 := ⟨x.f0, x.f1, x.f2⟩
def sm44 (x : S44) : Prop := smS x.f0 ∧ smT x.f1 ∧ smT x.f2
theorem cv41_sm (x : S41) (h : sm41 x) : sm44 (cv41 x) := ⟨h.1, h.2.1, h.2.2⟩
theorem laws_toPosting_ev (x : S41) (hx : sm41 x) : Ev (fun k => laws_toPosting.f (x.f0) (x.f1) (x.f2)) ((cv41 x).f0, (cv41 x).f1, (cv41 x).f2) := by
  simp only [laws_toPosting.f]
  exact Ev.now _
end Go.Proofs.YtidfchlgdmnopaaDoor.QPostingText
