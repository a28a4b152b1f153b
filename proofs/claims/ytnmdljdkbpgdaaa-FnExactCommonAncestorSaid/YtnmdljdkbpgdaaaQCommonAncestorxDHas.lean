/- Has: whether a number stands in a list, by both sides. Conditions: none. -/
import Derived.Test.YtnmdljdkbpgdaaaQCommonAncestorx2
import Derived.Test.YtnmdljdkbpgdaaaQCommonAncestorx6
import Derived.Test.YtnmdljdkbpgdaaaQCommonAncestorx7
import Derived.Test.YtnmdljdkbpgdaaaQCommonAncestorxL
namespace Go.Proofs.Ytnmdljdkbpgdaaa.QCommonAncestor
open Go.RowKit Go.Proofs.YtnmdljdkbpgdaaaW.PrintWords Go.Proofs.Ytnmdljdkbpgdaaa.QOpen Go.Proofs.Ytnmdljdkbpgdaaa.QEv
set_option linter.unusedVariables false
set_option linter.unusedSimpArgs false
theorem hasLoop (l : List Int) (hl : l.length ≤ 1048576) (x : Int) : ∀ d i : Nat, i + d = l.length →
    ∃ (b : Bool) (r : Int), Ev (fun k => spec_l00Has.l0 k l x (i : Int)) b ∧ Ev (fun k => slices_Index_int64_int64.l0 k l x (l.length : Int) (i : Int)) r ∧ decide (r ≥ 0) = b := by
  intro d
  induction d with
  | zero =>
    intro i hi
    refine ⟨false, -1, Ev.succ ?_, Ev.succ ?_, by decide⟩
    · simp only [spec_l00Has.l0]
      exact Ev.neg (by omega) (Ev.now _)
    · simp only [slices_Index_int64_int64.l0]
      exact Ev.neg (by omega) (Ev.now _)
  | succ d ih =>
    intro i hi
    obtain ⟨b, r, h1, h2, h3⟩ := ih (i + 1) (by omega)
    by_cases c : rd l (i : Int) = x
    · refine ⟨true, (i : Int), Ev.succ ?_, Ev.succ ?_, by simp⟩
      · simp only [spec_l00Has.l0]
        exact Ev.pos (by omega) (Ev.pos (by omega) (Ev.pos c (Ev.now _)))
      · simp only [slices_Index_int64_int64.l0]
        exact Ev.pos (by omega) (Ev.pos (by omega) (Ev.pos (by omega) (Ev.pos c.symm (Ev.now _))))
    · refine ⟨b, r, Ev.succ ?_, Ev.succ ?_, h3⟩
      · simp only [spec_l00Has.l0, wnat i (by omega)]
        exact Ev.pos (by omega) (Ev.pos (by omega) (Ev.neg c h1))
      · simp only [slices_Index_int64_int64.l0, wnat i (by omega)]
        exact Ev.pos (by omega) (Ev.pos (by omega) (Ev.pos (by omega) (Ev.neg (fun e => c e.symm) h2)))
theorem has_both (l : List Int) (hl : l.length ≤ 1048576) (x : Int) : ∃ b, Ev (fun k => spec_l00Has.f k l x) b ∧ Ev (fun k => slices_Contains_int64_int64.f k l x) b := by
  obtain ⟨b, r, h1, h2, h3⟩ := hasLoop l hl x l.length 0 (by omega)
  refine ⟨b, h1, ?_⟩
  simp only [slices_Contains_int64_int64.f, slices_Index_int64_int64.f]
  rw [← h3]
  exact Ev.bind h2 (Ev.now _)
end Go.Proofs.Ytnmdljdkbpgdaaa.QCommonAncestor
