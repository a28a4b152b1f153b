/- FnExactValidHistory: the program's ValidHistory and the reference's hold one and the same for every list of versions, and the list stays as it was. Conditions: none beyond the statement's own guard. -/
import Derived.Test.YtglhbjmagfchiaaQValidHistoryx2
import Derived.Test.YtglhbjmagfchiaaQValidHistoryx7
import Derived.Test.YtglhbjmagfchiaaQValidHistoryxL
import Derived.Test.YtglhbjmagfchiaaQValidHistoryxDHistory
namespace Go.Proofs.Ytglhbjmagfchiaa.Pure
open Go.RowKit Go.Proofs.Ytglhbjmagfchiaa.QValidHistory Go.Proofs.YtglhbjmagfchiaaW.PrintWords Go.Proofs.Ytglhbjmagfchiaa.QOpen Go.Proofs.Ytglhbjmagfchiaa.QEv
set_option linter.unusedVariables false
set_option linter.unusedSimpArgs false
theorem FnExactValidHistory : ∀ (x0 : List (S140)), (wfL wf140) x0 → ∃ k, laws_FnExactValidHistory.f k x0 = some true := by
  intro x0 hw
  obtain ⟨t, ht, _, _, hs⟩ := laws_szVersionS_ev x0 1048576 hw (by omega) (by omega)
  refine Ev.rounds (r := true) ?_
  simp only [laws_FnExactValidHistory.f]
  refine Ev.bind ht ?_
  by_cases c : t < 0
  · exact Ev.pos c (Ev.now _)
  · have sm := hs (by omega)
    have sm2 := smL_map cv140 cv140_sm sm
    have hto := laws_toVersionS_ev x0 sm
    obtain ⟨b, h1, h2, _⟩ := history_both _ sm2
    refine Ev.neg c (Ev.bind hto (Ev.bind (a := b) ?_ (Ev.bind hto (Ev.bind h2 (Ev.neg (by simp) (Ev.bind hto (Ev.bind (laws_eqVersionS_refl _ (by have := sm2.1; omega)) (Ev.pos rfl (Ev.now _)))))))))
    simp only [spec_ValidHistory.f]
    exact Ev.bind h1 (Ev.now _)
end Go.Proofs.Ytglhbjmagfchiaa.Pure
