/- FnExactPeakHour: the program's PeakHour and the reference's return one and the same for all arguments, and the arguments stay as they were. Conditions: none beyond the statement's own guard. -/
import Derived.Test.YtamiipnoeffjkaaQPeakHourx4
import Derived.Test.YtamiipnoeffjkaaQPeakHourx8
import Derived.Test.YtamiipnoeffjkaaQPeakHourx9
import Derived.Test.YtamiipnoeffjkaaQPeakHourxL
import Derived.Test.YtamiipnoeffjkaaQPeakHourxDForecast
import Derived.Test.YtamiipnoeffjkaaQPeakHourxDFirstMax
namespace Go.Proofs.Ytamiipnoeffjkaa.Pure
open Go.RowKit Go.Proofs.Ytamiipnoeffjkaa.QPeakHour Go.Proofs.YtamiipnoeffjkaaW.PrintWords Go.Proofs.Ytamiipnoeffjkaa.QOpen Go.Proofs.Ytamiipnoeffjkaa.QEv
set_option linter.unusedVariables false
set_option linter.unusedSimpArgs false
theorem bestLoop (f : List Int) (hf : f.length ≤ 1000) : ∀ (d i g : Nat), i + d = f.length → g < i → (∀ j, j < i → f.getD j 0 ≤ f.getD g 0) → (∀ j, j < g → f.getD j 0 < f.getD g 0) →
    ∃ g', firstMax f g' ∧ Ev (fun k => spec_PeakHour.l0 k f (g : Int) (i : Int)) ((g' : Int), f.getD g' 0, 0) := by
  intro d
  induction d with
  | zero =>
    intro i g hi hg h1 h2
    have e : i = f.length := by omega
    subst e
    have e1 : rd f (g : Int) = f.getD g 0 := rfl
    refine ⟨g, ⟨hg, h1, h2⟩, Ev.succ ?_⟩
    simp only [spec_PeakHour.l0, e1]
    exact Ev.neg (by omega) (Ev.pos (by omega) (Ev.pos (by omega) (Ev.now _)))
  | succ d ih =>
    intro i g hi hg h1 h2
    have e0 : rd f (i : Int) = f.getD i 0 := rfl
    have e1 : rd f (g : Int) = f.getD g 0 := rfl
    by_cases c : f.getD i 0 > f.getD g 0
    · obtain ⟨g', a, b⟩ := ih (i + 1) i (by omega) (by omega) (fun j hj => by
        by_cases e : j = i
        · subst e; omega
        · have := h1 j (by omega); omega) (fun j hj => by have := h1 j (by omega); omega)
      refine ⟨g', a, Ev.succ ?_⟩
      simp only [spec_PeakHour.l0, e0, e1, wnat i (by omega)]
      exact Ev.pos (by omega) (Ev.pos (by omega) (Ev.pos (by omega) (Ev.pos (by omega) (Ev.pos c b))))
    · obtain ⟨g', a, b⟩ := ih (i + 1) g (by omega) (by omega) (fun j hj => by
        by_cases e : j = i
        · subst e; omega
        · exact h1 j (by omega)) h2
      refine ⟨g', a, Ev.succ ?_⟩
      simp only [spec_PeakHour.l0, e0, e1, wnat i (by omega)]
      exact Ev.pos (by omega) (Ev.pos (by omega) (Ev.pos (by omega) (Ev.pos (by omega) (Ev.neg c b))))
theorem peak_both (l : List S96) (hl : smL sm96 l) (o : List Int) (ho : o.length ≤ 1048576) : ∃ (a b c : Int), Ev (fun k => spec_PeakHour.f k l o) (a, b, c) ∧ Ev (fun k => impl_PeakHour.f k l o) (a, b, c) := by
  obtain ⟨r, c, h1, h2, h3, h4, h5⟩ := fore_ask l hl o ho
  simp only [spec_PeakHour.f, impl_PeakHour.f]
  by_cases e : c = 0
  · obtain ⟨k1, k2, k3⟩ := h5 e
    obtain ⟨g, hg, b⟩ := bestLoop r (by omega) (r.length - 1) 1 0 (by omega) (by omega) (fun j hj => by rw [show j = 0 by omega]; omega) (fun j hj => by omega)
    exact ⟨g, r.getD g 0, 0, Ev.bind h1 (Ev.pos e (Ev.bind k1 b)), Ev.bind h2 (Ev.pos e (Ev.bind (max_ev r (by omega) g hg) (Ev.bind (indexMax_ev r (by omega) g hg) (Ev.now _))))⟩
  · exact ⟨0, 0, c, Ev.bind h1 (Ev.neg e (Ev.now _)), Ev.bind h2 (Ev.neg e (Ev.now _))⟩
theorem FnExactPeakHour : ∀ (x0 : List (S153)) (x1 : List Int), (wfL wf153) x0 → (wfL (wfI .i64)) x1 → ∃ k, laws_FnExactPeakHour.f k x0 x1 = some true := by
  intro x0 x1 hw0 hw1
  refine Ev.rounds (r := true) ?_
  simp only [laws_FnExactPeakHour.f]
  by_cases c0 : (x1.length : Int) > 1048576
  · exact Ev.pos c0 (Ev.now _)
  refine Ev.neg c0 ?_
  obtain ⟨t, ht, _, _, hs⟩ := laws_szBuildingS_ev x0 1048576 hw0 (by omega) (by omega)
  refine Ev.bind ht ?_
  by_cases c : t < 0
  · exact Ev.pos c (Ev.now _)
  refine Ev.neg c ?_
  have sm := hs (by omega)
  have sm2 := smL_map cv153 cv153_sm sm
  have hto := laws_toBuildingS_ev x0 sm
  have ho1 := laws_toInt64S_ev x1 ⟨by omega, fun _ _ => trivial⟩
  obtain ⟨a, b, e, h1, h2⟩ := peak_both _ sm2 x1 (by omega)
  have q0 := laws_eqBuildingS_refl (x0.map cv153) sm2
  have q1 := laws_eqInt64S_refl x1 (by omega)
  repeat' first | (with_reducible exact Ev.now _) | (with_reducible exact hto) | (with_reducible exact ho1) | (with_reducible exact h1) | (with_reducible exact h2) | (with_reducible exact q0) | (with_reducible exact q1) | ((with_reducible refine Ev.pos ?_ ?_); focus (first | with_reducible assumption | with_reducible rfl | omega | rfl | trivial)) | ((with_reducible refine Ev.neg ?_ ?_); focus (first | with_reducible assumption | omega | (simp; done) | (dsimp only; omega))) | (with_reducible refine Ev.bind hto ?_) | (with_reducible refine Ev.bind ho1 ?_) | (with_reducible refine Ev.bind h1 ?_) | (with_reducible refine Ev.bind h2 ?_) | (with_reducible refine Ev.bind q0 ?_) | (with_reducible refine Ev.bind q1 ?_) | (with_reducible refine Ev.bind (Ev.shift hto) ?_) | (with_reducible refine Ev.bind (Ev.shift ho1) ?_) | (with_reducible refine Ev.bind (Ev.shift h1) ?_) | (with_reducible refine Ev.bind (Ev.shift h2) ?_) | (with_reducible refine Ev.bind (Ev.shift q0) ?_) | (with_reducible refine Ev.bind (Ev.shift q1) ?_) | (refine Ev.succ ?_; simp only [laws_FnExactPeakHour.j0]) | (with_reducible refine Ev.sb ?_) | dsimp only
end Go.Proofs.Ytamiipnoeffjkaa.Pure
