/- FnExactFewestGangs: the program's FewestGangs and the reference's return one and the same for all arguments, and the arguments stay as they were. Conditions: none beyond the statement's own guard. -/
import Derived.Test.YtionpndhcijmcaaQFewestGangsx6
import Derived.Test.YtionpndhcijmcaaQFewestGangsx8
import Derived.Test.YtionpndhcijmcaaQFewestGangsx9
import Derived.Test.YtionpndhcijmcaaQFewestGangsx10
import Derived.Test.YtionpndhcijmcaaQFewestGangsx11
import Derived.Test.YtionpndhcijmcaaQFewestGangsxL
import Derived.Test.YtionpndhcijmcaaQFewestGangsxDLast
namespace Go.Proofs.Ytionpndhcijmcaa.Pure
open Go.RowKit Go.Proofs.Ytionpndhcijmcaa.QFewestGangs Go.Proofs.YtionpndhcijmcaaW.PrintWords Go.Proofs.Ytionpndhcijmcaa.QOpen Go.Proofs.Ytionpndhcijmcaa.QEv
set_option linter.unusedVariables false
set_option linter.unusedSimpArgs false
theorem fewestLoop (l : List S47) (o : List Int) (lim : Int) (h : ∀ g, 1 ≤ g → g ≤ 3 → AskOk l o g) : ∀ (d : Nat) (g : Int), g + d = 4 → 1 ≤ g →
    ∃ (t : Int) (b : Bool) (x c : Int), Ev (fun k => spec_FewestGangs.l0 k l o lim g) (x, c) ∧ Ev (fun k => impl_least.l0 k 3 g l o lim) (t, b) ∧ impl_orNotFound.f t b = some (x, c) := by
  intro d
  induction d with
  | zero =>
    intro g hg h1
    refine ⟨0, false, 0, 3, Ev.succ ?_, Ev.succ ?_, rfl⟩
    · simp only [spec_FewestGangs.l0]
      exact Ev.neg (by omega) (Ev.now _)
    · simp only [impl_least.l0]
      exact Ev.neg (by omega) (Ev.now _)
  | succ d ih =>
    intro g hg h1
    obtain ⟨r, t, a1, a2, a3⟩ := last_both l o g (h g h1 (by omega))
    have a4 : Ev (fun k => impl_FewestGangs_1.f k g l o lim) (decide (t ≤ lim)) := by
      simp only [impl_FewestGangs_1.f]
      exact Ev.bind a3 (Ev.now _)
    by_cases c : t ≤ lim
    · refine ⟨g, true, g, 0, Ev.succ ?_, Ev.succ ?_, rfl⟩
      · simp only [spec_FewestGangs.l0]
        exact Ev.pos (by omega) (Ev.bind a1 (Ev.bind a2 (Ev.pos c (Ev.now _))))
      · simp only [impl_least.l0]
        exact Ev.pos (by omega) (Ev.bind a4 (Ev.pos (by simpa using c) (Ev.now _)))
    · obtain ⟨t', b, x, e, g1, g2, g3⟩ := ih (g + 1) (by omega) (by omega)
      have w : wrap64 (g + 1) = g + 1 := wid (by omega) (by omega)
      refine ⟨t', b, x, e, Ev.succ ?_, Ev.succ ?_, g3⟩
      · simp only [spec_FewestGangs.l0, w]
        exact Ev.pos (by omega) (Ev.bind a1 (Ev.bind a2 (Ev.neg c g1)))
      · simp only [impl_least.l0, w]
        exact Ev.pos (by omega) (Ev.bind a4 (Ev.neg (by simpa using c) g2))
theorem fewest_both (l : List S47) (hl : smL sm47 l) (o : List Int) (ho : o.length ≤ 1048576) (lim : Int) : ∃ (x c : Int), Ev (fun k => spec_FewestGangs.f k l o lim) (x, c) ∧ Ev (fun k => impl_FewestGangs.f k l o lim) (x, c) := by
  obtain ⟨c, h1, h2, h3⟩ := ask_both l hl o ho 1
  simp only [spec_FewestGangs.f, impl_FewestGangs.f, spec_l20Time.f, spec_in_eq, impl_within_eq, Option.bind_some, decide_eq_true_eq]
  by_cases e : c = 0
  · have hk := h3 e
    by_cases c2 : 0 ≤ lim ∧ lim ≤ 10000
    · obtain ⟨t, b, x, c', g1, g2, g3⟩ := fewestLoop l o lim (fun g p q => ⟨hk.1, hk.2.1, hk.2.2.1, hk.2.2.2.1, p, q⟩) 3 1 (by omega) (by omega)
      refine ⟨x, c', Ev.bind h1 (Ev.pos e (Ev.succ ?_)), Ev.bind h2 (Ev.pos e (Ev.pos c2 ?_))⟩
      · simp only [spec_FewestGangs.j0]
        refine Ev.neg (by simp; omega) (Ev.succ ?_)
        simp only [spec_FewestGangs.j1]
        exact Ev.pos e g1
      · refine Ev.bind (a := (t, b)) (by simp only [impl_least.f]; exact g2) ?_
        simp only [g3]
        exact Ev.now _
    · refine ⟨0, 2, Ev.bind h1 (Ev.pos e (Ev.succ ?_)), Ev.bind h2 (Ev.pos e (Ev.neg c2 (Ev.now _)))⟩
      simp only [spec_FewestGangs.j0]
      refine Ev.pos (by simp; omega) (Ev.succ ?_)
      simp only [spec_FewestGangs.j1]
      exact Ev.neg (by omega) (Ev.now _)
  · refine ⟨0, c, Ev.bind h1 (Ev.neg e (Ev.succ ?_)), Ev.bind h2 (Ev.neg e (Ev.now _))⟩
    simp only [spec_FewestGangs.j0]
    refine Ev.neg (by decide) (Ev.succ ?_)
    simp only [spec_FewestGangs.j1]
    exact Ev.neg e (Ev.now _)
theorem FnExactFewestGangs : ∀ (x0 : List (S62)) (x1 : List Int) (x2 : Int), (wfL wf62) x0 → (wfL (wfI .i64)) x1 → (wfI .i64) x2 → ∃ k, laws_FnExactFewestGangs.f k x0 x1 x2 = some true := by
  intro x0 x1 x2 hw0 hw1 hw2
  refine Ev.rounds (r := true) ?_
  simp only [laws_FnExactFewestGangs.f]
  by_cases c0 : (x1.length : Int) > 1048576
  · exact Ev.pos c0 (Ev.now _)
  refine Ev.neg c0 ?_
  obtain ⟨t, ht, _, _, hs⟩ := laws_szRepairS_ev x0 1048576 hw0 (by omega) (by omega)
  refine Ev.bind ht ?_
  by_cases c : t < 0
  · exact Ev.pos c (Ev.now _)
  refine Ev.neg c ?_
  have sm := hs (by omega)
  have sm2 := smL_map cv62 cv62_sm sm
  have hto := laws_toRepairS_ev x0 sm
  have ho1 := laws_toInt64S_ev x1 ⟨by omega, fun _ _ => trivial⟩
  obtain ⟨r, e, h1, h2⟩ := fewest_both _ sm2 x1 (by omega) x2
  have hn := sm2.1
  have q0 := laws_eqRepairS_refl (x0.map cv62) (by omega)
  have q1 := laws_eqInt64S_refl x1 (by omega)
  repeat' first | (with_reducible exact Ev.now _) | (with_reducible exact hto) | (with_reducible exact ho1) | (with_reducible exact h1) | (with_reducible exact h2) | (with_reducible exact q0) | (with_reducible exact q1) | ((with_reducible refine Ev.pos ?_ ?_); focus (first | with_reducible assumption | with_reducible rfl | omega | rfl | trivial)) | ((with_reducible refine Ev.neg ?_ ?_); focus (first | with_reducible assumption | omega | (simp; done) | (dsimp only; omega))) | (with_reducible refine Ev.bind hto ?_) | (with_reducible refine Ev.bind ho1 ?_) | (with_reducible refine Ev.bind h1 ?_) | (with_reducible refine Ev.bind h2 ?_) | (with_reducible refine Ev.bind q0 ?_) | (with_reducible refine Ev.bind q1 ?_) | (with_reducible refine Ev.bind (Ev.shift hto) ?_) | (with_reducible refine Ev.bind (Ev.shift ho1) ?_) | (with_reducible refine Ev.bind (Ev.shift h1) ?_) | (with_reducible refine Ev.bind (Ev.shift h2) ?_) | (with_reducible refine Ev.bind (Ev.shift q0) ?_) | (with_reducible refine Ev.bind (Ev.shift q1) ?_) | (refine Ev.succ ?_; simp only [laws_FnExactFewestGangs.j0]) | (with_reducible refine Ev.sb ?_) | dsimp only
end Go.Proofs.Ytionpndhcijmcaa.Pure
