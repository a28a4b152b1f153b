/- FnExactWorkersAt: the program's WorkersAt and the reference's return one and the same for all arguments, in memory of the call's own, and the arguments stay as they were. Conditions: none beyond the statement's own guard. -/
import Derived.Test.YtglhbjmagfchiaaQWorkersAtx2
import Derived.Test.YtglhbjmagfchiaaQWorkersAtx4
import Derived.Test.YtglhbjmagfchiaaQWorkersAtx6
import Derived.Test.YtglhbjmagfchiaaQWorkersAtx9
import Derived.Test.YtglhbjmagfchiaaQWorkersAtxL
import Derived.Test.YtglhbjmagfchiaaQWorkersAtxDDuties
namespace Go.Proofs.Ytglhbjmagfchiaa.Pure
open Go.RowKit Go.Proofs.Ytglhbjmagfchiaa.QWorkersAt Go.Proofs.YtglhbjmagfchiaaW.PrintWords Go.Proofs.Ytglhbjmagfchiaa.QOpen Go.Proofs.Ytglhbjmagfchiaa.QEv
set_option linter.unusedVariables false
set_option linter.unusedSimpArgs false
theorem atLoop (l : List S191) (hl : l.length ≤ 32) (hd : ∀ j, j < l.length → DutyOk (l.getD j z191)) (h : Int) : ∀ (d i : Nat) (acc : List ByteArray), i + d = l.length → acc.length ≤ i →
    ∃ r, Ev (fun k => spec_WorkersAt.l0 k l h acc (i : Int)) (r, 0) ∧ Ev (fun k => impl_personsAt.l0 k h false acc l (l.length : Int) (i : Int)) r ∧ r.length ≤ 32 := by
  intro d
  induction d with
  | zero =>
    intro i acc hi ha
    refine ⟨acc, Ev.succ ?_, Ev.succ ?_, by omega⟩
    · simp only [spec_WorkersAt.l0]
      exact Ev.neg (by omega) (Ev.now _)
    · simp only [impl_personsAt.l0]
      exact Ev.neg (by omega) (Ev.now _)
  | succ d ih =>
    intro i acc hi ha
    have hok : DutyOk (rd_T191 l (i : Int)) := hd i (by omega)
    obtain ⟨_, _, q1, q2, q3, q4⟩ := hok
    have w2 : wrap64 ((rd_T191 l (i : Int)).f1 + (rd_T191 l (i : Int)).f2) = (rd_T191 l (i : Int)).f1 + (rd_T191 l (i : Int)).f2 := wid (by omega) (by omega)
    rcases hc : (rd_T191 l (i : Int)).f3 with _ | _
    · by_cases c : (rd_T191 l (i : Int)).f1 ≤ h ∧ h < (rd_T191 l (i : Int)).f1 + (rd_T191 l (i : Int)).f2
      · obtain ⟨r, h1, h2, h3⟩ := ih (i + 1) (acc ++ [(rd_T191 l (i : Int)).f0]) (by omega) (by simp; omega)
        refine ⟨r, Ev.succ ?_, Ev.succ ?_, h3⟩
        · simp only [spec_WorkersAt.l0, spec_l26At.f, w2, hc, wnat i (by omega)]
          refine Ev.pos (by omega) (Ev.pos (by omega) (Ev.neg (by decide) ?_))
          rw [if_pos (by omega)]
          exact Ev.sb (Ev.pos (by simp; omega) (Ev.pos (by omega) h1))
        · simp only [impl_personsAt.l0, impl_Duty_end.f, w2, hc, Option.bind_some, wnat i (by omega)]
          exact Ev.pos (by omega) (Ev.pos (by omega) (Ev.pos (by omega) (Ev.pos (by decide) (Ev.pos (by omega) (Ev.pos (by omega) (Ev.pos (by omega) h2))))))
      · obtain ⟨r, h1, h2, h3⟩ := ih (i + 1) acc (by omega) (by omega)
        refine ⟨r, Ev.succ ?_, Ev.succ ?_, h3⟩
        · simp only [spec_WorkersAt.l0, spec_l26At.f, w2, hc, wnat i (by omega)]
          refine Ev.pos (by omega) (Ev.pos (by omega) (Ev.neg (by decide) ?_))
          by_cases e : h ≥ (rd_T191 l (i : Int)).f1
          · rw [if_pos e]
            exact Ev.sb (Ev.neg (by simp; omega) h1)
          · rw [if_neg e]
            exact Ev.sb (Ev.neg (by decide) h1)
        · simp only [impl_personsAt.l0, impl_Duty_end.f, w2, hc, Option.bind_some, wnat i (by omega)]
          refine Ev.pos (by omega) (Ev.pos (by omega) (Ev.pos (by omega) (Ev.pos (by decide) ?_)))
          by_cases e : (rd_T191 l (i : Int)).f1 ≤ h
          · exact Ev.pos e (Ev.neg (by omega) h2)
          · exact Ev.neg e h2
    · obtain ⟨r, h1, h2, h3⟩ := ih (i + 1) acc (by omega) (by omega)
      refine ⟨r, Ev.succ ?_, Ev.succ ?_, h3⟩
      · simp only [spec_WorkersAt.l0, hc, wnat i (by omega)]
        exact Ev.pos (by omega) (Ev.pos (by omega) (Ev.pos (by first | rfl | trivial) h1))
      · simp only [impl_personsAt.l0, hc, wnat i (by omega)]
        exact Ev.pos (by omega) (Ev.pos (by omega) (Ev.pos (by omega) (Ev.neg (by decide) h2)))
theorem workersAt_both (l : List S191) (hl : smL sm191 l) (h : Int) : ∃ (r : List ByteArray) (c : Int), Ev (fun k => spec_WorkersAt.f k l h) (r, c) ∧ Ev (fun k => impl_WorkersAt.f k l h) (r, c) ∧ r.length ≤ 32 := by
  obtain ⟨b, h1, h2, h3⟩ := duties_both l hl
  simp only [spec_WorkersAt.f, impl_WorkersAt.f, spec_l26Hour.f, impl_dutyHour.f, spec_in_eq, impl_within_eq, Option.bind_some, decide_eq_true_eq]
  cases b with
  | false => exact ⟨[], 1, Ev.bind h1 (Ev.neg (by decide) (Ev.now _)), Ev.bind h2 (Ev.neg (by decide) (Ev.now _)), by simp⟩
  | true =>
    obtain ⟨hlen, hd⟩ := h3 rfl
    by_cases c : 0 ≤ h ∧ h ≤ 10100
    · obtain ⟨r, g1, g2, g3⟩ := atLoop l hlen hd h l.length 0 [] (by omega) (by simp)
      refine ⟨r, 0, Ev.bind h1 (Ev.pos rfl (Ev.pos c g1)), Ev.bind h2 (Ev.pos rfl (Ev.pos c (Ev.bind ?_ (Ev.now _)))), g3⟩
      simp only [impl_personsAt.f]
      exact g2
    · exact ⟨[], 2, Ev.bind h1 (Ev.pos rfl (Ev.neg c (Ev.now _))), Ev.bind h2 (Ev.pos rfl (Ev.neg c (Ev.now _))), by simp⟩
theorem FnExactWorkersAt : ∀ (x0 : List (S189)) (x1 : Int), (wfL wf189) x0 → (wfI .i64) x1 → ∃ k, laws_FnExactWorkersAt.f k x0 x1 = some true := by
  intro x0 x1 hw0 hw1
  obtain ⟨t, ht, _, _, hs⟩ := laws_szDutyS_ev x0 1048576 hw0 (by omega) (by omega)
  refine Ev.rounds (r := true) ?_
  simp only [laws_FnExactWorkersAt.f]
  refine Ev.bind ht ?_
  by_cases c : t < 0
  · exact Ev.pos c (Ev.now _)
  refine Ev.neg c ?_
  have sm := hs (by omega)
  have sm2 := smL_map cv189 cv189_sm sm
  have hto := laws_toDutyS_ev x0 sm
  obtain ⟨r, e, h1, h2, h3⟩ := workersAt_both _ sm2 x1
  have hn := sm2.1
  have q0 := laws_eqDutyS_refl (x0.map cv189) (by omega)
  have q1 := laws_eqStringS_refl r (by omega)
  obtain ⟨m0, k0, _, _⟩ := laws_markDutyS_ev (x0.map cv189) 1 (by omega) (by omega)
  obtain ⟨m1, k1, e1, j1⟩ := laws_markStringS_ev r 1 (by omega) (by omega)
  have v1 := laws_heldStringS_ev 1 (by omega) m1 (by omega) (by rw [e1]; exact j1)
  rw [e1] at v1
  repeat' first | (with_reducible exact Ev.now _) | ((with_reducible refine Ev.pos ?_ ?_); focus (first | rfl | omega | trivial)) | ((with_reducible refine Ev.neg ?_ ?_); focus (first | omega | (simp; done) | (dsimp only; omega))) | (with_reducible refine Ev.bind hto ?_) | (with_reducible refine Ev.bind h1 ?_) | (with_reducible refine Ev.bind h2 ?_) | (with_reducible refine Ev.bind q0 ?_) | (with_reducible refine Ev.bind q1 ?_) | (with_reducible refine Ev.bind k0 ?_) | (with_reducible refine Ev.bind k1 ?_) | (with_reducible refine Ev.bind v1 ?_) | (with_reducible refine Ev.bind (Ev.shift hto) ?_) | (with_reducible refine Ev.bind (Ev.shift h1) ?_) | (with_reducible refine Ev.bind (Ev.shift h2) ?_) | (with_reducible refine Ev.bind (Ev.shift q0) ?_) | (with_reducible refine Ev.bind (Ev.shift q1) ?_) | (with_reducible refine Ev.bind (Ev.shift k0) ?_) | (with_reducible refine Ev.bind (Ev.shift k1) ?_) | (with_reducible refine Ev.bind (Ev.shift v1) ?_) | (refine Ev.succ ?_; simp only [laws_FnExactWorkersAt.j0]) | (refine Ev.succ ?_; simp only [laws_FnExactWorkersAt.j1]) | (refine Ev.succ ?_; simp only [laws_FnExactWorkersAt.j2]) | dsimp only
end Go.Proofs.Ytglhbjmagfchiaa.Pure
