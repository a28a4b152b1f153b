/- FnExactRestProblems: the program's RestProblems and the reference's return one and the same for all arguments, in memory of the call's own, and the duties stay as they were. Conditions: none beyond the statement's own guard. -/
import Derived.Test.YtjccjmjnlblhaaaQRestProblemsx3
import Derived.Test.YtjccjmjnlblhaaaQRestProblemsx4
import Derived.Test.YtjccjmjnlblhaaaQRestProblemsx6
import Derived.Test.YtjccjmjnlblhaaaQRestProblemsx8
import Derived.Test.YtjccjmjnlblhaaaQRestProblemsxL
import Derived.Test.YtjccjmjnlblhaaaQRestProblemsxDDutiesS
import Derived.Test.YtjccjmjnlblhaaaQRestProblemsxDHeldSS
namespace Go.Proofs.Ytjccjmjnlblhaaa.Pure
open Go.RowKit Go.Proofs.Ytjccjmjnlblhaaa.QRestProblems Go.Proofs.YtjccjmjnlblhaaaW.PrintWords Go.Proofs.Ytjccjmjnlblhaaa.QOpen Go.Proofs.Ytjccjmjnlblhaaa.QEv
set_option linter.unusedVariables false
set_option linter.unusedSimpArgs false
theorem restLoop (l : List S44) (hn : l.length ≤ 32) (hp : ∀ j, j < l.length → DutyAt l j) (x : Int) : ∀ (d i : Nat) (out : List (List Int)), i + d = l.length → out.length ≤ i → (∀ y ∈ out, y.length ≤ 2) →
    ∃ r : List (List Int), Ev (fun k => spec_RestProblems.l0 k l x out (i : Int)) (r, 0) ∧ Ev (fun k => impl_RestProblems.l0 k l x out ((i + 1 : Nat) : Int)) (r, 0) ∧ r.length ≤ 32 ∧ ∀ y ∈ r, y.length ≤ 2 := by
  intro d
  induction d with
  | zero =>
    intro i out hi ho hy
    refine ⟨out, Ev.succ ?_, Ev.succ ?_, by omega, hy⟩
    · simp only [spec_RestProblems.l0]
      exact Ev.neg (by omega) (Ev.now _)
    · simp only [impl_RestProblems.l0]
      exact Ev.neg (by omega) (Ev.now _)
  | succ d ih =>
    intro i out hi ho hy
    by_cases c1 : i + 1 < l.length
    · have w1 : wrap64 (((i + 1 : Nat) : Int) - 1) = (i : Int) := by rw [wid (by omega) (by omega)]; omega
      have e0 : rd_T44 l (i : Int) = l.getD i z44 := rfl
      have e1 : rd_T44 l ((i + 1 : Nat) : Int) = l.getD (i + 1) z44 := rfl
      have ok0 := (hp i (by omega)).1
      have ok1 := hp (i + 1) c1
      have ov := ok1.2.2 (by omega)
      have ok1 := ok1.1
      rw [show i + 1 - 1 = i by omega] at ov
      unfold DutyOk at ok0 ok1
      unfold dov at ov
      generalize l.getD i z44 = p at *
      generalize l.getD (i + 1) z44 = q at *
      by_cases c2 : p.f0.toList = q.f0.toList
      · have ov := ov c2
        have a1 : wrap64 (q.f1 - p.f1) = q.f1 - p.f1 := wid (by omega) (by omega)
        have a2 : wrap64 (q.f1 - p.f1 - p.f2) = q.f1 - p.f1 - p.f2 := wid (by omega) (by omega)
        have a3 : wrap64 (p.f1 + p.f2) = p.f1 + p.f2 := wid (by omega) (by omega)
        have a4 : wrap64 (q.f1 - (p.f1 + p.f2)) = q.f1 - (p.f1 + p.f2) := wid (by omega) (by omega)
        have rs : Ev (fun _ => spec_l26Rest.f l (i : Int)) (q.f1 - p.f1 - p.f2) := by
          simp only [spec_l26Rest.f, wnat i (by omega), e0, e1, a1, a2]
          exact Ev.neg (by omega) (Ev.pos (by omega) (Ev.pos (by omega) (Ev.pos (by omega) (Ev.pos (by omega) (Ev.pos c2 (Ev.now _))))))
        by_cases c3 : q.f1 - p.f1 - p.f2 < x
        · obtain ⟨r, h1, h2, h3, h4⟩ := ih (i + 1) (out ++ [[(i : Int), ((i + 1 : Nat) : Int)]]) (by omega) (by simp; omega) (fun y hm => by
            rcases List.mem_append.1 hm with z | z
            · exact hy y z
            · rw [List.mem_singleton.1 z]; simp)
          refine ⟨r, Ev.succ ?_, Ev.succ ?_, h3, h4⟩
          · simp only [spec_RestProblems.l0, wnat i (by omega)]
            exact Ev.pos (by omega) (Ev.bind rs (Ev.pos (by omega) (Ev.pos c3 (Ev.pos (by omega) h1))))
          · simp only [impl_RestProblems.l0, w1, e0, e1, impl_Duty_end.f, Option.bind_some, a3, a4, wnat (i + 1) (by omega)]
            exact Ev.pos (by omega) (Ev.pos (by omega) (Ev.pos (by omega) (Ev.pos (by omega) (Ev.pos c2.symm (Ev.pos (by omega) (Ev.pos (by omega) h2))))))
        · obtain ⟨r, h1, h2, h3, h4⟩ := ih (i + 1) out (by omega) (by omega) hy
          refine ⟨r, Ev.succ ?_, Ev.succ ?_, h3, h4⟩
          · simp only [spec_RestProblems.l0, wnat i (by omega)]
            exact Ev.pos (by omega) (Ev.bind rs (Ev.pos (by omega) (Ev.neg c3 h1)))
          · simp only [impl_RestProblems.l0, w1, e0, e1, impl_Duty_end.f, Option.bind_some, a3, a4, wnat (i + 1) (by omega)]
            exact Ev.pos (by omega) (Ev.pos (by omega) (Ev.pos (by omega) (Ev.pos (by omega) (Ev.pos c2.symm (Ev.neg (by omega) h2)))))
      · have rs : Ev (fun _ => spec_l26Rest.f l (i : Int)) (-1) := by
          simp only [spec_l26Rest.f, wnat i (by omega), e0, e1]
          exact Ev.neg (by omega) (Ev.pos (by omega) (Ev.pos (by omega) (Ev.pos (by omega) (Ev.pos (by omega) (Ev.neg c2 (Ev.now _))))))
        obtain ⟨r, h1, h2, h3, h4⟩ := ih (i + 1) out (by omega) (by omega) hy
        refine ⟨r, Ev.succ ?_, Ev.succ ?_, h3, h4⟩
        · simp only [spec_RestProblems.l0, wnat i (by omega)]
          exact Ev.pos (by omega) (Ev.bind rs (Ev.neg (by omega) h1))
        · simp only [impl_RestProblems.l0, w1, e0, e1, wnat (i + 1) (by omega)]
          exact Ev.pos (by omega) (Ev.pos (by omega) (Ev.pos (by omega) (Ev.pos (by omega) (Ev.neg (fun z => c2 z.symm) h2))))
    · have rs : Ev (fun _ => spec_l26Rest.f l (i : Int)) (-1) := by
        simp only [spec_l26Rest.f, wnat i (by omega)]
        exact Ev.pos (by omega) (Ev.now _)
      refine ⟨out, Ev.succ ?_, Ev.succ ?_, by omega, hy⟩
      · simp only [spec_RestProblems.l0, wnat i (by omega)]
        refine Ev.pos (by omega) (Ev.bind rs (Ev.neg (by omega) (Ev.succ ?_)))
        simp only [spec_RestProblems.l0]
        exact Ev.neg (by omega) (Ev.now _)
      · simp only [impl_RestProblems.l0]
        exact Ev.neg (by omega) (Ev.now _)
theorem rest_both (l : List S44) (hl : smL sm44 l) (x : Int) : ∃ (r : List (List Int)) (e : Int), Ev (fun k => spec_RestProblems.f k l x) (r, e) ∧ Ev (fun k => impl_RestProblems.f k l x) (r, e) ∧ r.length ≤ 32 ∧ ∀ y ∈ r, y.length ≤ 2 := by
  obtain ⟨b, g1, g2, g3⟩ := duties_both l hl
  simp only [spec_RestProblems.f, impl_RestProblems.f, spec_in_eq, impl_within_eq, Option.bind_some, decide_eq_true_eq]
  cases b with
  | false => exact ⟨[], 1, Ev.bind g1 (Ev.neg (by decide) (Ev.now _)), Ev.bind g2 (Ev.neg (by decide) (Ev.now _)), by simp, fun y hy => by cases hy⟩
  | true =>
    obtain ⟨hn, hp⟩ := g3 rfl
    by_cases c : 0 ≤ x ∧ x ≤ 100
    · obtain ⟨r, h1, h2, h3, h4⟩ := restLoop l hn hp x l.length 0 [] (by omega) (by simp) (fun y hy => by cases hy)
      exact ⟨r, 0, Ev.bind g1 (Ev.pos rfl (Ev.pos c h1)), Ev.bind g2 (Ev.pos rfl (Ev.pos c h2)), h3, h4⟩
    · exact ⟨[], 2, Ev.bind g1 (Ev.pos rfl (Ev.neg c (Ev.now _))), Ev.bind g2 (Ev.pos rfl (Ev.neg c (Ev.now _))), by simp, fun y hy => by cases hy⟩
theorem FnExactRestProblems : ∀ (x0 : List (S37)) (x1 : Int), (wfL wf37) x0 → (wfI .i64) x1 → ∃ k, laws_FnExactRestProblems.f k x0 x1 = some true := by
  intro x0 x1 hw0 hw1
  refine Ev.rounds (r := true) ?_
  simp only [laws_FnExactRestProblems.f]
  obtain ⟨t, ht, _, _, hs⟩ := laws_szDutyS_ev x0 1048576 hw0 (by omega) (by omega)
  refine Ev.bind ht ?_
  by_cases c : t < 0
  · exact Ev.pos c (Ev.now _)
  refine Ev.neg c ?_
  have sm := hs (by omega)
  have sm2 := smL_map cv37 cv37_sm sm
  have hto := laws_toDutyS_ev x0 sm
  have hn := sm2.1
  obtain ⟨r, e, h1, h2, h3, h4⟩ := rest_both _ sm2 x1
  have q0 := laws_eqDutyS_refl (x0.map cv37) (by omega)
  have q1 := laws_eqInt64SS_refl r ⟨by omega, fun y hy => ⟨by have := h4 y hy; omega, fun _ _ => trivial⟩⟩
  obtain ⟨m0, k0, _, _⟩ := laws_markDutyS_ev (x0.map cv37) 1 (by omega) (by omega)
  obtain ⟨K, m1, k1, v1, K0⟩ := markHeld_ev r (by omega) (fun j hj => by have := h4 _ (getD_mem r j [] hj); omega)
  repeat' first | (with_reducible exact Ev.now _) | (with_reducible exact hto) | (with_reducible exact h1) | (with_reducible exact h2) | (with_reducible exact q0) | (with_reducible exact q1) | (with_reducible exact k0) | (with_reducible exact k1) | (with_reducible exact v1) | ((with_reducible refine Ev.pos ?_ ?_); focus (first | with_reducible assumption | with_reducible rfl | omega | rfl | trivial)) | ((with_reducible refine Ev.neg ?_ ?_); focus (first | with_reducible assumption | omega | (simp; done) | (dsimp only; omega))) | (with_reducible refine Ev.bind hto ?_) | (with_reducible refine Ev.bind h1 ?_) | (with_reducible refine Ev.bind h2 ?_) | (with_reducible refine Ev.bind q0 ?_) | (with_reducible refine Ev.bind q1 ?_) | (with_reducible refine Ev.bind k0 ?_) | (with_reducible refine Ev.bind k1 ?_) | (with_reducible refine Ev.bind v1 ?_) | (with_reducible refine Ev.bind (Ev.shift hto) ?_) | (with_reducible refine Ev.bind (Ev.shift h1) ?_) | (with_reducible refine Ev.bind (Ev.shift h2) ?_) | (with_reducible refine Ev.bind (Ev.shift q0) ?_) | (with_reducible refine Ev.bind (Ev.shift q1) ?_) | (with_reducible refine Ev.bind (Ev.shift k0) ?_) | (with_reducible refine Ev.bind (Ev.shift k1) ?_) | (with_reducible refine Ev.bind (Ev.shift v1) ?_) | (refine Ev.succ ?_; simp only [laws_FnExactRestProblems.j0]) | (refine Ev.succ ?_; simp only [laws_FnExactRestProblems.j1]) | (refine Ev.succ ?_; simp only [laws_FnExactRestProblems.j2]) | (with_reducible refine Ev.sb ?_) | dsimp only
end Go.Proofs.Ytjccjmjnlblhaaa.Pure
