/- FnExactCommonAncestor: the program's CommonAncestor and the reference's return one and the same for all arguments, and the list stays as it was. Conditions: none beyond the statement's own guard. -/
import Derived.Test.YtnmdljdkbpgdaaaQCommonAncestorx2
import Derived.Test.YtnmdljdkbpgdaaaQCommonAncestorx3
import Derived.Test.YtnmdljdkbpgdaaaQCommonAncestorx6
import Derived.Test.YtnmdljdkbpgdaaaQCommonAncestorx7
import Derived.Test.YtnmdljdkbpgdaaaQCommonAncestorx9
import Derived.Test.YtnmdljdkbpgdaaaQCommonAncestorxL
import Derived.Test.YtnmdljdkbpgdaaaQCommonAncestorxDLine
import Derived.Test.YtnmdljdkbpgdaaaQCommonAncestorxDHas
namespace Go.Proofs.Ytnmdljdkbpgdaaa.Pure
open Go.RowKit Go.Proofs.Ytnmdljdkbpgdaaa.QCommonAncestor Go.Proofs.YtnmdljdkbpgdaaaW.PrintWords Go.Proofs.Ytnmdljdkbpgdaaa.QOpen Go.Proofs.Ytnmdljdkbpgdaaa.QEv
set_option linter.unusedVariables false
set_option linter.unusedSimpArgs false
theorem commonLoop (p q : List Int) (hp : p.length ≤ 32) (hq : q.length ≤ 32) : ∀ d i : Nat, i + d = p.length → ∃ r : Int, Ev (fun k => spec_l27Common.l0 k p q (i : Int)) r ∧ Ev (fun k => impl_commonAncestor.l0 k q p (p.length : Int) (i : Int)) r := by
  intro d
  induction d with
  | zero =>
    intro i hi
    refine ⟨0, Ev.succ ?_, Ev.succ ?_⟩
    · simp only [spec_l27Common.l0]
      exact Ev.neg (by omega) (Ev.now _)
    · simp only [impl_commonAncestor.l0]
      exact Ev.neg (by omega) (Ev.now _)
  | succ d ih =>
    intro i hi
    obtain ⟨b, h1, h2⟩ := has_both q (by omega) (rd p (i : Int))
    cases b with
    | true =>
      refine ⟨rd p (i : Int), Ev.succ ?_, Ev.succ ?_⟩
      · simp only [spec_l27Common.l0]
        exact Ev.pos (by omega) (Ev.pos (by omega) (Ev.bind h1 (Ev.pos rfl (Ev.now _))))
      · simp only [impl_commonAncestor.l0]
        exact Ev.pos (by omega) (Ev.pos (by omega) (Ev.pos (by omega) (Ev.bind h2 (Ev.pos rfl (Ev.now _)))))
    | false =>
      obtain ⟨r, g1, g2⟩ := ih (i + 1) (by omega)
      refine ⟨r, Ev.succ ?_, Ev.succ ?_⟩
      · simp only [spec_l27Common.l0, wnat i (by omega)]
        exact Ev.pos (by omega) (Ev.pos (by omega) (Ev.bind h1 (Ev.neg (by decide) g1)))
      · simp only [impl_commonAncestor.l0, wnat i (by omega)]
        exact Ev.pos (by omega) (Ev.pos (by omega) (Ev.pos (by omega) (Ev.bind h2 (Ev.neg (by decide) g2))))
theorem common_both (l : List S119) (hl : smL sm119 l) (a b : Int) : ∃ r c : Int, Ev (fun k => spec_CommonAncestor.f k l a b) (r, c) ∧ Ev (fun k => impl_CommonAncestor.f k l a b) (r, c) := by
  obtain ⟨v, h1, h2, h3⟩ := history_both l hl
  simp only [spec_CommonAncestor.f, impl_CommonAncestor.f, impl_versionsCode.f, impl_allWithin.f, spec_l27Number.f, spec_in_eq, Option.bind_some]
  cases v with
  | false => exact ⟨0, 1, Ev.bind h1 (Ev.neg (by decide) (Ev.now _)), Ev.bind (Ev.bind h2 (Ev.neg (by decide) (Ev.now _))) (Ev.neg (by decide) (Ev.now _))⟩
  | true =>
    obtain ⟨k1, k2⟩ := h3 rfl
    have ok : HistOk l := ⟨k1, fun j hj => ⟨(k2 j hj).2.1, (k2 j hj).2.2.1⟩⟩
    have e2 : (if ([a, b] : List Int).length ≤ 9223372036854775807 then some (([a, b] : List Int).all fun n => decide (1 ≤ n ∧ n ≤ (l.length : Int))) else none) = some (decide (1 ≤ a ∧ a ≤ (l.length : Int)) && decide (1 ≤ b ∧ b ≤ (l.length : Int))) := by
      rw [if_pos (by simp)]
      simp only [List.all_cons, List.all_nil, Bool.and_true]
    simp only [e2, Option.bind_some]
    by_cases ca : 1 ≤ a ∧ a ≤ (l.length : Int)
    · by_cases cb : 1 ≤ b ∧ b ≤ (l.length : Int)
      · obtain ⟨p, p1, p2, p3⟩ := line_ends l ok a ca.1 ca.2
        obtain ⟨q, q1, q2, q3⟩ := line_ends l ok b cb.1 cb.2
        obtain ⟨r, g1, g2⟩ := commonLoop (a :: p) (b :: q) (by simp; omega) (by simp; omega) (a :: p).length 0 (by omega)
        have s1 : Ev (fun k => spec_l27Common.f k l a b) r := by
          simp only [spec_l27Common.f, Option.bind_some]
          exact Ev.bind p3 (Ev.pos (by simp; omega) (Ev.bind q3 (Ev.pos (by simp; omega) g1)))
        have s2 : Ev (fun k => impl_commonAncestor.f k l a b) r := by
          simp only [impl_commonAncestor.f]
          exact Ev.bind q2 (Ev.bind p2 g2)
        exact ⟨r, 0, Ev.bind h1 (Ev.pos rfl (Ev.pos (decide_eq_true ca) (Ev.pos (decide_eq_true cb) (Ev.bind s1 (Ev.now _))))), Ev.bind (Ev.bind h2 (Ev.pos rfl (Ev.pos (by simp [ca, cb]) (Ev.now _)))) (Ev.pos rfl (Ev.bind s2 (Ev.now _)))⟩
      · exact ⟨0, 3, Ev.bind h1 (Ev.pos rfl (Ev.pos (decide_eq_true ca) (Ev.neg (by simpa using cb) (Ev.now _)))), Ev.bind (Ev.bind h2 (Ev.pos rfl (Ev.neg (by rw [decide_eq_false cb, Bool.and_false]; decide) (Ev.now _)))) (Ev.neg (by decide) (Ev.now _))⟩
    · exact ⟨0, 3, Ev.bind h1 (Ev.pos rfl (Ev.neg (by simpa using ca) (Ev.now _))), Ev.bind (Ev.bind h2 (Ev.pos rfl (Ev.neg (by rw [decide_eq_false ca, Bool.false_and]; decide) (Ev.now _)))) (Ev.neg (by decide) (Ev.now _))⟩
theorem FnExactCommonAncestor : ∀ (x0 : List (S114)) (x1 : Int) (x2 : Int), (wfL wf114) x0 → (wfI .i64) x1 → (wfI .i64) x2 → ∃ k, laws_FnExactCommonAncestor.f k x0 x1 x2 = some true := by
  intro x0 x1 x2 hw0 hw1 hw2
  refine Ev.rounds (r := true) ?_
  simp only [laws_FnExactCommonAncestor.f]
  obtain ⟨t, ht, _, _, hs⟩ := laws_szVersionS_ev x0 1048576 hw0 (by omega) (by omega)
  refine Ev.bind ht ?_
  by_cases c : t < 0
  · exact Ev.pos c (Ev.now _)
  refine Ev.neg c ?_
  have sm := hs (by omega)
  have sm2 := smL_map cv114 cv114_sm sm
  have hto := laws_toVersionS_ev x0 sm
  obtain ⟨r, e, h1, h2⟩ := common_both _ sm2 x1 x2
  have q0 := laws_eqVersionS_refl (x0.map cv114) sm2
  repeat' first | (with_reducible exact Ev.now _) | (with_reducible exact hto) | (with_reducible exact h1) | (with_reducible exact h2) | (with_reducible exact q0) | ((with_reducible refine Ev.pos ?_ ?_); focus (first | with_reducible assumption | with_reducible rfl | omega | rfl | trivial)) | ((with_reducible refine Ev.neg ?_ ?_); focus (first | with_reducible assumption | omega | (simp; done) | (dsimp only; omega))) | (with_reducible refine Ev.bind hto ?_) | (with_reducible refine Ev.bind h1 ?_) | (with_reducible refine Ev.bind h2 ?_) | (with_reducible refine Ev.bind q0 ?_) | (with_reducible refine Ev.bind (Ev.shift hto) ?_) | (with_reducible refine Ev.bind (Ev.shift h1) ?_) | (with_reducible refine Ev.bind (Ev.shift h2) ?_) | (with_reducible refine Ev.bind (Ev.shift q0) ?_) | (refine Ev.succ ?_; simp only [laws_FnExactCommonAncestor.j0]) | (with_reducible refine Ev.sb ?_) | dsimp only
end Go.Proofs.Ytnmdljdkbpgdaaa.Pure
