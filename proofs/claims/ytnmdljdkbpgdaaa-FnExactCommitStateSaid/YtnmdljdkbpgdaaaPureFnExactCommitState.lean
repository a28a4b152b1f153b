/- FnExactCommitState: the program's CommitState and the reference's return one and the same for all arguments, in memory of the call's own, and the history and the state stay as they were. Conditions: none beyond the statement's own guard. -/
import Derived.Test.YtnmdljdkbpgdaaaQCommitStatex4
import Derived.Test.YtnmdljdkbpgdaaaQCommitStatex5
import Derived.Test.YtnmdljdkbpgdaaaQCommitStatex8
import Derived.Test.YtnmdljdkbpgdaaaQCommitStatex11
import Derived.Test.YtnmdljdkbpgdaaaQCommitStatexL
import Derived.Test.YtnmdljdkbpgdaaaQCommitStatexDHistory
import Derived.Test.YtnmdljdkbpgdaaaQCommitStatexDCommit
import Derived.Test.YtnmdljdkbpgdaaaQCommitStatexDHeldV
namespace Go.Proofs.Ytnmdljdkbpgdaaa.Pure
open Go.RowKit Go.Proofs.Ytnmdljdkbpgdaaa.QCommitState Go.Proofs.YtnmdljdkbpgdaaaW.PrintWords Go.Proofs.Ytnmdljdkbpgdaaa.QOpen Go.Proofs.Ytnmdljdkbpgdaaa.QEv
set_option linter.unusedVariables false
set_option linter.unusedSimpArgs false
theorem commit_both (l : List S119) (hl : smL sm119 l) (p : Int) (m : ByteArray) (hm : m.size ≤ 1048576) (st : List S157) (hs : smL sm157 st) :
    ∃ (r : List S119) (e : Int), Ev (fun k => spec_CommitState.f k l p m st) (r, e) ∧ Ev (fun k => impl_CommitState.f k l p m st) (r, e) ∧ smL sm119 r := by
  obtain ⟨b, g1, g2, g3⟩ := history_both l hl
  obtain ⟨u, m1, m2, _⟩ := memo_both m (by omega)
  obtain ⟨t, s1, s2, _⟩ := state_both st hs
  have nil : smL sm119 ([] : List S119) := ⟨by simp, fun x hx => by cases hx⟩
  have js : Ev (fun k => spec_CommitState.j0 k l p m st true) ([], 1) := by
    refine Ev.succ ?_
    simp only [spec_CommitState.j0]
    exact Ev.pos (by first | rfl | trivial) (Ev.now _)
  have ji : Ev (fun k => impl_CommitState.j0 k l p m st true) ([], 1) := by
    refine Ev.succ ?_
    simp only [impl_CommitState.j0]
    exact Ev.pos (by first | rfl | trivial) (Ev.now _)
  simp only [spec_CommitState.f, impl_CommitState.f]
  cases b with
  | false => exact ⟨[], 1, Ev.bind g1 (Ev.neg (by decide) js), Ev.bind g2 (Ev.neg (by decide) ji), nil⟩
  | true =>
    cases u with
    | false => exact ⟨[], 1, Ev.bind g1 (Ev.pos rfl (Ev.bind m1 (Ev.neg (by decide) js))), Ev.bind g2 (Ev.pos rfl (Ev.bind m2 (Ev.neg (by decide) ji))), nil⟩
    | true =>
      cases t with
      | false => exact ⟨[], 1, Ev.bind g1 (Ev.pos rfl (Ev.bind m1 (Ev.pos rfl (Ev.bind s1 js)))), Ev.bind g2 (Ev.pos rfl (Ev.bind m2 (Ev.pos rfl (Ev.bind s2 ji)))), nil⟩
      | true =>
        obtain ⟨r, e, a1, a2, a3⟩ := add_both l hl (g3 rfl).1 p m hm st hs
        have key : (0 ≤ p ∧ p ≤ (l.length : Int) ∧ ∃ (r : List S119) (e : Int), Ev (fun k => spec_CommitState.j0 k l p m st false) (r, e) ∧ Ev (fun k => impl_CommitState.j0 k l p m st false) (r, e) ∧ smL sm119 r) ∨ (¬ (0 ≤ p ∧ p ≤ (l.length : Int)) ∧ Ev (fun k => spec_CommitState.j0 k l p m st false) ([], 3) ∧ Ev (fun k => impl_CommitState.j0 k l p m st false) ([], 3)) := by
          by_cases c : 0 ≤ p ∧ p ≤ (l.length : Int)
          · refine .inl ⟨c.1, c.2, r, e, Ev.succ ?_, Ev.succ ?_, a3⟩
            · simp only [spec_CommitState.j0, spec_l27Number.f, spec_in_eq, Option.bind_some, decide_eq_true_eq]
              refine Ev.neg (by simp) ?_
              by_cases z : p = 0
              · exact Ev.pos z (Ev.bind a1 (Ev.now _))
              · exact Ev.neg z (Ev.pos (by omega) (Ev.bind a1 (Ev.now _)))
            · simp only [impl_CommitState.j0, impl_within_eq, Option.bind_some, decide_eq_true_eq]
              exact Ev.neg (by simp) (Ev.pos c (Ev.bind a2 (Ev.now _)))
          · refine .inr ⟨c, Ev.succ ?_, Ev.succ ?_⟩
            · simp only [spec_CommitState.j0, spec_l27Number.f, spec_in_eq, Option.bind_some, decide_eq_true_eq]
              exact Ev.neg (by simp) (Ev.neg (by omega) (Ev.neg (by omega) (Ev.now _)))
            · simp only [impl_CommitState.j0, impl_within_eq, Option.bind_some, decide_eq_true_eq]
              exact Ev.neg (by simp) (Ev.neg c (Ev.now _))
        rcases key with ⟨_, _, r, e, b1, b2, b3⟩ | ⟨_, b1, b2⟩
        · exact ⟨r, e, Ev.bind g1 (Ev.pos rfl (Ev.bind m1 (Ev.pos rfl (Ev.bind s1 b1)))), Ev.bind g2 (Ev.pos rfl (Ev.bind m2 (Ev.pos rfl (Ev.bind s2 b2)))), b3⟩
        · exact ⟨[], 3, Ev.bind g1 (Ev.pos rfl (Ev.bind m1 (Ev.pos rfl (Ev.bind s1 b1)))), Ev.bind g2 (Ev.pos rfl (Ev.bind m2 (Ev.pos rfl (Ev.bind s2 b2)))), nil⟩
theorem FnExactCommitState : ∀ (x0 : List (S114)) (x1 : Int) (x2 : ByteArray) (x3 : List (S155)), (wfL wf114) x0 → (wfI .i64) x1 → wfS x2 → (wfL wf155) x3 → ∃ k, laws_FnExactCommitState.f k x0 x1 x2 x3 = some true := by
  intro x0 x1 x2 x3 hw0 hw1 hw2 hw3
  refine Ev.rounds (r := true) ?_
  simp only [laws_FnExactCommitState.f]
  by_cases cm : (x2.size : Int) > 1048576
  · exact Ev.pos cm (Ev.now _)
  refine Ev.neg cm ?_
  obtain ⟨t, ht, _, _, hs⟩ := laws_szVersionS_ev x0 1048576 hw0 (by omega) (by omega)
  refine Ev.bind ht ?_
  by_cases c : t < 0
  · exact Ev.pos c (Ev.now _)
  refine Ev.neg c ?_
  obtain ⟨u, hu, _, _, hs2⟩ := laws_szSettingS_ev x3 t hw3 (by omega) (by omega)
  refine Ev.bind hu ?_
  by_cases c2 : u < 0
  · exact Ev.pos c2 (Ev.now _)
  refine Ev.neg c2 ?_
  have sa := hs (by omega)
  have sb := hs2 (by omega)
  have sa2 := smL_map cv114 cv114_sm sa
  have sb2 := smL_map cv155 cv155_sm sb
  have ta := laws_toVersionS_ev x0 sa
  have tb := laws_toSettingS_ev x3 sb
  have na := sa2.1
  have nb := sb2.1
  obtain ⟨r, e, h1, h2, h3⟩ := commit_both _ sa2 x1 x2 (by omega) _ sb2
  have hn := h3.1
  have qa := laws_eqVersionS_refl (x0.map cv114) sa2
  have qb := laws_eqSettingS_refl (x3.map cv155) (by omega)
  have q1 := laws_eqVersionS_refl r h3
  obtain ⟨M0, l0, ka, _, _⟩ := laws_markVersionS_some (x0.map cv114) sa2 1 (by omega) (by omega)
  obtain ⟨mb, kb, _, _⟩ := laws_markSettingS_ev (x3.map cv155) M0 (by omega) (by omega)
  obtain ⟨K, m1, k1, v1, K0⟩ := markHeldV_ev r (by omega) (fun j hj => (smL_get h3 z119 hj).2.2.2.1)
  have nr : ¬ (M0 + 2 * ((x3.map cv155).length : Int) < 0) := by omega
  repeat' first | (with_reducible exact Ev.now _) | (with_reducible exact ta) | (with_reducible exact tb) | (with_reducible exact h1) | (with_reducible exact h2) | (with_reducible exact qa) | (with_reducible exact qb) | (with_reducible exact q1) | (with_reducible exact ka) | (with_reducible exact kb) | (with_reducible exact k1) | (with_reducible exact v1) | ((with_reducible refine Ev.pos ?_ ?_); focus (first | with_reducible assumption | with_reducible rfl | omega | rfl | trivial)) | ((with_reducible refine Ev.neg ?_ ?_); focus (first | with_reducible assumption | omega | (simp; done) | (dsimp only; omega))) | (with_reducible refine Ev.bind ta ?_) | (with_reducible refine Ev.bind tb ?_) | (with_reducible refine Ev.bind h1 ?_) | (with_reducible refine Ev.bind h2 ?_) | (with_reducible refine Ev.bind qa ?_) | (with_reducible refine Ev.bind qb ?_) | (with_reducible refine Ev.bind q1 ?_) | (with_reducible refine Ev.bind ka ?_) | (with_reducible refine Ev.bind kb ?_) | (with_reducible refine Ev.bind k1 ?_) | (with_reducible refine Ev.bind v1 ?_) | (with_reducible refine Ev.bind (Ev.shift ta) ?_) | (with_reducible refine Ev.bind (Ev.shift tb) ?_) | (with_reducible refine Ev.bind (Ev.shift h1) ?_) | (with_reducible refine Ev.bind (Ev.shift h2) ?_) | (with_reducible refine Ev.bind (Ev.shift qa) ?_) | (with_reducible refine Ev.bind (Ev.shift qb) ?_) | (with_reducible refine Ev.bind (Ev.shift q1) ?_) | (with_reducible refine Ev.bind (Ev.shift ka) ?_) | (with_reducible refine Ev.bind (Ev.shift kb) ?_) | (with_reducible refine Ev.bind (Ev.shift k1) ?_) | (with_reducible refine Ev.bind (Ev.shift v1) ?_) | (refine Ev.succ ?_; simp only [laws_FnExactCommitState.j0]) | (refine Ev.succ ?_; simp only [laws_FnExactCommitState.j1]) | (refine Ev.succ ?_; simp only [laws_FnExactCommitState.j2]) | (with_reducible refine Ev.sb ?_) | dsimp only
end Go.Proofs.Ytnmdljdkbpgdaaa.Pure
