/- FnExactTransferMoney: the program's TransferMoney and the reference's return one and the same for all arguments, the list stays as it was, and the answer is nobody else's. Conditions: none beyond the statement's own guard. -/
import Derived.Test.YtnmdljdkbpgdaaaQTransferMoneyx3
import Derived.Test.YtnmdljdkbpgdaaaQTransferMoneyx4
import Derived.Test.YtnmdljdkbpgdaaaQTransferMoneyx6
import Derived.Test.YtnmdljdkbpgdaaaQTransferMoneyx7
import Derived.Test.YtnmdljdkbpgdaaaQTransferMoneyx8
import Derived.Test.YtnmdljdkbpgdaaaQTransferMoneyxL
import Derived.Test.YtnmdljdkbpgdaaaQTransferMoneyxDPut
namespace Go.Proofs.Ytnmdljdkbpgdaaa.Pure
open Go.RowKit Go.Proofs.Ytnmdljdkbpgdaaa.QTransferMoney Go.Proofs.YtnmdljdkbpgdaaaW.PrintWords Go.Proofs.Ytnmdljdkbpgdaaa.QOpen Go.Proofs.Ytnmdljdkbpgdaaa.QEv
set_option linter.unusedVariables false
set_option linter.unusedSimpArgs false
theorem transfer_both (l : List S128) (hl : smL sm128 l) (a b : ByteArray) (ha : a.size ≤ 1048576) (hb : b.size ≤ 1048576) (c d : Int) :
    ∃ (r : List S128) (e : Int), Ev (fun k => spec_TransferMoney.f k l a b c d) (r, e) ∧ Ev (fun k => impl_TransferMoney.f k l a b c d) (r, e) ∧ r.length ≤ 32 := by
  obtain ⟨v, h1, h2, h3⟩ := posts_both l hl
  obtain ⟨p, p1, p2, _⟩ := name_both a (by omega)
  obtain ⟨q, q1, q2, _⟩ := name_both b (by omega)
  have sT : Ev (fun k => spec_TransferMoney.j0 k l a b c d true) ([], 1) := Ev.succ (by simp only [spec_TransferMoney.j0]; exact Ev.pos (by trivial) (Ev.now _))
  have iT : Ev (fun k => impl_TransferMoney.j0 k l a b c d true) ([], 1) := Ev.succ (by simp only [impl_TransferMoney.j0]; exact Ev.pos (by trivial) (Ev.now _))
  simp only [spec_TransferMoney.f, impl_TransferMoney.f]
  cases v with
  | false => exact ⟨[], 1, Ev.bind h1 (Ev.neg (by decide) sT), Ev.bind h2 (Ev.neg (by decide) iT), by simp⟩
  | true =>
    have hn := (h3 rfl).1
    cases p with
    | false => exact ⟨[], 1, Ev.bind h1 (Ev.pos rfl (Ev.bind p1 (Ev.neg (by decide) sT))), Ev.bind h2 (Ev.pos rfl (Ev.bind p2 (Ev.neg (by decide) iT))), by simp⟩
    | true =>
      cases q with
      | false => exact ⟨[], 1, Ev.bind h1 (Ev.pos rfl (Ev.bind p1 (Ev.pos rfl (Ev.bind q1 (Ev.neg (by decide) sT))))), Ev.bind h2 (Ev.pos rfl (Ev.bind p2 (Ev.pos rfl (Ev.bind q2 (Ev.neg (by decide) iT))))), by simp⟩
      | true =>
        have go : ∃ (r : List S128) (e : Int), Ev (fun k => spec_TransferMoney.j0 k l a b c d (a.toList == b.toList)) (r, e) ∧ Ev (fun k => impl_TransferMoney.j0 k l a b c d (a.toList == b.toList)) (r, e) ∧ r.length ≤ 32 := by
          cases he : (a.toList == b.toList) with
          | true => exact ⟨[], 1, sT, iT, by simp⟩
          | false =>
            by_cases c1 : 1 ≤ c ∧ c ≤ 1000000000
            · by_cases c2 : 0 ≤ d ∧ d ≤ 100000
              · obtain ⟨l1, g1⟩ := put_both l (by omega) ⟨a, wrap64 (-c), d⟩
                have n1 := g1.2.1
                obtain ⟨l2, g2⟩ := put_both l1 (by omega) ⟨b, c, d⟩
                have e2 : decide (0 ≤ d ∧ d ≤ 100000) = true := decide_eq_true c2
                have hw : Ev (fun k => impl_withPostings.f k l [⟨a, wrap64 (-c), d⟩, ⟨b, c, d⟩]) (endR l2) := by
                  simp only [impl_withPostings.f, clone_eq l (by omega), Option.bind_some]
                  exact with_step l l1 [⟨a, wrap64 (-c), d⟩, ⟨b, c, d⟩] 0 (by simp) (by simp) g1 _ (with_step l1 l2 [⟨a, wrap64 (-c), d⟩, ⟨b, c, d⟩] 1 (by simp) (by simp) g2 _ (with_end l2 _ _ (by simp)))
                refine ⟨(endR l2).1, (endR l2).2, Ev.succ ?_, Ev.succ ?_, endR_len l2⟩
                · simp only [spec_TransferMoney.j0, spec_in_eq, spec_l23Day.f, Option.bind_some, e2, Bool.not_true]
                  refine Ev.neg (by simp) (Ev.pos (decide_eq_true c1) (Ev.succ ?_))
                  simp only [spec_TransferMoney.j1]
                  refine Ev.neg (by simp) (Ev.bind g1.1 (Ev.bind g2.1 ?_))
                  by_cases c3 : (l2.length : Int) > 32
                  · rw [endR_pos _ c3]; exact Ev.pos c3 (Ev.now _)
                  · rw [endR_neg _ c3]; exact Ev.neg c3 (Ev.now _)
                · simp only [impl_TransferMoney.j0, impl_within_eq, impl_accountDay.f, Option.bind_some]
                  exact Ev.neg (by simp) (Ev.pos (decide_eq_true c1) (Ev.pos e2 (Ev.bind hw (Ev.now _))))
              · refine ⟨[], 2, Ev.succ ?_, Ev.succ ?_, by simp⟩
                · have e2 : decide (0 ≤ d ∧ d ≤ 100000) = false := decide_eq_false c2
                  simp only [spec_TransferMoney.j0, spec_in_eq, spec_l23Day.f, Option.bind_some, e2, Bool.not_false]
                  refine Ev.neg (by simp) (Ev.pos (decide_eq_true c1) (Ev.succ ?_))
                  simp only [spec_TransferMoney.j1]
                  exact Ev.pos (by trivial) (Ev.now _)
                · simp only [impl_TransferMoney.j0, impl_within_eq, impl_accountDay.f, Option.bind_some]
                  exact Ev.neg (by simp) (Ev.pos (decide_eq_true c1) (Ev.neg (by simpa using c2) (Ev.now _)))
            · refine ⟨[], 2, Ev.succ ?_, Ev.succ ?_, by simp⟩
              · simp only [spec_TransferMoney.j0, spec_in_eq, Option.bind_some]
                refine Ev.neg (by simp) (Ev.neg (by simpa using c1) (Ev.succ ?_))
                simp only [spec_TransferMoney.j1]
                exact Ev.pos (by trivial) (Ev.now _)
              · simp only [impl_TransferMoney.j0, impl_within_eq, Option.bind_some]
                exact Ev.neg (by simp) (Ev.neg (by simpa using c1) (Ev.now _))
        obtain ⟨r, e, k1, k2, k3⟩ := go
        exact ⟨r, e, Ev.bind h1 (Ev.pos rfl (Ev.bind p1 (Ev.pos rfl (Ev.bind q1 (Ev.pos rfl k1))))), Ev.bind h2 (Ev.pos rfl (Ev.bind p2 (Ev.pos rfl (Ev.bind q2 (Ev.pos rfl k2))))), k3⟩
theorem FnExactTransferMoney : ∀ (x0 : List (S126)) (x1 : ByteArray) (x2 : ByteArray) (x3 : Int) (x4 : Int), (wfL wf126) x0 → wfS x1 → wfS x2 → (wfI .i64) x3 → (wfI .i64) x4 → ∃ k, laws_FnExactTransferMoney.f k x0 x1 x2 x3 x4 = some true := by
  intro x0 x1 x2 x3 x4 hw0 hw1 hw2 hw3 hw4
  refine Ev.rounds (r := true) ?_
  simp only [laws_FnExactTransferMoney.f]
  by_cases c1 : (x1.size : Int) > 1048576
  · exact Ev.pos c1 (Ev.now _)
  refine Ev.neg c1 ?_
  by_cases c2 : (x2.size : Int) > 1048576
  · exact Ev.pos c2 (Ev.now _)
  refine Ev.neg c2 ?_
  obtain ⟨t, ht, _, _, hs⟩ := laws_szPostingS_ev x0 1048576 hw0 (by omega) (by omega)
  refine Ev.bind ht ?_
  by_cases c : t < 0
  · exact Ev.pos c (Ev.now _)
  refine Ev.neg c ?_
  have sm := hs (by omega)
  have sm2 := smL_map cv126 cv126_sm sm
  have hto := laws_toPostingS_ev x0 sm
  have hn := sm2.1
  obtain ⟨r, e, h1, h2, h3⟩ := transfer_both _ sm2 x1 x2 (by omega) (by omega) x3 x4
  have q0 := laws_eqPostingS_refl (x0.map cv126) (by omega)
  have q1 := laws_eqPostingS_refl r (by omega)
  obtain ⟨m0, k0, _, _⟩ := laws_markPostingS_ev (x0.map cv126) 1 (by omega) (by omega)
  obtain ⟨m1, k1, e1, j1⟩ := laws_markPostingS_ev r 1 (by omega) (by omega)
  have v1 := laws_heldPostingS_ev 1 (by omega) m1 (by omega) (by rw [e1]; exact j1)
  rw [e1] at v1
  repeat' first | (with_reducible exact Ev.now _) | (with_reducible exact hto) | (with_reducible exact h1) | (with_reducible exact h2) | (with_reducible exact q0) | (with_reducible exact q1) | (with_reducible exact k0) | (with_reducible exact k1) | (with_reducible exact v1) | ((with_reducible refine Ev.pos ?_ ?_); focus (first | with_reducible assumption | with_reducible rfl | omega | rfl | trivial)) | ((with_reducible refine Ev.neg ?_ ?_); focus (first | with_reducible assumption | omega | (simp; done) | (dsimp only; omega))) | (with_reducible refine Ev.bind hto ?_) | (with_reducible refine Ev.bind h1 ?_) | (with_reducible refine Ev.bind h2 ?_) | (with_reducible refine Ev.bind q0 ?_) | (with_reducible refine Ev.bind q1 ?_) | (with_reducible refine Ev.bind k0 ?_) | (with_reducible refine Ev.bind k1 ?_) | (with_reducible refine Ev.bind v1 ?_) | (with_reducible refine Ev.bind (Ev.shift hto) ?_) | (with_reducible refine Ev.bind (Ev.shift h1) ?_) | (with_reducible refine Ev.bind (Ev.shift h2) ?_) | (with_reducible refine Ev.bind (Ev.shift q0) ?_) | (with_reducible refine Ev.bind (Ev.shift q1) ?_) | (with_reducible refine Ev.bind (Ev.shift k0) ?_) | (with_reducible refine Ev.bind (Ev.shift k1) ?_) | (with_reducible refine Ev.bind (Ev.shift v1) ?_) | (refine Ev.succ ?_; simp only [laws_FnExactTransferMoney.j0]) | (refine Ev.succ ?_; simp only [laws_FnExactTransferMoney.j1]) | (refine Ev.succ ?_; simp only [laws_FnExactTransferMoney.j2]) | (with_reducible refine Ev.sb ?_) | dsimp only
end Go.Proofs.Ytnmdljdkbpgdaaa.Pure
