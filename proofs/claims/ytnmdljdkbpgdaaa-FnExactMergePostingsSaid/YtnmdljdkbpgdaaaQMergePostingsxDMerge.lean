/- Merge: the postings of two lists by days, by both sides. Conditions: none. -/
import Derived.Test.YtnmdljdkbpgdaaaQMergePostingsx2
import Derived.Test.YtnmdljdkbpgdaaaQMergePostingsx5
import Derived.Test.YtnmdljdkbpgdaaaQMergePostingsxL
import Derived.Test.YtnmdljdkbpgdaaaQMergePostingsxDPut
namespace Go.Proofs.Ytnmdljdkbpgdaaa.QMergePostings
open Go.RowKit Go.Proofs.YtnmdljdkbpgdaaaW.PrintWords Go.Proofs.Ytnmdljdkbpgdaaa.QOpen Go.Proofs.Ytnmdljdkbpgdaaa.QEv
set_option linter.unusedVariables false
set_option linter.unusedSimpArgs false
theorem mergeLoop (m : List S128) (hm : m.length ≤ 32) : ∀ (d i : Nat) (l : List S128), i + d = m.length → l.length ≤ 32 + i →
    ∃ l' : List S128, Ev (fun k => spec_MergePostings.l0 k m l (i : Int)) (endR l') ∧ Ev (fun k => impl_withPostings.l0 k l m (m.length : Int) (i : Int)) (endR l') := by
  intro d
  induction d with
  | zero =>
    intro i l hi hl
    refine ⟨l, Ev.succ ?_, with_end l m _ (by omega)⟩
    simp only [spec_MergePostings.l0]
    refine Ev.neg (by omega) ?_
    by_cases c4 : (l.length : Int) > 32
    · rw [endR_pos _ c4]; exact Ev.pos c4 (Ev.now _)
    · rw [endR_neg _ c4]; exact Ev.neg c4 (Ev.now _)
  | succ d ih =>
    intro i l hi hl
    obtain ⟨l1, g1⟩ := put_both l (by omega) (rd_T128 m (i : Int))
    obtain ⟨l', h1, h2⟩ := ih (i + 1) l1 (by omega) (by have := g1.2.1; omega)
    refine ⟨l', Ev.succ ?_, with_step l l1 m i (by omega) (by omega) g1 _ h2⟩
    simp only [spec_MergePostings.l0, wnat i (by omega)]
    exact Ev.pos (by omega) (Ev.pos (by omega) (Ev.bind g1.1 h1))
theorem merge_both (l : List S128) (hl : smL sm128 l) (m : List S128) (hm : smL sm128 m) :
    ∃ (r : List S128) (e : Int), Ev (fun k => spec_MergePostings.f k l m) (r, e) ∧ Ev (fun k => impl_MergePostings.f k l m) (r, e) ∧ r.length ≤ 32 := by
  obtain ⟨v, h1, h2, h3⟩ := posts_both l hl
  obtain ⟨u, g1, g2, g3⟩ := posts_both m hm
  have sT : Ev (fun k => spec_MergePostings.j0 k l m true) ([], 1) := Ev.succ (by simp only [spec_MergePostings.j0]; exact Ev.pos (by trivial) (Ev.now _))
  simp only [spec_MergePostings.f, impl_MergePostings.f]
  cases v with
  | false => exact ⟨[], 1, Ev.bind h1 (Ev.neg (by decide) sT), Ev.bind h2 (Ev.neg (by decide) (Ev.now _)), by simp⟩
  | true =>
    cases u with
    | false => exact ⟨[], 1, Ev.bind h1 (Ev.pos rfl (Ev.bind g1 sT)), Ev.bind h2 (Ev.pos rfl (Ev.bind g2 (Ev.neg (by decide) (Ev.now _)))), by simp⟩
    | true =>
      have n1 := (h3 rfl).1
      have n2 := (g3 rfl).1
      obtain ⟨l', k1, k2⟩ := mergeLoop m n2 m.length 0 l (by omega) (by omega)
      have hw : Ev (fun k => impl_withPostings.f k l m) (endR l') := by
        simp only [impl_withPostings.f, clone_eq l (by omega), Option.bind_some]
        exact k2
      refine ⟨(endR l').1, (endR l').2, Ev.bind h1 (Ev.pos rfl (Ev.bind g1 (Ev.succ ?_))), Ev.bind h2 (Ev.pos rfl (Ev.bind g2 (Ev.pos rfl (Ev.bind hw (Ev.now _))))), endR_len l'⟩
      simp only [spec_MergePostings.j0, Bool.not_true, Option.bind_some, List.nil_append, List.length_nil]
      exact Ev.neg (by simp) (Ev.pos (by omega) k1)
end Go.Proofs.Ytnmdljdkbpgdaaa.QMergePostings
