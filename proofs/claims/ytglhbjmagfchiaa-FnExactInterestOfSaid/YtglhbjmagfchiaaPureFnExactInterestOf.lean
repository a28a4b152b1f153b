/- FnExactInterestOf: the program's InterestOf (day by day) and the reference's (posting by posting) return one and the same for all arguments, and the arguments stay as they were. Conditions: none beyond the statement's own guard. -/
import Derived.Test.YtglhbjmagfchiaaQInterestOfx1
import Derived.Test.YtglhbjmagfchiaaQInterestOfx2
import Derived.Test.YtglhbjmagfchiaaQInterestOfx6
import Derived.Test.YtglhbjmagfchiaaQInterestOfx8
import Derived.Test.YtglhbjmagfchiaaQInterestOfxL
import Derived.Test.YtglhbjmagfchiaaQInterestOfxDStatementCode
import Derived.Test.YtglhbjmagfchiaaQInterestOfxDBalance
import Derived.Test.YtglhbjmagfchiaaQInterestOfxDDivS
namespace Go.Proofs.Ytglhbjmagfchiaa.Pure
open Go.RowKit Go.Proofs.Ytglhbjmagfchiaa.QInterestOf Go.Proofs.YtglhbjmagfchiaaW.PrintWords Go.Proofs.Ytglhbjmagfchiaa.QOpen Go.Proofs.Ytglhbjmagfchiaa.QEv
set_option linter.unusedVariables false
set_option linter.unusedSimpArgs false
theorem spec_max_eq (a b : Int) : spec_l00Max.f a b = some (max a b) := by
  simp only [spec_l00Max.f]
  split <;> (congr 1; omega)
theorem intDays (l : List S154) (hl : l.length ≤ 32) (hp : ∀ j, j < l.length → PostOk (l.getD j z154)) (a : ByteArray) (f u r : Int) (h0 : 0 ≤ f) (h1 : u ≤ 100000) (r0 : 0 ≤ r) (r1 : r ≤ 100) : ∀ (d : Nat) (day : Int), day + d = u → f ≤ day →
    Ev (fun k => impl_InterestOf.l0 k l a u r (wsum a f day l) day) (rdiv (wsum a f u l * r) 365000, 0) := by
  intro d
  induction d with
  | zero =>
    intro day hd hf
    have e : day = u := by omega
    subst e
    obtain ⟨b0, b1⟩ := wsum_le a f day h0 h1 l hp
    obtain ⟨m0, m1⟩ := mul_bd (wsum a f day l) r 3200000000000000 100 (by omega) (by omega) r0 r1 (by omega)
    have w : wrap64 (wsum a f day l * r) = wsum a f day l * r := wid (by omega) (by omega)
    have dv := divRoundS_eq (wsum a f day l * r) 365000 (by omega) (by omega) (by omega) (by omega)
    refine Ev.succ ?_
    simp only [impl_InterestOf.l0, w, dv, Option.bind_some]
    exact Ev.neg (by omega) (Ev.now _)
  | succ d ih =>
    intro day hd hf
    have h := ih (day + 1) (by omega) (by omega)
    rw [wsum_step a f day hf l] at h
    obtain ⟨b0, b1⟩ := wsum_le a f day h0 (by omega) l hp
    obtain ⟨c0, c1⟩ := bal_le a day l hp
    have hb := balance_ev l hl hp a day
    have w : wrap64 (wsum a f day l + bal a day l) = wsum a f day l + bal a day l := wid (by omega) (by omega)
    have w2 : wrap64 (day + 1) = day + 1 := wid (by omega) (by omega)
    refine Ev.succ ?_
    simp only [impl_InterestOf.l0]
    refine Ev.pos (by omega) (Ev.bind hb ?_)
    simp only [w, w2]
    exact h
theorem intPosts (l : List S154) (hl : l.length ≤ 32) (hp : ∀ j, j < l.length → PostOk (l.getD j z154)) (a : ByteArray) (f u r : Int) (h0 : 0 ≤ f) (hf : f ≤ 100000) (hu0 : 0 ≤ u) (h1 : u ≤ 100000) (r0 : 0 ≤ r) (r1 : r ≤ 100) : ∀ (d i : Nat) (acc : Int), i + d = l.length → -((i : Int) * 100000000000000) ≤ acc → acc ≤ (i : Int) * 100000000000000 → acc + wsum a f u (l.drop i) = wsum a f u l →
    Ev (fun k => spec_InterestOf.l0 k l a f u r acc (i : Int)) (rdiv (wsum a f u l * r) 365000, 0) := by
  intro d
  induction d with
  | zero =>
    intro i acc hi a0 a1 he
    rw [drop_end _ _ hi] at he
    have e : acc = wsum a f u l := by rw [← he]; simp [wsum]
    subst e
    obtain ⟨b0, b1⟩ := wsum_le a f u h0 h1 l hp
    obtain ⟨m0, m1⟩ := mul_bd (wsum a f u l) r 3200000000000000 100 (by omega) (by omega) r0 r1 (by omega)
    have w : wrap64 (wsum a f u l * r) = wsum a f u l * r := wid (by omega) (by omega)
    have dv := l01DivS_eq (wsum a f u l * r) 365000 (by omega) (by omega) (by omega) (by omega)
    refine Ev.succ ?_
    simp only [spec_InterestOf.l0, w, dv, Option.bind_some]
    exact Ev.neg (by omega) (Ev.now _)
  | succ d ih =>
    intro i acc hi a0 a1 he
    obtain ⟨p, q, y0, y1⟩ := hp i (by omega)
    rw [drop_step l i z154 (by omega), wsum] at he
    change acc + ((if (rd_T154 l (i : Int)).f0.toList = a.toList then (rd_T154 l (i : Int)).f1 * max 0 (u - max f (rd_T154 l (i : Int)).f2) else 0) + _) = _ at he
    change -1000000000 ≤ (rd_T154 l (i : Int)).f1 at p
    change (rd_T154 l (i : Int)).f1 ≤ 1000000000 at q
    change 0 ≤ (rd_T154 l (i : Int)).f2 at y0
    change (rd_T154 l (i : Int)).f2 ≤ 100000 at y1
    by_cases c : (rd_T154 l (i : Int)).f0.toList = a.toList
    · rw [if_pos c] at he
      obtain ⟨m0, m1⟩ := mul_bd (rd_T154 l (i : Int)).f1 (max 0 (u - max f (rd_T154 l (i : Int)).f2)) 1000000000 100000 p q (by omega) (by omega) (by omega)
      have w1 : wrap64 (u - max f (rd_T154 l (i : Int)).f2) = u - max f (rd_T154 l (i : Int)).f2 := wid (by omega) (by omega)
      have w2 : wrap64 ((rd_T154 l (i : Int)).f1 * max 0 (u - max f (rd_T154 l (i : Int)).f2)) = (rd_T154 l (i : Int)).f1 * max 0 (u - max f (rd_T154 l (i : Int)).f2) := wid (by omega) (by omega)
      have w3 : wrap64 (acc + (rd_T154 l (i : Int)).f1 * max 0 (u - max f (rd_T154 l (i : Int)).f2)) = acc + (rd_T154 l (i : Int)).f1 * max 0 (u - max f (rd_T154 l (i : Int)).f2) := wid (by omega) (by omega)
      have h := ih (i + 1) (acc + (rd_T154 l (i : Int)).f1 * max 0 (u - max f (rd_T154 l (i : Int)).f2)) (by omega) (by omega) (by omega) (by rw [← he]; omega)
      refine Ev.succ ?_
      simp only [spec_InterestOf.l0, spec_max_eq, Option.bind_some, w1, w2, w3, wnat i (by omega)]
      repeat' first | (with_reducible exact Ev.now _) | (with_reducible exact h) | ((with_reducible refine Ev.pos ?_ ?_); focus (first | with_reducible assumption | with_reducible rfl | omega | rfl | trivial)) | ((with_reducible refine Ev.neg ?_ ?_); focus (first | with_reducible assumption | omega | (simp; done) | (dsimp only; omega))) | (with_reducible refine Ev.bind h ?_) | (with_reducible refine Ev.bind (Ev.shift h) ?_) | (with_reducible refine Ev.sb ?_) | dsimp only
    · rw [if_neg c, Int.zero_add] at he
      have h := ih (i + 1) acc (by omega) (by omega) (by omega) he
      refine Ev.succ ?_
      simp only [spec_InterestOf.l0, wnat i (by omega)]
      repeat' first | (with_reducible exact Ev.now _) | (with_reducible exact h) | ((with_reducible refine Ev.pos ?_ ?_); focus (first | with_reducible assumption | with_reducible rfl | omega | rfl | trivial)) | ((with_reducible refine Ev.neg ?_ ?_); focus (first | with_reducible assumption | omega | (simp; done) | (dsimp only; omega))) | (with_reducible refine Ev.bind h ?_) | (with_reducible refine Ev.bind (Ev.shift h) ?_) | (with_reducible refine Ev.sb ?_) | dsimp only
theorem interest_both (l : List S154) (hl : smL sm154 l) (a : ByteArray) (f u r : Int) : ∃ (x c : Int), Ev (fun k => spec_InterestOf.f k l a f u r) (x, c) ∧ Ev (fun k => impl_InterestOf.f k l a f u r) (x, c) := by
  obtain ⟨v, h, c, h1, h2, h3, hc⟩ := code_ev l hl a f u r
  simp only [spec_InterestOf.f, impl_InterestOf.f, spec_l23Day.f, spec_in_eq, Option.bind_some, decide_eq_true_eq]
  cases v with
  | false =>
    rw [if_neg (by decide)] at hc
    subst hc
    exact ⟨0, 1, Ev.bind h1 (Ev.neg (by decide) (Ev.now _)), Ev.bind h3 (Ev.neg (by decide) (Ev.now _))⟩
  | true =>
    obtain ⟨g1, hn, hp⟩ := h2 rfl
    rw [if_pos rfl] at hc
    by_cases c1 : 0 ≤ f ∧ f ≤ 100000 ∧ f ≤ u ∧ u ≤ 100000 ∧ 0 ≤ r ∧ r ≤ 100
    · rw [if_pos c1] at hc
      cases h with
      | true =>
        rw [if_pos rfl] at hc
        subst hc
        have k1 := intPosts l hn hp a f u r (by omega) (by omega) (by omega) (by omega) (by omega) (by omega) l.length 0 0 (by omega) (by omega) (by omega) (by simp)
        have k2 := intDays l hn hp a f u r (by omega) (by omega) (by omega) (by omega) (u - f).toNat f (by omega) (by omega)
        rw [wsum_zero] at k2
        refine ⟨_, 0, Ev.bind h1 (Ev.pos rfl (Ev.pos (by omega) (Ev.pos (by omega) (Ev.succ ?_)))), Ev.bind h3 (Ev.pos rfl k2)⟩
        simp only [spec_InterestOf.j0]
        exact Ev.neg (by simp; omega) (Ev.bind g1 (Ev.pos rfl k1))
      | false =>
        rw [if_neg (by decide)] at hc
        subst hc
        refine ⟨0, 3, Ev.bind h1 (Ev.pos rfl (Ev.pos (by omega) (Ev.pos (by omega) (Ev.succ ?_)))), Ev.bind h3 (Ev.neg (by decide) (Ev.now _))⟩
        simp only [spec_InterestOf.j0]
        exact Ev.neg (by simp; omega) (Ev.bind g1 (Ev.neg (by decide) (Ev.now _)))
    · rw [if_neg c1] at hc
      subst hc
      refine ⟨0, 2, Ev.bind h1 (Ev.pos rfl ?_), Ev.bind h3 (Ev.neg (by decide) (Ev.now _))⟩
      by_cases c2 : 0 ≤ f ∧ f ≤ 100000
      · by_cases c3 : f ≤ u ∧ u ≤ 100000
        · refine Ev.pos c2 (Ev.pos c3 (Ev.succ ?_))
          simp only [spec_InterestOf.j0]
          exact Ev.pos (by simp; omega) (Ev.now _)
        · refine Ev.pos c2 (Ev.neg c3 (Ev.succ ?_))
          simp only [spec_InterestOf.j0]
          exact Ev.pos (by first | rfl | trivial) (Ev.now _)
      · refine Ev.neg c2 (Ev.succ ?_)
        simp only [spec_InterestOf.j0]
        exact Ev.pos (by first | rfl | trivial) (Ev.now _)
theorem FnExactInterestOf : ∀ (x0 : List (S150)) (x1 : ByteArray) (x2 : Int) (x3 : Int) (x4 : Int), (wfL wf150) x0 → wfS x1 → (wfI .i64) x2 → (wfI .i64) x3 → (wfI .i64) x4 → ∃ k, laws_FnExactInterestOf.f k x0 x1 x2 x3 x4 = some true := by
  intro x0 x1 x2 x3 x4 hw0 hw1 hw2 hw3 hw4
  refine Ev.rounds (r := true) ?_
  simp only [laws_FnExactInterestOf.f]
  by_cases c0 : (x1.size : Int) > 1048576
  · exact Ev.pos c0 (Ev.now _)
  refine Ev.neg c0 ?_
  obtain ⟨t, ht, _, _, hs⟩ := laws_szPostingS_ev x0 1048576 hw0 (by omega) (by omega)
  refine Ev.bind ht ?_
  by_cases c : t < 0
  · exact Ev.pos c (Ev.now _)
  refine Ev.neg c ?_
  have sm := hs (by omega)
  have sm2 := smL_map cv150 cv150_sm sm
  have hto := laws_toPostingS_ev x0 sm
  obtain ⟨r, e, h1, h2⟩ := interest_both _ sm2 x1 x2 x3 x4
  have hn := sm2.1
  have q0 := laws_eqPostingS_refl (x0.map cv150) (by omega)
  repeat' first | (with_reducible exact Ev.now _) | (with_reducible exact hto) | (with_reducible exact h1) | (with_reducible exact h2) | (with_reducible exact q0) | ((with_reducible refine Ev.pos ?_ ?_); focus (first | with_reducible assumption | with_reducible rfl | omega | rfl | trivial)) | ((with_reducible refine Ev.neg ?_ ?_); focus (first | with_reducible assumption | omega | (simp; done) | (dsimp only; omega))) | (with_reducible refine Ev.bind hto ?_) | (with_reducible refine Ev.bind h1 ?_) | (with_reducible refine Ev.bind h2 ?_) | (with_reducible refine Ev.bind q0 ?_) | (with_reducible refine Ev.bind (Ev.shift hto) ?_) | (with_reducible refine Ev.bind (Ev.shift h1) ?_) | (with_reducible refine Ev.bind (Ev.shift h2) ?_) | (with_reducible refine Ev.bind (Ev.shift q0) ?_) | (refine Ev.succ ?_; simp only [laws_FnExactInterestOf.j0]) | (with_reducible refine Ev.sb ?_) | dsimp only
end Go.Proofs.Ytglhbjmagfchiaa.Pure
