/- PostOnlyP: as PostOnly, where the law itself tells no sizes. Conditions: none. -/
import Derived.Test.YtnmdljdkbpgdaaaQInterestx1
import Derived.Test.YtnmdljdkbpgdaaaQInterestx2
import Derived.Test.YtnmdljdkbpgdaaaQInterestx5
import Derived.Test.YtnmdljdkbpgdaaaQInterestxL
import Derived.Test.YtnmdljdkbpgdaaaQInterestxDNames
namespace Go.Proofs.Ytnmdljdkbpgdaaa.QInterest
open Go.RowKit Go.Proofs.YtnmdljdkbpgdaaaW.PrintWords Go.Proofs.Ytnmdljdkbpgdaaa.QOpen Go.Proofs.Ytnmdljdkbpgdaaa.QEv
set_option linter.unusedVariables false
set_option linter.unusedSimpArgs false
def smP (x : S128) : Prop := x.f0.size ≤ 1048576 ∧ True ∧ True
def PostOk (x : S128) : Prop := -1000000000 ≤ x.f1 ∧ x.f1 ≤ 1000000000 ∧ 0 ≤ x.f2 ∧ x.f2 ≤ 100000
theorem post_both (x : S128) (hx : smP x) : ∃ b, Ev (fun k => spec_l23One.f k x.f0 x.f1 x.f2) b ∧ Ev (fun k => impl_Posting_valid.f k x.f0 x.f1 x.f2) b ∧ (b = true → PostOk x) := by
  have hz : x.f0.size ≤ 1048576 := hx.1
  obtain ⟨b, h1, h2, h3⟩ := name_both x.f0 (by omega)
  simp only [spec_l23One.f, impl_Posting_valid.f, spec_l23Day.f, impl_accountDay.f, spec_in_eq, impl_within_eq, Option.bind_some, decide_eq_true_eq]
  cases b with
  | false => exact ⟨false, Ev.bind h1 (Ev.neg (by decide) (Ev.now _)), Ev.bind h2 (Ev.neg (by decide) (Ev.now _)), fun h => by cases h⟩
  | true =>
    by_cases c : -1000000000 ≤ x.f1 ∧ x.f1 ≤ 1000000000
    · by_cases c2 : x.f1 = 0
      · exact ⟨false, Ev.bind h1 (Ev.pos rfl (Ev.pos c (Ev.pos c2 (Ev.now _)))), Ev.bind h2 (Ev.pos rfl (Ev.pos c (Ev.pos c2 (Ev.now _)))), fun h => by cases h⟩
      · refine ⟨decide (0 ≤ x.f2 ∧ x.f2 ≤ 100000), Ev.bind h1 (Ev.pos rfl (Ev.pos c (Ev.neg c2 (Ev.now _)))), Ev.bind h2 (Ev.pos rfl (Ev.pos c (Ev.neg c2 (Ev.now _)))), fun h => ?_⟩
        have := of_decide_eq_true h
        unfold PostOk
        omega
    · exact ⟨false, Ev.bind h1 (Ev.pos rfl (Ev.neg c (Ev.now _))), Ev.bind h2 (Ev.pos rfl (Ev.neg c (Ev.now _))), fun h => by cases h⟩
theorem postLoop (l : List S128) (hl : smL smP l) : ∀ d i : Nat, i + d = l.length →
    ∃ b, Ev (fun k => spec_l23Ok.l0 k l (i : Int)) b ∧ (32 < l.length → b = false) ∧ (l.length ≤ 32 → Ev (fun k => impl_ValidPostings.l0 k l l (l.length : Int) (i : Int)) b) ∧
      (b = true → ∀ j, i ≤ j → j < l.length → PostOk (l.getD j z128)) := by
  have hl0 := hl.1
  intro d
  induction d with
  | zero =>
    intro i hi
    refine ⟨decide ((l.length : Int) ≤ 32), Ev.succ ?_, fun h => by simp; omega, fun h => Ev.succ ?_, fun _ j h1 h2 => by omega⟩
    · simp only [spec_l23Ok.l0]
      exact Ev.neg (by omega) (Ev.now _)
    · simp only [impl_ValidPostings.l0]
      exact Ev.neg (by omega) (Ev.eqn (Ev.now _) (by simp; omega))
  | succ d ih =>
    intro i hi
    have hsm : smP (rd_T128 l (i : Int)) := smL_get hl (j := i) _ (by omega)
    obtain ⟨v, g1, g2, g3⟩ := post_both (rd_T128 l (i : Int)) hsm
    cases v with
    | false =>
      refine ⟨false, Ev.succ ?_, fun _ => rfl, fun h => Ev.succ ?_, fun h => by cases h⟩
      · simp only [spec_l23Ok.l0]
        repeat' first | (with_reducible exact Ev.now _) | (with_reducible exact g1) | ((with_reducible refine Ev.pos ?_ ?_); focus (first | with_reducible assumption | with_reducible rfl | omega | rfl | trivial)) | ((with_reducible refine Ev.neg ?_ ?_); focus (first | with_reducible assumption | omega | (simp; done) | (dsimp only; omega))) | (with_reducible refine Ev.bind g1 ?_) | (with_reducible refine Ev.bind (Ev.shift g1) ?_) | (with_reducible refine Ev.sb ?_) | dsimp only
      · simp only [impl_ValidPostings.l0]
        repeat' first | (with_reducible exact Ev.now _) | (with_reducible exact g2) | ((with_reducible refine Ev.pos ?_ ?_); focus (first | with_reducible assumption | with_reducible rfl | omega | rfl | trivial)) | ((with_reducible refine Ev.neg ?_ ?_); focus (first | with_reducible assumption | omega | (simp; done) | (dsimp only; omega))) | (with_reducible refine Ev.bind g2 ?_) | (with_reducible refine Ev.bind (Ev.shift g2) ?_) | (with_reducible refine Ev.sb ?_) | dsimp only
    | true =>
      have hok := g3 rfl
      obtain ⟨b, h1, h2, h3, h4⟩ := ih (i + 1) (by omega)
      have h4' : b = true → ∀ j, i ≤ j → j < l.length → PostOk (l.getD j z128) := fun hb j hj hj2 => by
        by_cases e : j = i
        · subst e; exact hok
        · exact h4 hb j (by omega) hj2
      by_cases h0 : 0 < i
      · have w : wrap64 ((i : Int) - 1) = (i : Int) - 1 := wid (by omega) (by omega)
        by_cases hA : (rd_T128 l ((i : Int) - 1)).f2 > (rd_T128 l (i : Int)).f2
        · refine ⟨false, Ev.succ ?_, fun _ => rfl, fun h => Ev.succ ?_, fun h => by cases h⟩
          · simp only [spec_l23Ok.l0, w]
            repeat' first | (with_reducible exact Ev.now _) | (with_reducible exact g1) | ((with_reducible refine Ev.pos ?_ ?_); focus (first | with_reducible assumption | with_reducible rfl | omega | rfl | trivial)) | ((with_reducible refine Ev.neg ?_ ?_); focus (first | with_reducible assumption | omega | (simp; done) | (dsimp only; omega))) | (with_reducible refine Ev.bind g1 ?_) | (with_reducible refine Ev.bind (Ev.shift g1) ?_) | (with_reducible refine Ev.sb ?_) | dsimp only
          · simp only [impl_ValidPostings.l0, w]
            repeat' first | (with_reducible exact Ev.now _) | (with_reducible exact g2) | ((with_reducible refine Ev.pos ?_ ?_); focus (first | with_reducible assumption | with_reducible rfl | omega | rfl | trivial)) | ((with_reducible refine Ev.neg ?_ ?_); focus (first | with_reducible assumption | omega | (simp; done) | (dsimp only; omega))) | (with_reducible refine Ev.bind g2 ?_) | (with_reducible refine Ev.bind (Ev.shift g2) ?_) | (with_reducible refine Ev.sb ?_) | dsimp only
        · refine ⟨b, Ev.succ ?_, h2, fun h => Ev.succ ?_, h4'⟩
          · simp only [spec_l23Ok.l0, w, wnat i (by omega)]
            repeat' first | (with_reducible exact Ev.now _) | (with_reducible exact g1) | (with_reducible exact h1) | ((with_reducible refine Ev.pos ?_ ?_); focus (first | with_reducible assumption | with_reducible rfl | omega | rfl | trivial)) | ((with_reducible refine Ev.neg ?_ ?_); focus (first | with_reducible assumption | omega | (simp; done) | (dsimp only; omega))) | (with_reducible refine Ev.bind g1 ?_) | (with_reducible refine Ev.bind h1 ?_) | (with_reducible refine Ev.bind (Ev.shift g1) ?_) | (with_reducible refine Ev.bind (Ev.shift h1) ?_) | (with_reducible refine Ev.sb ?_) | dsimp only
          · have h3' := h3 h
            simp only [impl_ValidPostings.l0, w, wnat i (by omega)]
            repeat' first | (with_reducible exact Ev.now _) | (with_reducible exact g2) | (with_reducible exact h3') | ((with_reducible refine Ev.pos ?_ ?_); focus (first | with_reducible assumption | with_reducible rfl | omega | rfl | trivial)) | ((with_reducible refine Ev.neg ?_ ?_); focus (first | with_reducible assumption | omega | (simp; done) | (dsimp only; omega))) | (with_reducible refine Ev.bind g2 ?_) | (with_reducible refine Ev.bind h3' ?_) | (with_reducible refine Ev.bind (Ev.shift g2) ?_) | (with_reducible refine Ev.bind (Ev.shift h3') ?_) | (with_reducible refine Ev.sb ?_) | dsimp only
      · refine ⟨b, Ev.succ ?_, h2, fun h => Ev.succ ?_, h4'⟩
        · simp only [spec_l23Ok.l0, wnat i (by omega)]
          repeat' first | (with_reducible exact Ev.now _) | (with_reducible exact g1) | (with_reducible exact h1) | ((with_reducible refine Ev.pos ?_ ?_); focus (first | with_reducible assumption | with_reducible rfl | omega | rfl | trivial)) | ((with_reducible refine Ev.neg ?_ ?_); focus (first | with_reducible assumption | omega | (simp; done) | (dsimp only; omega))) | (with_reducible refine Ev.bind g1 ?_) | (with_reducible refine Ev.bind h1 ?_) | (with_reducible refine Ev.bind (Ev.shift g1) ?_) | (with_reducible refine Ev.bind (Ev.shift h1) ?_) | (with_reducible refine Ev.sb ?_) | dsimp only
        · have h3' := h3 h
          simp only [impl_ValidPostings.l0, wnat i (by omega)]
          repeat' first | (with_reducible exact Ev.now _) | (with_reducible exact g2) | (with_reducible exact h3') | ((with_reducible refine Ev.pos ?_ ?_); focus (first | with_reducible assumption | with_reducible rfl | omega | rfl | trivial)) | ((with_reducible refine Ev.neg ?_ ?_); focus (first | with_reducible assumption | omega | (simp; done) | (dsimp only; omega))) | (with_reducible refine Ev.bind g2 ?_) | (with_reducible refine Ev.bind h3' ?_) | (with_reducible refine Ev.bind (Ev.shift g2) ?_) | (with_reducible refine Ev.bind (Ev.shift h3') ?_) | (with_reducible refine Ev.sb ?_) | dsimp only
theorem posts_both (l : List S128) (hl : smL smP l) : ∃ b, Ev (fun k => spec_l23Ok.f k l) b ∧ Ev (fun k => impl_ValidPostings.f k l) b ∧ (b = true → l.length ≤ 32 ∧ ∀ j, j < l.length → PostOk (l.getD j z128)) := by
  obtain ⟨b, h1, h2, h3, h4⟩ := postLoop l hl l.length 0 (by omega)
  simp only [spec_l23Ok.f, impl_ValidPostings.f]
  by_cases h : l.length ≤ 32
  · exact ⟨b, h1, Ev.neg (by omega) (h3 h), fun hb => ⟨h, fun j hj => h4 hb j (by omega) hj⟩⟩
  · have hb := h2 (by omega)
    subst hb
    exact ⟨false, h1, Ev.pos (by omega) (Ev.now _), fun h => by cases h⟩
end Go.Proofs.Ytnmdljdkbpgdaaa.QInterest
