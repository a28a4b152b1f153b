/- Units2: both sides hold one and the same for valid units. Conditions: none. -/
import Derived.Test.YtnmdljdkbpgdaaaQStartsOfx4
import Derived.Test.YtnmdljdkbpgdaaaQStartsOfx5
import Derived.Test.YtnmdljdkbpgdaaaQStartsOfx6
import Derived.Test.YtnmdljdkbpgdaaaQStartsOfx7
import Derived.Test.YtnmdljdkbpgdaaaQStartsOfxL
import Derived.Test.YtnmdljdkbpgdaaaQStartsOfxDNames
namespace Go.Proofs.Ytnmdljdkbpgdaaa.QStartsOf
open Go.RowKit Go.Proofs.YtnmdljdkbpgdaaaW.PrintWords Go.Proofs.Ytnmdljdkbpgdaaa.QOpen Go.Proofs.Ytnmdljdkbpgdaaa.QEv
set_option linter.unusedVariables false
set_option linter.unusedSimpArgs false
def UnitOk (x : S147) : Prop := 0 ≤ x.f1 ∧ x.f1 ≤ x.f2 ∧ 1 ≤ x.f2 ∧ x.f2 ≤ 100000 ∧ 0 ≤ x.f3 ∧ x.f3 ≤ 100000 ∧ 0 ≤ x.f4 ∧ x.f4 ≤ 100000000 ∧ 1 ≤ x.f5 ∧ x.f5 ≤ 3 ∧ 1 ≤ x.f6 ∧ x.f6 ≤ 3
theorem unit_both (x : S147) (hx : sm147 x) : ∃ b, Ev (fun k => spec_l13One.f k x.f0 x.f1 x.f2 x.f3 x.f4 x.f5 x.f6) b ∧ Ev (fun k => impl_Unit_valid.f k x.f0 x.f1 x.f2 x.f3 x.f4 x.f5 x.f6) b ∧ (b = true → UnitOk x) := by
  have hz : x.f0.size ≤ 1048576 := hx.1
  obtain ⟨b, h1, h2, h3⟩ := name_both x.f0 (by omega)
  have mq : spec_l00Max.f 1 x.f1 = some (mx x.f1 1) := by
    simp only [spec_l00Max.f, mx]
    split <;> rfl
  have mr : mx x.f1 1 = max x.f1 1 := by
    simp only [mx]
    split <;> omega
  simp only [spec_l13One.f, impl_Unit_valid.f, spec_in_eq, impl_within_eq, mq, mr, Option.bind_some, decide_eq_true_eq]
  cases b with
  | false => exact ⟨false, Ev.bind h1 (Ev.neg (by decide) (Ev.now _)), Ev.bind h2 (Ev.neg (by decide) (Ev.now _)), fun h => by cases h⟩
  | true =>
    by_cases c1 : 0 ≤ x.f1 ∧ x.f1 ≤ 100000
    · by_cases c2 : max x.f1 1 ≤ x.f2 ∧ x.f2 ≤ 100000
      · by_cases c3 : 0 ≤ x.f3 ∧ x.f3 ≤ 100000
        · by_cases c4 : 0 ≤ x.f4 ∧ x.f4 ≤ 100000000
          · by_cases c5 : 1 ≤ x.f5 ∧ x.f5 ≤ 3
            · refine ⟨decide (1 ≤ x.f6 ∧ x.f6 ≤ 3), Ev.bind h1 (Ev.pos rfl (Ev.pos c1 (Ev.pos c2 (Ev.pos c3 (Ev.pos c4 (Ev.pos c5 (Ev.now _))))))), Ev.bind h2 (Ev.pos rfl (Ev.pos c1 (Ev.pos c2 (Ev.pos c3 (Ev.pos c4 (Ev.pos c5 (Ev.now _))))))), fun h => ?_⟩
              have := of_decide_eq_true h
              unfold UnitOk
              omega
            · exact ⟨false, Ev.bind h1 (Ev.pos rfl (Ev.pos c1 (Ev.pos c2 (Ev.pos c3 (Ev.pos c4 (Ev.neg c5 (Ev.now _))))))), Ev.bind h2 (Ev.pos rfl (Ev.pos c1 (Ev.pos c2 (Ev.pos c3 (Ev.pos c4 (Ev.neg c5 (Ev.now _))))))), fun h => by cases h⟩
          · exact ⟨false, Ev.bind h1 (Ev.pos rfl (Ev.pos c1 (Ev.pos c2 (Ev.pos c3 (Ev.neg c4 (Ev.now _)))))), Ev.bind h2 (Ev.pos rfl (Ev.pos c1 (Ev.pos c2 (Ev.pos c3 (Ev.neg c4 (Ev.now _)))))), fun h => by cases h⟩
        · exact ⟨false, Ev.bind h1 (Ev.pos rfl (Ev.pos c1 (Ev.pos c2 (Ev.neg c3 (Ev.now _))))), Ev.bind h2 (Ev.pos rfl (Ev.pos c1 (Ev.pos c2 (Ev.neg c3 (Ev.now _))))), fun h => by cases h⟩
      · exact ⟨false, Ev.bind h1 (Ev.pos rfl (Ev.pos c1 (Ev.neg c2 (Ev.now _)))), Ev.bind h2 (Ev.pos rfl (Ev.pos c1 (Ev.neg c2 (Ev.now _)))), fun h => by cases h⟩
    · exact ⟨false, Ev.bind h1 (Ev.pos rfl (Ev.neg c1 (Ev.now _))), Ev.bind h2 (Ev.pos rfl (Ev.neg c1 (Ev.now _))), fun h => by cases h⟩
theorem unitLoop (l : List S147) (hl : smL sm147 l) : ∀ d i : Nat, i + d = l.length →
    ∃ b, Ev (fun k => spec_l13Ok.l0 k l (i : Int)) b ∧ ((l.length < 1 ∨ 4 < l.length) → b = false) ∧ ((1 ≤ l.length ∧ l.length ≤ 4) → Ev (fun k => impl_ValidUnits.l0 k l l (l.length : Int) (i : Int)) b) ∧
      (b = true → ∀ j, i ≤ j → j < l.length → UnitOk (l.getD j z147)) := by
  have hl0 := hl.1
  intro d
  induction d with
  | zero =>
    intro i hi
    refine ⟨decide (1 ≤ (l.length : Int) ∧ (l.length : Int) ≤ 4), Ev.succ ?_, fun h => decide_eq_false (by omega), fun h => Ev.succ ?_, fun _ j h1 h2 => by omega⟩
    · simp only [spec_l13Ok.l0, spec_in_eq, Option.bind_some]
      exact Ev.neg (by omega) (Ev.now _)
    · simp only [impl_ValidUnits.l0]
      exact Ev.neg (by omega) (Ev.eqn (Ev.now _) (decide_eq_true (by omega)).symm)
  | succ d ih =>
    intro i hi
    have hsm : sm147 (rd_T147 l (i : Int)) := smL_get hl (j := i) _ (by omega)
    obtain ⟨v, g1, g2, g3⟩ := unit_both (rd_T147 l (i : Int)) hsm
    cases v with
    | false =>
      refine ⟨false, Ev.succ ?_, fun _ => rfl, fun h => Ev.succ ?_, fun h => by cases h⟩
      · simp only [spec_l13Ok.l0]
        repeat' first | (with_reducible exact Ev.now _) | (with_reducible exact g1) | ((with_reducible refine Ev.pos ?_ ?_); focus (first | with_reducible assumption | with_reducible rfl | omega | rfl | trivial)) | ((with_reducible refine Ev.neg ?_ ?_); focus (first | with_reducible assumption | omega | (simp; done) | (dsimp only; omega))) | (with_reducible refine Ev.bind g1 ?_) | (with_reducible refine Ev.bind (Ev.shift g1) ?_) | (with_reducible refine Ev.sb ?_) | dsimp only
      · simp only [impl_ValidUnits.l0]
        repeat' first | (with_reducible exact Ev.now _) | (with_reducible exact g2) | ((with_reducible refine Ev.pos ?_ ?_); focus (first | with_reducible assumption | with_reducible rfl | omega | rfl | trivial)) | ((with_reducible refine Ev.neg ?_ ?_); focus (first | with_reducible assumption | omega | (simp; done) | (dsimp only; omega))) | (with_reducible refine Ev.bind g2 ?_) | (with_reducible refine Ev.bind (Ev.shift g2) ?_) | (with_reducible refine Ev.sb ?_) | dsimp only
    | true =>
      have hok := g3 rfl
      obtain ⟨b, h1, h2, h3, h4⟩ := ih (i + 1) (by omega)
      have h4' : b = true → ∀ j, i ≤ j → j < l.length → UnitOk (l.getD j z147) := fun hb j hj hj2 => by
        by_cases e : j = i
        · subst e; exact hok
        · exact h4 hb j (by omega) hj2
      by_cases h0 : 0 < i
      · have w : wrap64 ((i : Int) - 1) = (i : Int) - 1 := wid (by omega) (by omega)
        rcases hA : Op.bytesLess (rd_T147 l ((i : Int) - 1)).f0.toList (rd_T147 l (i : Int)).f0.toList with _ | _
        · refine ⟨false, Ev.succ ?_, fun _ => rfl, fun h => Ev.succ ?_, fun h => by cases h⟩
          · simp only [spec_l13Ok.l0, w, hA]
            repeat' first | (with_reducible exact Ev.now _) | (with_reducible exact g1) | ((with_reducible refine Ev.pos ?_ ?_); focus (first | with_reducible assumption | with_reducible rfl | omega | rfl | trivial)) | ((with_reducible refine Ev.neg ?_ ?_); focus (first | with_reducible assumption | omega | (simp; done) | (dsimp only; omega))) | (with_reducible refine Ev.bind g1 ?_) | (with_reducible refine Ev.bind (Ev.shift g1) ?_) | (with_reducible refine Ev.sb ?_) | dsimp only
          · simp only [impl_ValidUnits.l0, w, hA]
            repeat' first | (with_reducible exact Ev.now _) | (with_reducible exact g2) | ((with_reducible refine Ev.pos ?_ ?_); focus (first | with_reducible assumption | with_reducible rfl | omega | rfl | trivial)) | ((with_reducible refine Ev.neg ?_ ?_); focus (first | with_reducible assumption | omega | (simp; done) | (dsimp only; omega))) | (with_reducible refine Ev.bind g2 ?_) | (with_reducible refine Ev.bind (Ev.shift g2) ?_) | (with_reducible refine Ev.sb ?_) | dsimp only
        · refine ⟨b, Ev.succ ?_, h2, fun h => Ev.succ ?_, h4'⟩
          · simp only [spec_l13Ok.l0, w, hA, wnat i (by omega)]
            repeat' first | (with_reducible exact Ev.now _) | (with_reducible exact g1) | (with_reducible exact h1) | ((with_reducible refine Ev.pos ?_ ?_); focus (first | with_reducible assumption | with_reducible rfl | omega | rfl | trivial)) | ((with_reducible refine Ev.neg ?_ ?_); focus (first | with_reducible assumption | omega | (simp; done) | (dsimp only; omega))) | (with_reducible refine Ev.bind g1 ?_) | (with_reducible refine Ev.bind h1 ?_) | (with_reducible refine Ev.bind (Ev.shift g1) ?_) | (with_reducible refine Ev.bind (Ev.shift h1) ?_) | (with_reducible refine Ev.sb ?_) | dsimp only
          · have h3' := h3 h
            simp only [impl_ValidUnits.l0, w, hA, wnat i (by omega)]
            repeat' first | (with_reducible exact Ev.now _) | (with_reducible exact g2) | (with_reducible exact h3') | ((with_reducible refine Ev.pos ?_ ?_); focus (first | with_reducible assumption | with_reducible rfl | omega | rfl | trivial)) | ((with_reducible refine Ev.neg ?_ ?_); focus (first | with_reducible assumption | omega | (simp; done) | (dsimp only; omega))) | (with_reducible refine Ev.bind g2 ?_) | (with_reducible refine Ev.bind h3' ?_) | (with_reducible refine Ev.bind (Ev.shift g2) ?_) | (with_reducible refine Ev.bind (Ev.shift h3') ?_) | (with_reducible refine Ev.sb ?_) | dsimp only
      · refine ⟨b, Ev.succ ?_, h2, fun h => Ev.succ ?_, h4'⟩
        · simp only [spec_l13Ok.l0, wnat i (by omega)]
          repeat' first | (with_reducible exact Ev.now _) | (with_reducible exact g1) | (with_reducible exact h1) | ((with_reducible refine Ev.pos ?_ ?_); focus (first | with_reducible assumption | with_reducible rfl | omega | rfl | trivial)) | ((with_reducible refine Ev.neg ?_ ?_); focus (first | with_reducible assumption | omega | (simp; done) | (dsimp only; omega))) | (with_reducible refine Ev.bind g1 ?_) | (with_reducible refine Ev.bind h1 ?_) | (with_reducible refine Ev.bind (Ev.shift g1) ?_) | (with_reducible refine Ev.bind (Ev.shift h1) ?_) | (with_reducible refine Ev.sb ?_) | dsimp only
        · have h3' := h3 h
          simp only [impl_ValidUnits.l0, wnat i (by omega)]
          repeat' first | (with_reducible exact Ev.now _) | (with_reducible exact g2) | (with_reducible exact h3') | ((with_reducible refine Ev.pos ?_ ?_); focus (first | with_reducible assumption | with_reducible rfl | omega | rfl | trivial)) | ((with_reducible refine Ev.neg ?_ ?_); focus (first | with_reducible assumption | omega | (simp; done) | (dsimp only; omega))) | (with_reducible refine Ev.bind g2 ?_) | (with_reducible refine Ev.bind h3' ?_) | (with_reducible refine Ev.bind (Ev.shift g2) ?_) | (with_reducible refine Ev.bind (Ev.shift h3') ?_) | (with_reducible refine Ev.sb ?_) | dsimp only
theorem units_both (l : List S147) (hl : smL sm147 l) : ∃ b, Ev (fun k => spec_l13Ok.f k l) b ∧ Ev (fun k => impl_ValidUnits.f k l) b ∧ (b = true → 1 ≤ l.length ∧ l.length ≤ 4 ∧ ∀ j, j < l.length → UnitOk (l.getD j z147)) := by
  obtain ⟨b, h1, h2, h3, h4⟩ := unitLoop l hl l.length 0 (by omega)
  simp only [spec_l13Ok.f, impl_ValidUnits.f]
  by_cases c : l.length < 1
  · have hb := h2 (by omega)
    subst hb
    refine ⟨false, h1, Ev.pos (by omega) (Ev.succ ?_), fun h => by cases h⟩
    simp only [impl_ValidUnits.j0]
    exact Ev.pos (by first | rfl | trivial) (Ev.now _)
  · by_cases h : l.length ≤ 4
    · refine ⟨b, h1, Ev.neg (by omega) (Ev.succ ?_), fun hb => ⟨by omega, h, fun j hj => h4 hb j (by omega) hj⟩⟩
      simp only [impl_ValidUnits.j0]
      exact Ev.neg (by simp; omega) (h3 ⟨by omega, h⟩)
    · have hb := h2 (by omega)
      subst hb
      refine ⟨false, h1, Ev.neg (by omega) (Ev.succ ?_), fun h => by cases h⟩
      simp only [impl_ValidUnits.j0]
      exact Ev.pos (by simp; omega) (Ev.now _)
end Go.Proofs.Ytnmdljdkbpgdaaa.QStartsOf
