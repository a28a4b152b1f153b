/- Units2: both sides hold one and the same for valid units. Conditions: none. -/
import Derived.Test.YtjccjmjnlblhaaaQHourBoundx3
import Derived.Test.YtjccjmjnlblhaaaQHourBoundx5
import Derived.Test.YtjccjmjnlblhaaaQHourBoundxL
import Derived.Test.YtjccjmjnlblhaaaQHourBoundxDUnitOne
namespace Go.Proofs.Ytjccjmjnlblhaaa.QHourBound
open Go.RowKit Go.Proofs.YtjccjmjnlblhaaaW.PrintWords Go.Proofs.Ytjccjmjnlblhaaa.QOpen Go.Proofs.Ytjccjmjnlblhaaa.QEv
set_option linter.unusedVariables false
set_option linter.unusedSimpArgs false
theorem unitLoop (l : List S143) (hl : smL sm143 l) : ∀ d i : Nat, i + d = l.length →
    ∃ b, Ev (fun k => spec_l13Ok.l0 k l (i : Int)) b ∧ ((l.length < 1 ∨ 4 < l.length) → b = false) ∧ ((1 ≤ l.length ∧ l.length ≤ 4) → Ev (fun k => impl_ValidUnits.l0 k l l (l.length : Int) (i : Int)) b) ∧
      (b = true → ∀ j, i ≤ j → j < l.length → UnitOk (l.getD j z143)) := by
  have hl0 := hl.1
  intro d
  induction d with
  | zero =>
    intro i hi
    refine ⟨decide (1 ≤ (l.length : Int) ∧ (l.length : Int) ≤ 4), Ev.succ ?_, fun h => decide_eq_false (by omega), fun h => Ev.succ ?_, fun _ j h1 h2 => by omega⟩
    · simp only [spec_l13Ok.l0, spec_in_eq, Option.bind_some]
      exact Ev.neg (by omega) (Ev.now _)
    · simp only [impl_ValidUnits.l0]
      exact Ev.neg (by omega) (Ev.eqn (Ev.now _) (decide_eq_true (by omega)).symm)
  | succ d ih =>
    intro i hi
    have hsm : sm143 (rd_T143 l (i : Int)) := smL_get hl (j := i) _ (by omega)
    obtain ⟨v, g1, g2, g3⟩ := unit_both (rd_T143 l (i : Int)) hsm
    cases v with
    | false =>
      refine ⟨false, Ev.succ ?_, fun _ => rfl, fun h => Ev.succ ?_, fun h => by cases h⟩
      · simp only [spec_l13Ok.l0]
        repeat' first | (with_reducible exact Ev.now _) | (with_reducible exact g1) | ((with_reducible refine Ev.pos ?_ ?_); focus (first | with_reducible assumption | with_reducible rfl | omega | rfl | trivial)) | ((with_reducible refine Ev.neg ?_ ?_); focus (first | with_reducible assumption | omega | (simp; done) | (dsimp only; omega))) | (with_reducible refine Ev.bind g1 ?_) | (with_reducible refine Ev.bind (Ev.shift g1) ?_) | (with_reducible refine Ev.sb ?_) | dsimp only
      · simp only [impl_ValidUnits.l0]
        repeat' first | (with_reducible exact Ev.now _) | (with_reducible exact g2) | ((with_reducible refine Ev.pos ?_ ?_); focus (first | with_reducible assumption | with_reducible rfl | omega | rfl | trivial)) | ((with_reducible refine Ev.neg ?_ ?_); focus (first | with_reducible assumption | omega | (simp; done) | (dsimp only; omega))) | (with_reducible refine Ev.bind g2 ?_) | (with_reducible refine Ev.bind (Ev.shift g2) ?_) | (with_reducible refine Ev.sb ?_) | dsimp only
    | true =>
      have hok := g3 rfl
      obtain ⟨b, h1, h2, h3, h4⟩ := ih (i + 1) (by omega)
      have h4' : b = true → ∀ j, i ≤ j → j < l.length → UnitOk (l.getD j z143) := fun hb j hj hj2 => by
        by_cases e : j = i
        · subst e; exact hok
        · exact h4 hb j (by omega) hj2
      by_cases h0 : 0 < i
      · have w : wrap64 ((i : Int) - 1) = (i : Int) - 1 := wid (by omega) (by omega)
        rcases hA : Op.bytesLess (rd_T143 l ((i : Int) - 1)).f0.toList (rd_T143 l (i : Int)).f0.toList with _ | _
        · refine ⟨false, Ev.succ ?_, fun _ => rfl, fun h => Ev.succ ?_, fun h => by cases h⟩
          · simp only [spec_l13Ok.l0, w, hA]
            repeat' first | (with_reducible exact Ev.now _) | (with_reducible exact g1) | ((with_reducible refine Ev.pos ?_ ?_); focus (first | with_reducible assumption | with_reducible rfl | omega | rfl | trivial)) | ((with_reducible refine Ev.neg ?_ ?_); focus (first | with_reducible assumption | omega | (simp; done) | (dsimp only; omega))) | (with_reducible refine Ev.bind g1 ?_) | (with_reducible refine Ev.bind (Ev.shift g1) ?_) | (with_reducible refine Ev.sb ?_) | dsimp only
          · simp only [impl_ValidUnits.l0, w, hA]
            repeat' first | (with_reducible exact Ev.now _) | (with_reducible exact g2) | ((with_reducible refine Ev.pos ?_ ?_); focus (first | with_reducible assumption | with_reducible rfl | omega | rfl | trivial)) | ((with_reducible refine Ev.neg ?_ ?_); focus (first | with_reducible assumption | omega | (simp; done) | (dsimp only; omega))) | (with_reducible refine Ev.bind g2 ?_) | (with_reducible refine Ev.bind (Ev.shift g2) ?_) | (with_reducible refine Ev.sb ?_) | dsimp only
        · refine ⟨b, Ev.succ ?_, h2, fun h => Ev.succ ?_, h4'⟩
          · simp only [spec_l13Ok.l0, w, hA, wnat i (by omega)]
            repeat' first | (with_reducible exact Ev.now _) | (with_reducible exact g1) | (with_reducible exact h1) | ((with_reducible refine Ev.pos ?_ ?_); focus (first | with_reducible assumption | with_reducible rfl | omega | rfl | trivial)) | ((with_reducible refine Ev.neg ?_ ?_); focus (first | with_reducible assumption | omega | (simp; done) | (dsimp only; omega))) | (with_reducible refine Ev.bind g1 ?_) | (with_reducible refine Ev.bind h1 ?_) | (with_reducible refine Ev.bind (Ev.shift g1) ?_) | (with_reducible refine Ev.bind (Ev.shift h1) ?_) | (with_reducible refine Ev.sb ?_) | dsimp only
          · have h3' := h3 h
            simp only [impl_ValidUnits.l0, w, hA, wnat i (by omega)]
            repeat' first | (with_reducible exact Ev.now _) | (with_reducible exact g2) | (with_reducible exact h3') | ((with_reducible refine Ev.pos ?_ ?_); focus (first | with_reducible assumption | with_reducible rfl | omega | rfl | trivial)) | ((with_reducible refine Ev.neg ?_ ?_); focus (first | with_reducible assumption | omega | (simp; done) | (dsimp only; omega))) | (with_reducible refine Ev.bind g2 ?_) | (with_reducible refine Ev.bind h3' ?_) | (with_reducible refine Ev.bind (Ev.shift g2) ?_) | (with_reducible refine Ev.bind (Ev.shift h3') ?_) | (with_reducible refine Ev.sb ?_) | dsimp only
      · refine ⟨b, Ev.succ ?_, h2, fun h => Ev.succ ?_, h4'⟩
        · simp only [spec_l13Ok.l0, wnat i (by omega)]
          repeat' first | (with_reducible exact Ev.now _) | (with_reducible exact g1) | (with_reducible exact h1) | ((with_reducible refine Ev.pos ?_ ?_); focus (first | with_reducible assumption | with_reducible rfl | omega | rfl | trivial)) | ((with_reducible refine Ev.neg ?_ ?_); focus (first | with_reducible assumption | omega | (simp; done) | (dsimp only; omega))) | (with_reducible refine Ev.bind g1 ?_) | (with_reducible refine Ev.bind h1 ?_) | (with_reducible refine Ev.bind (Ev.shift g1) ?_) | (with_reducible refine Ev.bind (Ev.shift h1) ?_) | (with_reducible refine Ev.sb ?_) | dsimp only
        · have h3' := h3 h
          simp only [impl_ValidUnits.l0, wnat i (by omega)]
          repeat' first | (with_reducible exact Ev.now _) | (with_reducible exact g2) | (with_reducible exact h3') | ((with_reducible refine Ev.pos ?_ ?_); focus (first | with_reducible assumption | with_reducible rfl | omega | rfl | trivial)) | ((with_reducible refine Ev.neg ?_ ?_); focus (first | with_reducible assumption | omega | (simp; done) | (dsimp only; omega))) | (with_reducible refine Ev.bind g2 ?_) | (with_reducible refine Ev.bind h3' ?_) | (with_reducible refine Ev.bind (Ev.shift g2) ?_) | (with_reducible refine Ev.bind (Ev.shift h3') ?_) | (with_reducible refine Ev.sb ?_) | dsimp only
theorem units_both (l : List S143) (hl : smL sm143 l) : ∃ b, Ev (fun k => spec_l13Ok.f k l) b ∧ Ev (fun k => impl_ValidUnits.f k l) b ∧ (b = true → 1 ≤ l.length ∧ l.length ≤ 4 ∧ ∀ j, j < l.length → UnitOk (l.getD j z143)) := by
  obtain ⟨b, h1, h2, h3, h4⟩ := unitLoop l hl l.length 0 (by omega)
  simp only [spec_l13Ok.f, impl_ValidUnits.f]
  by_cases c : l.length < 1
  · have hb := h2 (by omega)
    subst hb
    refine ⟨false, h1, Ev.pos (by omega) (Ev.succ ?_), fun h => by cases h⟩
    simp only [impl_ValidUnits.j0]
    exact Ev.pos (by first | rfl | trivial) (Ev.now _)
  · by_cases h : l.length ≤ 4
    · refine ⟨b, h1, Ev.neg (by omega) (Ev.succ ?_), fun hb => ⟨by omega, h, fun j hj => h4 hb j (by omega) hj⟩⟩
      simp only [impl_ValidUnits.j0]
      exact Ev.neg (by simp; omega) (h3 ⟨by omega, h⟩)
    · have hb := h2 (by omega)
      subst hb
      refine ⟨false, h1, Ev.neg (by omega) (Ev.succ ?_), fun h => by cases h⟩
      simp only [impl_ValidUnits.j0]
      exact Ev.pos (by simp; omega) (Ev.now _)
end Go.Proofs.Ytjccjmjnlblhaaa.QHourBound
