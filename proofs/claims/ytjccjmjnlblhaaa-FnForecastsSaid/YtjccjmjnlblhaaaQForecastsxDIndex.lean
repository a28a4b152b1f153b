/- Index: the first place of a number in a list, by the library's loop. Conditions: lists of a length that a program can have. -/
import Derived.Test.YtjccjmjnlblhaaaQForecastsx6
import Derived.Test.YtjccjmjnlblhaaaQForecastsxL
namespace Go.Proofs.Ytjccjmjnlblhaaa.QForecasts
open Go.RowKit Go.Proofs.YtjccjmjnlblhaaaW.PrintWords Go.Proofs.Ytjccjmjnlblhaaa.QOpen Go.Proofs.Ytjccjmjnlblhaaa.QEv
set_option linter.unusedVariables false
set_option linter.unusedSimpArgs false
theorem indexLoop (l : List Int) (v : Int) (hl : l.length ≤ 4611686018427387904) : ∀ d i : Nat, i + d = l.length →
    ∃ t : Int, Ev (fun k => slices_Index_int64_int64.l0 k l v (l.length : Int) (i : Int)) t ∧ ((t = -1 ∧ (l.drop i).contains v = false) ∨ ∃ j : Nat, t = (j : Int) ∧ i ≤ j ∧ j < l.length ∧ l.getD j 0 = v ∧ (∀ m, i ≤ m → m < j → l.getD m 0 ≠ v) ∧ (l.drop i).contains v = true) := by
  intro d
  induction d with
  | zero =>
    intro i hi
    rw [drop_end _ _ hi]
    refine ⟨-1, Ev.succ ?_, Or.inl ⟨rfl, rfl⟩⟩
    simp only [slices_Index_int64_int64.l0]
    exact Ev.neg (by omega) (Ev.now _)
  | succ d ih =>
    intro i hi
    have e0 : rd l (i : Int) = l.getD i 0 := rfl
    rw [drop_step l i 0 (by omega), List.contains_cons]
    by_cases e : v = l.getD i 0
    · refine ⟨(i : Int), Ev.succ ?_, Or.inr ⟨i, rfl, by omega, by omega, e.symm, fun m _ _ => by omega, by rw [← e]; simp⟩⟩
      simp only [slices_Index_int64_int64.l0, wnat i (by omega), e0]
      exact Ev.pos (by omega) (Ev.pos (by omega) (Ev.pos (by omega) (Ev.pos e (Ev.now _))))
    · have hb : (v == l.getD i 0) = false := by simpa using e
      obtain ⟨t, g, h⟩ := ih (i + 1) (by omega)
      refine ⟨t, Ev.succ ?_, ?_⟩
      · simp only [slices_Index_int64_int64.l0, wnat i (by omega), e0]
        exact Ev.pos (by omega) (Ev.pos (by omega) (Ev.pos (by omega) (Ev.neg e g)))
      · rw [hb, Bool.false_or]
        rcases h with h | ⟨j, h1, h2, h3, h4, h5, h6⟩
        · exact Or.inl h
        · refine Or.inr ⟨j, h1, by omega, h3, h4, fun m h7 h8 => ?_, h6⟩
          by_cases em : m = i
          · subst em
            exact fun h => e h.symm
          · exact h5 m (by omega) h8
end Go.Proofs.Ytjccjmjnlblhaaa.QForecasts
