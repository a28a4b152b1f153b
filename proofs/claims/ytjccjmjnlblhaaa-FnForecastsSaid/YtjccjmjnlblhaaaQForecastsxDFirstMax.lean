/- FirstMax: the greatest of a list, and its first place, by the library's loops. Conditions: a list that is not empty, of a length that a program can have. -/
import Derived.Test.YtjccjmjnlblhaaaQForecastsx6
import Derived.Test.YtjccjmjnlblhaaaQForecastsxL
import Derived.Test.YtjccjmjnlblhaaaQForecastsxDIndex
namespace Go.Proofs.Ytjccjmjnlblhaaa.QForecasts
open Go.RowKit Go.Proofs.YtjccjmjnlblhaaaW.PrintWords Go.Proofs.Ytjccjmjnlblhaaa.QOpen Go.Proofs.Ytjccjmjnlblhaaa.QEv
set_option linter.unusedVariables false
set_option linter.unusedSimpArgs false
def firstMax (f : List Int) (g : Nat) : Prop := g < f.length ∧ (∀ j, j < f.length → f.getD j 0 ≤ f.getD g 0) ∧ (∀ j, j < g → f.getD j 0 < f.getD g 0)
theorem maxLoop (f : List Int) (hf : f.length ≤ 1000000) : ∀ (d i : Nat) (m : Int), i + d = f.length → (∃ j, j < i ∧ f.getD j 0 = m) → (∀ j, j < i → f.getD j 0 ≤ m) →
    ∃ m', Ev (fun k => slices_Max_int64_int64.l0 k f m (i : Int)) m' ∧ (∃ j, j < f.length ∧ f.getD j 0 = m') ∧ (∀ j, j < f.length → f.getD j 0 ≤ m') := by
  intro d
  induction d with
  | zero =>
    intro i m hi h1 h2
    have e : i = f.length := by omega
    subst e
    refine ⟨m, Ev.succ ?_, h1, h2⟩
    simp only [slices_Max_int64_int64.l0]
    exact Ev.neg (by omega) (Ev.now _)
  | succ d ih =>
    intro i m hi h1 h2
    have e0 : rd f (i : Int) = f.getD i 0 := rfl
    by_cases c : m < f.getD i 0
    · obtain ⟨m', g1, g2, g3⟩ := ih (i + 1) (f.getD i 0) (by omega) ⟨i, by omega, rfl⟩ (fun j hj => by
        by_cases e : j = i
        · subst e; omega
        · have := h2 j (by omega); omega)
      refine ⟨m', Ev.succ ?_, g2, g3⟩
      simp only [slices_Max_int64_int64.l0, e0, wnat i (by omega), show mx m (f.getD i 0) = f.getD i 0 from if_pos c]
      exact Ev.pos (by omega) (Ev.pos (by omega) g1)
    · obtain ⟨m', g1, g2, g3⟩ := ih (i + 1) m (by omega) (by obtain ⟨j, a, b⟩ := h1; exact ⟨j, by omega, b⟩) (fun j hj => by
        by_cases e : j = i
        · subst e; omega
        · exact h2 j (by omega))
      refine ⟨m', Ev.succ ?_, g2, g3⟩
      simp only [slices_Max_int64_int64.l0, e0, wnat i (by omega), show mx m (f.getD i 0) = m from if_neg c]
      exact Ev.pos (by omega) (Ev.pos (by omega) g1)
theorem max_ev (f : List Int) (hf : f.length ≤ 1000000) (g : Nat) (hg : firstMax f g) : Ev (fun k => slices_Max_int64_int64.f k f) (f.getD g 0) := by
  obtain ⟨h1, h2, h3⟩ := hg
  obtain ⟨m', g1, ⟨j, g2, g3⟩, g4⟩ := maxLoop f hf (f.length - 1) 1 (f.getD 0 0) (by omega) ⟨0, by omega, rfl⟩ (fun j hj => by rw [show j = 0 by omega]; omega)
  have e : m' = f.getD g 0 := by
    have a := g4 g h1
    have b := h2 j g2
    omega
  subst e
  simp only [slices_Max_int64_int64.f]
  exact Ev.neg (by omega) (Ev.pos (by omega) g1)
theorem indexMax_ev (f : List Int) (hf : f.length ≤ 1000000) (g : Nat) (hg : firstMax f g) : Ev (fun k => slices_Index_int64_int64.f k f (f.getD g 0)) (g : Int) := by
  obtain ⟨h1, h2, h3⟩ := hg
  obtain ⟨t, e, h⟩ := indexLoop f (f.getD g 0) (by omega) f.length 0 (by omega)
  simp only [slices_Index_int64_int64.f]
  rcases h with ⟨_, h⟩ | ⟨j, a, _, b, c, d, _⟩
  · exfalso
    rw [List.drop_zero] at h
    have : f.contains (f.getD g 0) = true := by
      rw [List.contains_iff_mem]
      exact getD_mem f g 0 h1
    rw [this] at h
    cases h
  · have : j = g := by
      by_cases e1 : j < g
      · have := h3 j e1; omega
      · by_cases e2 : g < j
        · exact absurd rfl (d g (by omega) e2)
        · omega
    subst this
    exact Ev.eqn e a
end Go.Proofs.Ytjccjmjnlblhaaa.QForecasts
