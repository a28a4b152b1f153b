/- OutI: the outdoor temperature for a load, by the program alone. Conditions: valid buildings. -/
import Derived.Test.YtjccjmjnlblhaaaQForecastsx7
import Derived.Test.YtjccjmjnlblhaaaQForecastsxL
import Derived.Test.YtjccjmjnlblhaaaQForecastsxDLoadOne
namespace Go.Proofs.Ytjccjmjnlblhaaa.QForecasts
open Go.RowKit Go.Proofs.YtjccjmjnlblhaaaW.PrintWords Go.Proofs.Ytjccjmjnlblhaaa.QOpen Go.Proofs.Ytjccjmjnlblhaaa.QEv
set_option linter.unusedVariables false
set_option linter.unusedSimpArgs false
theorem outIn (l : List S94) (hn : l.length ≤ 12) (hl : ∀ j, j < l.length → BuildOk (l.getD j z94)) (t : Int) (t0 : -4500 ≤ t) (t1 : t ≤ 4600) (h : Nat) (hh : h < 24) (g : Int) : ∀ (d i : Nat) (acc : Int), i + d = l.length → 0 ≤ acc → acc ≤ (i : Int) * 4000000000 →
    Ev (fun k => impl_OutdoorFor_1.l0 k (-t) acc l (l.length : Int) (i : Int) (h : Int) g) (decide (acc + sumv t h (l.drop i) ≥ g)) := by
  intro d
  induction d with
  | zero =>
    intro i acc hi h0 h1
    rw [drop_end l i hi]
    refine Ev.succ ?_
    simp only [impl_OutdoorFor_1.l0, sumv, Int.add_zero]
    exact Ev.neg (by omega) (Ev.now _)
  | succ d ih =>
    intro i acc hi h0 h1
    have hx := hl i (by omega)
    have er : rd_T94 l (i : Int) = l.getD i z94 := rfl
    obtain ⟨_, li, l0, l1⟩ := load_both _ hx t h hh t0 t1
    rw [drop_step l i z94 (by omega)]
    generalize l.getD i z94 = x at *
    have wt : wrap64 (- -t) = t := by rw [Int.neg_neg]; exact wid (by omega) (by omega)
    have w : wrap64 (acc + loadv x t h) = acc + loadv x t h := wid (by omega) (by omega)
    have hr := ih (i + 1) (acc + loadv x t h) (by omega) (by omega) (by omega)
    refine Ev.succ ?_
    simp only [impl_OutdoorFor_1.l0, er, wt, li, w, Option.bind_some, wnat i (by omega)]
    refine Ev.pos (by omega) (Ev.pos (by omega) (Ev.pos (by omega) (Ev.eqn hr (decide_eq_decide.2 ?_))))
    rw [show sumv t h (x :: l.drop (i + 1)) = loadv x t h + sumv t h (l.drop (i + 1)) from rfl]
    omega
theorem outHas (l : List S94) (hn : l.length ≤ 12) (hl : ∀ j, j < l.length → BuildOk (l.getD j z94)) (h : Nat) (hh : h < 24) (g : Int) (n : Int) (n0 : -4600 ≤ n) (n1 : n ≤ 4500) :
    Ev (fun k => impl_OutdoorFor_1.f k n l (h : Int) g) (decide (sumv (-n) h l ≥ g)) := by
  have := outIn l hn hl (-n) (by omega) (by omega) h hh g l.length 0 0 (by omega) (by omega) (by omega)
  simp only [List.drop_zero, Int.zero_add, Int.neg_neg] at this
  simp only [impl_OutdoorFor_1.f]
  exact this
theorem outFirst (l : List S94) (hn : l.length ≤ 12) (hl : ∀ j, j < l.length → BuildOk (l.getD j z94)) (h : Nat) (hh : h < 24) (g : Int) : ∀ (d : Nat) (i j : Int), j - i ≤ (d : Int) → 0 ≤ i → i ≤ j → j ≤ 8501 →
    (i = 0 ∨ sumv (4500 - i + 1) h l < g) → (j = 8501 ∨ sumv (4500 - j) h l ≥ g) →
    ∃ r : Int, Ev (fun k => impl_firstIn.l0 k (-4500) l (h : Int) g i j) r ∧ 0 ≤ r ∧ r ≤ 8501 ∧ (r = 0 ∨ sumv (4500 - r + 1) h l < g) ∧ (r = 8501 ∨ sumv (4500 - r) h l ≥ g) := by
  intro d
  induction d with
  | zero =>
    intro i j hd h0 h1 h2 h3 h4
    have e : j = i := by omega
    subst e
    refine ⟨j, Ev.succ ?_, h0, h2, h3, h4⟩
    simp only [impl_firstIn.l0]
    exact Ev.neg (by omega) (Ev.now _)
  | succ d ih =>
    intro i j hd h0 h1 h2 h3 h4
    by_cases c : i < j
    · have hm := outHas l hn hl h hh g (-4500 + (i + j) / 2) (by omega) (by omega)
      rw [show -(-4500 + (i + j) / 2) = 4500 - (i + j) / 2 by omega] at hm
      by_cases q : sumv (4500 - (i + j) / 2) h l ≥ g
      · rw [decide_eq_true q] at hm
        obtain ⟨r, k1, k2⟩ := ih i ((i + j) / 2) (by omega) h0 (by omega) (by omega) h3 (Or.inr q)
        refine ⟨r, Ev.succ ?_, k2⟩
        simp only [impl_firstIn.l0]
        exact Ev.pos c (Ev.bind hm (Ev.pos rfl k1))
      · rw [decide_eq_false q] at hm
        obtain ⟨r, k1, k2⟩ := ih ((i + j) / 2 + 1) j (by omega) (by omega) (by omega) h2 (Or.inr (by rw [show 4500 - ((i + j) / 2 + 1) + 1 = 4500 - (i + j) / 2 by omega]; omega)) h4
        refine ⟨r, Ev.succ ?_, k2⟩
        simp only [impl_firstIn.l0]
        exact Ev.pos c (Ev.bind hm (Ev.neg (by decide) k1))
    · have e : j = i := by omega
      subst e
      refine ⟨j, Ev.succ ?_, h0, h2, h3, h4⟩
      simp only [impl_firstIn.l0]
      exact Ev.neg c (Ev.now _)
end Go.Proofs.Ytjccjmjnlblhaaa.QForecasts
