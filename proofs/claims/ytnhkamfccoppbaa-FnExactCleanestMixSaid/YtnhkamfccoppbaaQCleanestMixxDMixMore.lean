/- MixMore: a greater limit, and a limit beyond all that fuels can emit. Conditions: valid fuels. -/
import Derived.Test.YtnhkamfccoppbaaQCleanestMixxL
import Derived.Test.YtnhkamfccoppbaaQCleanestMixxDMixL
namespace Go.Proofs.Ytnhkamfccoppbaa.QCleanestMix
open Go.RowKit Go.Proofs.YtnhkamfccoppbaaW.PrintWords Go.Proofs.Ytnhkamfccoppbaa.QOpen Go.Proofs.Ytnhkamfccoppbaa.QEv
set_option linter.unusedVariables false
set_option linter.unusedSimpArgs false
theorem fold_nonneg {c : Int} {x : S46} {rest : Int → Int → Int} {d e : Int} (hc : 0 ≤ c) {b : Nat} (hb : (0 ≤ d - (b : Int) ∧ 0 ≤ e - (b : Int) * x.f1) ∧ 0 ≤ rest (d - (b : Int)) (e - (b : Int) * x.f1)) : ∀ n : Nat, b < n → 0 ≤ mFold c x rest d e n := by
  intro n
  induction n with
  | zero => intro h; omega
  | succ n ih =>
    intro h
    simp only [mFold, mStep]
    by_cases e0 : b = n
    · subst e0
      rw [if_pos hb.1]
      have m := Int.mul_nonneg (a := (b : Int)) (b := c) (by omega) hc
      have := hb.2
      generalize rest (d - (b : Int)) (e - (b : Int) * x.f1) = r at *
      generalize mFold c x rest d e b = best at *
      generalize (b : Int) * c = q at *
      split <;> omega
    · have h1 := ih (by omega)
      have m := Int.mul_nonneg (a := (n : Int)) (b := c) (by omega) hc
      generalize rest (d - (n : Int)) (e - (n : Int) * x.f1) = r at *
      generalize mFold c x rest d e n = best at *
      generalize (n : Int) * c = q at *
      split
      · split <;> omega
      · exact h1
theorem mL_mono (pr : S46 → Int) : ∀ l : List S46, GOk pr l → ∀ d e e', e ≤ e' → 0 ≤ mL pr l d e → 0 ≤ mL pr l d e' := by
  intro l
  induction l with
  | nil => intro _ d e e' _ h; exact h
  | cons x xs ih =>
    intro hg d e e' he h
    have hx := hg x (by simp)
    simp only [mL] at h ⊢
    obtain ⟨b, hb, ok, hr, _⟩ := fold_hit _ h
    exact fold_nonneg hx.2.1 ⟨⟨ok.1, by have := ok.2; omega⟩, ih (fun y hy => hg y (by simp [hy])) _ _ _ (by omega) hr⟩ _ hb
theorem mL_big (pr : S46 → Int) : ∀ l : List S46, GOk pr l → ∀ d e e', 400 * (l.length : Int) ≤ e → 400 * (l.length : Int) ≤ e' → mL pr l d e = mL pr l d e' := by
  intro l
  induction l with
  | nil => intro _ d e e' _ _; rfl
  | cons x xs ih =>
    intro hg d e e' he he'
    have hx := (hg x (by simp)).1
    unfold FuelOk at hx
    simp only [List.length_cons] at he he'
    have key : ∀ n : Nat, n ≤ 21 → mFold (pr x) x (mL pr xs) d e n = mFold (pr x) x (mL pr xs) d e' n := by
      intro n
      induction n with
      | zero => intro _; rfl
      | succ n ihn =>
        intro hn
        have m1 := mul_bd (b := (n : Int)) (c := x.f1) (m := 20) (n := 20) (by omega) (by omega) hx.1.1 hx.1.2
        have e1 := ihn (by omega)
        have e2 := ih (fun y hy => hg y (by simp [hy])) (d - (n : Int)) (e - (n : Int) * x.f1) (e' - (n : Int) * x.f1) (by omega) (by omega)
        simp only [mFold, mStep, e1, e2]
        by_cases c : 0 ≤ d - (n : Int)
        · have k1 : 0 ≤ d - (n : Int) ∧ 0 ≤ e - (n : Int) * x.f1 := ⟨c, by omega⟩
          have k2 : 0 ≤ d - (n : Int) ∧ 0 ≤ e' - (n : Int) * x.f1 := ⟨c, by omega⟩
          rw [if_pos k1, if_pos k2]
        · have k1 : ¬ (0 ≤ d - (n : Int) ∧ 0 ≤ e - (n : Int) * x.f1) := fun h => c h.1
          have k2 : ¬ (0 ≤ d - (n : Int) ∧ 0 ≤ e' - (n : Int) * x.f1) := fun h => c h.1
          rw [if_neg k1, if_neg k2]
    simp only [mL]
    exact key _ (by omega)
end Go.Proofs.Ytnhkamfccoppbaa.QCleanestMix
