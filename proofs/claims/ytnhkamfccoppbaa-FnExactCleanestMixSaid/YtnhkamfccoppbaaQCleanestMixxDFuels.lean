/- Fuels: both sides hold one and the same for valid. Conditions: none. -/
import Derived.Test.YtnhkamfccoppbaaQCleanestMixx2
import Derived.Test.YtnhkamfccoppbaaQCleanestMixx5
import Derived.Test.YtnhkamfccoppbaaQCleanestMixx6
import Derived.Test.YtnhkamfccoppbaaQCleanestMixxL
import Derived.Test.YtnhkamfccoppbaaQCleanestMixxDNames
namespace Go.Proofs.Ytnhkamfccoppbaa.QCleanestMix
open Go.RowKit Go.Proofs.YtnhkamfccoppbaaW.PrintWords Go.Proofs.Ytnhkamfccoppbaa.QOpen Go.Proofs.Ytnhkamfccoppbaa.QEv
set_option linter.unusedVariables false
set_option linter.unusedSimpArgs false
def FuelOk (x : S46) : Prop := (0 ≤ x.f1 ∧ x.f1 ≤ 20) ∧ (0 ≤ x.f2 ∧ x.f2 ≤ 1000) ∧ 0 ≤ x.f3 ∧ x.f3 ≤ 20
theorem fuel_both (x : S46) (hx : sm46 x) : ∃ b, Ev (fun k => spec_l16One.f k x.f0 x.f1 x.f2 x.f3) b ∧ Ev (fun k => impl_Fuel_valid.f k x.f0 x.f1 x.f2 x.f3) b ∧ (b = true → FuelOk x) := by
  have hz : x.f0.size ≤ 1048576 := hx.1
  obtain ⟨b, h1, h2, h3⟩ := name_both x.f0 (by omega)
  simp only [spec_l16One.f, impl_Fuel_valid.f, spec_in_eq, impl_within_eq, Option.bind_some, decide_eq_true_eq]
  cases b with
  | false => exact ⟨false, Ev.bind h1 (Ev.neg (by decide) (Ev.now _)), Ev.bind h2 (Ev.neg (by decide) (Ev.now _)), fun h => by cases h⟩
  | true =>
    by_cases c : 0 ≤ x.f1 ∧ x.f1 ≤ 20
    · by_cases c2 : 0 ≤ x.f2 ∧ x.f2 ≤ 1000
      · refine ⟨decide (0 ≤ x.f3 ∧ x.f3 ≤ 20), Ev.bind h1 (Ev.pos rfl (Ev.pos c (Ev.pos c2 (Ev.now _)))), Ev.bind h2 (Ev.pos rfl (Ev.pos c (Ev.pos c2 (Ev.now _)))), fun h => ?_⟩
        have := of_decide_eq_true h
        unfold FuelOk
        omega
      · exact ⟨false, Ev.bind h1 (Ev.pos rfl (Ev.pos c (Ev.neg c2 (Ev.now _)))), Ev.bind h2 (Ev.pos rfl (Ev.pos c (Ev.neg c2 (Ev.now _)))), fun h => by cases h⟩
    · exact ⟨false, Ev.bind h1 (Ev.pos rfl (Ev.neg c (Ev.now _))), Ev.bind h2 (Ev.pos rfl (Ev.neg c (Ev.now _))), fun h => by cases h⟩
theorem fuelLoop (l : List S46) (hl : smL sm46 l) : ∀ d i : Nat, i + d = l.length →
    ∃ b, Ev (fun k => spec_l16Ok.l0 k l (i : Int)) b ∧ (6 < l.length → b = false) ∧ (l.length ≤ 6 → Ev (fun k => impl_ValidFuels.l0 k l l (l.length : Int) (i : Int)) b) ∧
      (b = true → ∀ j, i ≤ j → j < l.length → FuelOk (l.getD j z46)) := by
  have hl0 := hl.1
  intro d
  induction d with
  | zero =>
    intro i hi
    refine ⟨decide ((l.length : Int) ≤ 6), Ev.succ ?_, fun h => by simp; omega, fun h => Ev.succ ?_, fun _ j h1 h2 => by omega⟩
    · simp only [spec_l16Ok.l0]
      exact Ev.neg (by omega) (Ev.now _)
    · simp only [impl_ValidFuels.l0]
      exact Ev.neg (by omega) (Ev.eqn (Ev.now _) (by simp; omega))
  | succ d ih =>
    intro i hi
    have hsm : sm46 (rd_T46 l (i : Int)) := smL_get hl (j := i) _ (by omega)
    obtain ⟨v, g1, g2, g3⟩ := fuel_both (rd_T46 l (i : Int)) hsm
    cases v with
    | false =>
      refine ⟨false, Ev.succ ?_, fun _ => rfl, fun h => Ev.succ ?_, fun h => by cases h⟩
      · simp only [spec_l16Ok.l0]
        exact Ev.pos (by omega) (Ev.pos (by omega) (Ev.bind g1 (Ev.neg (by decide) (Ev.now _))))
      · simp only [impl_ValidFuels.l0]
        exact Ev.pos (by omega) (Ev.pos (by omega) (Ev.pos (by omega) (Ev.bind g2 (Ev.neg (by decide) (Ev.now _)))))
    | true =>
      have hok := g3 rfl
      obtain ⟨b, h1, h2, h3, h4⟩ := ih (i + 1) (by omega)
      have h4' : b = true → ∀ j, i ≤ j → j < l.length → FuelOk (l.getD j z46) := fun hb j hj hj2 => by
        by_cases e : j = i
        · subst e; exact hok
        · exact h4 hb j (by omega) hj2
      by_cases h0 : 0 < i
      · have w : wrap64 ((i : Int) - 1) = (i : Int) - 1 := wid (by omega) (by omega)
        rcases hA : Op.bytesLess (rd_T46 l ((i : Int) - 1)).f0.toList (rd_T46 l (i : Int)).f0.toList with _ | _
        · refine ⟨false, Ev.succ ?_, fun _ => rfl, fun h => Ev.succ ?_, fun h => by cases h⟩
          · simp only [spec_l16Ok.l0, w, hA]
            exact Ev.pos (by omega) (Ev.pos (by omega) (Ev.bind g1 (Ev.pos rfl (Ev.pos (by omega) (Ev.pos (by omega) (Ev.pos (by omega) (Ev.neg (by decide) (Ev.now _))))))))
          · simp only [impl_ValidFuels.l0, w, hA]
            exact Ev.pos (by omega) (Ev.pos (by omega) (Ev.pos (by omega) (Ev.bind g2 (Ev.pos rfl (Ev.pos (by omega) (Ev.pos (by omega) (Ev.pos (by omega) (Ev.neg (by decide) (Ev.now _)))))))))
        · refine ⟨b, Ev.succ ?_, h2, fun h => Ev.succ ?_, h4'⟩
          · simp only [spec_l16Ok.l0, w, hA, wnat i (by omega)]
            exact Ev.pos (by omega) (Ev.pos (by omega) (Ev.bind g1 (Ev.pos rfl (Ev.pos (by omega) (Ev.pos (by omega) (Ev.pos (by omega) (Ev.pos (by first | rfl | trivial) h1)))))))
          · simp only [impl_ValidFuels.l0, w, hA, wnat i (by omega)]
            exact Ev.pos (by omega) (Ev.pos (by omega) (Ev.pos (by omega) (Ev.bind g2 (Ev.pos rfl (Ev.pos (by omega) (Ev.pos (by omega) (Ev.pos (by omega) (Ev.pos (by first | rfl | trivial) (h3 h)))))))))
      · refine ⟨b, Ev.succ ?_, h2, fun h => Ev.succ ?_, h4'⟩
        · simp only [spec_l16Ok.l0, wnat i (by omega)]
          exact Ev.pos (by omega) (Ev.pos (by omega) (Ev.bind g1 (Ev.pos rfl (Ev.neg (by omega) h1))))
        · simp only [impl_ValidFuels.l0, wnat i (by omega)]
          exact Ev.pos (by omega) (Ev.pos (by omega) (Ev.pos (by omega) (Ev.bind g2 (Ev.pos rfl (Ev.neg (by omega) (h3 h))))))
theorem fuels_both (l : List S46) (hl : smL sm46 l) : ∃ b, Ev (fun k => spec_l16Ok.f k l) b ∧ Ev (fun k => impl_ValidFuels.f k l) b ∧ (b = true → l.length ≤ 6 ∧ ∀ j, j < l.length → FuelOk (l.getD j z46)) := by
  obtain ⟨b, h1, h2, h3, h4⟩ := fuelLoop l hl l.length 0 (by omega)
  by_cases h : l.length ≤ 6
  · refine ⟨b, ?_, ?_, fun hb => ⟨h, fun j hj => h4 hb j (by omega) hj⟩⟩
    · simp only [spec_l16Ok.f]
      exact h1
    · simp only [impl_ValidFuels.f]
      exact Ev.neg (by omega) (h3 h)
  · have hb := h2 (by omega)
    subst hb
    refine ⟨false, ?_, ?_, fun h => by cases h⟩
    · simp only [spec_l16Ok.f]
      exact h1
    · simp only [impl_ValidFuels.f]
      exact Ev.pos (by omega) (Ev.now _)
end Go.Proofs.Ytnhkamfccoppbaa.QCleanestMix
