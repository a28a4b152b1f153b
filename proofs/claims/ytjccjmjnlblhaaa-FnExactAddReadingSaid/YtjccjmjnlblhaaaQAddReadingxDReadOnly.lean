/- ReadOnly: both sides hold one and the same for valid readings. Conditions: none. -/
import Derived.Test.YtjccjmjnlblhaaaQAddReadingx1
import Derived.Test.YtjccjmjnlblhaaaQAddReadingx2
import Derived.Test.YtjccjmjnlblhaaaQAddReadingx3
import Derived.Test.YtjccjmjnlblhaaaQAddReadingx4
import Derived.Test.YtjccjmjnlblhaaaQAddReadingxL
import Derived.Test.YtjccjmjnlblhaaaQAddReadingxDRanges
namespace Go.Proofs.Ytjccjmjnlblhaaa.QAddReading
open Go.RowKit Go.Proofs.YtjccjmjnlblhaaaW.PrintWords Go.Proofs.Ytjccjmjnlblhaaa.QOpen Go.Proofs.Ytjccjmjnlblhaaa.QEv
set_option linter.unusedVariables false
set_option linter.unusedSimpArgs false
def ReadOk (l : List S30) (j : Nat) : Prop := 0 ≤ (l.getD j z30).f0 ∧ (l.getD j z30).f0 ≤ 100000 ∧ 0 ≤ (l.getD j z30).f1 ∧ (l.getD j z30).f1 ≤ 1000000000 ∧ (0 < j → (l.getD (j - 1) z30).f0 < (l.getD j z30).f0 ∧ (l.getD (j - 1) z30).f1 ≤ (l.getD j z30).f1)
theorem one_eq (a b : Int) : spec_l06One.f a b = some (decide ((0 ≤ a ∧ a ≤ 100000) ∧ (0 ≤ b ∧ b ≤ 1000000000))) := by
  simp only [spec_l06One.f, spec_l06Counter.f, spec_in_eq, Option.bind_some, decide_eq_true_eq]
  by_cases c : 0 ≤ a ∧ a ≤ 100000
  · rw [if_pos c]
    simp [c]
  · rw [if_neg c, decide_eq_false (fun z => c z.1)]
theorem read_eq (a b : Int) : impl_Reading_valid.f a b = some (decide ((0 ≤ a ∧ a ≤ 100000) ∧ (0 ≤ b ∧ b ≤ 1000000000))) := by
  simp only [impl_Reading_valid.f, impl_within_eq, Option.bind_some, decide_eq_true_eq]
  by_cases c : 0 ≤ a ∧ a ≤ 100000
  · rw [if_pos c]
    simp [c]
  · rw [if_neg c, decide_eq_false (fun z => c z.1)]
theorem readLoop (l : List S30) (hl0 : l.length ≤ 1048576) : ∀ d i : Nat, i + d = l.length →
    ∃ b, Ev (fun k => spec_l06Ok.l0 k l (i : Int)) b ∧ (48 < l.length → b = false) ∧ (l.length ≤ 48 → Ev (fun k => impl_ValidReadings.l0 k l l (l.length : Int) (i : Int)) b) ∧
      (b = true → ∀ j, i ≤ j → j < l.length → ReadOk l j) := by
  intro d
  induction d with
  | zero =>
    intro i hi
    refine ⟨decide ((l.length : Int) ≤ 48), Ev.succ ?_, fun h => by simp; omega, fun h => Ev.succ ?_, fun _ j h1 h2 => by omega⟩
    · simp only [spec_l06Ok.l0]
      exact Ev.neg (by omega) (Ev.now _)
    · simp only [impl_ValidReadings.l0]
      exact Ev.neg (by omega) (Ev.eqn (Ev.now _) (by simp; omega))
  | succ d ih =>
    intro i hi
    have e0 : ∀ j : Nat, rd_T30 l (j : Int) = l.getD j z30 := fun j => rfl
    by_cases c : (0 ≤ (l.getD i z30).f0 ∧ (l.getD i z30).f0 ≤ 100000) ∧ (0 ≤ (l.getD i z30).f1 ∧ (l.getD i z30).f1 ≤ 1000000000)
    · have c1 := c.1
      have c2 := c.2
      obtain ⟨b, h1, h2, h3, h4⟩ := ih (i + 1) (by omega)
      by_cases h0 : 0 < i
      · have w : wrap64 ((i : Int) - 1) = ((i - 1 : Nat) : Int) := by rw [wid (by omega) (by omega)]; omega
        by_cases hA : (l.getD (i - 1) z30).f0 ≥ (l.getD i z30).f0 ∨ (l.getD (i - 1) z30).f1 > (l.getD i z30).f1
        · refine ⟨false, Ev.succ ?_, fun _ => rfl, fun h => Ev.succ ?_, fun h => by cases h⟩
          · simp only [spec_l06Ok.l0, one_eq, Option.bind_some, decide_eq_true_eq, w, e0]
            refine Ev.pos (by omega) (Ev.pos (by omega) (Ev.pos c (Ev.pos (by omega) (Ev.pos (by omega) (Ev.pos (by omega) (Ev.ite (fun _ => Ev.now _) (fun z => Ev.pos (by omega) (Ev.now _))))))))
          · simp only [impl_ValidReadings.l0, read_eq, Option.bind_some, decide_eq_true_eq, w, e0]
            refine Ev.pos (by omega) (Ev.pos (by omega) (Ev.pos (by omega) (Ev.pos c (Ev.pos (by omega) (Ev.pos (by omega) (Ev.pos (by omega) (Ev.ite (fun _ => Ev.now _) (fun z => Ev.pos (by omega) (Ev.now _)))))))))
        · refine ⟨b, Ev.succ ?_, h2, fun h => Ev.succ ?_, fun hb j hj hj2 => ?_⟩
          · simp only [spec_l06Ok.l0, one_eq, Option.bind_some, decide_eq_true_eq, w, e0, wnat i (by omega)]
            exact Ev.pos (by omega) (Ev.pos (by omega) (Ev.pos c (Ev.pos (by omega) (Ev.pos (by omega) (Ev.pos (by omega) (Ev.neg (by omega) (Ev.neg (by omega) h1)))))))
          · simp only [impl_ValidReadings.l0, read_eq, Option.bind_some, decide_eq_true_eq, w, e0, wnat i (by omega)]
            exact Ev.pos (by omega) (Ev.pos (by omega) (Ev.pos (by omega) (Ev.pos c (Ev.pos (by omega) (Ev.pos (by omega) (Ev.pos (by omega) (Ev.neg (by omega) (Ev.neg (by omega) (h3 h)))))))))
          · by_cases e : j = i
            · subst e
              exact ⟨c1.1, c1.2, c2.1, c2.2, fun _ => by omega⟩
            · exact h4 hb j (by omega) hj2
      · refine ⟨b, Ev.succ ?_, h2, fun h => Ev.succ ?_, fun hb j hj hj2 => ?_⟩
        · simp only [spec_l06Ok.l0, one_eq, Option.bind_some, decide_eq_true_eq, e0, wnat i (by omega)]
          exact Ev.pos (by omega) (Ev.pos (by omega) (Ev.pos c (Ev.neg (by omega) h1)))
        · simp only [impl_ValidReadings.l0, read_eq, Option.bind_some, decide_eq_true_eq, e0, wnat i (by omega)]
          exact Ev.pos (by omega) (Ev.pos (by omega) (Ev.pos (by omega) (Ev.pos c (Ev.neg (by omega) (h3 h)))))
        · by_cases e : j = i
          · subst e
            exact ⟨c1.1, c1.2, c2.1, c2.2, fun _ => by omega⟩
          · exact h4 hb j (by omega) hj2
    · refine ⟨false, Ev.succ ?_, fun _ => rfl, fun h => Ev.succ ?_, fun h => by cases h⟩
      · simp only [spec_l06Ok.l0, one_eq, Option.bind_some, decide_eq_true_eq, e0]
        exact Ev.pos (by omega) (Ev.pos (by omega) (Ev.neg c (Ev.now _)))
      · simp only [impl_ValidReadings.l0, read_eq, Option.bind_some, decide_eq_true_eq, e0]
        exact Ev.pos (by omega) (Ev.pos (by omega) (Ev.pos (by omega) (Ev.neg c (Ev.now _))))
theorem reads_both (l : List S30) (hl : l.length ≤ 1048576) : ∃ b, Ev (fun k => spec_l06Ok.f k l) b ∧ Ev (fun k => impl_ValidReadings.f k l) b ∧ (b = true → l.length ≤ 48 ∧ ∀ j, j < l.length → ReadOk l j) := by
  obtain ⟨b, h1, h2, h3, h4⟩ := readLoop l hl l.length 0 (by omega)
  simp only [spec_l06Ok.f, impl_ValidReadings.f]
  by_cases h : l.length ≤ 48
  · exact ⟨b, h1, Ev.neg (by omega) (h3 h), fun hb => ⟨h, fun j hj => h4 hb j (by omega) hj⟩⟩
  · have hb := h2 (by omega)
    subst hb
    exact ⟨false, h1, Ev.pos (by omega) (Ev.now _), fun h => by cases h⟩
end Go.Proofs.Ytjccjmjnlblhaaa.QAddReading
