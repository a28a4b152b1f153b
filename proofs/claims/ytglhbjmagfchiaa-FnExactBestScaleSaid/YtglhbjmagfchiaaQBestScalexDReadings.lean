/- Readings: both sides hold one and the same for valid; the powers between readings. Conditions: none. -/
import Derived.Test.YtglhbjmagfchiaaQBestScalex1
import Derived.Test.YtglhbjmagfchiaaQBestScalex2
import Derived.Test.YtglhbjmagfchiaaQBestScalex5
import Derived.Test.YtglhbjmagfchiaaQBestScalex6
import Derived.Test.YtglhbjmagfchiaaQBestScalex7
import Derived.Test.YtglhbjmagfchiaaQBestScalexL
import Derived.Test.YtglhbjmagfchiaaQBestScalexDRanges
import Derived.Test.YtglhbjmagfchiaaQBestScalexDDivS
namespace Go.Proofs.Ytglhbjmagfchiaa.QBestScale
open Go.RowKit Go.Proofs.YtglhbjmagfchiaaW.PrintWords Go.Proofs.Ytglhbjmagfchiaa.QOpen Go.Proofs.Ytglhbjmagfchiaa.QEv
set_option linter.unusedVariables false
set_option linter.unusedSimpArgs false
def ReadOk (l : List S134) (j : Nat) : Prop := 0 ≤ (l.getD j z134).f0 ∧ (l.getD j z134).f0 ≤ 100000 ∧ 0 ≤ (l.getD j z134).f1 ∧ (l.getD j z134).f1 ≤ 1000000000 ∧ (0 < j → (l.getD (j - 1) z134).f0 < (l.getD j z134).f0 ∧ (l.getD (j - 1) z134).f1 ≤ (l.getD j z134).f1)
theorem one_eq (a b : Int) : spec_l06One.f a b = some (decide ((0 ≤ a ∧ a ≤ 100000) ∧ (0 ≤ b ∧ b ≤ 1000000000))) := by
  simp only [spec_l06One.f, spec_l06Counter.f, spec_in_eq, Option.bind_some, decide_eq_true_eq]
  by_cases c : 0 ≤ a ∧ a ≤ 100000
  · rw [if_pos c]
    simp [c]
  · rw [if_neg c, decide_eq_false (fun z => c z.1)]
theorem read_eq (a b : Int) : impl_Reading_valid.f a b = some (decide ((0 ≤ a ∧ a ≤ 100000) ∧ (0 ≤ b ∧ b ≤ 1000000000))) := by
  simp only [impl_Reading_valid.f, impl_within_eq, Option.bind_some, decide_eq_true_eq]
  by_cases c : 0 ≤ a ∧ a ≤ 100000
  · rw [if_pos c]
    simp [c]
  · rw [if_neg c, decide_eq_false (fun z => c z.1)]
theorem readLoop (l : List S134) (hl0 : l.length ≤ 1048576) : ∀ d i : Nat, i + d = l.length →
    ∃ b, Ev (fun k => spec_l06Ok.l0 k l (i : Int)) b ∧ (48 < l.length → b = false) ∧ (l.length ≤ 48 → Ev (fun k => impl_ValidReadings.l0 k l l (l.length : Int) (i : Int)) b) ∧
      (b = true → ∀ j, i ≤ j → j < l.length → ReadOk l j) := by
  intro d
  induction d with
  | zero =>
    intro i hi
    refine ⟨decide ((l.length : Int) ≤ 48), Ev.succ ?_, fun h => by simp; omega, fun h => Ev.succ ?_, fun _ j h1 h2 => by omega⟩
    · simp only [spec_l06Ok.l0]
      exact Ev.neg (by omega) (Ev.now _)
    · simp only [impl_ValidReadings.l0]
      exact Ev.neg (by omega) (Ev.eqn (Ev.now _) (by simp; omega))
  | succ d ih =>
    intro i hi
    have e0 : ∀ j : Nat, rd_T134 l (j : Int) = l.getD j z134 := fun j => rfl
    by_cases c : (0 ≤ (l.getD i z134).f0 ∧ (l.getD i z134).f0 ≤ 100000) ∧ (0 ≤ (l.getD i z134).f1 ∧ (l.getD i z134).f1 ≤ 1000000000)
    · have c1 := c.1
      have c2 := c.2
      obtain ⟨b, h1, h2, h3, h4⟩ := ih (i + 1) (by omega)
      by_cases h0 : 0 < i
      · have w : wrap64 ((i : Int) - 1) = ((i - 1 : Nat) : Int) := by rw [wid (by omega) (by omega)]; omega
        by_cases hA : (l.getD (i - 1) z134).f0 ≥ (l.getD i z134).f0 ∨ (l.getD (i - 1) z134).f1 > (l.getD i z134).f1
        · refine ⟨false, Ev.succ ?_, fun _ => rfl, fun h => Ev.succ ?_, fun h => by cases h⟩
          · simp only [spec_l06Ok.l0, one_eq, Option.bind_some, decide_eq_true_eq, w, e0]
            refine Ev.pos (by omega) (Ev.pos (by omega) (Ev.pos c (Ev.pos (by omega) (Ev.pos (by omega) (Ev.pos (by omega) (Ev.ite (fun _ => Ev.now _) (fun z => Ev.pos (by omega) (Ev.now _))))))))
          · simp only [impl_ValidReadings.l0, read_eq, Option.bind_some, decide_eq_true_eq, w, e0]
            refine Ev.pos (by omega) (Ev.pos (by omega) (Ev.pos (by omega) (Ev.pos c (Ev.pos (by omega) (Ev.pos (by omega) (Ev.pos (by omega) (Ev.ite (fun _ => Ev.now _) (fun z => Ev.pos (by omega) (Ev.now _)))))))))
        · refine ⟨b, Ev.succ ?_, h2, fun h => Ev.succ ?_, fun hb j hj hj2 => ?_⟩
          · simp only [spec_l06Ok.l0, one_eq, Option.bind_some, decide_eq_true_eq, w, e0, wnat i (by omega)]
            exact Ev.pos (by omega) (Ev.pos (by omega) (Ev.pos c (Ev.pos (by omega) (Ev.pos (by omega) (Ev.pos (by omega) (Ev.neg (by omega) (Ev.neg (by omega) h1)))))))
          · simp only [impl_ValidReadings.l0, read_eq, Option.bind_some, decide_eq_true_eq, w, e0, wnat i (by omega)]
            exact Ev.pos (by omega) (Ev.pos (by omega) (Ev.pos (by omega) (Ev.pos c (Ev.pos (by omega) (Ev.pos (by omega) (Ev.pos (by omega) (Ev.neg (by omega) (Ev.neg (by omega) (h3 h)))))))))
          · by_cases e : j = i
            · subst e
              exact ⟨c1.1, c1.2, c2.1, c2.2, fun _ => by omega⟩
            · exact h4 hb j (by omega) hj2
      · refine ⟨b, Ev.succ ?_, h2, fun h => Ev.succ ?_, fun hb j hj hj2 => ?_⟩
        · simp only [spec_l06Ok.l0, one_eq, Option.bind_some, decide_eq_true_eq, e0, wnat i (by omega)]
          exact Ev.pos (by omega) (Ev.pos (by omega) (Ev.pos c (Ev.neg (by omega) h1)))
        · simp only [impl_ValidReadings.l0, read_eq, Option.bind_some, decide_eq_true_eq, e0, wnat i (by omega)]
          exact Ev.pos (by omega) (Ev.pos (by omega) (Ev.pos (by omega) (Ev.pos c (Ev.neg (by omega) (h3 h)))))
        · by_cases e : j = i
          · subst e
            exact ⟨c1.1, c1.2, c2.1, c2.2, fun _ => by omega⟩
          · exact h4 hb j (by omega) hj2
    · refine ⟨false, Ev.succ ?_, fun _ => rfl, fun h => Ev.succ ?_, fun h => by cases h⟩
      · simp only [spec_l06Ok.l0, one_eq, Option.bind_some, decide_eq_true_eq, e0]
        exact Ev.pos (by omega) (Ev.pos (by omega) (Ev.neg c (Ev.now _)))
      · simp only [impl_ValidReadings.l0, read_eq, Option.bind_some, decide_eq_true_eq, e0]
        exact Ev.pos (by omega) (Ev.pos (by omega) (Ev.pos (by omega) (Ev.neg c (Ev.now _))))
theorem reads_both (l : List S134) (hl : l.length ≤ 1048576) : ∃ b, Ev (fun k => spec_l06Ok.f k l) b ∧ Ev (fun k => impl_ValidReadings.f k l) b ∧ (b = true → l.length ≤ 48 ∧ ∀ j, j < l.length → ReadOk l j) := by
  obtain ⟨b, h1, h2, h3, h4⟩ := readLoop l hl l.length 0 (by omega)
  simp only [spec_l06Ok.f, impl_ValidReadings.f]
  by_cases h : l.length ≤ 48
  · exact ⟨b, h1, Ev.neg (by omega) (h3 h), fun hb => ⟨h, fun j hj => h4 hb j (by omega) hj⟩⟩
  · have hb := h2 (by omega)
    subst hb
    exact ⟨false, h1, Ev.pos (by omega) (Ev.now _), fun h => by cases h⟩
theorem powLoop (l : List S134) (hl : l.length ≤ 48) (hp : ∀ j, j < l.length → ReadOk l j) : ∀ (d i : Nat) (acc : List Int), i + d = l.length → 0 < i → acc.length ≤ i → (∀ x ∈ acc, 0 ≤ x ∧ x ≤ 1000000000) →
    ∃ r : List Int, Ev (fun k => spec_l06Powers.l0 k l acc (i : Int)) r ∧ Ev (fun k => impl_powersOf.l0 k l acc (i : Int)) r ∧ r.length ≤ 48 ∧ (∀ x ∈ r, 0 ≤ x ∧ x ≤ 1000000000) := by
  intro d
  induction d with
  | zero =>
    intro i acc hi h0 ha hb
    refine ⟨acc, Ev.succ ?_, Ev.succ ?_, by omega, hb⟩
    · simp only [spec_l06Powers.l0]
      exact Ev.neg (by omega) (Ev.now _)
    · simp only [impl_powersOf.l0]
      exact Ev.neg (by omega) (Ev.now _)
  | succ d ih =>
    intro i acc hi h0 ha hb
    have e0 : ∀ j : Nat, rd_T134 l (j : Int) = l.getD j z134 := fun j => rfl
    have w : wrap64 ((i : Int) - 1) = ((i - 1 : Nat) : Int) := by rw [wid (by omega) (by omega)]; omega
    obtain ⟨p0, p1, p2, p3, p4⟩ := hp i (by omega)
    obtain ⟨q0, q1, q2, q3, _⟩ := hp (i - 1) (by omega)
    obtain ⟨o1, o2⟩ := p4 h0
    generalize hA : l.getD i z134 = A at *
    generalize hB : l.getD (i - 1) z134 = B at *
    have w1 : wrap64 (A.f0 - B.f0) = A.f0 - B.f0 := wid (by omega) (by omega)
    have w2 : wrap64 (A.f1 - B.f1) = A.f1 - B.f1 := wid (by omega) (by omega)
    have d1 := l01DivS_eq (A.f1 - B.f1) (A.f0 - B.f0) (by omega) (by omega) (by omega) (by omega)
    have d2 := divRoundS_eq (A.f1 - B.f1) (A.f0 - B.f0) (by omega) (by omega) (by omega) (by omega)
    obtain ⟨b0, _, b1, _⟩ := rdiv_le (A.f1 - B.f1) (A.f0 - B.f0) (by omega)
    have b0 := b0 (by omega)
    have b1 := b1 1000000000 (by omega) (by omega)
    generalize rdiv (A.f1 - B.f1) (A.f0 - B.f0) = v at *
    obtain ⟨r, h1, h2, h3, h4⟩ := ih (i + 1) (acc ++ [v]) (by omega) (by omega) (by simp; omega) (fun x hx => by
      rcases List.mem_append.1 hx with z | z
      · exact hb x z
      · rw [List.mem_singleton.1 z]; omega)
    refine ⟨r, Ev.succ ?_, Ev.succ ?_, h3, h4⟩
    · simp only [spec_l06Powers.l0, w, e0, hA, hB, w1, w2, d1, Option.bind_some, wnat i (by omega)]
      exact Ev.pos (by omega) (Ev.pos (by omega) (Ev.pos (by omega) (Ev.pos (by omega) (Ev.pos (by omega) h1))))
    · simp only [impl_powersOf.l0, w, e0, hA, hB, w1, w2, d2, Option.bind_some, wnat i (by omega)]
      exact Ev.pos (by omega) (Ev.pos (by omega) (Ev.pos (by omega) (Ev.pos (by omega) (Ev.neg (by omega) (Ev.pos (by omega) h2)))))
theorem pow_both (l : List S134) (hl : l.length ≤ 48) (hp : ∀ j, j < l.length → ReadOk l j) : ∃ r : List Int, Ev (fun k => spec_l06Powers.f k l) r ∧ Ev (fun k => impl_powersOf.f k l) r ∧ r.length ≤ 48 ∧ (∀ x ∈ r, 0 ≤ x ∧ x ≤ 1000000000) := by
  simp only [spec_l06Powers.f, impl_powersOf.f]
  by_cases c : l.length = 0
  · refine ⟨[], Ev.succ ?_, Ev.succ ?_, by simp, by simp⟩
    · simp only [spec_l06Powers.l0]
      exact Ev.neg (by omega) (Ev.now _)
    · simp only [impl_powersOf.l0]
      exact Ev.neg (by omega) (Ev.now _)
  · exact powLoop l hl hp (l.length - 1) 1 [] (by omega) (by omega) (by simp) (by simp)
end Go.Proofs.Ytglhbjmagfchiaa.QBestScale
