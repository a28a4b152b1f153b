/- Names: what both sides hold for a name; ranges. Conditions: none. -/
import Derived.Test.YtnhkamfccoppbaaQCleanestMixx1
import Derived.Test.YtnhkamfccoppbaaQCleanestMixx2
import Derived.Test.YtnhkamfccoppbaaQCleanestMixx5
import Derived.Test.YtnhkamfccoppbaaQCleanestMixxL
import Derived.Test.YtnhkamfccoppbaaQCleanestMixxDRanges
namespace Go.Proofs.Ytnhkamfccoppbaa.QCleanestMix
open Go.RowKit Go.Proofs.YtnhkamfccoppbaaW.PrintWords Go.Proofs.Ytnhkamfccoppbaa.QOpen Go.Proofs.Ytnhkamfccoppbaa.QEv
set_option linter.unusedVariables false
set_option linter.unusedSimpArgs false
theorem spec_small_eq (c : Int) : spec_l01Small.f c = some (decide (97 ≤ c ∧ c ≤ 122)) := by
  unfold spec_l01Small.f
  split <;> simp <;> omega
theorem spec_digit_eq (c : Int) : spec_l01Digit.f c = some (decide (48 ≤ c ∧ c ≤ 57)) := by
  unfold spec_l01Digit.f
  split <;> simp <;> omega
theorem nameLoop (s : ByteArray) (hs : s.size ≤ 9223372036854775807) : ∀ d i : Nat, i + d = s.size →
    ∃ b, Ev (fun k => spec_l01Name.l0 k s (i : Int)) b ∧ Ev (fun k => impl_onlyNameBytes.l0 k s (s.size : Int) (i : Int)) b := by
  intro d
  induction d with
  | zero =>
    intro i hi
    refine ⟨true, Ev.succ ?_, Ev.succ ?_⟩
    · simp only [spec_l01Name.l0]
      exact Ev.neg (by omega) (Ev.now _)
    · simp only [impl_onlyNameBytes.l0]
      exact Ev.neg (by omega) (Ev.now _)
  | succ d ih =>
    intro i hi
    obtain ⟨b, h1, h2⟩ := ih (i + 1) (by omega)
    by_cases h : (97 ≤ bt s (i : Int) ∧ bt s (i : Int) ≤ 122) ∨ (48 ≤ bt s (i : Int) ∧ bt s (i : Int) ≤ 57)
    · refine ⟨b, Ev.succ ?_, Ev.succ ?_⟩
      · simp only [spec_l01Name.l0, spec_small_eq, spec_digit_eq, Option.bind_some, decide_eq_true_eq, wnat i (by omega)]
        repeat' first | (with_reducible exact h1) | ((with_reducible refine Ev.pos ?_ ?_); omega) | ((with_reducible refine Ev.neg ?_ ?_); omega) | (exfalso; omega) | (with_reducible refine Ev.ite (fun _ => ?_) (fun _ => ?_))
      · simp only [impl_onlyNameBytes.l0, wnat i (by omega)]
        repeat' first | (with_reducible exact h2) | ((with_reducible refine Ev.pos ?_ ?_); omega) | ((with_reducible refine Ev.neg ?_ ?_); omega) | (exfalso; omega) | (with_reducible refine Ev.ite (fun _ => ?_) (fun _ => ?_))
    · refine ⟨false, Ev.succ ?_, Ev.succ ?_⟩
      · simp only [spec_l01Name.l0, spec_small_eq, spec_digit_eq, Option.bind_some, decide_eq_true_eq]
        repeat' first | (with_reducible exact Ev.now _) | ((with_reducible refine Ev.pos ?_ ?_); omega) | ((with_reducible refine Ev.neg ?_ ?_); omega) | (exfalso; omega) | (with_reducible refine Ev.ite (fun _ => ?_) (fun _ => ?_))
      · simp only [impl_onlyNameBytes.l0]
        repeat' first | (with_reducible exact Ev.now _) | ((with_reducible refine Ev.pos ?_ ?_); omega) | ((with_reducible refine Ev.neg ?_ ?_); omega) | (exfalso; omega) | (with_reducible refine Ev.ite (fun _ => ?_) (fun _ => ?_))
theorem toList_nil (s : ByteArray) : s.toList = ([] : List UInt8) ↔ s.size = 0 := by
  have h : s.toList.length = s.size := toList_size s
  constructor
  · intro e; rw [e] at h; simpa using h.symm
  · intro e; exact List.eq_nil_of_length_eq_zero (by omega)
/-- Both sides tell one and the same of a name; a name is short. -/
theorem name_both (s : ByteArray) (hs : s.size ≤ 9223372036854775807) : ∃ b, Ev (fun k => spec_l01Name.f k s) b ∧ Ev (fun k => impl_IsName.f k s) b ∧ (b = true → 1 ≤ s.size ∧ s.size ≤ 10) := by
  have hn := toList_nil s
  by_cases h : 1 ≤ s.size ∧ s.size ≤ 10 ∧ 97 ≤ bt s 0 ∧ bt s 0 ≤ 122
  · obtain ⟨b, h1, h2⟩ := nameLoop s hs s.size 0 (by omega)
    refine ⟨b, ?_, ?_, fun _ => by omega⟩
    · simp only [spec_l01Name.f, spec_small_eq, Option.bind_some]
      refine Ev.neg (by rw [hn]; omega) (Ev.neg (by omega) (Ev.pos (by omega) (Ev.succ ?_)))
      simp only [spec_l01Name.j0]
      refine Ev.neg (by simp; omega) h1
    · simp only [impl_IsName.f]
      refine Ev.neg (by omega) (Ev.neg (by omega) (Ev.pos (by omega) (Ev.neg (by omega) (Ev.neg (by omega) (Ev.bind h2 (Ev.now _))))))
  · refine ⟨false, ?_, ?_, fun h => by cases h⟩
    · simp only [spec_l01Name.f, spec_small_eq, Option.bind_some]
      by_cases e : s.toList = ([] : List UInt8)
      · refine Ev.pos e (Ev.succ ?_)
        simp only [spec_l01Name.j0]
        exact Ev.pos (by first | rfl | trivial) (Ev.now _)
      · have hz : ¬ s.size = 0 := fun z => e (hn.mpr z)
        refine Ev.neg e ?_
        by_cases g : (s.size : Int) > 10
        · refine Ev.pos g (Ev.succ ?_)
          simp only [spec_l01Name.j0]
          exact Ev.pos (by first | rfl | trivial) (Ev.now _)
        · refine Ev.neg g (Ev.pos (by omega) (Ev.succ ?_))
          simp only [spec_l01Name.j0]
          exact Ev.pos (by simp; omega) (Ev.now _)
    · simp only [impl_IsName.f]
      repeat' first | (with_reducible exact Ev.now _) | ((with_reducible refine Ev.pos ?_ ?_); omega) | ((with_reducible refine Ev.neg ?_ ?_); omega) | (exfalso; omega) | (with_reducible refine Ev.ite (fun _ => ?_) (fun _ => ?_))
end Go.Proofs.Ytnhkamfccoppbaa.QCleanestMix
