/- NamesI: the program's test of a name comes to an end; a name is short. Conditions: none. -/
import Derived.Test.YtionpndhcijmcaaQGangsx1
import Derived.Test.YtionpndhcijmcaaQGangsxL
namespace Go.Proofs.Ytionpndhcijmcaa.QGangs
open Go.RowKit Go.Proofs.YtionpndhcijmcaaW.PrintWords Go.Proofs.Ytionpndhcijmcaa.QOpen Go.Proofs.Ytionpndhcijmcaa.QEv
set_option linter.unusedVariables false
set_option linter.unusedSimpArgs false
theorem within_eq (a b c : Int) : impl_within.f a b c = some (decide (b ≤ a ∧ a ≤ c)) := by
  unfold impl_within.f
  split <;> simp <;> omega
theorem onlyLoop (s : ByteArray) (hs : s.size ≤ 9223372036854775807) : ∀ d i : Nat, i + d = s.size → ∃ b, Ev (fun k => impl_onlyNameBytes.l0 k s (s.size : Int) (i : Int)) b := by
  intro d
  induction d with
  | zero =>
    intro i hi
    refine ⟨true, Ev.succ ?_⟩
    simp only [impl_onlyNameBytes.l0]
    exact Ev.neg (by omega) (Ev.now _)
  | succ d ih =>
    intro i hi
    obtain ⟨b, h2⟩ := ih (i + 1) (by omega)
    by_cases h : (97 ≤ bt s (i : Int) ∧ bt s (i : Int) ≤ 122) ∨ (48 ≤ bt s (i : Int) ∧ bt s (i : Int) ≤ 57)
    · refine ⟨b, Ev.succ ?_⟩
      simp only [impl_onlyNameBytes.l0, wnat i (by omega)]
      repeat' first | (with_reducible exact h2) | ((with_reducible refine Ev.pos ?_ ?_); omega) | ((with_reducible refine Ev.neg ?_ ?_); omega) | (exfalso; omega) | (with_reducible refine Ev.ite (fun _ => ?_) (fun _ => ?_))
    · refine ⟨false, Ev.succ ?_⟩
      simp only [impl_onlyNameBytes.l0]
      repeat' first | (with_reducible exact Ev.now _) | ((with_reducible refine Ev.pos ?_ ?_); omega) | ((with_reducible refine Ev.neg ?_ ?_); omega) | (exfalso; omega) | (with_reducible refine Ev.ite (fun _ => ?_) (fun _ => ?_))
theorem nameI (s : ByteArray) (hs : s.size ≤ 9223372036854775807) : ∃ b, Ev (fun k => impl_IsName.f k s) b := by
  obtain ⟨b, h2⟩ := onlyLoop s hs s.size 0 (by omega)
  by_cases h : 1 ≤ s.size ∧ s.size ≤ 10 ∧ 97 ≤ bt s 0 ∧ bt s 0 ≤ 122
  · refine ⟨b, ?_⟩
    simp only [impl_IsName.f]
    exact Ev.neg (by omega) (Ev.neg (by omega) (Ev.pos (by omega) (Ev.neg (by omega) (Ev.neg (by omega) (Ev.bind h2 (Ev.now _))))))
  · refine ⟨false, ?_⟩
    simp only [impl_IsName.f]
    repeat' first | (with_reducible exact Ev.now _) | ((with_reducible refine Ev.pos ?_ ?_); omega) | ((with_reducible refine Ev.neg ?_ ?_); omega) | (exfalso; omega) | (with_reducible refine Ev.ite (fun _ => ?_) (fun _ => ?_))
end Go.Proofs.Ytionpndhcijmcaa.QGangs
