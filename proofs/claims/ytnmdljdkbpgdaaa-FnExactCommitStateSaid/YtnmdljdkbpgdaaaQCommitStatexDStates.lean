/- States of versions: both sides hold one and the same for valid. Conditions: none. -/
import Derived.Test.YtnmdljdkbpgdaaaQCommitStatex3
import Derived.Test.YtnmdljdkbpgdaaaQCommitStatex4
import Derived.Test.YtnmdljdkbpgdaaaQCommitStatex6
import Derived.Test.YtnmdljdkbpgdaaaQCommitStatex7
import Derived.Test.YtnmdljdkbpgdaaaQCommitStatexL
import Derived.Test.YtnmdljdkbpgdaaaQCommitStatexDNames
namespace Go.Proofs.Ytnmdljdkbpgdaaa.QCommitState
open Go.RowKit Go.Proofs.YtnmdljdkbpgdaaaW.PrintWords Go.Proofs.Ytnmdljdkbpgdaaa.QOpen Go.Proofs.Ytnmdljdkbpgdaaa.QEv
set_option linter.unusedVariables false
set_option linter.unusedSimpArgs false
theorem setting_both (x : S157) (hx : x.f0.size ≤ 9223372036854775807) : ∃ b, Ev (fun k => spec_l27Setting.f k x.f0 x.f1) b ∧ Ev (fun k => impl_Setting_valid.f k x.f0 x.f1) b := by
  obtain ⟨b, h1, h2, _⟩ := name_both x.f0 hx
  cases b with
  | false =>
    refine ⟨false, ?_, ?_⟩
    · simp only [spec_l27Setting.f]
      exact Ev.bind h1 (Ev.neg (by decide) (Ev.now _))
    · simp only [impl_Setting_valid.f]
      exact Ev.bind h2 (Ev.neg (by decide) (Ev.now _))
  | true =>
    refine ⟨decide (0 ≤ x.f1 ∧ x.f1 ≤ 1000), ?_, ?_⟩
    · simp only [spec_l27Setting.f, spec_in_eq, Option.bind_some]
      exact Ev.bind h1 (Ev.pos rfl (Ev.now _))
    · simp only [impl_Setting_valid.f, impl_within_eq, Option.bind_some]
      exact Ev.bind h2 (Ev.pos rfl (Ev.now _))
theorem stateLoop (l : List S157) (hl : smL sm157 l) : ∀ d i : Nat, i + d = l.length →
    ∃ b, Ev (fun k => spec_l27State.l0 k l (i : Int)) b ∧ (24 < l.length → b = false) ∧ (l.length ≤ 24 → Ev (fun k => impl_ValidState.l0 k l l (l.length : Int) (i : Int)) b) := by
  have hl0 := hl.1
  intro d
  induction d with
  | zero =>
    intro i hi
    refine ⟨decide ((l.length : Int) ≤ 24), Ev.succ ?_, fun h => by simp; omega, fun h => Ev.succ ?_⟩
    · simp only [spec_l27State.l0]
      exact Ev.neg (by omega) (Ev.now _)
    · simp only [impl_ValidState.l0]
      refine Ev.neg (by omega) (Ev.eqn (Ev.now _) (by simp; omega))
  | succ d ih =>
    intro i hi
    obtain ⟨b, h1, h2, h3⟩ := ih (i + 1) (by omega)
    have hsm : sm157 (rd_T157 l (i : Int)) := smL_get hl (j := i) _ (by omega)
    have hsz : (rd_T157 l (i : Int)).f0.size ≤ 1048576 := hsm.1
    obtain ⟨v, g1, g2⟩ := setting_both (rd_T157 l (i : Int)) (by omega)
    cases v with
    | false =>
      refine ⟨false, Ev.succ ?_, fun _ => rfl, fun h => Ev.succ ?_⟩
      · simp only [spec_l27State.l0]
        exact Ev.pos (by omega) (Ev.pos (by omega) (Ev.bind g1 (Ev.neg (by decide) (Ev.now _))))
      · simp only [impl_ValidState.l0]
        exact Ev.pos (by omega) (Ev.pos (by omega) (Ev.pos (by omega) (Ev.bind g2 (Ev.neg (by decide) (Ev.now _)))))
    | true =>
      by_cases h0 : 0 < i
      · have w : wrap64 ((i : Int) - 1) = (i : Int) - 1 := wid (by omega) (by omega)
        by_cases hc : (Op.bytesLess (((rd_T157 l ((i : Int) - 1)).f0).toList) (((rd_T157 l (i : Int)).f0).toList)) = true
        · refine ⟨b, Ev.succ ?_, h2, fun h => Ev.succ ?_⟩
          · simp only [spec_l27State.l0, w, wnat i (by omega)]
            exact Ev.pos (by omega) (Ev.pos (by omega) (Ev.bind g1 (Ev.pos rfl (Ev.pos (by omega) (Ev.pos (by omega) (Ev.pos (by omega) (Ev.pos hc h1)))))))
          · simp only [impl_ValidState.l0, w, wnat i (by omega)]
            exact Ev.pos (by omega) (Ev.pos (by omega) (Ev.pos (by omega) (Ev.bind g2 (Ev.pos rfl (Ev.pos (by omega) (Ev.pos (by omega) (Ev.pos (by omega) (Ev.pos hc (h3 h)))))))))
        · refine ⟨false, Ev.succ ?_, fun _ => rfl, fun h => Ev.succ ?_⟩
          · simp only [spec_l27State.l0, w]
            exact Ev.pos (by omega) (Ev.pos (by omega) (Ev.bind g1 (Ev.pos rfl (Ev.pos (by omega) (Ev.pos (by omega) (Ev.pos (by omega) (Ev.neg hc (Ev.now _))))))))
          · simp only [impl_ValidState.l0, w]
            exact Ev.pos (by omega) (Ev.pos (by omega) (Ev.pos (by omega) (Ev.bind g2 (Ev.pos rfl (Ev.pos (by omega) (Ev.pos (by omega) (Ev.pos (by omega) (Ev.neg hc (Ev.now _)))))))))
      · refine ⟨b, Ev.succ ?_, h2, fun h => Ev.succ ?_⟩
        · simp only [spec_l27State.l0, wnat i (by omega)]
          exact Ev.pos (by omega) (Ev.pos (by omega) (Ev.bind g1 (Ev.pos rfl (Ev.neg (by omega) h1))))
        · simp only [impl_ValidState.l0, wnat i (by omega)]
          exact Ev.pos (by omega) (Ev.pos (by omega) (Ev.pos (by omega) (Ev.bind g2 (Ev.pos rfl (Ev.neg (by omega) (h3 h))))))
/-- Both sides tell one and the same of a state; a valid one is short. -/
theorem state_both (l : List S157) (hl : smL sm157 l) : ∃ b, Ev (fun k => spec_l27State.f k l) b ∧ Ev (fun k => impl_ValidState.f k l) b ∧ (b = true → l.length ≤ 24) := by
  obtain ⟨b, h1, h2, h3⟩ := stateLoop l hl l.length 0 (by omega)
  by_cases h : l.length ≤ 24
  · refine ⟨b, ?_, ?_, fun _ => h⟩
    · simp only [spec_l27State.f]
      exact h1
    · simp only [impl_ValidState.f]
      exact Ev.neg (by omega) (h3 h)
  · have hb := h2 (by omega)
    subst hb
    refine ⟨false, ?_, ?_, fun h => by cases h⟩
    · simp only [spec_l27State.f]
      exact h1
    · simp only [impl_ValidState.f]
      exact Ev.pos (by omega) (Ev.now _)
end Go.Proofs.Ytnmdljdkbpgdaaa.QCommitState
