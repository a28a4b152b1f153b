/- Histories: both sides hold one and the same for valid. Conditions: none. -/
import Derived.Test.YtnmdljdkbpgdaaaQCommitStatex4
import Derived.Test.YtnmdljdkbpgdaaaQCommitStatex8
import Derived.Test.YtnmdljdkbpgdaaaQCommitStatexL
import Derived.Test.YtnmdljdkbpgdaaaQCommitStatexDStates
import Derived.Test.YtnmdljdkbpgdaaaQCommitStatexDMemo
namespace Go.Proofs.Ytnmdljdkbpgdaaa.QCommitState
open Go.RowKit Go.Proofs.YtnmdljdkbpgdaaaW.PrintWords Go.Proofs.Ytnmdljdkbpgdaaa.QOpen Go.Proofs.Ytnmdljdkbpgdaaa.QEv
set_option linter.unusedVariables false
set_option linter.unusedSimpArgs false
theorem historyLoop (l : List S119) (hl : smL sm119 l) : ∀ d i : Nat, i + d = l.length →
    ∃ b, Ev (fun k => spec_l27Ok.l0 k l (i : Int)) b ∧ (32 < l.length → b = false) ∧ (l.length ≤ 32 → Ev (fun k => impl_ValidHistory.l0 k l (l.length : Int) (i : Int)) b) ∧
      (b = true → ∀ j : Nat, i ≤ j → j < l.length → (l.getD j z119).f0 = (j : Int) + 1 ∧ 0 ≤ (l.getD j z119).f1 ∧ (l.getD j z119).f1 ≤ (j : Int) ∧ (l.getD j z119).f2.size ≤ 20 ∧ (l.getD j z119).f3.length ≤ 24) := by
  have hl0 := hl.1
  intro d
  induction d with
  | zero =>
    intro i hi
    refine ⟨decide ((l.length : Int) ≤ 32), Ev.succ ?_, fun h => by simp; omega, fun h => Ev.succ ?_, fun _ j h1 h2 => by omega⟩
    · simp only [spec_l27Ok.l0]
      exact Ev.neg (by omega) (Ev.now _)
    · simp only [impl_ValidHistory.l0]
      exact Ev.neg (by omega) (Ev.eqn (Ev.now _) (by simp; omega))
  | succ d ih =>
    intro i hi
    obtain ⟨b, h1, h2, h3, h4⟩ := ih (i + 1) (by omega)
    have hsm : sm119 (rd_T119 l (i : Int)) := smL_get hl (j := i) _ (by omega)
    obtain ⟨s0, s1, s2, s3⟩ := hsm
    have s2' : (rd_T119 l (i : Int)).f2.size ≤ 1048576 := s2
    obtain ⟨v, m1, m2, m3⟩ := memo_both (rd_T119 l (i : Int)).f2 (by omega)
    obtain ⟨u, g1, g2, g3⟩ := state_both (rd_T119 l (i : Int)).f3 s3
    by_cases c0 : (rd_T119 l (i : Int)).f0 = ((i + 1 : Nat) : Int)
    · by_cases c1 : 0 ≤ (rd_T119 l (i : Int)).f1 ∧ (rd_T119 l (i : Int)).f1 ≤ (i : Int)
      · cases v with
        | false =>
          refine ⟨false, Ev.succ ?_, fun _ => rfl, fun h => Ev.succ ?_, fun h => by cases h⟩
          · simp only [spec_l27Ok.l0, wnat i (by omega), spec_in_eq, Option.bind_some]
            exact Ev.pos (by omega) (Ev.pos (by omega) (Ev.pos c0 (Ev.pos (by simpa using c1) (Ev.bind m1 (Ev.neg (by decide) (Ev.now _))))))
          · simp only [impl_ValidHistory.l0, wnat i (by omega), impl_within_eq, Option.bind_some]
            exact Ev.pos (by omega) (Ev.pos (by omega) (Ev.pos (by omega) (Ev.pos c0 (Ev.pos (by simpa using c1) (Ev.bind m2 (Ev.neg (by decide) (Ev.now _)))))))
        | true =>
          cases u with
          | false =>
            refine ⟨false, Ev.succ ?_, fun _ => rfl, fun h => Ev.succ ?_, fun h => by cases h⟩
            · simp only [spec_l27Ok.l0, wnat i (by omega), spec_in_eq, Option.bind_some]
              exact Ev.pos (by omega) (Ev.pos (by omega) (Ev.pos c0 (Ev.pos (by simpa using c1) (Ev.bind m1 (Ev.pos rfl (Ev.bind g1 (Ev.neg (by decide) (Ev.now _))))))))
            · simp only [impl_ValidHistory.l0, wnat i (by omega), impl_within_eq, Option.bind_some]
              exact Ev.pos (by omega) (Ev.pos (by omega) (Ev.pos (by omega) (Ev.pos c0 (Ev.pos (by simpa using c1) (Ev.bind m2 (Ev.pos rfl (Ev.bind g2 (Ev.neg (by decide) (Ev.now _)))))))))
          | true =>
            refine ⟨b, Ev.succ ?_, h2, fun h => Ev.succ ?_, fun hb j hj hj2 => ?_⟩
            · simp only [spec_l27Ok.l0, wnat i (by omega), spec_in_eq, Option.bind_some]
              exact Ev.pos (by omega) (Ev.pos (by omega) (Ev.pos c0 (Ev.pos (by simpa using c1) (Ev.bind m1 (Ev.pos rfl (Ev.bind g1 (Ev.pos rfl h1)))))))
            · simp only [impl_ValidHistory.l0, wnat i (by omega), impl_within_eq, Option.bind_some]
              exact Ev.pos (by omega) (Ev.pos (by omega) (Ev.pos (by omega) (Ev.pos c0 (Ev.pos (by simpa using c1) (Ev.bind m2 (Ev.pos rfl (Ev.bind g2 (Ev.pos rfl (h3 h)))))))))
            · by_cases e : j = i
              · subst e
                exact ⟨c0.trans (by omega), c1.1, c1.2, m3 rfl, g3 rfl⟩
              · exact h4 hb j (by omega) hj2
      · refine ⟨false, Ev.succ ?_, fun _ => rfl, fun h => Ev.succ ?_, fun h => by cases h⟩
        · simp only [spec_l27Ok.l0, wnat i (by omega), spec_in_eq, Option.bind_some]
          exact Ev.pos (by omega) (Ev.pos (by omega) (Ev.pos c0 (Ev.neg (by simpa using c1) (Ev.now _))))
        · simp only [impl_ValidHistory.l0, wnat i (by omega), impl_within_eq, Option.bind_some]
          exact Ev.pos (by omega) (Ev.pos (by omega) (Ev.pos (by omega) (Ev.pos c0 (Ev.neg (by simpa using c1) (Ev.now _)))))
    · refine ⟨false, Ev.succ ?_, fun _ => rfl, fun h => Ev.succ ?_, fun h => by cases h⟩
      · simp only [spec_l27Ok.l0, wnat i (by omega)]
        exact Ev.pos (by omega) (Ev.pos (by omega) (Ev.neg c0 (Ev.now _)))
      · simp only [impl_ValidHistory.l0, wnat i (by omega)]
        exact Ev.pos (by omega) (Ev.pos (by omega) (Ev.pos (by omega) (Ev.neg c0 (Ev.now _))))
theorem history_both (l : List S119) (hl : smL sm119 l) : ∃ b, Ev (fun k => spec_l27Ok.f k l) b ∧ Ev (fun k => impl_ValidHistory.f k l) b ∧
    (b = true → l.length ≤ 32 ∧ ∀ j : Nat, j < l.length → (l.getD j z119).f0 = (j : Int) + 1 ∧ 0 ≤ (l.getD j z119).f1 ∧ (l.getD j z119).f1 ≤ (j : Int) ∧ (l.getD j z119).f2.size ≤ 20 ∧ (l.getD j z119).f3.length ≤ 24) := by
  obtain ⟨b, h1, h2, h3, h4⟩ := historyLoop l hl l.length 0 (by omega)
  by_cases h : l.length ≤ 32
  · refine ⟨b, ?_, ?_, fun hb => ⟨h, fun j hj => h4 hb j (by omega) hj⟩⟩
    · simp only [spec_l27Ok.f]
      exact h1
    · simp only [impl_ValidHistory.f]
      exact Ev.neg (by omega) (h3 h)
  · have hb := h2 (by omega)
    subst hb
    refine ⟨false, ?_, ?_, fun h => by cases h⟩
    · simp only [spec_l27Ok.f]
      exact h1
    · simp only [impl_ValidHistory.f]
      exact Ev.pos (by omega) (Ev.now _)
end Go.Proofs.Ytnmdljdkbpgdaaa.QCommitState
