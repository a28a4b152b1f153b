/- Line: a version and all from which it comes, by both sides. Conditions: none. -/
import Derived.Test.YtnmdljdkbpgdaaaQAncestorsOfx5
import Derived.Test.YtnmdljdkbpgdaaaQAncestorsOfx7
import Derived.Test.YtnmdljdkbpgdaaaQAncestorsOfxL
import Derived.Test.YtnmdljdkbpgdaaaQAncestorsOfxDHistory
namespace Go.Proofs.Ytnmdljdkbpgdaaa.QAncestorsOf
open Go.RowKit Go.Proofs.YtnmdljdkbpgdaaaW.PrintWords Go.Proofs.Ytnmdljdkbpgdaaa.QOpen Go.Proofs.Ytnmdljdkbpgdaaa.QEv
set_option linter.unusedVariables false
set_option linter.unusedSimpArgs false
def HistOk (l : List S119) : Prop := l.length ≤ 32 ∧ ∀ j : Nat, j < l.length → 0 ≤ (l.getD j z119).f1 ∧ (l.getD j z119).f1 ≤ (j : Int)
theorem line_both (l : List S119) (ok : HistOk l) : ∀ (m n : Nat), n ≤ m → n ≤ l.length → ∃ r : List Int, r.length ≤ n ∧ (n = 0 → r = []) ∧ (0 < n → ∃ t, r = (n : Int) :: t) ∧
    ∀ acc : List Int, acc.length + n ≤ 1000 → Ev (fun k => impl_lineOf.l0 k l (n : Int) acc) (acc ++ r) ∧ Ev (fun k => spec_l27Above.l0 k l (n : Int) acc) (acc ++ r.tail) := by
  obtain ⟨hl, hp⟩ := ok
  intro m
  induction m with
  | zero =>
    intro n hn hn2
    have e : n = 0 := by omega
    subst e
    refine ⟨[], by simp, fun _ => rfl, fun h => by omega, fun acc ha => ⟨Ev.succ ?_, Ev.succ ?_⟩⟩
    · simp only [impl_lineOf.l0]
      exact Ev.neg (by omega) (Ev.eqn (Ev.now _) (by simp))
    · simp only [spec_l27Above.l0]
      exact Ev.pos (by omega) (Ev.eqn (Ev.now _) (by simp))
  | succ m ih =>
    intro n hn hn2
    by_cases c : n = 0
    · subst c
      exact ih 0 (by omega) (by omega)
    · obtain ⟨p0, p1⟩ := hp (n - 1) (by omega)
      have w : wrap64 ((n : Int) - 1) = ((n - 1 : Nat) : Int) := by rw [wid (by omega) (by omega)]; omega
      have er : rd_T119 l ((n - 1 : Nat) : Int) = l.getD (n - 1) z119 := rfl
      obtain ⟨p, ep⟩ : ∃ p : Nat, (l.getD (n - 1) z119).f1 = (p : Int) := ⟨_, (Int.toNat_of_nonneg p0).symm⟩
      obtain ⟨r, r1, r2, r3, r4⟩ := ih p (by omega) (by omega)
      refine ⟨(n : Int) :: r, by simp; omega, fun h => by omega, fun _ => ⟨r, rfl⟩, fun acc ha => ⟨Ev.succ ?_, Ev.succ ?_⟩⟩
      · have h1 := (r4 (acc ++ [(n : Int)]) (by simp; omega)).1
        simp only [impl_lineOf.l0, w, er, ep]
        exact Ev.pos (by omega) (Ev.pos (by omega) (Ev.pos (by omega) (Ev.pos (by omega) (Ev.eqn h1 (by simp)))))
      · simp only [spec_l27Above.l0, w, er, ep, List.tail_cons]
        refine Ev.neg (by omega) (Ev.pos (by omega) (Ev.pos (by omega) ?_))
        by_cases cp : p = 0
        · have h2 := (r4 acc (by omega)).2
          rw [r2 cp] at h2 ⊢
          exact Ev.pos (by omega) h2
        · obtain ⟨t, et⟩ := r3 (by omega)
          have h2 := (r4 (acc ++ [(p : Int)]) (by simp; omega)).2
          rw [et] at h2 ⊢
          exact Ev.neg (by omega) (Ev.pos (by omega) (Ev.eqn h2 (by simp)))
theorem line_ends (l : List S119) (ok : HistOk l) (a : Int) (h0 : 1 ≤ a) (h1 : a ≤ (l.length : Int)) : ∃ t : List Int, t.length ≤ 31 ∧ Ev (fun k => impl_lineOf.f k l a) (a :: t) ∧ Ev (fun k => spec_l27Above.f k l a) t := by
  obtain ⟨n, rfl⟩ : ∃ n : Nat, a = (n : Int) := ⟨a.toNat, by omega⟩
  obtain ⟨r, r1, r2, r3, r4⟩ := line_both l ok n n (Nat.le_refl _) (by omega)
  obtain ⟨t, rfl⟩ := r3 (by omega)
  obtain ⟨g1, g2⟩ := r4 [] (by have := ok.1; simp; omega)
  have := ok.1
  refine ⟨t, by simp at r1; omega, ?_, ?_⟩
  · simp only [impl_lineOf.f]
    exact Ev.eqn g1 (by simp)
  · simp only [spec_l27Above.f]
    exact Ev.eqn g2 (by simp)
end Go.Proofs.Ytnmdljdkbpgdaaa.QAncestorsOf
