/- DutiesS: as Duties, and each duty lies behind the one before it. Conditions: none. -/
import Derived.Test.YtjccjmjnlblhaaaQRestProblemsx3
import Derived.Test.YtjccjmjnlblhaaaQRestProblemsx4
import Derived.Test.YtjccjmjnlblhaaaQRestProblemsx5
import Derived.Test.YtjccjmjnlblhaaaQRestProblemsxL
import Derived.Test.YtjccjmjnlblhaaaQRestProblemsxDNames
import Derived.Test.YtjccjmjnlblhaaaQRestProblemsxDCmp
import Derived.Test.YtjccjmjnlblhaaaQRestProblemsxDDutyOne
namespace Go.Proofs.Ytjccjmjnlblhaaa.QRestProblems
open Go.RowKit Go.Proofs.YtjccjmjnlblhaaaW.PrintWords Go.Proofs.Ytjccjmjnlblhaaa.QOpen Go.Proofs.Ytjccjmjnlblhaaa.QEv
set_option linter.unusedVariables false
set_option linter.unusedSimpArgs false
theorem cmp_string_eq (a b : ByteArray) : cmp_Compare_string.f a b = some (if Op.bytesLess a.toList b.toList = true then -1 else if Op.bytesLess b.toList a.toList = true then 1 else 0) := by
  simp [cmp_Compare_string.f, cmp_isNaN_string.f]
  repeat' split <;> simp_all
theorem cmp_int_eq (a b : Int) : cmp_Compare_int64.f a b = some (if a < b then -1 else if a > b then 1 else 0) := by
  simp [cmp_Compare_int64.f, cmp_isNaN_int64.f]
  repeat' split <;> simp_all
theorem or_ev (x y : Int) : Ev (fun k => cmp_Or_int.f k [x, y]) (if x = 0 then y else x) := by
  simp only [cmp_Or_int.f]
  refine Ev.succ ?_
  simp only [cmp_Or_int.l0, show rd [x, y] 0 = x from rfl, show ([x, y] : List Int).length = 2 from rfl, show wrap64 (0 + 1) = 1 from wid (by decide) (by decide)]
  refine Ev.pos (by decide) (Ev.pos (by decide) (Ev.pos (by decide) ?_))
  by_cases h : x = 0
  · rw [if_pos h]
    refine Ev.pos h (Ev.succ ?_)
    simp only [cmp_Or_int.l0, show rd [x, y] 1 = y from rfl, show ([x, y] : List Int).length = 2 from rfl, show wrap64 (1 + 1) = 2 from wid (by decide) (by decide)]
    refine Ev.pos (by decide) (Ev.pos (by decide) (Ev.pos (by decide) ?_))
    by_cases g : y = 0
    · refine Ev.pos g (Ev.succ ?_)
      simp only [cmp_Or_int.l0, show ([x, y] : List Int).length = 2 from rfl]
      exact Ev.neg (by decide) (Ev.eqn (Ev.now _) g.symm)
    · exact Ev.neg g (Ev.now _)
  · rw [if_neg h]
    exact Ev.neg h (Ev.now _)
theorem compare_ev (x y : S44) : Ev (fun k => impl_compareDuties.f k x.f0 x.f1 x.f2 x.f3 y.f0 y.f1 y.f2 y.f3)
    (if Op.bytesLess x.f0.toList y.f0.toList = true then -1 else if Op.bytesLess y.f0.toList x.f0.toList = true then 1 else if x.f1 < y.f1 then -1 else if x.f1 > y.f1 then 1 else 0) := by
  simp only [impl_compareDuties.f, cmp_string_eq, cmp_int_eq, Option.bind_some]
  refine Ev.bind (or_ev _ _) (Ev.eqn (Ev.now _) ?_)
  repeat' split <;> simp_all
def dlt (p q : S44) : Prop := Op.bytesLess p.f0.toList q.f0.toList = true ∨ (p.f0.toList = q.f0.toList ∧ p.f1 < q.f1)
def dov (p q : S44) : Prop := p.f0.toList = q.f0.toList → p.f1 + p.f2 ≤ q.f1
def DutyAt (l : List S44) (j : Nat) : Prop := DutyOk (l.getD j z44) ∧ (0 < j → dlt (l.getD (j - 1) z44) (l.getD j z44)) ∧ (0 < j → dov (l.getD (j - 1) z44) (l.getD j z44))
theorem dutyLoop (l : List S44) (hl : smL sm44 l) : ∀ d i : Nat, i + d = l.length → (0 < i → DutyOk (rd_T44 l ((i : Int) - 1))) →
    ∃ b, Ev (fun k => spec_l26Ok.l0 k l (i : Int)) b ∧ (32 < l.length → b = false) ∧ (l.length ≤ 32 → Ev (fun k => impl_ValidDuties.l0 k l l (l.length : Int) (i : Int)) b) ∧
      (b = true → ∀ j, i ≤ j → j < l.length → DutyAt l j) := by
  have hl0 := hl.1
  intro d
  induction d with
  | zero =>
    intro i hi hp
    refine ⟨decide ((l.length : Int) ≤ 32), Ev.succ ?_, fun h => by simp; omega, fun h => Ev.succ ?_, fun _ j h1 h2 => by omega⟩
    · simp only [spec_l26Ok.l0]
      exact Ev.neg (by omega) (Ev.now _)
    · simp only [impl_ValidDuties.l0]
      exact Ev.neg (by omega) (Ev.eqn (Ev.now _) (by simp; omega))
  | succ d ih =>
    intro i hi hp
    have hsm : sm44 (rd_T44 l (i : Int)) := smL_get hl (j := i) _ (by omega)
    have hsz : (rd_T44 l (i : Int)).f0.size ≤ 1048576 := hsm.1
    obtain ⟨v, g1, g2, g3⟩ := duty_both (rd_T44 l (i : Int)) (by omega)
    cases v with
    | false =>
      refine ⟨false, Ev.succ ?_, fun _ => rfl, fun h => Ev.succ ?_, fun h => by cases h⟩
      · simp only [spec_l26Ok.l0]
        exact Ev.pos (by omega) (Ev.pos (by omega) (Ev.bind g1 (Ev.neg (by decide) (Ev.now _))))
      · simp only [impl_ValidDuties.l0]
        refine Ev.pos (by omega) (Ev.pos (by omega) (Ev.pos (by omega) (Ev.bind g2 (Ev.neg (by decide) (Ev.succ ?_)))))
        simp only [impl_ValidDuties.j1]
        exact Ev.pos (by first | rfl | trivial) (Ev.now _)
    | true =>
      have hok := g3 rfl
      obtain ⟨b, h1, h2, h3, h4⟩ := ih (i + 1) (by omega) (fun _ => by rw [show ((i + 1 : Nat) : Int) - 1 = (i : Int) by omega]; exact hok)
      have h4' : (0 < i → dlt (l.getD (i - 1) z44) (l.getD i z44) ∧ dov (l.getD (i - 1) z44) (l.getD i z44)) → b = true → ∀ j, i ≤ j → j < l.length → DutyAt l j := fun hA hb j hj hj2 => by
        by_cases e : j = i
        · subst e; exact ⟨hok, fun z => (hA z).1, fun z => (hA z).2⟩
        · exact h4 hb j (by omega) hj2
      by_cases h0 : 0 < i
      · have w : wrap64 ((i : Int) - 1) = (i : Int) - 1 := wid (by omega) (by omega)
        have hq := hp h0
        have hd : dlt (rd_T44 l ((i : Int) - 1)) (rd_T44 l (i : Int)) ∧ dov (rd_T44 l ((i : Int) - 1)) (rd_T44 l (i : Int)) → dlt (l.getD (i - 1) z44) (l.getD i z44) ∧ dov (l.getD (i - 1) z44) (l.getD i z44) := by
          have e : ((i : Int) - 1).toNat = i - 1 := by omega
          have h : rd_T44 l ((i : Int) - 1) = l.getD (i - 1) z44 := by
            show l.getD _ _ = _
            rw [e]
          rw [h]
          exact id
        have hcmp := compare_ev (rd_T44 l ((i : Int) - 1)) (rd_T44 l (i : Int))
        generalize ep : rd_T44 l ((i : Int) - 1) = p at *
        generalize eq : rd_T44 l (i : Int) = q at *
        obtain ⟨_, _, q1, q2, q3, q4⟩ := hq
        have w2 : wrap64 (p.f1 + p.f2) = p.f1 + p.f2 := wid (by omega) (by omega)
        rcases hA : Op.bytesLess p.f0.toList q.f0.toList with _ | _
        · rcases hB : Op.bytesLess q.f0.toList p.f0.toList with _ | _
          · -- one person
            have he := less_eq hA hB
            simp only [hA, hB] at hcmp
            by_cases c1 : p.f1 < q.f1
            · by_cases c2 : p.f1 + p.f2 > q.f1
              · refine ⟨false, Ev.succ ?_, fun _ => rfl, fun h => Ev.succ ?_, fun h => by cases h⟩
                · simp only [spec_l26Ok.l0, w, ep, eq, w2, hB]
                  exact Ev.pos (by omega) (Ev.pos (by omega) (Ev.bind g1 (Ev.pos rfl (Ev.pos (by omega) (Ev.pos (by omega) (Ev.pos (by omega) (Ev.neg (by decide) (Ev.pos he (Ev.pos c2 (Ev.now _))))))))))
                · simp only [impl_ValidDuties.l0, w, ep, eq]
                  refine Ev.pos (by omega) (Ev.pos (by omega) (Ev.pos (by omega) (Ev.bind g2 (Ev.pos rfl (Ev.pos (by omega) (Ev.pos (by omega) (Ev.pos (by omega) (Ev.bind hcmp (Ev.succ ?_)))))))))
                  simp only [impl_ValidDuties.j1, w, ep, eq, w2, impl_Duty_end.f, Option.bind_some]
                  refine Ev.neg (by simp [c1]) (Ev.pos (by omega) (Ev.pos (by omega) (Ev.pos (by omega) (Ev.pos he (Ev.pos c2 (Ev.now _))))))
              · refine ⟨b, Ev.succ ?_, h2, fun h => Ev.succ ?_, h4' (fun _ => hd ⟨Or.inr ⟨he, c1⟩, fun _ => by omega⟩)⟩
                · simp only [spec_l26Ok.l0, w, ep, eq, w2, hB, wnat i (by omega)]
                  exact Ev.pos (by omega) (Ev.pos (by omega) (Ev.bind g1 (Ev.pos rfl (Ev.pos (by omega) (Ev.pos (by omega) (Ev.pos (by omega) (Ev.neg (by decide) (Ev.pos he (Ev.neg c2 h1)))))))))
                · simp only [impl_ValidDuties.l0, w, ep, eq]
                  refine Ev.pos (by omega) (Ev.pos (by omega) (Ev.pos (by omega) (Ev.bind g2 (Ev.pos rfl (Ev.pos (by omega) (Ev.pos (by omega) (Ev.pos (by omega) (Ev.bind hcmp (Ev.succ ?_)))))))))
                  simp only [impl_ValidDuties.j1, w, ep, eq, w2, impl_Duty_end.f, Option.bind_some, wnat i (by omega)]
                  refine Ev.neg (by simp [c1]) (Ev.pos (by omega) (Ev.pos (by omega) (Ev.pos (by omega) (Ev.pos he (Ev.neg c2 (h3 h))))))
            · refine ⟨false, Ev.succ ?_, fun _ => rfl, fun h => Ev.succ ?_, fun h => by cases h⟩
              · simp only [spec_l26Ok.l0, w, ep, eq, w2, hB]
                exact Ev.pos (by omega) (Ev.pos (by omega) (Ev.bind g1 (Ev.pos rfl (Ev.pos (by omega) (Ev.pos (by omega) (Ev.pos (by omega) (Ev.neg (by decide) (Ev.pos he (Ev.pos (by omega) (Ev.now _))))))))))
              · simp only [impl_ValidDuties.l0, w, ep, eq]
                refine Ev.pos (by omega) (Ev.pos (by omega) (Ev.pos (by omega) (Ev.bind g2 (Ev.pos rfl (Ev.pos (by omega) (Ev.pos (by omega) (Ev.pos (by omega) (Ev.bind hcmp (Ev.succ ?_)))))))))
                simp only [impl_ValidDuties.j1, w, ep, eq]
                refine Ev.pos (by simp only [Bool.false_eq_true, if_false, c1, decide_eq_true_eq]; split <;> omega) (Ev.now _)
          · -- the later one first
            have hne : ¬ p.f0.toList = q.f0.toList := fun e => less_ne hB e.symm
            simp only [hA, hB] at hcmp
            refine ⟨false, Ev.succ ?_, fun _ => rfl, fun h => Ev.succ ?_, fun h => by cases h⟩
            · simp only [spec_l26Ok.l0, w, ep, eq, hB]
              exact Ev.pos (by omega) (Ev.pos (by omega) (Ev.bind g1 (Ev.pos rfl (Ev.pos (by omega) (Ev.pos (by omega) (Ev.pos (by omega) (Ev.pos (by first | rfl | trivial) (Ev.now _))))))))
            · simp only [impl_ValidDuties.l0, w, ep, eq]
              refine Ev.pos (by omega) (Ev.pos (by omega) (Ev.pos (by omega) (Ev.bind g2 (Ev.pos rfl (Ev.pos (by omega) (Ev.pos (by omega) (Ev.pos (by omega) (Ev.bind hcmp (Ev.succ ?_)))))))))
              simp only [impl_ValidDuties.j1, w, ep, eq]
              refine Ev.pos (by simp) (Ev.now _)
        · -- in order
          have hB := less_asymm hA
          have hne := less_ne hA
          simp only [hA] at hcmp
          refine ⟨b, Ev.succ ?_, h2, fun h => Ev.succ ?_, h4' (fun _ => hd ⟨Or.inl hA, fun z => absurd z hne⟩)⟩
          · simp only [spec_l26Ok.l0, w, ep, eq, hB, wnat i (by omega)]
            exact Ev.pos (by omega) (Ev.pos (by omega) (Ev.bind g1 (Ev.pos rfl (Ev.pos (by omega) (Ev.pos (by omega) (Ev.pos (by omega) (Ev.neg (by decide) (Ev.neg hne h1))))))))
          · simp only [impl_ValidDuties.l0, w, ep, eq]
            refine Ev.pos (by omega) (Ev.pos (by omega) (Ev.pos (by omega) (Ev.bind g2 (Ev.pos rfl (Ev.pos (by omega) (Ev.pos (by omega) (Ev.pos (by omega) (Ev.bind hcmp (Ev.succ ?_)))))))))
            simp only [impl_ValidDuties.j1, w, ep, eq, wnat i (by omega)]
            refine Ev.neg (by simp) (Ev.pos (by omega) (Ev.pos (by omega) (Ev.pos (by omega) (Ev.neg hne (h3 h)))))
      · refine ⟨b, Ev.succ ?_, h2, fun h => Ev.succ ?_, h4' (fun z => absurd z h0)⟩
        · simp only [spec_l26Ok.l0, wnat i (by omega)]
          exact Ev.pos (by omega) (Ev.pos (by omega) (Ev.bind g1 (Ev.pos rfl (Ev.neg (by omega) h1))))
        · simp only [impl_ValidDuties.l0]
          refine Ev.pos (by omega) (Ev.pos (by omega) (Ev.pos (by omega) (Ev.bind g2 (Ev.pos rfl (Ev.neg (by omega) (Ev.succ ?_))))))
          simp only [impl_ValidDuties.j1, wnat i (by omega)]
          refine Ev.neg (by simp) (Ev.neg (by omega) (h3 h))
theorem duties_both (l : List S44) (hl : smL sm44 l) : ∃ b, Ev (fun k => spec_l26Ok.f k l) b ∧ Ev (fun k => impl_ValidDuties.f k l) b ∧ (b = true → l.length ≤ 32 ∧ ∀ j, j < l.length → DutyAt l j) := by
  obtain ⟨b, h1, h2, h3, h4⟩ := dutyLoop l hl l.length 0 (by omega) (fun h => by omega)
  by_cases h : l.length ≤ 32
  · refine ⟨b, ?_, ?_, fun hb => ⟨h, fun j hj => h4 hb j (by omega) hj⟩⟩
    · simp only [spec_l26Ok.f]
      exact h1
    · simp only [impl_ValidDuties.f]
      exact Ev.neg (by omega) (h3 h)
  · have hb := h2 (by omega)
    subst hb
    refine ⟨false, ?_, ?_, fun h => by cases h⟩
    · simp only [spec_l26Ok.f]
      exact h1
    · simp only [impl_ValidDuties.f]
      exact Ev.pos (by omega) (Ev.now _)
end Go.Proofs.Ytjccjmjnlblhaaa.QRestProblems
