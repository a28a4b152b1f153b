/- Repairs: both sides hold one and the same for valid, and give one and the same code to an order and a number of gangs. Conditions: lists that a program can have. -/
import Derived.Test.YtionpndhcijmcaaQFewestGangsx3
import Derived.Test.YtionpndhcijmcaaQFewestGangsx4
import Derived.Test.YtionpndhcijmcaaQFewestGangsx6
import Derived.Test.YtionpndhcijmcaaQFewestGangsx7
import Derived.Test.YtionpndhcijmcaaQFewestGangsx8
import Derived.Test.YtionpndhcijmcaaQFewestGangsxL
import Derived.Test.YtionpndhcijmcaaQFewestGangsxDNames
import Derived.Test.YtionpndhcijmcaaQFewestGangsxDLists
namespace Go.Proofs.Ytionpndhcijmcaa.QFewestGangs
open Go.RowKit Go.Proofs.YtionpndhcijmcaaW.PrintWords Go.Proofs.Ytionpndhcijmcaa.QOpen Go.Proofs.Ytionpndhcijmcaa.QEv
set_option linter.unusedVariables false
set_option linter.unusedSimpArgs false
def RepairOk (x : S47) : Prop := 1 ≤ x.f1 ∧ x.f1 ≤ 100 ∧ 0 ≤ x.f2 ∧ x.f2 ≤ 100000 ∧ 0 ≤ x.f3 ∧ x.f3 ≤ 1000
theorem repair_both (x : S47) (hx : x.f0.size ≤ 9223372036854775807) : ∃ b, Ev (fun k => spec_l20One.f k x.f0 x.f1 x.f2 x.f3) b ∧ Ev (fun k => impl_Repair_valid.f k x.f0 x.f1 x.f2 x.f3) b ∧ (b = true → RepairOk x) := by
  obtain ⟨b, h1, h2, h3⟩ := name_both x.f0 hx
  simp only [spec_l20One.f, impl_Repair_valid.f, spec_in_eq, impl_within_eq, Option.bind_some, decide_eq_true_eq]
  cases b with
  | false => exact ⟨false, Ev.bind h1 (Ev.neg (by decide) (Ev.now _)), Ev.bind h2 (Ev.neg (by decide) (Ev.now _)), fun h => by cases h⟩
  | true =>
    by_cases c : 1 ≤ x.f1 ∧ x.f1 ≤ 100
    · by_cases c2 : 0 ≤ x.f2 ∧ x.f2 ≤ 100000
      · refine ⟨decide (0 ≤ x.f3 ∧ x.f3 ≤ 1000), Ev.bind h1 (Ev.pos rfl (Ev.pos c (Ev.pos c2 (Ev.now _)))), Ev.bind h2 (Ev.pos rfl (Ev.pos c (Ev.pos c2 (Ev.now _)))), fun h => ?_⟩
        have := of_decide_eq_true h
        unfold RepairOk
        omega
      · exact ⟨false, Ev.bind h1 (Ev.pos rfl (Ev.pos c (Ev.neg c2 (Ev.now _)))), Ev.bind h2 (Ev.pos rfl (Ev.pos c (Ev.neg c2 (Ev.now _)))), fun h => by cases h⟩
    · exact ⟨false, Ev.bind h1 (Ev.pos rfl (Ev.neg c (Ev.now _))), Ev.bind h2 (Ev.pos rfl (Ev.neg c (Ev.now _))), fun h => by cases h⟩
theorem repairLoop (l : List S47) (hl : smL sm47 l) : ∀ d i : Nat, i + d = l.length →
    ∃ b, Ev (fun k => spec_l20Ok.l0 k l (i : Int)) b ∧ (8 < l.length → b = false) ∧ (l.length ≤ 8 → Ev (fun k => impl_ValidRepairs.l0 k l l (l.length : Int) (i : Int)) b) ∧
      (b = true → ∀ j, i ≤ j → j < l.length → RepairOk (l.getD j z47)) := by
  have hl0 := hl.1
  intro d
  induction d with
  | zero =>
    intro i hi
    refine ⟨decide ((l.length : Int) ≤ 8), Ev.succ ?_, fun h => by simp; omega, fun h => Ev.succ ?_, fun _ j h1 h2 => by omega⟩
    · simp only [spec_l20Ok.l0]
      exact Ev.neg (by omega) (Ev.now _)
    · simp only [impl_ValidRepairs.l0]
      exact Ev.neg (by omega) (Ev.eqn (Ev.now _) (by simp; omega))
  | succ d ih =>
    intro i hi
    have hsm : sm47 (rd_T47 l (i : Int)) := smL_get hl (j := i) _ (by omega)
    have hsz : (rd_T47 l (i : Int)).f0.size ≤ 1048576 := hsm.1
    obtain ⟨v, g1, g2, g3⟩ := repair_both (rd_T47 l (i : Int)) (by omega)
    cases v with
    | false =>
      refine ⟨false, Ev.succ ?_, fun _ => rfl, fun h => Ev.succ ?_, fun h => by cases h⟩
      · simp only [spec_l20Ok.l0]
        exact Ev.pos (by omega) (Ev.pos (by omega) (Ev.bind g1 (Ev.neg (by decide) (Ev.now _))))
      · simp only [impl_ValidRepairs.l0]
        exact Ev.pos (by omega) (Ev.pos (by omega) (Ev.pos (by omega) (Ev.bind g2 (Ev.neg (by decide) (Ev.now _)))))
    | true =>
      have hok := g3 rfl
      obtain ⟨b, h1, h2, h3, h4⟩ := ih (i + 1) (by omega)
      have h4' : b = true → ∀ j, i ≤ j → j < l.length → RepairOk (l.getD j z47) := fun hb j hj hj2 => by
        by_cases e : j = i
        · subst e; exact hok
        · exact h4 hb j (by omega) hj2
      by_cases h0 : 0 < i
      · have w : wrap64 ((i : Int) - 1) = (i : Int) - 1 := wid (by omega) (by omega)
        rcases hA : Op.bytesLess (rd_T47 l ((i : Int) - 1)).f0.toList (rd_T47 l (i : Int)).f0.toList with _ | _
        · refine ⟨false, Ev.succ ?_, fun _ => rfl, fun h => Ev.succ ?_, fun h => by cases h⟩
          · simp only [spec_l20Ok.l0, w, hA]
            exact Ev.pos (by omega) (Ev.pos (by omega) (Ev.bind g1 (Ev.pos rfl (Ev.pos (by omega) (Ev.pos (by omega) (Ev.pos (by omega) (Ev.neg (by decide) (Ev.now _))))))))
          · simp only [impl_ValidRepairs.l0, w, hA]
            exact Ev.pos (by omega) (Ev.pos (by omega) (Ev.pos (by omega) (Ev.bind g2 (Ev.pos rfl (Ev.pos (by omega) (Ev.pos (by omega) (Ev.pos (by omega) (Ev.neg (by decide) (Ev.now _)))))))))
        · refine ⟨b, Ev.succ ?_, h2, fun h => Ev.succ ?_, h4'⟩
          · simp only [spec_l20Ok.l0, w, hA, wnat i (by omega)]
            exact Ev.pos (by omega) (Ev.pos (by omega) (Ev.bind g1 (Ev.pos rfl (Ev.pos (by omega) (Ev.pos (by omega) (Ev.pos (by omega) (Ev.pos (by first | rfl | trivial) h1)))))))
          · simp only [impl_ValidRepairs.l0, w, hA, wnat i (by omega)]
            exact Ev.pos (by omega) (Ev.pos (by omega) (Ev.pos (by omega) (Ev.bind g2 (Ev.pos rfl (Ev.pos (by omega) (Ev.pos (by omega) (Ev.pos (by omega) (Ev.pos (by first | rfl | trivial) (h3 h)))))))))
      · refine ⟨b, Ev.succ ?_, h2, fun h => Ev.succ ?_, h4'⟩
        · simp only [spec_l20Ok.l0, wnat i (by omega)]
          exact Ev.pos (by omega) (Ev.pos (by omega) (Ev.bind g1 (Ev.pos rfl (Ev.neg (by omega) h1))))
        · simp only [impl_ValidRepairs.l0, wnat i (by omega)]
          exact Ev.pos (by omega) (Ev.pos (by omega) (Ev.pos (by omega) (Ev.bind g2 (Ev.pos rfl (Ev.neg (by omega) (h3 h))))))
theorem repairs_both (l : List S47) (hl : smL sm47 l) : ∃ b, Ev (fun k => spec_l20Ok.f k l) b ∧ Ev (fun k => impl_ValidRepairs.f k l) b ∧ (b = true → l.length ≤ 8 ∧ ∀ j, j < l.length → RepairOk (l.getD j z47)) := by
  obtain ⟨b, h1, h2, h3, h4⟩ := repairLoop l hl l.length 0 (by omega)
  by_cases h : l.length ≤ 8
  · refine ⟨b, ?_, ?_, fun hb => ⟨h, fun j hj => h4 hb j (by omega) hj⟩⟩
    · simp only [spec_l20Ok.f]
      exact h1
    · simp only [impl_ValidRepairs.f]
      exact Ev.neg (by omega) (h3 h)
  · have hb := h2 (by omega)
    subst hb
    refine ⟨false, ?_, ?_, fun h => by cases h⟩
    · simp only [spec_l20Ok.f]
      exact h1
    · simp only [impl_ValidRepairs.f]
      exact Ev.pos (by omega) (Ev.now _)
theorem orderLoop (l : List S47) (hn : l.length ≤ 8) (o : List Int) (ho : o.length ≤ 1048576) : ∀ d i : Nat, i + d = o.length →
    ∃ b, Ev (fun k => spec_l20Order.l0 k l o (i : Int)) (b && ((o.length : Int) == (l.length : Int))) ∧ Ev (fun k => impl_differentOk.l0 k (l.length : Int) o o (o.length : Int) (i : Int)) b ∧
      (b = true → ∀ j, i ≤ j → j < o.length → 0 ≤ o.getD j 0 ∧ o.getD j 0 < (l.length : Int)) := by
  intro d
  induction d with
  | zero =>
    intro i hi
    refine ⟨true, Ev.succ ?_, Ev.succ ?_, fun _ j h1 h2 => by omega⟩
    · simp only [spec_l20Order.l0]
      exact Ev.neg (by omega) (Ev.now _)
    · simp only [impl_differentOk.l0]
      exact Ev.neg (by omega) (Ev.now _)
  | succ d ih =>
    intro i hi
    have w : wrap64 ((l.length : Int) - 1) = (l.length : Int) - 1 := wid (by omega) (by omega)
    have e0 : rd o (i : Int) = o.getD i 0 := rfl
    have t0 : (o.take ((i : Int)).toNat).length ≤ 4611686018427387904 := by rw [List.length_take]; omega
    have a1 := has_ev (o.take ((i : Int)).toNat) (o.getD i 0) t0
    have a2 := contains_ev (o.take ((i : Int)).toNat) (o.getD i 0) t0
    by_cases c : 0 ≤ o.getD i 0 ∧ o.getD i 0 ≤ (l.length : Int) - 1
    · rcases hc : (o.take ((i : Int)).toNat).contains (o.getD i 0) with _ | _
      · rw [hc] at a1 a2
        obtain ⟨b, h1, h2, h3⟩ := ih (i + 1) (by omega)
        refine ⟨b, Ev.succ ?_, Ev.succ ?_, fun hb j hj hj2 => ?_⟩
        · simp only [spec_l20Order.l0, spec_in_eq, w, e0, Option.bind_some, decide_eq_true_eq, wnat i (by omega)]
          exact Ev.pos (by omega) (Ev.pos (by omega) (Ev.pos c (Ev.pos (by omega) (Ev.bind a1 (Ev.neg (by decide) h1)))))
        · simp only [impl_differentOk.l0, impl_within_eq, w, e0, Option.bind_some, decide_eq_true_eq, wnat i (by omega)]
          exact Ev.pos (by omega) (Ev.pos (by omega) (Ev.pos (by omega) (Ev.pos c (Ev.pos (by omega) (Ev.bind a2 (Ev.neg (by decide) h2))))))
        · by_cases e : j = i
          · subst e; exact ⟨c.1, by omega⟩
          · exact h3 hb j (by omega) hj2
      · rw [hc] at a1 a2
        refine ⟨false, Ev.succ ?_, Ev.succ ?_, fun h => by cases h⟩
        · simp only [spec_l20Order.l0, spec_in_eq, w, e0, Option.bind_some, decide_eq_true_eq, wnat i (by omega)]
          exact Ev.pos (by omega) (Ev.pos (by omega) (Ev.pos c (Ev.pos (by omega) (Ev.bind a1 (Ev.pos (by first | rfl | trivial) (Ev.now _))))))
        · simp only [impl_differentOk.l0, impl_within_eq, w, e0, Option.bind_some, decide_eq_true_eq, wnat i (by omega)]
          exact Ev.pos (by omega) (Ev.pos (by omega) (Ev.pos (by omega) (Ev.pos c (Ev.pos (by omega) (Ev.bind a2 (Ev.pos (by first | rfl | trivial) (Ev.now _)))))))
    · refine ⟨false, Ev.succ ?_, Ev.succ ?_, fun h => by cases h⟩
      · simp only [spec_l20Order.l0, spec_in_eq, w, e0, Option.bind_some, decide_eq_true_eq, wnat i (by omega)]
        exact Ev.pos (by omega) (Ev.pos (by omega) (Ev.neg c (Ev.now _)))
      · simp only [impl_differentOk.l0, impl_within_eq, w, e0, Option.bind_some, decide_eq_true_eq, wnat i (by omega)]
        exact Ev.pos (by omega) (Ev.pos (by omega) (Ev.pos (by omega) (Ev.neg c (Ev.now _))))
def AskOk (l : List S47) (o : List Int) (g : Int) : Prop := l.length ≤ 8 ∧ (∀ j, j < l.length → RepairOk (l.getD j z47)) ∧ o.length = l.length ∧ (∀ j, j < o.length → 0 ≤ o.getD j 0 ∧ o.getD j 0 < (l.length : Int)) ∧ 1 ≤ g ∧ g ≤ 3
theorem ask_both (l : List S47) (hl : smL sm47 l) (o : List Int) (ho : o.length ≤ 1048576) (g : Int) : ∃ c : Int, Ev (fun k => spec_l20Ask.f k l o g) c ∧ Ev (fun k => impl_repairsCode.f k l o g) c ∧ (c = 0 → AskOk l o g) := by
  obtain ⟨v, h1, h2, h3⟩ := repairs_both l hl
  simp only [spec_l20Ask.f, impl_repairsCode.f, spec_in_eq, Option.bind_some, decide_eq_true_eq]
  cases v with
  | false => exact ⟨1, Ev.bind h1 (Ev.neg (by decide) (Ev.now _)), Ev.bind h2 (Ev.neg (by decide) (Ev.now _)), fun h => by cases h⟩
  | true =>
    obtain ⟨hn, hr⟩ := h3 rfl
    obtain ⟨b, a1, a2, a3⟩ := orderLoop l hn o ho o.length 0 (by omega)
    have a1' : Ev (fun k => spec_l20Order.f k l o) (b && ((o.length : Int) == (l.length : Int))) := by
      simp only [spec_l20Order.f]
      exact a1
    have a2' : Ev (fun k => impl_differentOk.f k (l.length : Int) o) b := by
      simp only [impl_differentOk.f]
      exact a2
    by_cases e : (o.length : Int) = (l.length : Int)
    · rw [show ((o.length : Int) == (l.length : Int)) = true from by simpa using e, Bool.and_true] at a1'
      cases b with
      | false =>
        refine ⟨7, Ev.bind h1 (Ev.pos rfl (Ev.bind a1' (Ev.neg (by decide) (Ev.now _)))), Ev.bind h2 (Ev.pos rfl (Ev.pos e (Ev.bind a2' (Ev.succ ?_)))), fun h => by cases h⟩
        simp only [impl_repairsCode.j0]
        exact Ev.pos (by first | rfl | trivial) (Ev.now _)
      | true =>
        by_cases c : 1 ≤ g ∧ g ≤ 3
        · refine ⟨0, Ev.bind h1 (Ev.pos rfl (Ev.bind a1' (Ev.pos rfl (Ev.pos c (Ev.now _))))), Ev.bind h2 (Ev.pos rfl (Ev.pos e (Ev.bind a2' (Ev.succ ?_)))), fun _ => ⟨hn, hr, by omega, fun j hj => a3 rfl j (by omega) hj, c.1, c.2⟩⟩
          simp only [impl_repairsCode.j0, impl_gangsOk.f, impl_within_eq, Option.bind_some, decide_eq_true_eq]
          exact Ev.neg (by decide) (Ev.pos c (Ev.now _))
        · refine ⟨2, Ev.bind h1 (Ev.pos rfl (Ev.bind a1' (Ev.pos rfl (Ev.neg c (Ev.now _))))), Ev.bind h2 (Ev.pos rfl (Ev.pos e (Ev.bind a2' (Ev.succ ?_)))), fun h => by cases h⟩
          simp only [impl_repairsCode.j0, impl_gangsOk.f, impl_within_eq, Option.bind_some, decide_eq_true_eq]
          exact Ev.neg (by decide) (Ev.neg c (Ev.now _))
    · rw [show ((o.length : Int) == (l.length : Int)) = false from by simpa using e, Bool.and_false] at a1'
      refine ⟨7, Ev.bind h1 (Ev.pos rfl (Ev.bind a1' (Ev.neg (by decide) (Ev.now _)))), Ev.bind h2 (Ev.pos rfl (Ev.neg e (Ev.succ ?_))), fun h => by cases h⟩
      simp only [impl_repairsCode.j0]
      exact Ev.pos (by first | rfl | trivial) (Ev.now _)
end Go.Proofs.Ytionpndhcijmcaa.QFewestGangs
