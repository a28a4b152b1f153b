/- GangsI: the program's plan for gangs: every repair is done once, by one gang at a time. Conditions: repairs, an order and gangs as stated. -/
import Derived.Test.YtionpndhcijmcaaQGangsx1
import Derived.Test.YtionpndhcijmcaaQGangsx2
import Derived.Test.YtionpndhcijmcaaQGangsx3
import Derived.Test.YtionpndhcijmcaaQGangsx4
import Derived.Test.YtionpndhcijmcaaQGangsxL
import Derived.Test.YtionpndhcijmcaaQGangsxDNamesI
import Derived.Test.YtionpndhcijmcaaQGangsxDIndex
import Derived.Test.YtionpndhcijmcaaQGangsxDPigeon
namespace Go.Proofs.Ytionpndhcijmcaa.QGangs
open Go.RowKit Go.Proofs.YtionpndhcijmcaaW.PrintWords Go.Proofs.Ytionpndhcijmcaa.QOpen Go.Proofs.Ytionpndhcijmcaa.QEv
set_option linter.unusedVariables false
set_option linter.unusedSimpArgs false
def RepairOk (x : S47) : Prop := 1 ≤ x.f1 ∧ x.f1 ≤ 100 ∧ 0 ≤ x.f2 ∧ x.f2 ≤ 100000 ∧ 0 ≤ x.f3 ∧ x.f3 ≤ 1000
theorem repairI (x : S47) (hx : x.f0.size ≤ 1048576) : ∃ b, Ev (fun k => impl_Repair_valid.f k x.f0 x.f1 x.f2 x.f3) b ∧ (b = true → RepairOk x) := by
  obtain ⟨b, h2⟩ := nameI x.f0 (by omega)
  simp only [impl_Repair_valid.f, within_eq, Option.bind_some, decide_eq_true_eq]
  cases b with
  | false => exact ⟨false, Ev.bind h2 (Ev.neg (by decide) (Ev.now _)), fun h => by cases h⟩
  | true =>
    by_cases c : 1 ≤ x.f1 ∧ x.f1 ≤ 100
    · by_cases c2 : 0 ≤ x.f2 ∧ x.f2 ≤ 100000
      · refine ⟨decide (0 ≤ x.f3 ∧ x.f3 ≤ 1000), Ev.bind h2 (Ev.pos rfl (Ev.pos c (Ev.pos c2 (Ev.now _)))), fun h => ?_⟩
        have := of_decide_eq_true h
        unfold RepairOk
        omega
      · exact ⟨false, Ev.bind h2 (Ev.pos rfl (Ev.pos c (Ev.neg c2 (Ev.now _)))), fun h => by cases h⟩
    · exact ⟨false, Ev.bind h2 (Ev.pos rfl (Ev.neg c (Ev.now _))), fun h => by cases h⟩
def IdsOk (l : List S47) : Prop := ∀ x ∈ l, x.f0.size ≤ 1000
theorem repairsLoopI (l : List S47) (hn : l.length ≤ 8) (hl : IdsOk l) : ∀ d i : Nat, i + d = l.length →
    ∃ b, Ev (fun k => impl_ValidRepairs.l0 k l l (l.length : Int) (i : Int)) b ∧ (b = true → ∀ j, i ≤ j → j < l.length → RepairOk (l.getD j z47)) := by
  intro d
  induction d with
  | zero =>
    intro i hi
    refine ⟨true, Ev.succ ?_, fun _ j h1 h2 => by omega⟩
    simp only [impl_ValidRepairs.l0]
    exact Ev.neg (by omega) (Ev.now _)
  | succ d ih =>
    intro i hi
    have hz := hl _ (getD_mem l i z47 (by omega))
    obtain ⟨v, g2, g3⟩ := repairI (rd_T47 l (i : Int)) (Nat.le_trans hz (by omega))
    cases v with
    | false =>
      refine ⟨false, Ev.succ ?_, fun h => by cases h⟩
      simp only [impl_ValidRepairs.l0]
      repeat' first | (with_reducible exact Ev.now _) | (with_reducible exact g2) | ((with_reducible refine Ev.pos ?_ ?_); focus (first | with_reducible assumption | with_reducible rfl | omega | rfl | trivial)) | ((with_reducible refine Ev.neg ?_ ?_); focus (first | with_reducible assumption | omega | (simp; done) | (dsimp only; omega))) | (with_reducible refine Ev.bind g2 ?_) | (with_reducible refine Ev.bind (Ev.shift g2) ?_) | (with_reducible refine Ev.sb ?_) | dsimp only
    | true =>
      have hok := g3 rfl
      obtain ⟨b, h3, h4⟩ := ih (i + 1) (by omega)
      have h4' : b = true → ∀ j, i ≤ j → j < l.length → RepairOk (l.getD j z47) := fun hb j hj hj2 => by
        by_cases e : j = i
        · subst e; exact hok
        · exact h4 hb j (by omega) hj2
      by_cases h0 : 0 < i
      · have w : wrap64 ((i : Int) - 1) = (i : Int) - 1 := wid (by omega) (by omega)
        rcases hA : Op.bytesLess (rd_T47 l ((i : Int) - 1)).f0.toList (rd_T47 l (i : Int)).f0.toList with _ | _
        · refine ⟨false, Ev.succ ?_, fun h => by cases h⟩
          simp only [impl_ValidRepairs.l0, w, hA]
          repeat' first | (with_reducible exact Ev.now _) | (with_reducible exact g2) | ((with_reducible refine Ev.pos ?_ ?_); focus (first | with_reducible assumption | with_reducible rfl | omega | rfl | trivial)) | ((with_reducible refine Ev.neg ?_ ?_); focus (first | with_reducible assumption | omega | (simp; done) | (dsimp only; omega))) | (with_reducible refine Ev.bind g2 ?_) | (with_reducible refine Ev.bind (Ev.shift g2) ?_) | (with_reducible refine Ev.sb ?_) | dsimp only
        · refine ⟨b, Ev.succ ?_, h4'⟩
          simp only [impl_ValidRepairs.l0, w, hA, wnat i (by omega)]
          repeat' first | (with_reducible exact Ev.now _) | (with_reducible exact g2) | (with_reducible exact h3) | ((with_reducible refine Ev.pos ?_ ?_); focus (first | with_reducible assumption | with_reducible rfl | omega | rfl | trivial)) | ((with_reducible refine Ev.neg ?_ ?_); focus (first | with_reducible assumption | omega | (simp; done) | (dsimp only; omega))) | (with_reducible refine Ev.bind g2 ?_) | (with_reducible refine Ev.bind h3 ?_) | (with_reducible refine Ev.bind (Ev.shift g2) ?_) | (with_reducible refine Ev.bind (Ev.shift h3) ?_) | (with_reducible refine Ev.sb ?_) | dsimp only
      · refine ⟨b, Ev.succ ?_, h4'⟩
        simp only [impl_ValidRepairs.l0, wnat i (by omega)]
        repeat' first | (with_reducible exact Ev.now _) | (with_reducible exact g2) | (with_reducible exact h3) | ((with_reducible refine Ev.pos ?_ ?_); focus (first | with_reducible assumption | with_reducible rfl | omega | rfl | trivial)) | ((with_reducible refine Ev.neg ?_ ?_); focus (first | with_reducible assumption | omega | (simp; done) | (dsimp only; omega))) | (with_reducible refine Ev.bind g2 ?_) | (with_reducible refine Ev.bind h3 ?_) | (with_reducible refine Ev.bind (Ev.shift g2) ?_) | (with_reducible refine Ev.bind (Ev.shift h3) ?_) | (with_reducible refine Ev.sb ?_) | dsimp only
theorem repairsI (l : List S47) (hn : l.length ≤ 1000) (hl : IdsOk l) : ∃ b, Ev (fun k => impl_ValidRepairs.f k l) b ∧ (b = true → l.length ≤ 8 ∧ ∀ j, j < l.length → RepairOk (l.getD j z47)) := by
  simp only [impl_ValidRepairs.f]
  by_cases h : l.length ≤ 8
  · obtain ⟨b, h3, h4⟩ := repairsLoopI l h hl l.length 0 (by omega)
    exact ⟨b, Ev.neg (by omega) h3, fun hb => ⟨h, fun j hj => h4 hb j (by omega) hj⟩⟩
  · exact ⟨false, Ev.pos (by omega) (Ev.now _), fun h => by cases h⟩
theorem contains_ev (l : List Int) (v : Int) (hl : l.length ≤ 4611686018427387904) : Ev (fun k => slices_Contains_int64_int64.f k l v) (l.contains v) := by
  obtain ⟨t, g, h⟩ := indexLoop l v hl l.length 0 (by omega)
  simp only [slices_Contains_int64_int64.f, slices_Index_int64_int64.f]
  refine Ev.bind g (Ev.eqn (Ev.now _) ?_)
  rw [List.drop_zero] at h
  rcases h with ⟨h1, h2⟩ | ⟨j, h1, _, _, _, _, h6⟩
  · rw [h2, h1]; decide
  · rw [h6, h1]; simp
theorem take_has (o : List Int) (i j : Nat) (hj : j < i) (hi : i ≤ o.length) : (o.take i).contains (o.getD j 0) = true := by
  rw [List.contains_iff_mem]
  have e : (o.take i).getD j 0 = o.getD j 0 := by
    rw [List.getD_eq_getElem?_getD, List.getD_eq_getElem?_getD, List.getElem?_take_of_lt hj]
  rw [← e]
  exact getD_mem _ j 0 (by rw [List.length_take]; omega)
theorem diffLoop (n : Nat) (hn : n ≤ 8) (o : List Int) (ho : o.length ≤ 1048576) : ∀ d i : Nat, i + d = o.length →
    ∃ b, Ev (fun k => impl_differentOk.l0 k (n : Int) o o (o.length : Int) (i : Int)) b ∧ (b = true → ∀ j, i ≤ j → j < o.length → 0 ≤ o.getD j 0 ∧ o.getD j 0 < (n : Int) ∧ ∀ q, q < j → o.getD q 0 ≠ o.getD j 0) := by
  intro d
  induction d with
  | zero =>
    intro i hi
    refine ⟨true, Ev.succ ?_, fun _ j h1 h2 => by omega⟩
    simp only [impl_differentOk.l0]
    exact Ev.neg (by omega) (Ev.now _)
  | succ d ih =>
    intro i hi
    have w : wrap64 ((n : Int) - 1) = (n : Int) - 1 := wid (by omega) (by omega)
    have e0 : rd o (i : Int) = o.getD i 0 := rfl
    have t0 : (o.take ((i : Int)).toNat).length ≤ 4611686018427387904 := by rw [List.length_take]; omega
    have a2 := contains_ev (o.take ((i : Int)).toNat) (o.getD i 0) t0
    by_cases c : 0 ≤ o.getD i 0 ∧ o.getD i 0 ≤ (n : Int) - 1
    · rcases hc : (o.take ((i : Int)).toNat).contains (o.getD i 0) with _ | _
      · rw [hc] at a2
        obtain ⟨b, h2, h3⟩ := ih (i + 1) (by omega)
        refine ⟨b, Ev.succ ?_, fun hb j hj hj2 => ?_⟩
        · simp only [impl_differentOk.l0, within_eq, w, e0, Option.bind_some, decide_eq_true_eq, wnat i (by omega)]
          exact Ev.pos (by omega) (Ev.pos (by omega) (Ev.pos (by omega) (Ev.pos c (Ev.pos (by omega) (Ev.bind a2 (Ev.neg (by decide) h2))))))
        · by_cases e : j = i
          · subst e
            refine ⟨c.1, by omega, fun q hq ee => ?_⟩
            have := take_has o j q hq (by omega)
            rw [ee] at this
            rw [Int.toNat_natCast] at hc
            rw [hc] at this
            cases this
          · exact h3 hb j (by omega) hj2
      · rw [hc] at a2
        refine ⟨false, Ev.succ ?_, fun h => by cases h⟩
        simp only [impl_differentOk.l0, within_eq, w, e0, Option.bind_some, decide_eq_true_eq, wnat i (by omega)]
        exact Ev.pos (by omega) (Ev.pos (by omega) (Ev.pos (by omega) (Ev.pos c (Ev.pos (by omega) (Ev.bind a2 (Ev.pos (by first | rfl | trivial) (Ev.now _)))))))
    · refine ⟨false, Ev.succ ?_, fun h => by cases h⟩
      simp only [impl_differentOk.l0, within_eq, w, e0, Option.bind_some, decide_eq_true_eq, wnat i (by omega)]
      exact Ev.pos (by omega) (Ev.pos (by omega) (Ev.pos (by omega) (Ev.neg c (Ev.now _))))
structure PlanOk (l : List S47) (o : List Int) : Prop where
  n : l.length ≤ 8
  r : ∀ j, j < l.length → RepairOk (l.getD j z47)
  len : o.length = l.length
  range : ∀ j, j < o.length → 0 ≤ o.getD j 0 ∧ o.getD j 0 < (l.length : Int)
  diff : ∀ q j, q < j → j < o.length → o.getD q 0 ≠ o.getD j 0
theorem codeI (l : List S47) (hn : l.length ≤ 1000) (hl : IdsOk l) (o : List Int) (ho : o.length ≤ 1048576) : ∃ c0 : Int, (c0 = 0 → PlanOk l o) ∧ ∀ g, Ev (fun k => impl_repairsCode.f k l o g) (if c0 = 0 then (if 1 ≤ g ∧ g ≤ 3 then 0 else 2) else c0) := by
  obtain ⟨v, h2, h3⟩ := repairsI l hn hl
  cases v with
  | false =>
    refine ⟨1, fun h => by omega, fun g => ?_⟩
    simp only [impl_repairsCode.f]
    exact Ev.bind h2 (Ev.neg (by decide) (Ev.eqn (Ev.now _) (by simp)))
  | true =>
    obtain ⟨hn, hr⟩ := h3 rfl
    by_cases e : (o.length : Int) = (l.length : Int)
    · obtain ⟨b, a2, a3⟩ := diffLoop l.length hn o ho o.length 0 (by omega)
      have a2' : Ev (fun k => impl_differentOk.f k (l.length : Int) o) b := by
        simp only [impl_differentOk.f]
        exact a2
      cases b with
      | false =>
        refine ⟨7, fun h => by omega, fun g => ?_⟩
        simp only [impl_repairsCode.f]
        refine Ev.bind h2 (Ev.pos rfl (Ev.pos e (Ev.bind a2' (Ev.succ ?_))))
        simp only [impl_repairsCode.j0]
        exact Ev.pos (by first | rfl | trivial) (Ev.eqn (Ev.now _) (by simp))
      | true =>
        have a4 := a3 rfl
        refine ⟨0, fun _ => ⟨hn, hr, by omega, fun j hj => ⟨(a4 j (by omega) hj).1, (a4 j (by omega) hj).2.1⟩, fun q j hq hj => (a4 j (by omega) hj).2.2 q hq⟩, fun g => ?_⟩
        rw [if_pos rfl]
        simp only [impl_repairsCode.f]
        refine Ev.bind h2 (Ev.pos rfl (Ev.pos e (Ev.bind a2' (Ev.succ ?_))))
        simp only [impl_repairsCode.j0, impl_gangsOk.f, within_eq, Option.bind_some, decide_eq_true_eq]
        refine Ev.neg (by decide) ?_
        by_cases c : 1 ≤ g ∧ g ≤ 3
        · rw [if_pos c, if_pos c]
          exact Ev.now _
        · rw [if_neg c, if_neg c]
          exact Ev.now _
    · refine ⟨7, fun h => by omega, fun g => ?_⟩
      simp only [impl_repairsCode.f]
      refine Ev.bind h2 (Ev.pos rfl (Ev.neg e (Ev.succ ?_)))
      simp only [impl_repairsCode.j0]
      exact Ev.pos (by first | rfl | trivial) (Ev.eqn (Ev.now _) (by simp))
def firstMin (f : List Int) (g : Nat) : Prop := g < f.length ∧ (∀ j, j < f.length → f.getD g 0 ≤ f.getD j 0) ∧ (∀ j, j < g → f.getD g 0 < f.getD j 0)
theorem minLoop (f : List Int) (hf : f.length ≤ 3) : ∀ (d i : Nat) (m : Int), i + d = f.length → (∃ j, j < i ∧ f.getD j 0 = m) → (∀ j, j < i → m ≤ f.getD j 0) →
    ∃ m', Ev (fun k => slices_Min_int64_int64.l0 k f m (i : Int)) m' ∧ (∃ j, j < f.length ∧ f.getD j 0 = m') ∧ (∀ j, j < f.length → m' ≤ f.getD j 0) := by
  intro d
  induction d with
  | zero =>
    intro i m hi h1 h2
    have e : i = f.length := by omega
    subst e
    refine ⟨m, Ev.succ ?_, h1, h2⟩
    simp only [slices_Min_int64_int64.l0]
    exact Ev.neg (by omega) (Ev.now _)
  | succ d ih =>
    intro i m hi h1 h2
    have e0 : rd f (i : Int) = f.getD i 0 := rfl
    by_cases c : f.getD i 0 < m
    · obtain ⟨m', g1, g2, g3⟩ := ih (i + 1) (f.getD i 0) (by omega) ⟨i, by omega, rfl⟩ (fun j hj => by
        by_cases e : j = i
        · subst e; omega
        · have := h2 j (by omega); omega)
      refine ⟨m', Ev.succ ?_, g2, g3⟩
      simp only [slices_Min_int64_int64.l0, e0, wnat i (by omega), show mn m (f.getD i 0) = f.getD i 0 from if_pos c]
      exact Ev.pos (by omega) (Ev.pos (by omega) g1)
    · obtain ⟨m', g1, g2, g3⟩ := ih (i + 1) m (by omega) (by obtain ⟨j, a, b⟩ := h1; exact ⟨j, by omega, b⟩) (fun j hj => by
        by_cases e : j = i
        · subst e; omega
        · exact h2 j (by omega))
      refine ⟨m', Ev.succ ?_, g2, g3⟩
      simp only [slices_Min_int64_int64.l0, e0, wnat i (by omega), show mn m (f.getD i 0) = m from if_neg c]
      exact Ev.pos (by omega) (Ev.pos (by omega) g1)
theorem min_ev (f : List Int) (hf : f.length ≤ 3) (g : Nat) (hg : firstMin f g) : Ev (fun k => slices_Min_int64_int64.f k f) (f.getD g 0) := by
  obtain ⟨h1, h2, h3⟩ := hg
  obtain ⟨m', g1, ⟨j, g2, g3⟩, g4⟩ := minLoop f hf (f.length - 1) 1 (f.getD 0 0) (by omega) ⟨0, by omega, rfl⟩ (fun j hj => by rw [show j = 0 by omega]; omega)
  have e : m' = f.getD g 0 := by
    have a := g4 g h1
    have b := h2 j g2
    omega
  subst e
  simp only [slices_Min_int64_int64.f]
  exact Ev.neg (by omega) (Ev.pos (by omega) g1)
theorem indexMin_ev (f : List Int) (hf : f.length ≤ 3) (g : Nat) (hg : firstMin f g) : Ev (fun k => slices_Index_int64_int64.f k f (f.getD g 0)) (g : Int) := by
  obtain ⟨h1, h2, h3⟩ := hg
  obtain ⟨t, e, h⟩ := indexLoop f (f.getD g 0) (by omega) f.length 0 (by omega)
  simp only [slices_Index_int64_int64.f]
  rcases h with ⟨_, h⟩ | ⟨j, a, _, b, c, d, _⟩
  · exfalso
    rw [List.drop_zero] at h
    have : f.contains (f.getD g 0) = true := by
      rw [List.contains_iff_mem]
      exact getD_mem f g 0 h1
    rw [this] at h
    cases h
  · have : j = g := by
      by_cases e1 : j < g
      · have := h3 j e1; omega
      · by_cases e2 : g < j
        · exact absurd rfl (d g (by omega) e2)
        · omega
    subst this
    exact Ev.eqn e a
theorem first_min (f : List Int) (h0 : 0 < f.length) : ∃ g, firstMin f g := by
  have key : ∀ n : Nat, 0 < n → n ≤ f.length → ∃ g, g < n ∧ (∀ j, j < n → f.getD g 0 ≤ f.getD j 0) ∧ (∀ j, j < g → f.getD g 0 < f.getD j 0) := by
    intro n
    induction n with
    | zero => intro h; omega
    | succ n ih =>
      intro _ hn
      by_cases c : n = 0
      · subst c
        exact ⟨0, by omega, fun j hj => by rw [show j = 0 by omega]; omega, fun j hj => by omega⟩
      · obtain ⟨g, h1, h2, h3⟩ := ih (by omega) (by omega)
        by_cases c2 : f.getD n 0 < f.getD g 0
        · refine ⟨n, by omega, fun j hj => ?_, fun j hj => ?_⟩
          · by_cases e : j = n
            · subst e; omega
            · have := h2 j (by omega); omega
          · have := h2 j hj; omega
        · refine ⟨g, by omega, fun j hj => ?_, h3⟩
          by_cases e : j = n
          · subst e; omega
          · exact h2 j (by omega)
  obtain ⟨g, a, b, c⟩ := key f.length h0 (Nat.le_refl _)
  exact ⟨g, a, b, c⟩
def DoneOk (l : List S47) (g : Nat) (ends : List Int) (asg : Nat → Nat) (st : Nat → Int) (j : Nat) : Prop :=
  asg j < g ∧ ends.getD j 0 = st j + (l.getD j z47).f1 ∧ (l.getD j z47).f3 ≤ st j ∧ 0 ≤ st j ∧ ends.getD j 0 ≤ 1800
def Apart (ends : List Int) (asg : Nat → Nat) (st : Nat → Int) (j k : Nat) : Prop := asg j = asg k → ends.getD j 0 ≤ st k ∨ ends.getD k 0 ≤ st j
theorem mx3_le (a b c : Int) : a ≤ mx (mx a b) c ∧ b ≤ mx (mx a b) c ∧ c ≤ mx (mx a b) c ∧ (mx (mx a b) c = a ∨ mx (mx a b) c = b ∨ mx (mx a b) c = c) := by
  simp only [mx]
  repeat' split
  all_goals omega
theorem rd_set (xs : List Int) (i : Int) (v : Int) (h0 : 0 ≤ i) (h : i < (xs.length : Int)) : rd (xs.set i.toNat v) i = v := by
  show (xs.set i.toNat v).getD i.toNat 0 = v
  rw [getD_set _ _ _ _ _ (by omega), if_pos rfl]
theorem gangLoop (l : List S47) (o : List Int) (h : PlanOk l o) (g : Nat) (g1 : 1 ≤ g) (g3 : g ≤ 3) : ∀ (d p : Nat) (ends free : List Int) (begun : Int) (asg : Nat → Nat) (st : Nat → Int), p + d = o.length → ends.length = l.length → free.length = g → 0 ≤ begun → begun ≤ 1000 + 100 * (p : Int) →
    (∀ v, v < g → 0 ≤ free.getD v 0 ∧ free.getD v 0 ≤ 1000 + 100 * (p : Int)) →
    (∀ q, q < p → DoneOk l g ends asg st (o.getD q 0).toNat ∧ st (o.getD q 0).toNat ≤ begun ∧ ends.getD (o.getD q 0).toNat 0 ≤ free.getD (asg (o.getD q 0).toNat) 0) →
    (∀ q s, q < p → s < p → q ≠ s → Apart ends asg st (o.getD q 0).toNat (o.getD s 0).toNat) →
    ∃ (r : List Int) (asg' : Nat → Nat) (st' : Nat → Int), Ev (fun k => impl_gangEnds.l0 k l free ends begun o (o.length : Int) (p : Int)) r ∧ r.length = l.length ∧ (∀ q, q < o.length → DoneOk l g r asg' st' (o.getD q 0).toNat) ∧ (∀ q s, q < o.length → s < o.length → q ≠ s → Apart r asg' st' (o.getD q 0).toNat (o.getD s 0).toNat) := by
  intro d
  induction d with
  | zero =>
    intro p ends free begun asg st hp he hf b0 b1 hfr hd ha
    refine ⟨ends, asg, st, Ev.succ ?_, he, fun q hq => (hd q (by omega)).1, fun q s hq hs => ha q s (by omega) (by omega)⟩
    simp only [impl_gangEnds.l0]
    exact Ev.neg (by omega) (Ev.now _)
  | succ d ih =>
    intro p ends free begun asg st hp he hf b0 b1 hfr hd ha
    have hn := h.n
    have hlen := h.len
    obtain ⟨q0, q1⟩ := h.range p (by omega)
    have hdiff : ∀ q, q < p → (o.getD q 0).toNat ≠ (o.getD p 0).toNat := fun q hq e => by
      have a := (h.range q (by omega)).1
      exact h.diff q p hq (by omega) (by omega)
    have e0 : rd o (p : Int) = o.getD p 0 := rfl
    obtain ⟨gi, hg⟩ := first_min free (by omega)
    have m1 := min_ev free (by omega) gi hg
    have m2 := indexMin_ev free (by omega) gi hg
    have hgl := hg.1
    obtain ⟨f0, f1⟩ := hfr gi (by omega)
    have e1 : rd free (gi : Int) = free.getD gi 0 := rfl
    have hR := h.r (o.getD p 0).toNat (by omega)
    have eR : rd_T47 l (o.getD p 0) = l.getD (o.getD p 0).toNat z47 := rfl
    generalize eo : o.getD p 0 = x at *
    obtain ⟨r1, r2, _, _, r5, r6⟩ := hR
    obtain ⟨s1, s2, s3, s4⟩ := mx3_le begun (free.getD gi 0) (l.getD x.toNat z47).f3
    generalize es : mx (mx begun (free.getD gi 0)) (l.getD x.toNat z47).f3 = S at *
    have w : wrap64 (S + (l.getD x.toNat z47).f1) = S + (l.getD x.toNat z47).f1 := wid (by omega) (by omega)
    generalize ev : S + (l.getD x.toNat z47).f1 = v at *
    have gE : ∀ j, (ends.set x.toNat v).getD j 0 = if j = x.toNat then v else ends.getD j 0 := fun j => getD_set ends x.toNat j v 0 (by omega)
    have gF : ∀ j, (free.set gi v).getD j 0 = if j = gi then v else free.getD j 0 := fun j => getD_set free gi j v 0 (by omega)
    obtain ⟨r, asg', st', h1, h2, h3, h4⟩ := ih (p + 1) (ends.set x.toNat v) (free.set gi v) S (fun j => if j = x.toNat then gi else asg j) (fun j => if j = x.toNat then S else st j) (by omega) (by simp; omega) (by simp; omega) (by omega) (by omega)
      (fun u hu => by
        rw [gF]
        have := hfr u hu
        split <;> omega)
      (fun q hq => by
        by_cases eq : q = p
        · subst eq
          rw [eo]
          unfold DoneOk
          simp only [if_pos rfl, if_true, gE, gF]
          refine ⟨⟨by omega, ev.symm, s3, by omega, by omega⟩, by omega, by omega⟩
        · obtain ⟨⟨d1, d2, d3, d4, d5⟩, d6, d7⟩ := hd q (by omega)
          have ne := hdiff q (by omega)
          unfold DoneOk
          simp only [if_neg ne, gE, gF]
          refine ⟨⟨d1, d2, d3, d4, d5⟩, by omega, ?_⟩
          split
          · rename_i ee
            rw [ee] at d7
            omega
          · exact d7)
      (fun q s hq hs hne => by
        unfold Apart
        by_cases eq : q = p
        · subst eq
          have ne := hdiff s (by omega)
          rw [eo]
          simp only [if_pos rfl, if_true, if_neg ne, gE]
          intro ee
          obtain ⟨_, d6, d7⟩ := hd s (by omega)
          rw [← ee] at d7
          right
          omega
        · by_cases eqs : s = p
          · subst eqs
            have ne := hdiff q (by omega)
            rw [eo]
            simp only [if_pos rfl, if_true, if_neg ne, gE]
            intro ee
            obtain ⟨_, d6, d7⟩ := hd q (by omega)
            rw [ee] at d7
            left
            omega
          · have ne1 := hdiff q (by omega)
            have ne2 := hdiff s (by omega)
            simp only [if_neg ne1, if_neg ne2, gE]
            exact ha q s (by omega) (by omega) hne)
    refine ⟨r, asg', st', Ev.succ ?_, h2, h3, h4⟩
    have gn : ((gi : Int)).toNat = gi := by omega
    have z2 : rd (ends.set x.toNat v) x = v := rd_set ends x v (by omega) (by omega)
    simp only [impl_gangEnds.l0, e0]
    refine Ev.pos (by omega) (Ev.pos (by omega) (Ev.pos (by omega) (Ev.bind m1 (Ev.bind m2 ?_))))
    simp only [e1, eR, Option.bind_some, es, ev, w, gn, z2, wnat p (by omega)]
    exact Ev.pos (by omega) (Ev.pos (by omega) (Ev.pos (by omega) (Ev.pos (by omega) (Ev.pos (by omega) h1))))
structure Sched (l : List S47) (g : Nat) (r : List Int) (asg : Nat → Nat) (st : Nat → Int) : Prop where
  len : r.length = l.length
  ok : ∀ j, j < l.length → DoneOk l g r asg st j
  apart : ∀ j k, j < l.length → k < l.length → j ≠ k → Apart r asg st j k
theorem gangsI (l : List S47) (o : List Int) (h : PlanOk l o) (g : Nat) (g1 : 1 ≤ g) (g3 : g ≤ 3) : ∃ (r : List Int) (asg : Nat → Nat) (st : Nat → Int), Ev (fun k => impl_gangEnds.f k l o (g : Int)) r ∧ Sched l g r asg st := by
  have hn := h.n
  obtain ⟨r, asg, st, h1, h2, h3, h4⟩ := gangLoop l o h g g1 g3 o.length 0 (List.replicate l.length 0) (List.replicate g 0) 0 (fun _ => 0) (fun _ => 0) (by omega) (by simp) (by simp) (by omega) (by omega)
    (fun v hv => by
      rw [getD_at _ _ _ (by simpa using hv), List.getElem_replicate]
      omega)
    (fun q hq => by omega) (fun q s hq => by omega)
  have hon : ∀ i, i < l.length → ∃ q, q < l.length ∧ (o.getD q 0).toNat = i := onto l.length (fun q => (o.getD q 0).toNat) (fun q hq => by
      have := h.range q (by have := h.len; omega)
      (try dsimp only)
      omega) (fun p q hp hq e => by
      have a := h.range p (by have := h.len; omega)
      have b := h.range q (by have := h.len; omega)
      (try dsimp only at e)
      by_cases c : p < q
      · exact absurd (show o.getD p 0 = o.getD q 0 by omega) (h.diff p q c (by have := h.len; omega))
      · by_cases c2 : q < p
        · exact absurd (show o.getD q 0 = o.getD p 0 by omega) (h.diff q p c2 (by have := h.len; omega))
        · omega)
  refine ⟨r, asg, st, ?_, h2, fun j hj => ?_, fun j k hj hk hne => ?_⟩
  · simp only [impl_gangEnds.f, Int.toNat_natCast]
    exact Ev.pos (by omega) (Ev.pos (by omega) (Ev.pos (by omega) (Ev.pos (by omega) h1)))
  · obtain ⟨q, hq, e⟩ := hon j hj
    have := h3 q (by have := h.len; omega)
    rwa [e] at this
  · obtain ⟨q, hq, e⟩ := hon j hj
    obtain ⟨s, hs, e2⟩ := hon k hk
    have := h4 q s (by have := h.len; omega) (by have := h.len; omega) (fun z => by subst z; omega)
    rwa [e, e2] at this
theorem lateLoop (r : List Int) (hr : r.length ≤ 8) (hb : ∀ j, j < r.length → r.getD j 0 ≤ 1800) : ∀ (d i : Nat) (acc : Int), i + d = r.length → 0 ≤ acc → acc ≤ 1800 →
    ∃ t, Ev (fun k => impl_latestEnd.l0 k acc r (r.length : Int) (i : Int)) t ∧ acc ≤ t ∧ t ≤ 1800 ∧ ∀ j, i ≤ j → j < r.length → r.getD j 0 ≤ t := by
  intro d
  induction d with
  | zero =>
    intro i acc hi h0 h1
    refine ⟨acc, Ev.succ ?_, by omega, h1, fun j hj hj2 => by omega⟩
    simp only [impl_latestEnd.l0]
    exact Ev.neg (by omega) (Ev.now _)
  | succ d ih =>
    intro i acc hi h0 h1
    have e0 : rd r (i : Int) = r.getD i 0 := rfl
    have hbi := hb i (by omega)
    have hm : acc ≤ mx acc (r.getD i 0) ∧ r.getD i 0 ≤ mx acc (r.getD i 0) ∧ mx acc (r.getD i 0) ≤ 1800 := by
      simp only [mx]
      split <;> omega
    obtain ⟨t, g1, g2, g3, g4⟩ := ih (i + 1) (mx acc (r.getD i 0)) (by omega) (by omega) (by omega)
    refine ⟨t, Ev.succ ?_, by omega, g3, fun j hj hj2 => ?_⟩
    · simp only [impl_latestEnd.l0, e0, wnat i (by omega)]
      exact Ev.pos (by omega) (Ev.pos (by omega) (Ev.pos (by omega) g1))
    · by_cases e : j = i
      · subst e; omega
      · exact g4 j (by omega) hj2
theorem latestI (l : List S47) (o : List Int) (h : PlanOk l o) (g : Nat) (g1 : 1 ≤ g) (g3 : g ≤ 3) : ∃ (r : List Int) (asg : Nat → Nat) (st : Nat → Int) (t : Int), Ev (fun k => impl_gangEnds.f k l o (g : Int)) r ∧ Sched l g r asg st ∧ Ev (fun k => impl_latestEnd.f k l o (g : Int)) t ∧ 0 ≤ t ∧ t ≤ 1800 ∧ ∀ j, j < r.length → r.getD j 0 ≤ t := by
  obtain ⟨r, asg, st, h1, h2⟩ := gangsI l o h g g1 g3
  have hn := h.n
  have hl := h2.len
  obtain ⟨t, a, b, c, d⟩ := lateLoop r (by omega) (fun j hj => (h2.ok j (by omega)).2.2.2.2) r.length 0 0 (by omega) (by omega) (by omega)
  refine ⟨r, asg, st, t, h1, h2, ?_, by omega, c, fun j hj => d j (by omega) hj⟩
  simp only [impl_latestEnd.f]
  exact Ev.bind h1 a
theorem busy_le (l : List S47) (g : Nat) (r : List Int) (asg : Nat → Nat) (st : Nat → Int) (h : Sched l g r asg st) (T : Int) (p : Nat → Bool) (hp : ∀ j, j < l.length → p j = true → st j ≤ T ∧ T < r.getD j 0) : (acts p 0 l.length).length ≤ g := by
  refine pigeon g _ (fun q => asg ((acts p 0 l.length).getD q 0)) (fun q hq => ?_) (fun a b ha hb e => ?_)
  · obtain ⟨_, m, _⟩ := acts_mem p l.length 0 _ (getD_mem (acts p 0 l.length) q 0 hq)
    exact (h.ok _ (by omega)).1
  · have P := List.pairwise_iff_getElem.1 (acts_pair p l.length 0)
    have key : ∀ a b, (ha : a < (acts p 0 l.length).length) → (hb : b < (acts p 0 l.length).length) → a < b → asg ((acts p 0 l.length).getD a 0) = asg ((acts p 0 l.length).getD b 0) → False := fun a b ha hb hab e => by
      have lt := P a b ha hb hab
      obtain ⟨_, ma, pa⟩ := acts_mem p l.length 0 _ (getD_mem (acts p 0 l.length) a 0 ha)
      obtain ⟨_, mb, pb⟩ := acts_mem p l.length 0 _ (getD_mem (acts p 0 l.length) b 0 hb)
      rw [← getD_at _ _ 0 ha, ← getD_at _ _ 0 hb] at lt
      have A := hp _ (by omega) pa
      have B := hp _ (by omega) pb
      rcases h.apart _ _ (by omega) (by omega) (Nat.ne_of_lt lt) e with z | z <;> omega
    by_cases c : a < b
    · exact (key a b ha hb c e).elim
    · by_cases c2 : b < a
      · exact (key b a hb ha c2 e.symm).elim
      · omega
end Go.Proofs.Ytionpndhcijmcaa.QGangs
