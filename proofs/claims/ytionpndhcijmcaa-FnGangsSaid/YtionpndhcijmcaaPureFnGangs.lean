/- FnGangs: with one gang repairs end as told, never more than all gangs work at once, and the fewest gangs are just enough. Conditions: none beyond the statement's own guard. -/
import Derived.Test.YtionpndhcijmcaaQGangsx4
import Derived.Test.YtionpndhcijmcaaQGangsx5
import Derived.Test.YtionpndhcijmcaaQGangsx7
import Derived.Test.YtionpndhcijmcaaQGangsx8
import Derived.Test.YtionpndhcijmcaaQGangsxL
import Derived.Test.YtionpndhcijmcaaQGangsxDDrawGangs
namespace Go.Proofs.Ytionpndhcijmcaa.Pure
open Go.RowKit Go.Proofs.Ytionpndhcijmcaa.QGangs Go.Proofs.YtionpndhcijmcaaW.PrintWords Go.Proofs.Ytionpndhcijmcaa.QOpen Go.Proofs.Ytionpndhcijmcaa.QEv
set_option linter.unusedVariables false
set_option linter.unusedSimpArgs false
theorem doneI (t : Int) (r : List Int) (hn : r.length ≤ 8) (hb : ∀ j, j < r.length → r.getD j 0 ≤ t) : ∀ (d i : Nat) (acc : List Int), i + d = r.length → acc.length = i → ∃ x : List Int, Ev (fun k => impl_DoneBy.l0 k t acc r (r.length : Int) (i : Int)) (x, 0) ∧ x.length = r.length := by
  intro d
  induction d with
  | zero =>
    intro i acc hi ha
    refine ⟨acc, Ev.succ ?_, by omega⟩
    simp only [impl_DoneBy.l0]
    exact Ev.neg (by omega) (Ev.now _)
  | succ d ih =>
    intro i acc hi ha
    have e0 : rd r (i : Int) = r.getD i 0 := rfl
    have := hb i (by omega)
    obtain ⟨x, g1, g2⟩ := ih (i + 1) (acc ++ [(i : Int)]) (by omega) (by simp; omega)
    refine ⟨x, Ev.succ ?_, g2⟩
    simp only [impl_DoneBy.l0, e0, wnat i (by omega)]
    exact Ev.pos (by omega) (Ev.pos (by omega) (Ev.pos (by omega) (Ev.pos (by omega) (Ev.pos (by omega) g1))))
theorem numsI (a : List Int) (hn : a.length ≤ 100) : ∀ d i : Nat, i + d = a.length → Ev (fun k => laws_b10Nums.l0 k a a (i : Int)) true := by
  intro d
  induction d with
  | zero =>
    intro i hi
    refine Ev.succ ?_
    simp only [laws_b10Nums.l0]
    exact Ev.neg (by omega) (Ev.now _)
  | succ d ih =>
    intro i hi
    have g := ih (i + 1) (by omega)
    refine Ev.succ ?_
    simp only [laws_b10Nums.l0, wnat i (by omega)]
    exact Ev.pos (by omega) (Ev.pos (by omega) (Ev.pos (by omega) (Ev.pos (by first | rfl | trivial) g)))
theorem leastI (l : List S47) (o : List Int) (h : PlanOk l o) (lim : Int) : ∀ (d : Nat) (g : Nat), g + d = 4 → 1 ≤ g → (∀ u : Nat, 1 ≤ u → u < g → ∃ t, Ev (fun k => impl_latestEnd.f k l o (u : Int)) t ∧ ¬ t ≤ lim) →
    (Ev (fun k => impl_least.l0 k 3 (g : Int) l o lim) (0, false)) ∨ ∃ (u : Nat) (t : Int), 1 ≤ u ∧ u ≤ 3 ∧ Ev (fun k => impl_least.l0 k 3 (g : Int) l o lim) ((u : Int), true) ∧ Ev (fun k => impl_latestEnd.f k l o (u : Int)) t ∧ t ≤ lim ∧ (∀ v : Nat, 1 ≤ v → v < u → ∃ t, Ev (fun k => impl_latestEnd.f k l o (v : Int)) t ∧ ¬ t ≤ lim) := by
  intro d
  induction d with
  | zero =>
    intro g hg h1 hb
    refine Or.inl (Ev.succ ?_)
    simp only [impl_least.l0]
    exact Ev.neg (by omega) (Ev.now _)
  | succ d ih =>
    intro g hg h1 hb
    obtain ⟨r, asg, st, t, _, _, a3, _, _, _⟩ := latestI l o h g h1 (by omega)
    have a4 : Ev (fun k => impl_FewestGangs_1.f k (g : Int) l o lim) (decide (t ≤ lim)) := by
      simp only [impl_FewestGangs_1.f]
      exact Ev.bind a3 (Ev.now _)
    by_cases c : t ≤ lim
    · refine Or.inr ⟨g, t, h1, by omega, Ev.succ ?_, a3, c, hb⟩
      simp only [impl_least.l0]
      exact Ev.pos (by omega) (Ev.bind a4 (Ev.pos (by simpa using c) (Ev.now _)))
    · have step : ∀ x, Ev (fun k => impl_least.l0 k 3 ((g + 1 : Nat) : Int) l o lim) x → Ev (fun k => impl_least.l0 k 3 (g : Int) l o lim) x := fun x hx => by
        refine Ev.succ ?_
        simp only [impl_least.l0, wnat g (by omega)]
        exact Ev.pos (by omega) (Ev.bind a4 (Ev.neg (by simpa using c) hx))
      rcases ih (g + 1) (by omega) (by omega) (fun u hu hu2 => by
        by_cases e : u = g
        · subst e
          exact ⟨t, a3, c⟩
        · exact hb u hu (by omega)) with z | ⟨u, t', b1, b2, b3, b4, b5, b6⟩
      · exact Or.inl (step _ z)
      · exact Or.inr ⟨u, t', b1, b2, step _ b3, b4, b5, b6⟩
theorem second (c : List Int) (hc : BytesOk c) : Ev (fun k => laws_FnGangs.j5 k c) true := by
  obtain ⟨l, o, lim, h1, h2, h3, h4⟩ := drawFewest_ev c hc
  obtain ⟨c0, hp, hcode⟩ := codeI l (by omega) h3 o (by omega)
  refine Ev.succ ?_
  simp only [laws_FnGangs.j5]
  refine Ev.bind h1 ?_
  have hone := hcode 1
  by_cases e : c0 = 0
  · have P := hp e
    rw [if_pos e, if_pos (by omega)] at hone
    by_cases c2 : 0 ≤ lim ∧ lim ≤ 10000
    · have hF : ∀ (x : Int) (b : Bool), Ev (fun k => impl_least.l0 k 3 1 l o lim) (x, b) → Ev (fun k => impl_FewestGangs.f k l o lim) (if b = true then (x, 0) else (0, 3)) := fun x b hx => by
        simp only [impl_FewestGangs.f, within_eq, Option.bind_some, decide_eq_true_eq, impl_least.f, impl_orNotFound.f]
        refine Ev.bind hone (Ev.pos rfl (Ev.pos c2 (Ev.bind hx ?_)))
        cases b with
        | true =>
          simp only [if_pos rfl, if_true, Option.bind_some]
          exact Ev.now _
        | false =>
          simp only [Bool.false_eq_true, if_false, Option.bind_some]
          exact Ev.now _
      rcases leastI l o P lim 3 1 (by omega) (by omega) (fun u hu hu2 => by omega) with z | ⟨u, t, b1, b2, b3, b4, b5, b6⟩
      · have := hF 0 false z
        simp only [Bool.false_eq_true, if_false] at this
        exact Ev.bind this (Ev.neg (by decide) (Ev.now _))
      · have hf := hF u true b3
        simp only [if_true] at hf
        have hu := hcode (u : Int)
        rw [if_pos e, if_pos (by omega)] at hu
        have hL : Ev (fun k => impl_LatestEnd.f k l o (u : Int)) (t, 0) := by
          simp only [impl_LatestEnd.f]
          exact Ev.bind hu (Ev.pos rfl (Ev.bind b4 (Ev.now _)))
        refine Ev.bind hf (Ev.pos rfl (Ev.bind hL (Ev.pos rfl (Ev.neg (by dsimp only; omega) ?_))))
        have w : wrap64 ((u : Int) - 1) = ((u - 1 : Nat) : Int) := by rw [wid (by omega) (by omega)]; omega
        simp only [w]
        by_cases c3 : u = 1
        · subst c3
          have h0 := hcode ((1 - 1 : Nat) : Int)
          rw [if_pos e, if_neg (by omega)] at h0
          have hL0 : Ev (fun k => impl_LatestEnd.f k l o ((1 - 1 : Nat) : Int)) (0, 2) := by
            simp only [impl_LatestEnd.f]
            exact Ev.bind h0 (Ev.neg (by decide) (Ev.now _))
          exact Ev.bind hL0 (Ev.neg (by decide) (Ev.now _))
        · obtain ⟨t2, d1, d2⟩ := b6 (u - 1) (by omega) (by omega)
          have h0 := hcode ((u - 1 : Nat) : Int)
          rw [if_pos e, if_pos (by omega)] at h0
          have hL0 : Ev (fun k => impl_LatestEnd.f k l o ((u - 1 : Nat) : Int)) (t2, 0) := by
            simp only [impl_LatestEnd.f]
            exact Ev.bind h0 (Ev.pos rfl (Ev.bind d1 (Ev.now _)))
          exact Ev.bind hL0 (Ev.pos rfl (Ev.eqn (Ev.now _) (decide_eq_true (by omega))))
    · have hf : Ev (fun k => impl_FewestGangs.f k l o lim) (0, 2) := by
        simp only [impl_FewestGangs.f, within_eq, Option.bind_some, decide_eq_true_eq]
        exact Ev.bind hone (Ev.pos rfl (Ev.neg c2 (Ev.now _)))
      exact Ev.bind hf (Ev.neg (by decide) (Ev.now _))
  · rw [if_neg e] at hone
    have hf : Ev (fun k => impl_FewestGangs.f k l o lim) (0, c0) := by
      simp only [impl_FewestGangs.f]
      exact Ev.bind hone (Ev.neg e (Ev.now _))
    exact Ev.bind hf (Ev.neg e (Ev.now _))
theorem busyLoop (c : List Int) (l : List S47) (hn : l.length ≤ 8) (g : Nat) (r : List Int) (lat : Int) (hl : r.length = l.length) (i : Nat) (hi : i < l.length) (hb : ∀ j, j < l.length → 0 ≤ r.getD j 0 ∧ r.getD j 0 ≤ 1800 ∧ 0 ≤ (l.getD j z47).f1 ∧ (l.getD j z47).f1 ≤ 100)
    (p : Nat → Bool) (hp : ∀ j, p j = decide (r.getD j 0 - (l.getD j z47).f1 ≤ r.getD i 0 - (l.getD i z47).f1 ∧ r.getD j 0 > r.getD i 0 - (l.getD i z47).f1)) (hnext : Ev (fun k => laws_FnGangs.l0 k c l (g : Int) r lat ((i + 1 : Nat) : Int)) true) :
    ∀ (d j b : Nat), j + d = l.length → b ≤ j → b + (acts p j d).length ≤ g → Ev (fun k => laws_FnGangs.l1 k c l (g : Int) r lat (i : Int) (b : Int) (j : Int)) true := by
  intro d
  induction d with
  | zero =>
    intro j b hj hbj hle
    refine Ev.succ ?_
    simp only [laws_FnGangs.l1, wnat i (by omega)]
    simp only [acts, List.length_nil] at hle
    exact Ev.neg (by omega) (Ev.neg (by omega) hnext)
  | succ d ih =>
    intro j b hj hbj hle
    obtain ⟨x0, x1, x2, x3⟩ := hb j (by omega)
    obtain ⟨y0, y1, y2, y3⟩ := hb i hi
    have ej : rd r (j : Int) = r.getD j 0 := rfl
    have ei : rd r (i : Int) = r.getD i 0 := rfl
    have fj : rd_T47 l (j : Int) = l.getD j z47 := rfl
    have fi : rd_T47 l (i : Int) = l.getD i z47 := rfl
    have w1 : wrap64 (r.getD j 0 - (l.getD j z47).f1) = r.getD j 0 - (l.getD j z47).f1 := wid (by omega) (by omega)
    have w2 : wrap64 (r.getD i 0 - (l.getD i z47).f1) = r.getD i 0 - (l.getD i z47).f1 := wid (by omega) (by omega)
    have pj := hp j
    rw [acts] at hle
    refine Ev.succ ?_
    simp only [laws_FnGangs.l1, ej, ei, fj, fi, w1, w2, wnat j (by omega), wnat b (by omega)]
    refine Ev.pos (by omega) (Ev.pos (by omega) (Ev.pos (by omega) (Ev.pos (by omega) (Ev.pos (by omega) (Ev.pos (by omega) ?_)))))
    by_cases c1 : r.getD j 0 - (l.getD j z47).f1 ≤ r.getD i 0 - (l.getD i z47).f1
    · by_cases c2 : r.getD j 0 > r.getD i 0 - (l.getD i z47).f1
      · rw [decide_eq_true ⟨c1, c2⟩] at pj
        rw [if_pos pj, List.length_cons] at hle
        exact Ev.pos c1 (Ev.pos c2 (ih (j + 1) (b + 1) (by omega) (by omega) (by omega)))
      · rw [decide_eq_false (fun z => c2 z.2)] at pj
        rw [if_neg (by rw [pj]; decide)] at hle
        exact Ev.pos c1 (Ev.neg c2 (ih (j + 1) b (by omega) (by omega) hle))
    · rw [decide_eq_false (fun z => c1 z.1)] at pj
      rw [if_neg (by rw [pj]; decide)] at hle
      exact Ev.neg c1 (ih (j + 1) b (by omega) (by omega) hle)
theorem outerLoop (c : List Int) (h5 : Ev (fun k => laws_FnGangs.j5 k c) true) (l : List S47) (hn : l.length ≤ 8) (hr : ∀ j, j < l.length → RepairOk (l.getD j z47)) (g : Nat) (r : List Int) (asg : Nat → Nat) (st : Nat → Int) (hs : Sched l g r asg st) (lat : Int) (hlat : ∀ j, j < r.length → r.getD j 0 ≤ lat) :
    ∀ d i : Nat, i + d = l.length → Ev (fun k => laws_FnGangs.l0 k c l (g : Int) r lat (i : Int)) true := by
  have hlen := hs.len
  intro d
  induction d with
  | zero =>
    intro i hi
    refine Ev.succ ?_
    simp only [laws_FnGangs.l0]
    exact Ev.neg (by omega) h5
  | succ d ih =>
    intro i hi
    have g0 := ih (i + 1) (by omega)
    obtain ⟨d1, d2, d3, d4, d5⟩ := hs.ok i (by omega)
    obtain ⟨r1, r2, _, _, r5, r6⟩ := hr i (by omega)
    have hlt := hlat i (by omega)
    have ei : rd r (i : Int) = r.getD i 0 := rfl
    have fi : rd_T47 l (i : Int) = l.getD i z47 := rfl
    have w : wrap64 ((l.getD i z47).f3 + (l.getD i z47).f1) = (l.getD i z47).f3 + (l.getD i z47).f1 := wid (by omega) (by omega)
    have hbusy := busy_le l g r asg st hs (r.getD i 0 - (l.getD i z47).f1) (fun j => decide (r.getD j 0 - (l.getD j z47).f1 ≤ r.getD i 0 - (l.getD i z47).f1 ∧ r.getD j 0 > r.getD i 0 - (l.getD i z47).f1)) (fun j hj e => by
      have e := of_decide_eq_true e
      obtain ⟨_, q2, _, _, _⟩ := hs.ok j hj
      omega)
    have hin := busyLoop c l hn g r lat hlen i (by omega) (fun j hj => by
      obtain ⟨_, q2, q3, q4, q5⟩ := hs.ok j hj
      obtain ⟨s1, s2, _, _, _, _⟩ := hr j hj
      omega) _ (fun j => rfl) g0 l.length 0 0 (by omega) (by omega) (by omega)
    refine Ev.succ ?_
    simp only [laws_FnGangs.l0, ei, fi, w]
    refine Ev.pos (by omega) (Ev.pos (by omega) (Ev.pos (by omega) (Ev.neg (by omega) (Ev.succ ?_))))
    simp only [laws_FnGangs.j3]
    exact Ev.neg (by simp only [decide_eq_true_eq]; omega) hin
theorem FnGangs : ∀ (x0 : List Int) (x1 : List Int), (wfL (wfI .u8)) x0 → (wfL (wfI .u8)) x1 → ∃ k, laws_FnGangs.f k x0 x1 = some true := by
  intro x0 x1 hw0 hw1
  refine Ev.rounds (r := true) ?_
  simp only [laws_FnGangs.f, laws_b10Long.f, Option.bind_some, decide_eq_true_eq]
  by_cases c0 : (x0.length : Int) > 1048576
  · refine Ev.pos c0 (Ev.succ ?_)
    simp only [laws_FnGangs.j0]
    exact Ev.pos (by first | rfl | trivial) (Ev.now _)
  refine Ev.neg c0 (Ev.succ ?_)
  simp only [laws_FnGangs.j0, decide_eq_true_eq]
  by_cases c1 : (x1.length : Int) > 1048576
  · exact Ev.pos c1 (Ev.now _)
  refine Ev.neg c1 ?_
  have b0 := bytes_of x0 hw0 (by omega)
  have b1 := bytes_of x1 hw1 (by omega)
  have h5 := second x1 b1
  obtain ⟨l, o, gz, hd, hl, hids, hol⟩ := drawGangEnds_ev x0 b0
  obtain ⟨cc, hp, hcode⟩ := codeI l (by omega) hids o (by omega)
  refine Ev.bind hd ?_
  have hg := hcode gz
  by_cases e : cc = 0
  · by_cases c2 : 1 ≤ gz ∧ gz ≤ 3
    · have P := hp e
      have hn := P.n
      rw [if_pos e, if_pos c2] at hg
      have h1c := hcode 1
      rw [if_pos e, if_pos (by omega)] at h1c
      obtain ⟨g, rfl⟩ : ∃ g : Nat, gz = (g : Int) := ⟨gz.toNat, by omega⟩
      obtain ⟨r, asg, st, t, a1, a2, a3, a4, a5, a6⟩ := latestI l o P g (by omega) (by omega)
      obtain ⟨r1, _, _, _, s1, s2, _, _, _, _⟩ := latestI l o P 1 (by omega) (by omega)
      have hrl := a2.len
      have hr1l := s2.len
      have E1 : Ev (fun k => impl_GangEnds.f k l o (g : Int)) (r, 0) := by
        simp only [impl_GangEnds.f]
        exact Ev.bind hg (Ev.pos rfl (Ev.bind a1 (Ev.now _)))
      have E2 : Ev (fun k => impl_GangEnds.f k l o 1) (r1, 0) := by
        simp only [impl_GangEnds.f]
        exact Ev.bind h1c (Ev.pos rfl (Ev.bind s1 (Ev.now _)))
      have E3 : Ev (fun k => impl_EndTimes.f k l o) (r1, 0) := by
        simp only [impl_EndTimes.f]
        exact Ev.bind E2 (Ev.now _)
      have E4 : Ev (fun k => impl_LatestEnd.f k l o (g : Int)) (t, 0) := by
        simp only [impl_LatestEnd.f]
        exact Ev.bind hg (Ev.pos rfl (Ev.bind a3 (Ev.now _)))
      obtain ⟨x, D1, D2⟩ := doneI t r (by omega) a6 r.length 0 [] (by omega) rfl
      have E5 : Ev (fun k => impl_DoneBy.f k l o (g : Int) t) (x, 0) := by
        simp only [impl_DoneBy.f, within_eq, Option.bind_some, decide_eq_true_eq]
        exact Ev.bind hg (Ev.pos rfl (Ev.pos (by omega) (Ev.bind a1 D1)))
      have E6 : Ev (fun k => laws_b10Nums.f k r1 r1) true := by
        simp only [laws_b10Nums.f]
        exact Ev.pos (by first | rfl | trivial) (numsI r1 (by omega) r1.length 0 (by omega))
      refine Ev.bind E1 (Ev.pos rfl (Ev.bind E2 (Ev.bind E3 (Ev.bind E4 (Ev.bind E5 (Ev.pos rfl (Ev.pos rfl (Ev.bind E6 (Ev.pos rfl (Ev.pos rfl (Ev.pos rfl (Ev.pos (by dsimp only; omega) (Ev.succ ?_)))))))))))))
      simp only [laws_FnGangs.j1]
      refine Ev.neg (by simp; omega) ?_
      exact outerLoop x1 h5 l hn P.r g r asg st a2 t a6 l.length 0 (by omega)
    · rw [if_pos e, if_neg c2] at hg
      have E1 : Ev (fun k => impl_GangEnds.f k l o gz) ([], 2) := by
        simp only [impl_GangEnds.f]
        exact Ev.bind hg (Ev.neg (by decide) (Ev.now _))
      exact Ev.bind E1 (Ev.neg (by decide) h5)
  · rw [if_neg e] at hg
    have E1 : Ev (fun k => impl_GangEnds.f k l o gz) ([], cc) := by
      simp only [impl_GangEnds.f]
      exact Ev.bind hg (Ev.neg e (Ev.now _))
    exact Ev.bind E1 (Ev.neg e h5)
end Go.Proofs.Ytionpndhcijmcaa.Pure
