/- FnExactDayLoads: the program's DayLoads and the reference's return one and the same for all arguments, in memory of the call's own, and the arguments stay as they were. Conditions: none beyond the statement's own guard. -/
import Derived.Test.YtglhbjmagfchiaaQDayLoadsx1
import Derived.Test.YtglhbjmagfchiaaQDayLoadsx3
import Derived.Test.YtglhbjmagfchiaaQDayLoadsx5
import Derived.Test.YtglhbjmagfchiaaQDayLoadsx6
import Derived.Test.YtglhbjmagfchiaaQDayLoadsx7
import Derived.Test.YtglhbjmagfchiaaQDayLoadsxL
import Derived.Test.YtglhbjmagfchiaaQDayLoadsxDLoads
namespace Go.Proofs.Ytglhbjmagfchiaa.Pure
open Go.RowKit Go.Proofs.Ytglhbjmagfchiaa.QDayLoads Go.Proofs.YtglhbjmagfchiaaW.PrintWords Go.Proofs.Ytglhbjmagfchiaa.QOpen Go.Proofs.Ytglhbjmagfchiaa.QEv
set_option linter.unusedVariables false
set_option linter.unusedSimpArgs false
theorem daysLoop (x : S76) (hx : BuildOk x) (o : List Int) (ho : DayOk o) : ∀ (d h : Nat) (acc : List Int), h + d = 24 → acc.length = h →
    ∃ r : List Int, Ev (fun k => spec_DayLoads.l0 k o acc (h : Int) x.f0 x.f1 x.f2 x.f3 x.f4 x.f5) (r, 0) ∧ Ev (fun k => impl_forecastOf.l0 k [x] o (acc ++ List.replicate d 0) 24 (h : Int)) r ∧ r.length = 24 := by
  intro d
  induction d with
  | zero =>
    intro h acc hh ha
    refine ⟨acc, Ev.succ ?_, Ev.succ ?_, by omega⟩
    · simp only [spec_DayLoads.l0]
      exact Ev.neg (by omega) (Ev.now _)
    · simp only [impl_forecastOf.l0]
      exact Ev.neg (by omega) (Ev.eqn (Ev.now _) (by simp))
  | succ d ih =>
    intro h acc hh ha
    obtain ⟨t0, t1⟩ := ho.2 h (by omega)
    obtain ⟨e1, e2, v0, v1⟩ := load_both x hx (o.getD h 0) h (by omega) (by omega) (by omega)
    have eo : rd o (h : Int) = o.getD h 0 := rfl
    have hol := ho.1
    obtain ⟨r, h1, h2, h3⟩ := ih (h + 1) (acc ++ [loadv x (o.getD h 0) h]) (by omega) (by simp; omega)
    refine ⟨r, Ev.succ ?_, Ev.succ ?_, h3⟩
    · simp only [spec_DayLoads.l0, eo, e1, Option.bind_some, wnat h (by omega)]
      exact Ev.pos (by omega) (Ev.pos (by omega) (Ev.pos (by omega) (Ev.pos (by omega) h1)))
    · simp only [impl_forecastOf.l0]
      refine Ev.pos (by omega) ?_
      have g := get_mid acc d
      rw [ha] at g
      have s := set_mid acc d (loadv x (o.getD h 0) h)
      rw [ha] at s
      refine hourLoop [x] (by simp) (fun j hj => ?_) o ho h (by omega) 24 1 0 _ (by simp) (by simp; omega) (by rw [g]; omega) (by rw [g]; omega) r ?_
      · have : j = 0 := by simpa using hj
        subst this
        exact hx
      · rw [g, List.drop_zero, sumv, sumv, Int.add_zero, Int.zero_add, s]
        exact h2
theorem days_both (x : S76) (hz : x.f0.size ≤ 1048576) (hp : x.f5.length ≤ 1048576) (o : List Int) (ho : o.length ≤ 1048576) : ∃ (r : List Int) (c : Int), Ev (fun k => spec_DayLoads.f k x.f0 x.f1 x.f2 x.f3 x.f4 x.f5 o) (r, c) ∧ Ev (fun k => impl_DayLoads.f k x.f0 x.f1 x.f2 x.f3 x.f4 x.f5 o) (r, c) ∧ r.length ≤ 24 := by
  obtain ⟨v, h1, h2, h3⟩ := build_both x hz hp
  obtain ⟨u, g1, g2, g3⟩ := day_both o ho
  simp only [spec_DayLoads.f, impl_DayLoads.f, g2, Option.bind_some]
  cases v with
  | false => exact ⟨[], 1, Ev.bind h1 (Ev.neg (by decide) (Ev.now _)), Ev.bind h2 (Ev.neg (by decide) (Ev.now _)), by simp⟩
  | true =>
    cases u with
    | false => exact ⟨[], 7, Ev.bind h1 (Ev.pos rfl (Ev.bind g1 (Ev.neg (by decide) (Ev.now _)))), Ev.bind h2 (Ev.pos rfl (Ev.neg (by decide) (Ev.now _))), by simp⟩
    | true =>
      obtain ⟨r, k1, k2, k3⟩ := daysLoop x (h3 rfl) o (g3 rfl) 24 0 [] (by omega) rfl
      have k3' : Ev (fun k => impl_forecastOf.f k [(⟨x.f0, x.f1, x.f2, x.f3, x.f4, x.f5⟩ : S76)] o) r := by
        simp only [impl_forecastOf.f]
        refine Ev.pos (by omega) (Ev.sb ?_)
        exact k2
      exact ⟨r, 0, Ev.bind h1 (Ev.pos rfl (Ev.bind g1 (Ev.pos rfl k1))), Ev.bind h2 (Ev.pos rfl (Ev.bind k3' (Ev.now _))), by omega⟩
theorem szBuilding_ev (x : S73) (left : Int) (h0 : 0 ≤ left) (h1 : left ≤ 1048576) (hs : x.f0.size ≤ 9223372036854775807) (hp : x.f5.length ≤ 9223372036854775807) : ∃ t, laws_szBuilding.f x.f0 x.f1 x.f2 x.f3 x.f4 x.f5 left = some t ∧ (0 ≤ t → x.f0.size ≤ 1048576 ∧ x.f5.length ≤ 1048576) := by
  have w : wrap64 (left - (x.f0.size : Int)) = left - (x.f0.size : Int) := wid (by omega) (by omega)
  simp only [laws_szBuilding.f, w]
  by_cases c : left - (x.f0.size : Int) < 0
  · rw [if_pos c]
    exact ⟨-1, rfl, fun h => absurd h (by omega)⟩
  · rw [if_neg c]
    have w2 : wrap64 (left - (x.f0.size : Int) - (x.f5.length : Int)) = left - (x.f0.size : Int) - (x.f5.length : Int) := wid (by omega) (by omega)
    simp only [laws_szInt64S.f, w2]
    by_cases c2 : left - (x.f0.size : Int) - (x.f5.length : Int) < 0
    · rw [if_pos c2]
      exact ⟨-1, rfl, fun h => absurd h (by omega)⟩
    · rw [if_neg c2]
      simp only [Option.bind_some]
      rw [if_neg c2]
      exact ⟨_, rfl, fun _ => by omega⟩
theorem FnExactDayLoads : ∀ (x0 : S73) (x1 : List Int), wf73 x0 → (wfL (wfI .i64)) x1 → ∃ k, laws_FnExactDayLoads.f k x0.f0 x0.f1 x0.f2 x0.f3 x0.f4 x0.f5 x1 = some true := by
  intro x0 x1 hw0 hw1
  refine Ev.rounds (r := true) ?_
  simp only [laws_FnExactDayLoads.f]
  by_cases c0 : (x1.length : Int) > 1048576
  · exact Ev.pos c0 (Ev.now _)
  refine Ev.neg c0 ?_
  obtain ⟨t, ht, hs⟩ := szBuilding_ev x0 1048576 (by omega) (by omega) hw0.1 hw0.2.2.2.2.2.1
  simp only [ht, Option.bind_some]
  by_cases c : t < 0
  · exact Ev.pos c (Ev.now _)
  refine Ev.neg c ?_
  obtain ⟨s1, s2⟩ := hs (by omega)
  have hti := laws_toInt64S_ev x0.f5 ⟨by omega, fun _ _ => trivial⟩
  have hto : Ev (fun k => laws_toBuilding.f k x0.f0 x0.f1 x0.f2 x0.f3 x0.f4 x0.f5) (x0.f0, x0.f1, x0.f2, x0.f3, x0.f4, x0.f5) := by
    simp only [laws_toBuilding.f]
    exact Ev.bind hti (Ev.now _)
  have ho1 := laws_toInt64S_ev x1 ⟨by omega, fun _ _ => trivial⟩
  obtain ⟨r, e, h1, h2, h3⟩ := days_both ⟨x0.f0, x0.f1, x0.f2, x0.f3, x0.f4, x0.f5⟩ s1 s2 x1 (by omega)
  have qi := laws_eqInt64S_refl x0.f5 (by omega)
  have q0 : Ev (fun k => laws_eqBuilding.f k x0.f0 x0.f1 x0.f2 x0.f3 x0.f4 x0.f5 x0.f0 x0.f1 x0.f2 x0.f3 x0.f4 x0.f5) true := by
    simp only [laws_eqBuilding.f]
    exact Ev.pos (by first | rfl | trivial) (Ev.pos (by first | rfl | trivial) (Ev.pos (by first | rfl | trivial) (Ev.pos (by first | rfl | trivial) (Ev.pos (by first | rfl | trivial) (Ev.bind qi (Ev.pos rfl (Ev.now _)))))))
  have q1 := laws_eqInt64S_refl r (by omega)
  have q2 := laws_eqInt64S_refl x1 (by omega)
  obtain ⟨m0, k0', e0, _⟩ := laws_markInt64S_ev x0.f5 1 (by omega) (by omega)
  have k0 : Ev (fun k => laws_markBuilding.f k x0.f0 x0.f1 x0.f2 x0.f3 x0.f4 x0.f5 1) (1 + 1 * (x0.f5.length : Int), m0) := by
    simp only [laws_markBuilding.f]
    exact Ev.bind k0' (Ev.now _)
  obtain ⟨m2, k2, _, _⟩ := laws_markInt64S_ev x1 (1 + 1 * (x0.f5.length : Int)) (by omega) (by omega)
  obtain ⟨m1, k1, e1, j1⟩ := laws_markInt64S_ev r 1 (by omega) (by omega)
  have v1 := laws_heldInt64S_ev 1 (by omega) m1 (by omega) (by rw [e1]; exact j1)
  rw [e1] at v1
  repeat' first | (with_reducible exact Ev.now _) | (with_reducible exact hto) | (with_reducible exact ho1) | (with_reducible exact h1) | (with_reducible exact h2) | (with_reducible exact q0) | (with_reducible exact q1) | (with_reducible exact q2) | (with_reducible exact k0) | (with_reducible exact k2) | (with_reducible exact k1) | (with_reducible exact v1) | ((with_reducible refine Ev.pos ?_ ?_); focus (first | with_reducible assumption | with_reducible rfl | omega | rfl | trivial)) | ((with_reducible refine Ev.neg ?_ ?_); focus (first | with_reducible assumption | omega | (simp; done) | (dsimp only; omega))) | (with_reducible refine Ev.bind hto ?_) | (with_reducible refine Ev.bind ho1 ?_) | (with_reducible refine Ev.bind h1 ?_) | (with_reducible refine Ev.bind h2 ?_) | (with_reducible refine Ev.bind q0 ?_) | (with_reducible refine Ev.bind q1 ?_) | (with_reducible refine Ev.bind q2 ?_) | (with_reducible refine Ev.bind k0 ?_) | (with_reducible refine Ev.bind k2 ?_) | (with_reducible refine Ev.bind k1 ?_) | (with_reducible refine Ev.bind v1 ?_) | (with_reducible refine Ev.bind (Ev.shift hto) ?_) | (with_reducible refine Ev.bind (Ev.shift ho1) ?_) | (with_reducible refine Ev.bind (Ev.shift h1) ?_) | (with_reducible refine Ev.bind (Ev.shift h2) ?_) | (with_reducible refine Ev.bind (Ev.shift q0) ?_) | (with_reducible refine Ev.bind (Ev.shift q1) ?_) | (with_reducible refine Ev.bind (Ev.shift q2) ?_) | (with_reducible refine Ev.bind (Ev.shift k0) ?_) | (with_reducible refine Ev.bind (Ev.shift k2) ?_) | (with_reducible refine Ev.bind (Ev.shift k1) ?_) | (with_reducible refine Ev.bind (Ev.shift v1) ?_) | (refine Ev.succ ?_; simp only [laws_FnExactDayLoads.j0]) | (refine Ev.succ ?_; simp only [laws_FnExactDayLoads.j1]) | (refine Ev.succ ?_; simp only [laws_FnExactDayLoads.j2]) | (with_reducible refine Ev.sb ?_) | dsimp only
end Go.Proofs.Ytglhbjmagfchiaa.Pure
