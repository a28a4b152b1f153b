/- FnExactNodeLoads: the program's NodeLoads and the reference's return one and the same for all arguments, the arguments stay as they were, and the list is nobody else's. Conditions: none beyond the statement's own guard. -/
import Derived.Test.YtamiipnoeffjkaaQNodeLoadsx2
import Derived.Test.YtamiipnoeffjkaaQNodeLoadsx4
import Derived.Test.YtamiipnoeffjkaaQNodeLoadsx5
import Derived.Test.YtamiipnoeffjkaaQNodeLoadsx7
import Derived.Test.YtamiipnoeffjkaaQNodeLoadsx8
import Derived.Test.YtamiipnoeffjkaaQNodeLoadsx9
import Derived.Test.YtamiipnoeffjkaaQNodeLoadsx10
import Derived.Test.YtamiipnoeffjkaaQNodeLoadsxL
import Derived.Test.YtamiipnoeffjkaaQNodeLoadsxDBuildings
import Derived.Test.YtamiipnoeffjkaaQNodeLoadsxDLoadOne
namespace Go.Proofs.Ytamiipnoeffjkaa.Pure
open Go.RowKit Go.Proofs.Ytamiipnoeffjkaa.QNodeLoads Go.Proofs.YtamiipnoeffjkaaW.PrintWords Go.Proofs.Ytamiipnoeffjkaa.QOpen Go.Proofs.Ytamiipnoeffjkaa.QEv
set_option linter.unusedVariables false
set_option linter.unusedSimpArgs false
theorem nodeLoop (l : List S96) (hn : l.length ≤ 12) (hl : ∀ j, j < l.length → BuildOk (l.getD j z96)) (n : Nat) (n0 : n ≤ 16) (t : Int) (t0 : -4500 ≤ t) (t1 : t ≤ 4600) (h : Nat) (hh : h < 24) : ∀ (d i : Nat) (y : List Int), i + d = l.length → y.length = n → (∀ j, 0 ≤ y.getD j 0 ∧ y.getD j 0 ≤ (i : Int) * 4000000000) →
    ∃ b, Ev (fun k => spec_l05Inside.l0 k l (n : Int) (i : Int)) b ∧ (b = true → ∃ r : List Int, r.length = n ∧ Ev (fun k => spec_l05Nodes.l0 k l t (h : Int) y (i : Int)) r ∧ Ev (fun k => impl_NodeLoads.l0 k (n : Int) t (h : Int) y l (l.length : Int) (i : Int)) (r, 0)) ∧ (b = false → Ev (fun k => impl_NodeLoads.l0 k (n : Int) t (h : Int) y l (l.length : Int) (i : Int)) ([], 6)) := by
  intro d
  induction d with
  | zero =>
    intro i y hi hy hb
    refine ⟨true, Ev.succ ?_, fun _ => ⟨y, hy, Ev.succ ?_, Ev.succ ?_⟩, fun h => by cases h⟩
    · simp only [spec_l05Inside.l0]
      exact Ev.neg (by omega) (Ev.now _)
    · simp only [spec_l05Nodes.l0]
      exact Ev.neg (by omega) (Ev.now _)
    · simp only [impl_NodeLoads.l0]
      exact Ev.neg (by omega) (Ev.now _)
  | succ d ih =>
    intro i y hi hy hb
    have hx := hl i (by omega)
    have er : rd_T96 l (i : Int) = l.getD i z96 := rfl
    obtain ⟨ls, li, l0, l1⟩ := load_both _ hx t h hh t0 t1
    have f0 := hx.1
    have f1 := hx.2.1
    generalize l.getD i z96 = x at *
    obtain ⟨m, hm⟩ : ∃ m : Nat, x.f1 = (m : Int) := ⟨x.f1.toNat, by omega⟩
    by_cases c : x.f1 ≥ (n : Int)
    · refine ⟨false, Ev.succ ?_, fun h => (by cases h), fun _ => Ev.succ ?_⟩
      · simp only [spec_l05Inside.l0, er]
        exact Ev.pos (by omega) (Ev.pos (by omega) (Ev.pos c (Ev.now _)))
      · simp only [impl_NodeLoads.l0, er]
        exact Ev.pos (by omega) (Ev.pos (by omega) (Ev.pos (by omega) (Ev.pos c (Ev.now _))))
    · obtain ⟨g0, g1⟩ := hb m
      have ey : rd y x.f1 = y.getD m 0 := by rw [hm]; rfl
      have w : wrap64 (y.getD m 0 + loadv x t h) = y.getD m 0 + loadv x t h := wid (by omega) (by omega)
      have hb' : ∀ j, 0 ≤ (y.set m (y.getD m 0 + loadv x t h)).getD j 0 ∧ (y.set m (y.getD m 0 + loadv x t h)).getD j 0 ≤ ((i + 1 : Nat) : Int) * 4000000000 := by
        intro j
        obtain ⟨z0, z1⟩ := hb j
        by_cases e : j = m
        · rw [getD_set y m j _ 0 (by omega), if_pos e]
          omega
        · rw [getD_set y m j _ 0 (by omega), if_neg e]
          omega
      obtain ⟨b, k1, k2, k3⟩ := ih (i + 1) (y.set m (y.getD m 0 + loadv x t h)) (by omega) (by simpa using hy) hb'
      have mt : (x.f1 : Int).toNat = m := by omega
      refine ⟨b, Ev.succ ?_, fun hb2 => ?_, fun hb2 => Ev.succ ?_⟩
      · simp only [spec_l05Inside.l0, er, wnat i (by omega)]
        exact Ev.pos (by omega) (Ev.pos (by omega) (Ev.neg c k1))
      · obtain ⟨r, r1, r2, r3⟩ := k2 hb2
        refine ⟨r, r1, Ev.succ ?_, Ev.succ ?_⟩
        · simp only [spec_l05Nodes.l0, er, ls, ey, w, mt, Option.bind_some, wnat i (by omega)]
          exact Ev.pos (by omega) (Ev.pos (by omega) (Ev.pos (by omega) (Ev.pos (by omega) r2)))
        · simp only [impl_NodeLoads.l0, er, li, ey, w, mt, Option.bind_some, wnat i (by omega)]
          exact Ev.pos (by omega) (Ev.pos (by omega) (Ev.pos (by omega) (Ev.neg c (Ev.pos (by omega) (Ev.pos (by omega) r3)))))
      · simp only [impl_NodeLoads.l0, er, li, ey, w, mt, Option.bind_some, wnat i (by omega)]
        exact Ev.pos (by omega) (Ev.pos (by omega) (Ev.pos (by omega) (Ev.neg c (Ev.pos (by omega) (Ev.pos (by omega) (k3 hb2))))))
theorem nodes_both (l : List S96) (hl : smL sm96 l) (a b c : Int) : ∃ (r : List Int) (e : Int), Ev (fun k => spec_NodeLoads.f k l a b c) (r, e) ∧ Ev (fun k => impl_NodeLoads.f k l a b c) (r, e) ∧ r.length ≤ 16 := by
  obtain ⟨v, h1, h2, h3⟩ := builds_both l hl
  simp only [spec_NodeLoads.f, impl_NodeLoads.f, spec_l05Outdoor.f, spec_l05Hour.f, impl_outdoorOk.f, impl_hourOk.f, spec_in_eq, impl_within_eq, Option.bind_some, decide_eq_true_eq]
  have jt : Ev (fun k => spec_NodeLoads.j0 k l a b c true) (([] : List Int), (2 : Int)) := by
    refine Ev.succ ?_
    simp only [spec_NodeLoads.j0]
    exact Ev.pos (by first | rfl | trivial) (Ev.now _)
  cases v with
  | false => exact ⟨[], 1, Ev.bind h1 (Ev.neg (by decide) (Ev.now _)), Ev.bind h2 (Ev.neg (by decide) (Ev.now _)), by simp⟩
  | true =>
    by_cases c0 : 1 ≤ a ∧ a ≤ 16
    · by_cases c1 : -4000 ≤ b ∧ b ≤ 4500
      · by_cases c2 : 0 ≤ c ∧ c ≤ 23
        · obtain ⟨n, rfl⟩ : ∃ n : Nat, a = (n : Int) := ⟨a.toNat, by omega⟩
          obtain ⟨m, rfl⟩ : ∃ m : Nat, c = (m : Int) := ⟨c.toNat, by omega⟩
          obtain ⟨hn, hb⟩ := h3 rfl
          have e0 : ((n : Int)).toNat = n := by omega
          have rep : ∀ j, (List.replicate n (0 : Int)).getD j 0 = 0 := by
            intro j
            rw [List.getD_eq_getElem?_getD, List.getElem?_replicate]
            split <;> rfl
          obtain ⟨b', k1, k2, k3⟩ := nodeLoop l hn hb n (by omega) b (by omega) (by omega) m (by omega) l.length 0 (List.replicate n 0) (by omega) (by simp) (fun j => by rw [rep j]; omega)
          have im : ∀ x : List Int × Int, Ev (fun k => impl_NodeLoads.l0 k (n : Int) b (m : Int) (List.replicate n 0) l (l.length : Int) ((0 : Nat) : Int)) x → Ev (fun k => (impl_ValidBuildings.f k l).bind fun t201 => if t201 = true then (if 1 ≤ (n : Int) ∧ (n : Int) ≤ 16 then (if -4000 ≤ b ∧ b ≤ 4500 then (if 0 ≤ (m : Int) ∧ (m : Int) ≤ 23 then (if 0 ≤ (n : Int) then (if ((n : Int)).toNat ≤ 35184372088832 then impl_NodeLoads.l0 k (n : Int) b (m : Int) (List.replicate ((n : Int)).toNat 0) l (l.length : Int) 0 else none) else none) else some ([], 2)) else some ([], 2)) else some ([], 2)) else some ([], 1)) x := by
            intro x hx
            refine Ev.bind h2 (Ev.pos rfl (Ev.pos c0 (Ev.pos c1 (Ev.pos c2 (Ev.pos (by omega) (Ev.pos (by omega) ?_))))))
            rw [e0]
            exact hx
          have sp : ∀ x : List Int × Int, Ev (fun k => (spec_l05Inside.f k l (n : Int)).bind fun t172 => if t172 = true then (spec_l05Nodes.f k l (n : Int) b (m : Int)).bind fun t173 => some (t173, (0 : Int)) else some ([], 6)) x → Ev (fun k => spec_NodeLoads.j0 k l (n : Int) b (m : Int) (!decide (0 ≤ (m : Int) ∧ (m : Int) ≤ 23))) x := by
            intro x hx
            refine Ev.succ ?_
            simp only [spec_NodeLoads.j0]
            exact Ev.neg (by rw [decide_eq_true c2]; decide) hx
          cases b' with
          | true =>
            obtain ⟨r, r1, r2, r3⟩ := k2 rfl
            have r2' : Ev (fun k => spec_l05Nodes.f k l (n : Int) b (m : Int)) r := by
              simp only [spec_l05Nodes.f, e0]
              exact Ev.pos (by omega) (Ev.pos (by omega) r2)
            exact ⟨r, 0, Ev.bind h1 (Ev.pos rfl (Ev.pos c0 (Ev.pos c1 (sp _ (Ev.bind k1 (Ev.pos rfl (Ev.bind r2' (Ev.now _)))))))), im _ r3, by omega⟩
          | false =>
            exact ⟨[], 6, Ev.bind h1 (Ev.pos rfl (Ev.pos c0 (Ev.pos c1 (sp _ (Ev.bind k1 (Ev.neg (by decide) (Ev.now _))))))), im _ (k3 rfl), by simp⟩
        · refine ⟨[], 2, Ev.bind h1 (Ev.pos rfl (Ev.pos c0 (Ev.pos c1 ?_))), Ev.bind h2 (Ev.pos rfl (Ev.pos c0 (Ev.pos c1 (Ev.neg c2 (Ev.now _))))), by simp⟩
          rw [decide_eq_false c2]
          exact jt
      · exact ⟨[], 2, Ev.bind h1 (Ev.pos rfl (Ev.pos c0 (Ev.neg c1 jt))), Ev.bind h2 (Ev.pos rfl (Ev.pos c0 (Ev.neg c1 (Ev.now _)))), by simp⟩
    · exact ⟨[], 2, Ev.bind h1 (Ev.pos rfl (Ev.neg c0 jt)), Ev.bind h2 (Ev.pos rfl (Ev.neg c0 (Ev.now _))), by simp⟩
theorem FnExactNodeLoads : ∀ (x0 : List (S153)) (x1 : Int) (x2 : Int) (x3 : Int), (wfL wf153) x0 → (wfI .i64) x1 → (wfI .i64) x2 → (wfI .i64) x3 → ∃ k, laws_FnExactNodeLoads.f k x0 x1 x2 x3 = some true := by
  intro x0 x1 x2 x3 hw0 hw1 hw2 hw3
  refine Ev.rounds (r := true) ?_
  simp only [laws_FnExactNodeLoads.f]
  obtain ⟨t, ht, _, _, hs⟩ := laws_szBuildingS_ev x0 1048576 hw0 (by omega) (by omega)
  refine Ev.bind ht ?_
  by_cases c : t < 0
  · exact Ev.pos c (Ev.now _)
  refine Ev.neg c ?_
  have sm := hs (by omega)
  have sm2 := smL_map cv153 cv153_sm sm
  have hto := laws_toBuildingS_ev x0 sm
  obtain ⟨r, e, h1, h2, h3⟩ := nodes_both _ sm2 x1 x2 x3
  have q0 := laws_eqBuildingS_refl (x0.map cv153) sm2
  have q2 := laws_eqInt64S_refl r (by omega)
  obtain ⟨b0, m0, k0, b1, b2⟩ := laws_markBuildingS_some (x0.map cv153) sm2 1 (by omega) (by omega)
  obtain ⟨m1, k1, e1, j1⟩ := laws_markInt64S_ev r 1 (by omega) (by omega)
  have v1 := laws_heldInt64S_ev 1 (by omega) m1 (by omega) (by rw [e1]; exact j1)
  rw [e1] at v1
  repeat' first | (with_reducible exact Ev.now _) | (with_reducible exact hto) | (with_reducible exact h1) | (with_reducible exact h2) | (with_reducible exact q0) | (with_reducible exact q2) | (with_reducible exact k0) | (with_reducible exact k1) | (with_reducible exact v1) | ((with_reducible refine Ev.pos ?_ ?_); focus (first | with_reducible assumption | with_reducible rfl | omega | rfl | trivial)) | ((with_reducible refine Ev.neg ?_ ?_); focus (first | with_reducible assumption | omega | (simp; done) | (dsimp only; omega))) | (with_reducible refine Ev.bind hto ?_) | (with_reducible refine Ev.bind h1 ?_) | (with_reducible refine Ev.bind h2 ?_) | (with_reducible refine Ev.bind q0 ?_) | (with_reducible refine Ev.bind q2 ?_) | (with_reducible refine Ev.bind k0 ?_) | (with_reducible refine Ev.bind k1 ?_) | (with_reducible refine Ev.bind v1 ?_) | (with_reducible refine Ev.bind (Ev.shift hto) ?_) | (with_reducible refine Ev.bind (Ev.shift h1) ?_) | (with_reducible refine Ev.bind (Ev.shift h2) ?_) | (with_reducible refine Ev.bind (Ev.shift q0) ?_) | (with_reducible refine Ev.bind (Ev.shift q2) ?_) | (with_reducible refine Ev.bind (Ev.shift k0) ?_) | (with_reducible refine Ev.bind (Ev.shift k1) ?_) | (with_reducible refine Ev.bind (Ev.shift v1) ?_) | (refine Ev.succ ?_; simp only [laws_FnExactNodeLoads.j0]) | (refine Ev.succ ?_; simp only [laws_FnExactNodeLoads.j1]) | (refine Ev.succ ?_; simp only [laws_FnExactNodeLoads.j2]) | (with_reducible refine Ev.sb ?_) | dsimp only
end Go.Proofs.Ytamiipnoeffjkaa.Pure
