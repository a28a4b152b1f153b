/- FnExactUncoveredHours: the program's UncoveredHours and the reference's return one and the same for all arguments, in memory of the call's own, and the arguments stay as they were. Conditions: none beyond the statement's own guard. -/
import Derived.Test.YtamiipnoeffjkaaQUncoveredHoursx2
import Derived.Test.YtamiipnoeffjkaaQUncoveredHoursx6
import Derived.Test.YtamiipnoeffjkaaQUncoveredHoursx8
import Derived.Test.YtamiipnoeffjkaaQUncoveredHoursxL
import Derived.Test.YtamiipnoeffjkaaQUncoveredHoursxDDuties
import Derived.Test.YtamiipnoeffjkaaQUncoveredHoursxDCoverAt
namespace Go.Proofs.Ytamiipnoeffjkaa.Pure
open Go.RowKit Go.Proofs.Ytamiipnoeffjkaa.QUncoveredHours Go.Proofs.YtamiipnoeffjkaaW.PrintWords Go.Proofs.Ytamiipnoeffjkaa.QOpen Go.Proofs.Ytamiipnoeffjkaa.QEv
set_option linter.unusedVariables false
set_option linter.unusedSimpArgs false
theorem coverLoop (l : List S120) (hl : l.length ≤ 32) (hd : ∀ j, j < l.length → DutyOk (l.getD j z120)) (u : Int) (out : List Int) (h : Int) (r : List Int × Int) : ∀ (d i : Nat) (b : Bool), i + d = l.length →
    Ev (fun k => spec_UncoveredHours.l1 k l u out h (b || (l.drop i).any (cov h)) (l.length : Int)) r → Ev (fun k => spec_UncoveredHours.l1 k l u out h b (i : Int)) r := by
  intro d
  induction d with
  | zero =>
    intro i b hi g
    rw [drop_end _ _ hi] at g
    simp only [List.any_nil, Bool.or_false] at g
    rwa [show (i : Int) = (l.length : Int) by omega]
  | succ d ih =>
    intro i b hi g
    have hok : DutyOk (rd_T120 l (i : Int)) := hd i (by omega)
    rw [drop_step l i z120 (by omega)] at g
    have e0 : l.getD i z120 = rd_T120 l (i : Int) := rfl
    rw [e0, List.any_cons, ← Bool.or_assoc] at g
    have g1 := ih (i + 1) _ (by omega) g
    refine Ev.succ ?_
    simp only [spec_UncoveredHours.l1, at_eq _ hok, Option.bind_some, wnat i (by omega)]
    refine Ev.pos (by omega) ?_
    cases b with
    | true => exact Ev.pos (by first | rfl | trivial) g1
    | false =>
      refine Ev.neg (by decide) (Ev.pos (by omega) ?_)
      rw [Bool.false_or, cov] at g1
      refine Ev.ite (fun c => ?_) (fun c => ?_)
      · rw [c] at g1
        exact g1
      · rw [Bool.not_eq_true] at c
        rw [c] at g1
        exact g1
theorem hoursLoop (l : List S120) (hl : l.length ≤ 32) (hd : ∀ j, j < l.length → DutyOk (l.getD j z120)) (u : Int) (hu : u ≤ 10100) : ∀ (d : Nat) (h : Int) (out : List Int), 0 ≤ h → h + d = u → out.length ≤ 64 →
    ∃ (r : List Int) (c : Int), Ev (fun k => spec_UncoveredHours.l0 k l u out h) (r, c) ∧ Ev (fun k => impl_UncoveredHours.l0 k l u out h) (r, c) ∧ r.length ≤ 64 := by
  intro d
  induction d with
  | zero =>
    intro h out h0 hh ho
    refine ⟨out, 0, Ev.succ ?_, Ev.succ ?_, ho⟩
    · simp only [spec_UncoveredHours.l0]
      exact Ev.neg (by omega) (Ev.now _)
    · simp only [impl_UncoveredHours.l0]
      exact Ev.neg (by omega) (Ev.now _)
  | succ d ih =>
    intro h out h0 hh ho
    have hp := persons_ev l hl hd h
    have w : wrap64 (h + 1) = h + 1 := wid (by omega) (by omega)
    have key : ∀ b, b = l.any (cov h) → ∃ (r : List Int) (c : Int), Ev (fun k => spec_UncoveredHours.l1 k l u out h b (l.length : Int)) (r, c) ∧ Ev (fun k => impl_UncoveredHours.l0 k l u out h) (r, c) ∧ r.length ≤ 64 := by
      intro b hb
      cases b with
      | true =>
        obtain ⟨r, c, g1, g2, g3⟩ := ih (h + 1) out (by omega) (by omega) ho
        have hn : 0 < ((l.filter (cov h)).map (·.f0)).length := by
          obtain ⟨x, hx, e⟩ := List.any_eq_true.1 hb.symm
          have : x ∈ l.filter (cov h) := List.mem_filter.2 ⟨hx, e⟩
          have := List.length_pos_of_mem this
          simpa using this
        refine ⟨r, c, Ev.succ ?_, Ev.succ ?_, g3⟩
        · simp only [spec_UncoveredHours.l1, w]
          exact Ev.neg (by omega) (Ev.pos (by first | rfl | trivial) g1)
        · simp only [impl_UncoveredHours.l0, w]
          exact Ev.pos (by omega) (Ev.bind hp (Ev.pos (by omega) g2))
      | false =>
        have hn : ((l.filter (cov h)).map (·.f0)).length = 0 := by
          have : l.filter (cov h) = [] := by
            rw [List.filter_eq_nil_iff]
            intro x hx
            have := List.any_eq_false.1 hb.symm x hx
            exact this
          simp [this]
        by_cases e : out.length = 64
        · refine ⟨[], 5, Ev.succ ?_, Ev.succ ?_, by simp⟩
          · simp only [spec_UncoveredHours.l1, w]
            exact Ev.neg (by omega) (Ev.neg (by decide) (Ev.pos (by omega) (Ev.now _)))
          · simp only [impl_UncoveredHours.l0, w]
            exact Ev.pos (by omega) (Ev.bind hp (Ev.neg (by omega) (Ev.pos (by omega) (Ev.now _))))
        · obtain ⟨r, c, g1, g2, g3⟩ := ih (h + 1) (out ++ [h]) (by omega) (by omega) (by simp; omega)
          refine ⟨r, c, Ev.succ ?_, Ev.succ ?_, g3⟩
          · simp only [spec_UncoveredHours.l1, w]
            exact Ev.neg (by omega) (Ev.neg (by decide) (Ev.neg (by omega) (Ev.pos (by omega) g1)))
          · simp only [impl_UncoveredHours.l0, w]
            exact Ev.pos (by omega) (Ev.bind hp (Ev.neg (by omega) (Ev.neg (by omega) (Ev.pos (by omega) g2))))
    obtain ⟨r, c, g1, g2, g3⟩ := key _ rfl
    refine ⟨r, c, Ev.succ ?_, g2, g3⟩
    simp only [spec_UncoveredHours.l0]
    exact Ev.pos (by omega) (coverLoop l hl hd u out h (r, c) l.length 0 false (by omega) (by simpa using g1))
theorem hours_both (l : List S120) (hl : smL sm120 l) (a u : Int) : ∃ (r : List Int) (c : Int), Ev (fun k => spec_UncoveredHours.f k l a u) (r, c) ∧ Ev (fun k => impl_UncoveredHours.f k l a u) (r, c) ∧ r.length ≤ 64 := by
  obtain ⟨b, h1, h2, h3⟩ := duties_both l hl
  simp only [spec_UncoveredHours.f, impl_UncoveredHours.f, spec_l26Hour.f, impl_dutyHour.f, spec_in_eq, impl_within_eq, Option.bind_some, decide_eq_true_eq]
  cases b with
  | false => exact ⟨[], 1, Ev.bind h1 (Ev.neg (by decide) (Ev.now _)), Ev.bind h2 (Ev.neg (by decide) (Ev.now _)), by simp⟩
  | true =>
    obtain ⟨hlen, hd⟩ := h3 rfl
    by_cases c1 : 0 ≤ a ∧ a ≤ 10100
    · by_cases c2 : 0 ≤ u ∧ u ≤ 10100
      · by_cases c3 : u < a
        · refine ⟨[], 2, Ev.bind h1 (Ev.pos rfl (Ev.pos c1 (Ev.pos c2 (Ev.succ ?_)))), Ev.bind h2 (Ev.pos rfl (Ev.pos c1 (Ev.pos c2 (Ev.pos c3 (Ev.now _))))), by simp⟩
          simp only [spec_UncoveredHours.j0]
          exact Ev.pos (by simpa using c3) (Ev.now _)
        · obtain ⟨r, c, g1, g2, g3⟩ := hoursLoop l hlen hd u c2.2 (u - a).toNat a [] c1.1 (by omega) (by simp)
          refine ⟨r, c, Ev.bind h1 (Ev.pos rfl (Ev.pos c1 (Ev.pos c2 (Ev.succ ?_)))), Ev.bind h2 (Ev.pos rfl (Ev.pos c1 (Ev.pos c2 (Ev.neg c3 g2)))), g3⟩
          simp only [spec_UncoveredHours.j0]
          exact Ev.neg (by simpa using c3) g1
      · refine ⟨[], 2, Ev.bind h1 (Ev.pos rfl (Ev.pos c1 (Ev.neg c2 (Ev.succ ?_)))), Ev.bind h2 (Ev.pos rfl (Ev.pos c1 (Ev.neg c2 (Ev.now _)))), by simp⟩
        simp only [spec_UncoveredHours.j0]
        exact Ev.pos (by first | rfl | trivial) (Ev.now _)
    · refine ⟨[], 2, Ev.bind h1 (Ev.pos rfl (Ev.neg c1 (Ev.succ ?_))), Ev.bind h2 (Ev.pos rfl (Ev.neg c1 (Ev.now _))), by simp⟩
      simp only [spec_UncoveredHours.j0]
      exact Ev.pos (by first | rfl | trivial) (Ev.now _)
theorem FnExactUncoveredHours : ∀ (x0 : List (S117)) (x1 : Int) (x2 : Int), (wfL wf117) x0 → (wfI .i64) x1 → (wfI .i64) x2 → ∃ k, laws_FnExactUncoveredHours.f k x0 x1 x2 = some true := by
  intro x0 x1 x2 hw0 hw1 hw2
  obtain ⟨t, ht, _, _, hs⟩ := laws_szDutyS_ev x0 1048576 hw0 (by omega) (by omega)
  refine Ev.rounds (r := true) ?_
  simp only [laws_FnExactUncoveredHours.f]
  refine Ev.bind ht ?_
  by_cases c : t < 0
  · exact Ev.pos c (Ev.now _)
  refine Ev.neg c ?_
  have sm := hs (by omega)
  have sm2 := smL_map cv117 cv117_sm sm
  have hto := laws_toDutyS_ev x0 sm
  obtain ⟨r, e, h1, h2, h3⟩ := hours_both _ sm2 x1 x2
  have hn := sm2.1
  have q0 := laws_eqDutyS_refl (x0.map cv117) (by omega)
  have q1 := laws_eqInt64S_refl r (by omega)
  obtain ⟨m0, k0, _, _⟩ := laws_markDutyS_ev (x0.map cv117) 1 (by omega) (by omega)
  obtain ⟨m1, k1, e1, j1⟩ := laws_markInt64S_ev r 1 (by omega) (by omega)
  have v1 := laws_heldInt64S_ev 1 (by omega) m1 (by omega) (by rw [e1]; exact j1)
  rw [e1] at v1
  repeat' first | (with_reducible exact Ev.now _) | ((with_reducible refine Ev.pos ?_ ?_); focus (first | rfl | omega | trivial)) | ((with_reducible refine Ev.neg ?_ ?_); focus (first | omega | (simp; done) | (dsimp only; omega))) | (with_reducible refine Ev.bind hto ?_) | (with_reducible refine Ev.bind h1 ?_) | (with_reducible refine Ev.bind h2 ?_) | (with_reducible refine Ev.bind q0 ?_) | (with_reducible refine Ev.bind q1 ?_) | (with_reducible refine Ev.bind k0 ?_) | (with_reducible refine Ev.bind k1 ?_) | (with_reducible refine Ev.bind v1 ?_) | (with_reducible refine Ev.bind (Ev.shift hto) ?_) | (with_reducible refine Ev.bind (Ev.shift h1) ?_) | (with_reducible refine Ev.bind (Ev.shift h2) ?_) | (with_reducible refine Ev.bind (Ev.shift q0) ?_) | (with_reducible refine Ev.bind (Ev.shift q1) ?_) | (with_reducible refine Ev.bind (Ev.shift k0) ?_) | (with_reducible refine Ev.bind (Ev.shift k1) ?_) | (with_reducible refine Ev.bind (Ev.shift v1) ?_) | (refine Ev.succ ?_; simp only [laws_FnExactUncoveredHours.j0]) | (refine Ev.succ ?_; simp only [laws_FnExactUncoveredHours.j1]) | (refine Ev.succ ?_; simp only [laws_FnExactUncoveredHours.j2]) | dsimp only
end Go.Proofs.Ytamiipnoeffjkaa.Pure
