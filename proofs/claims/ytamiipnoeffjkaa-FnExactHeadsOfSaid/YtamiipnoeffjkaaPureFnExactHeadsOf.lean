/- FnExactHeadsOf: the program's HeadsOf and the reference's return one and the same for all arguments, the list stays as it was, and the answer is nobody else's. Conditions: none beyond the statement's own guard. -/
import Derived.Test.YtamiipnoeffjkaaQHeadsOfx3
import Derived.Test.YtamiipnoeffjkaaQHeadsOfx6
import Derived.Test.YtamiipnoeffjkaaQHeadsOfx9
import Derived.Test.YtamiipnoeffjkaaQHeadsOfxL
import Derived.Test.YtamiipnoeffjkaaQHeadsOfxDHistory
namespace Go.Proofs.Ytamiipnoeffjkaa.Pure
open Go.RowKit Go.Proofs.Ytamiipnoeffjkaa.QHeadsOf Go.Proofs.YtamiipnoeffjkaaW.PrintWords Go.Proofs.Ytamiipnoeffjkaa.QOpen Go.Proofs.Ytamiipnoeffjkaa.QEv
set_option linter.unusedVariables false
set_option linter.unusedSimpArgs false
theorem headIdx (l : List S180) (hn : l.length ≤ 32) (a b : Int) (c : ByteArray) (s : List S213) : ∀ d i : Nat, i + d = l.length →
    ∃ r : Int, Ev (fun k => slices_IndexFunc_Version.l0 k l (l.length : Int) (i : Int) a b c s) r ∧ decide (r ≥ 0) = (l.drop i).any (fun x => x.f1 == a) := by
  intro d
  induction d with
  | zero =>
    intro i hi
    refine ⟨-1, Ev.succ ?_, ?_⟩
    · simp only [slices_IndexFunc_Version.l0]
      exact Ev.neg (by omega) (Ev.now _)
    · rw [drop_end l i hi]
      rfl
  | succ d ih =>
    intro i hi
    have er : rd_T180 l (i : Int) = l.getD i z180 := rfl
    obtain ⟨r, h1, h2⟩ := ih (i + 1) (by omega)
    rw [drop_step l i z180 (by omega), List.any_cons]
    cases h : ((l.getD i z180).f1 == a) with
    | true =>
      refine ⟨(i : Int), Ev.succ ?_, ?_⟩
      · simp only [slices_IndexFunc_Version.l0, impl_HeadsOf_1.f, er, h, Option.bind_some]
        exact Ev.pos (by omega) (Ev.pos (by omega) (Ev.pos (by omega) (Ev.pos (by first | rfl | trivial) (Ev.now _))))
      · rw [decide_eq_true (show (i : Int) ≥ 0 by omega)]
        rfl
    | false =>
      refine ⟨r, Ev.succ ?_, ?_⟩
      · simp only [slices_IndexFunc_Version.l0, impl_HeadsOf_1.f, er, h, Option.bind_some, wnat i (by omega)]
        exact Ev.pos (by omega) (Ev.pos (by omega) (Ev.pos (by omega) (Ev.neg (by decide) h1)))
      · rw [h2]
        rfl
theorem headHas (l : List S180) (hn : l.length ≤ 32) (a b : Int) (c : ByteArray) (s : List S213) : Ev (fun k => slices_ContainsFunc_Version.f k l a b c s) (l.any (fun x => x.f1 == a)) := by
  obtain ⟨r, h1, h2⟩ := headIdx l hn a b c s l.length 0 (by omega)
  rw [List.drop_zero] at h2
  simp only [slices_ContainsFunc_Version.f, slices_IndexFunc_Version.f]
  rw [← h2]
  exact Ev.bind h1 (Ev.now _)
theorem headIn (l : List S180) (hn : l.length ≤ 32) (o : List Int) (j : Nat) (hj : j < l.length) : ∀ (d i : Nat) (h : Bool), i + d = l.length →
    ∀ r, Ev (fun k => spec_HeadsOf.l1 k l o (j : Int) (h && !((l.drop i).any fun x => x.f1 == (l.getD j z180).f0)) (l.length : Int)) r → Ev (fun k => spec_HeadsOf.l1 k l o (j : Int) h (i : Int)) r := by
  intro d
  induction d with
  | zero =>
    intro i h hi r hr
    rw [drop_end l i hi] at hr
    have e : i = l.length := by omega
    rw [e]
    simpa using hr
  | succ d ih =>
    intro i h hi r hr
    have er : rd_T180 l (i : Int) = l.getD i z180 := rfl
    have ej : rd_T180 l (j : Int) = l.getD j z180 := rfl
    rw [drop_step l i z180 (by omega), List.any_cons] at hr
    cases h with
    | true =>
      refine Ev.succ ?_
      simp only [spec_HeadsOf.l1, er, ej, wnat i (by omega)]
      refine Ev.pos (by omega) (Ev.pos (by first | rfl | trivial) (Ev.pos (by omega) (Ev.pos (by omega) (Ev.pos (by omega) (ih (i + 1) _ (by omega) r ?_)))))
      rw [show ((l.getD i z180).f1 != (l.getD j z180).f0) = !((l.getD i z180).f1 == (l.getD j z180).f0) from rfl]
      cases h2 : ((l.getD i z180).f1 == (l.getD j z180).f0) with
      | true =>
        rw [h2] at hr
        simpa using hr
      | false =>
        rw [h2] at hr
        simpa using hr
    | false =>
      refine Ev.succ ?_
      simp only [spec_HeadsOf.l1, wnat i (by omega)]
      refine Ev.pos (by omega) (Ev.neg (by decide) (ih (i + 1) false (by omega) r ?_))
      simpa using hr
theorem headLoop (l : List S180) (hn : l.length ≤ 32) : ∀ (d i : Nat) (o : List Int), i + d = l.length → o.length ≤ i →
    ∃ r : List Int, Ev (fun k => spec_HeadsOf.l0 k l o (i : Int)) (r, 0) ∧ Ev (fun k => impl_HeadsOf.l0 k l o l (l.length : Int) (i : Int)) (r, 0) ∧ r.length ≤ l.length := by
  intro d
  induction d with
  | zero =>
    intro i o hi ho
    refine ⟨o, Ev.succ ?_, Ev.succ ?_, by omega⟩
    · simp only [spec_HeadsOf.l0]
      exact Ev.neg (by omega) (Ev.now _)
    · simp only [impl_HeadsOf.l0]
      exact Ev.neg (by omega) (Ev.now _)
  | succ d ih =>
    intro i o hi ho
    have er : rd_T180 l (i : Int) = l.getD i z180 := rfl
    have hc := headHas l hn (l.getD i z180).f0 (l.getD i z180).f1 (l.getD i z180).f2 (l.getD i z180).f3
    have hs : ∀ r, Ev (fun k => spec_HeadsOf.l1 k l o (i : Int) (true && !(l.any fun x => x.f1 == (l.getD i z180).f0)) (l.length : Int)) r → Ev (fun k => spec_HeadsOf.l0 k l o (i : Int)) r := by
      intro r hr
      refine Ev.succ ?_
      simp only [spec_HeadsOf.l0]
      exact Ev.pos (by omega) (headIn l hn o i (by omega) l.length 0 true (by omega) r hr)
    cases hb : (l.any fun x => x.f1 == (l.getD i z180).f0) with
    | true =>
      rw [hb] at hc hs
      obtain ⟨r, h1, h2, h3⟩ := ih (i + 1) o (by omega) (by omega)
      refine ⟨r, hs _ (Ev.succ ?_), Ev.succ ?_, h3⟩
      · simp only [spec_HeadsOf.l1, wnat i (by omega)]
        exact Ev.neg (by omega) (Ev.neg (by decide) h1)
      · simp only [impl_HeadsOf.l0, er, wnat i (by omega)]
        exact Ev.pos (by omega) (Ev.pos (by omega) (Ev.pos (by omega) (Ev.bind hc (Ev.pos (by first | rfl | trivial) h2))))
    | false =>
      rw [hb] at hc hs
      obtain ⟨r, h1, h2, h3⟩ := ih (i + 1) (o ++ [(l.getD i z180).f0]) (by omega) (by simp; omega)
      refine ⟨r, hs _ (Ev.succ ?_), Ev.succ ?_, h3⟩
      · simp only [spec_HeadsOf.l1, er, wnat i (by omega)]
        exact Ev.neg (by omega) (Ev.pos (by first | rfl | trivial) (Ev.pos (by omega) (Ev.pos (by omega) (Ev.pos (by omega) h1))))
      · simp only [impl_HeadsOf.l0, er, wnat i (by omega)]
        exact Ev.pos (by omega) (Ev.pos (by omega) (Ev.pos (by omega) (Ev.bind hc (Ev.neg (by decide) (Ev.pos (by omega) h2)))))
theorem heads_both (l : List S180) (hl : smL sm180 l) : ∃ (r : List Int) (c : Int), Ev (fun k => spec_HeadsOf.f k l) (r, c) ∧ Ev (fun k => impl_HeadsOf.f k l) (r, c) ∧ r.length ≤ 32 := by
  obtain ⟨b, h1, h2, h3⟩ := history_both l hl
  simp only [spec_HeadsOf.f, impl_HeadsOf.f]
  cases b with
  | false => exact ⟨[], 1, Ev.bind h1 (Ev.neg (by decide) (Ev.now _)), Ev.bind h2 (Ev.neg (by decide) (Ev.now _)), by simp⟩
  | true =>
    have hn := (h3 rfl).1
    obtain ⟨r, k1, k2, k3⟩ := headLoop l hn l.length 0 [] (by omega) (by simp)
    exact ⟨r, 0, Ev.bind h1 (Ev.pos rfl k1), Ev.bind h2 (Ev.pos rfl k2), by omega⟩
theorem FnExactHeadsOf : ∀ (x0 : List (S176)), (wfL wf176) x0 → ∃ k, laws_FnExactHeadsOf.f k x0 = some true := by
  intro x0 hw0
  refine Ev.rounds (r := true) ?_
  simp only [laws_FnExactHeadsOf.f]
  obtain ⟨t, ht, _, _, hs⟩ := laws_szVersionS_ev x0 1048576 hw0 (by omega) (by omega)
  refine Ev.bind ht ?_
  by_cases c : t < 0
  · exact Ev.pos c (Ev.now _)
  refine Ev.neg c ?_
  have sm := hs (by omega)
  have sm2 := smL_map cv176 cv176_sm sm
  have hto := laws_toVersionS_ev x0 sm
  obtain ⟨r, e, h1, h2, h3⟩ := heads_both _ sm2
  have q0 := laws_eqVersionS_refl (x0.map cv176) sm2
  have q2 := laws_eqInt64S_refl r (by omega)
  obtain ⟨b0, m0, k0, b1, b2⟩ := laws_markVersionS_some (x0.map cv176) sm2 1 (by omega) (by omega)
  obtain ⟨m1, k1, e1, j1⟩ := laws_markInt64S_ev r 1 (by omega) (by omega)
  have v1 := laws_heldInt64S_ev 1 (by omega) m1 (by omega) (by rw [e1]; exact j1)
  rw [e1] at v1
  repeat' first | (with_reducible exact Ev.now _) | (with_reducible exact hto) | (with_reducible exact h1) | (with_reducible exact h2) | (with_reducible exact q0) | (with_reducible exact q2) | (with_reducible exact k0) | (with_reducible exact k1) | (with_reducible exact v1) | ((with_reducible refine Ev.pos ?_ ?_); focus (first | with_reducible assumption | with_reducible rfl | omega | rfl | trivial)) | ((with_reducible refine Ev.neg ?_ ?_); focus (first | with_reducible assumption | omega | (simp; done) | (dsimp only; omega))) | (with_reducible refine Ev.bind hto ?_) | (with_reducible refine Ev.bind h1 ?_) | (with_reducible refine Ev.bind h2 ?_) | (with_reducible refine Ev.bind q0 ?_) | (with_reducible refine Ev.bind q2 ?_) | (with_reducible refine Ev.bind k0 ?_) | (with_reducible refine Ev.bind k1 ?_) | (with_reducible refine Ev.bind v1 ?_) | (with_reducible refine Ev.bind (Ev.shift hto) ?_) | (with_reducible refine Ev.bind (Ev.shift h1) ?_) | (with_reducible refine Ev.bind (Ev.shift h2) ?_) | (with_reducible refine Ev.bind (Ev.shift q0) ?_) | (with_reducible refine Ev.bind (Ev.shift q2) ?_) | (with_reducible refine Ev.bind (Ev.shift k0) ?_) | (with_reducible refine Ev.bind (Ev.shift k1) ?_) | (with_reducible refine Ev.bind (Ev.shift v1) ?_) | (refine Ev.succ ?_; simp only [laws_FnExactHeadsOf.j0]) | (refine Ev.succ ?_; simp only [laws_FnExactHeadsOf.j1]) | (refine Ev.succ ?_; simp only [laws_FnExactHeadsOf.j2]) | (with_reducible refine Ev.sb ?_) | dsimp only
end Go.Proofs.Ytamiipnoeffjkaa.Pure
