/- FnExactHeatOf: the program's HeatOf and the reference's return one and the same for all arguments, and the arguments stay as they were. Conditions: none beyond the statement's own guard. -/
import Derived.Test.YtamiipnoeffjkaaQHeatOfx4
import Derived.Test.YtamiipnoeffjkaaQHeatOfx8
import Derived.Test.YtamiipnoeffjkaaQHeatOfx9
import Derived.Test.YtamiipnoeffjkaaQHeatOfxL
import Derived.Test.YtamiipnoeffjkaaQHeatOfxDForecast
namespace Go.Proofs.Ytamiipnoeffjkaa.Pure
open Go.RowKit Go.Proofs.Ytamiipnoeffjkaa.QHeatOf Go.Proofs.YtamiipnoeffjkaaW.PrintWords Go.Proofs.Ytamiipnoeffjkaa.QOpen Go.Proofs.Ytamiipnoeffjkaa.QEv
set_option linter.unusedVariables false
set_option linter.unusedSimpArgs false
theorem heatSum (r : List Int) (hn : r.length ≤ 24) (hb : ∀ x ∈ r, 0 ≤ x ∧ x ≤ 48000000000) : ∀ (d i : Nat) (acc : Int), i + d = r.length → 0 ≤ acc → acc ≤ (i : Int) * 48000000000 →
    ∃ s, 0 ≤ s ∧ s ≤ 1152000000000 ∧ Ev (fun k => impl_sumOf.l0 k acc r (r.length : Int) (i : Int)) s ∧ Ev (fun k => spec_HeatOf.l0 k r acc (i : Int)) (rdiv s 1000, 0) := by
  intro d
  induction d with
  | zero =>
    intro i acc hi h0 h1
    have dv := l01DivS_eq acc 1000 (by omega) (by omega) (by omega) (by omega)
    refine ⟨acc, h0, by omega, Ev.succ ?_, Ev.succ ?_⟩
    · simp only [impl_sumOf.l0]
      exact Ev.neg (by omega) (Ev.now _)
    · simp only [spec_HeatOf.l0, dv, Option.bind_some]
      exact Ev.neg (by omega) (Ev.now _)
  | succ d ih =>
    intro i acc hi h0 h1
    have e0 : rd r (i : Int) = r.getD i 0 := rfl
    obtain ⟨p, q⟩ := hb _ (getD_mem r i 0 (by omega))
    generalize r.getD i 0 = x at *
    have w : wrap64 (acc + x) = acc + x := wid (by omega) (by omega)
    obtain ⟨s, s0, s1, g1, g2⟩ := ih (i + 1) (acc + x) (by omega) (by omega) (by omega)
    refine ⟨s, s0, s1, Ev.succ ?_, Ev.succ ?_⟩
    · simp only [impl_sumOf.l0, e0, w, wnat i (by omega)]
      exact Ev.pos (by omega) (Ev.pos (by omega) (Ev.pos (by omega) g1))
    · simp only [spec_HeatOf.l0, e0, w, wnat i (by omega)]
      exact Ev.pos (by omega) (Ev.pos (by omega) g2)
theorem heat_both (l : List S96) (hl : smL sm96 l) (o : List Int) (ho : o.length ≤ 1048576) : ∃ (a c : Int), Ev (fun k => spec_HeatOf.f k l o) (a, c) ∧ Ev (fun k => impl_HeatOf.f k l o) (a, c) := by
  obtain ⟨r, c, h1, h2, h3, h4, h5⟩ := fore_ask l hl o ho
  simp only [spec_HeatOf.f, impl_HeatOf.f]
  by_cases e : c = 0
  · obtain ⟨k1, k2, k3⟩ := h5 e
    obtain ⟨s, s0, s1, g1, g2⟩ := heatSum r (by omega) k3 r.length 0 0 (by omega) (by omega) (by omega)
    have g1' : Ev (fun k => impl_sumOf.f k r) s := by
      simp only [impl_sumOf.f]
      exact g1
    have dv := divRoundS_eq s 1000 (by omega) (by omega) (by omega) (by omega)
    refine ⟨rdiv s 1000, 0, Ev.bind h1 (Ev.pos e (Ev.bind k1 g2)), Ev.bind h2 (Ev.pos e (Ev.bind g1' ?_))⟩
    simp only [dv, Option.bind_some]
    exact Ev.now _
  · exact ⟨0, c, Ev.bind h1 (Ev.neg e (Ev.now _)), Ev.bind h2 (Ev.neg e (Ev.now _))⟩
theorem FnExactHeatOf : ∀ (x0 : List (S153)) (x1 : List Int), (wfL wf153) x0 → (wfL (wfI .i64)) x1 → ∃ k, laws_FnExactHeatOf.f k x0 x1 = some true := by
  intro x0 x1 hw0 hw1
  refine Ev.rounds (r := true) ?_
  simp only [laws_FnExactHeatOf.f]
  by_cases c0 : (x1.length : Int) > 1048576
  · exact Ev.pos c0 (Ev.now _)
  refine Ev.neg c0 ?_
  obtain ⟨t, ht, _, _, hs⟩ := laws_szBuildingS_ev x0 1048576 hw0 (by omega) (by omega)
  refine Ev.bind ht ?_
  by_cases c : t < 0
  · exact Ev.pos c (Ev.now _)
  refine Ev.neg c ?_
  have sm := hs (by omega)
  have sm2 := smL_map cv153 cv153_sm sm
  have hto := laws_toBuildingS_ev x0 sm
  have ho1 := laws_toInt64S_ev x1 ⟨by omega, fun _ _ => trivial⟩
  obtain ⟨a, e, h1, h2⟩ := heat_both _ sm2 x1 (by omega)
  have q0 := laws_eqBuildingS_refl (x0.map cv153) sm2
  have q1 := laws_eqInt64S_refl x1 (by omega)
  repeat' first | (with_reducible exact Ev.now _) | (with_reducible exact hto) | (with_reducible exact ho1) | (with_reducible exact h1) | (with_reducible exact h2) | (with_reducible exact q0) | (with_reducible exact q1) | ((with_reducible refine Ev.pos ?_ ?_); focus (first | with_reducible assumption | with_reducible rfl | omega | rfl | trivial)) | ((with_reducible refine Ev.neg ?_ ?_); focus (first | with_reducible assumption | omega | (simp; done) | (dsimp only; omega))) | (with_reducible refine Ev.bind hto ?_) | (with_reducible refine Ev.bind ho1 ?_) | (with_reducible refine Ev.bind h1 ?_) | (with_reducible refine Ev.bind h2 ?_) | (with_reducible refine Ev.bind q0 ?_) | (with_reducible refine Ev.bind q1 ?_) | (with_reducible refine Ev.bind (Ev.shift hto) ?_) | (with_reducible refine Ev.bind (Ev.shift ho1) ?_) | (with_reducible refine Ev.bind (Ev.shift h1) ?_) | (with_reducible refine Ev.bind (Ev.shift h2) ?_) | (with_reducible refine Ev.bind (Ev.shift q0) ?_) | (with_reducible refine Ev.bind (Ev.shift q1) ?_) | (refine Ev.succ ?_; simp only [laws_FnExactHeatOf.j0]) | (with_reducible refine Ev.sb ?_) | dsimp only
end Go.Proofs.Ytamiipnoeffjkaa.Pure
