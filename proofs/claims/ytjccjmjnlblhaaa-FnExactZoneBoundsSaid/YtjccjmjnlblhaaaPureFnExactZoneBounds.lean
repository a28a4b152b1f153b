/- FnExactZoneBounds: the program's ZoneBounds and the reference's return one and the same for all arguments, in memory of the call's own, and the meters stay as they were. Conditions: none beyond the statement's own guard. -/
import Derived.Test.YtjccjmjnlblhaaaQZoneBoundsx4
import Derived.Test.YtjccjmjnlblhaaaQZoneBoundsx6
import Derived.Test.YtjccjmjnlblhaaaQZoneBoundsx7
import Derived.Test.YtjccjmjnlblhaaaQZoneBoundsxL
import Derived.Test.YtjccjmjnlblhaaaQZoneBoundsxDZones
import Derived.Test.YtjccjmjnlblhaaaQZoneBoundsxDHeldSS
namespace Go.Proofs.Ytjccjmjnlblhaaa.Pure
open Go.RowKit Go.Proofs.Ytjccjmjnlblhaaa.QZoneBounds Go.Proofs.YtjccjmjnlblhaaaW.PrintWords Go.Proofs.Ytjccjmjnlblhaaa.QOpen Go.Proofs.Ytjccjmjnlblhaaa.QEv
set_option linter.unusedVariables false
set_option linter.unusedSimpArgs false
theorem chk (zs : List (List Int)) (hl : zs.length ≤ 16) (h2 : ∀ y ∈ zs, y.length = 2) : ∀ d j : Nat, j + d = zs.length → ((∀ y ∈ zs.drop j, ¬ bad y) → Ev (fun k => spec_ZoneBounds.l0 k zs (j : Int)) (zs, 0)) ∧ ((∃ y ∈ zs.drop j, bad y) → Ev (fun k => spec_ZoneBounds.l0 k zs (j : Int)) ([], 6)) := by
  intro d
  induction d with
  | zero =>
    intro j hj
    rw [drop_end zs j hj]
    refine ⟨fun _ => Ev.succ ?_, fun ⟨y, hy, _⟩ => by cases hy⟩
    simp only [spec_ZoneBounds.l0]
    exact Ev.neg (by omega) (Ev.now _)
  | succ d ih =>
    intro j hj
    obtain ⟨g1, g2⟩ := ih (j + 1) (by omega)
    have len := h2 _ (getD_mem zs j [] (by omega))
    rw [drop_step zs j [] (by omega)]
    have e0 : rd (zs.getD j []) 0 = (zs.getD j []).getD 0 0 := rfl
    have e1 : rd (zs.getD j []) 1 = (zs.getD j []).getD 1 0 := rfl
    by_cases c : bad (zs.getD j [])
    · refine ⟨fun h => absurd c (h _ (by simp)), fun _ => Ev.succ ?_⟩
      simp only [spec_ZoneBounds.l0, zrd, e0, e1]
      exact Ev.pos (by omega) (Ev.pos (by omega) (Ev.pos (by omega) (Ev.pos (by omega) (Ev.pos c (Ev.now _)))))
    · refine ⟨fun h => Ev.succ ?_, fun h => Ev.succ ?_⟩
      · simp only [spec_ZoneBounds.l0, zrd, e0, e1, wnat j (by omega)]
        exact Ev.pos (by omega) (Ev.pos (by omega) (Ev.pos (by omega) (Ev.pos (by omega) (Ev.neg c (g1 fun y hy => h y (by simp [hy]))))))
      · simp only [spec_ZoneBounds.l0, zrd, e0, e1, wnat j (by omega)]
        refine Ev.pos (by omega) (Ev.pos (by omega) (Ev.pos (by omega) (Ev.pos (by omega) (Ev.neg c (g2 ?_)))))
        obtain ⟨y, hy, hz⟩ := h
        rcases List.mem_cons.1 hy with h | h
        · rw [h] at hz; exact absurd hz c
        · exact ⟨y, h, hz⟩
theorem zb_both (l : List S170) (hl : smL sm170 l) : ∃ (r : List (List Int)) (e : Int), Ev (fun k => spec_ZoneBounds.f k l) (r, e) ∧ Ev (fun k => impl_ZoneBounds.f k l) (r, e) ∧ r.length ≤ 16 ∧ ∀ y ∈ r, y.length = 2 := by
  obtain ⟨b, g1, g2, g3⟩ := meters_both l hl
  simp only [spec_ZoneBounds.f, impl_ZoneBounds.f]
  cases b with
  | false => exact ⟨[], 1, Ev.bind g1 (Ev.neg (by decide) (Ev.now _)), Ev.bind g2 (Ev.neg (by decide) (Ev.now _)), by simp, fun y hy => by cases hy⟩
  | true =>
    obtain ⟨hn, hp⟩ := g3 rfl
    obtain ⟨zs, z1, z2, z3, z4, z5⟩ := zones_ev l hn hp
    obtain ⟨c1, c2⟩ := chk zs z2 z3 zs.length 0 (by omega)
    rw [List.drop_zero] at c1 c2
    rcases some_bad zs with h | h
    · exact ⟨zs, 0, Ev.bind g1 (Ev.pos rfl (Ev.bind z1 (c1 h))), Ev.bind g2 (Ev.pos rfl (z4 h)), z2, z3⟩
    · exact ⟨[], 6, Ev.bind g1 (Ev.pos rfl (Ev.bind z1 (c2 h))), Ev.bind g2 (Ev.pos rfl (z5 h)), by simp, fun y hy => by cases hy⟩
theorem FnExactZoneBounds : ∀ (x0 : List (S167)), (wfL wf167) x0 → ∃ k, laws_FnExactZoneBounds.f k x0 = some true := by
  intro x0 hw0
  refine Ev.rounds (r := true) ?_
  simp only [laws_FnExactZoneBounds.f]
  obtain ⟨t, ht, _, _, hs⟩ := laws_szMeterS_ev x0 1048576 hw0 (by omega) (by omega)
  refine Ev.bind ht ?_
  by_cases c : t < 0
  · exact Ev.pos c (Ev.now _)
  refine Ev.neg c ?_
  have sm := hs (by omega)
  have sm2 := smL_map cv167 cv167_sm sm
  have hto := laws_toMeterS_ev x0 sm
  have hn := sm2.1
  obtain ⟨r, e, h1, h2, h3, h4⟩ := zb_both _ sm2
  have q0 := laws_eqMeterS_refl (x0.map cv167) (by omega)
  have q1 := laws_eqInt64SS_refl r ⟨by omega, fun y hy => ⟨by have := h4 y hy; omega, fun _ _ => trivial⟩⟩
  obtain ⟨m0, k0, _, _⟩ := laws_markMeterS_ev (x0.map cv167) 1 (by omega) (by omega)
  obtain ⟨K, m1, k1, v1, K0⟩ := markHeld_ev r (by omega) (fun j hj => by have := h4 _ (getD_mem r j [] hj); omega)
  repeat' first | (with_reducible exact Ev.now _) | (with_reducible exact hto) | (with_reducible exact h1) | (with_reducible exact h2) | (with_reducible exact q0) | (with_reducible exact q1) | (with_reducible exact k0) | (with_reducible exact k1) | (with_reducible exact v1) | ((with_reducible refine Ev.pos ?_ ?_); focus (first | with_reducible assumption | with_reducible rfl | omega | rfl | trivial)) | ((with_reducible refine Ev.neg ?_ ?_); focus (first | with_reducible assumption | omega | (simp; done) | (dsimp only; omega))) | (with_reducible refine Ev.bind hto ?_) | (with_reducible refine Ev.bind h1 ?_) | (with_reducible refine Ev.bind h2 ?_) | (with_reducible refine Ev.bind q0 ?_) | (with_reducible refine Ev.bind q1 ?_) | (with_reducible refine Ev.bind k0 ?_) | (with_reducible refine Ev.bind k1 ?_) | (with_reducible refine Ev.bind v1 ?_) | (with_reducible refine Ev.bind (Ev.shift hto) ?_) | (with_reducible refine Ev.bind (Ev.shift h1) ?_) | (with_reducible refine Ev.bind (Ev.shift h2) ?_) | (with_reducible refine Ev.bind (Ev.shift q0) ?_) | (with_reducible refine Ev.bind (Ev.shift q1) ?_) | (with_reducible refine Ev.bind (Ev.shift k0) ?_) | (with_reducible refine Ev.bind (Ev.shift k1) ?_) | (with_reducible refine Ev.bind (Ev.shift v1) ?_) | (refine Ev.succ ?_; simp only [laws_FnExactZoneBounds.j0]) | (refine Ev.succ ?_; simp only [laws_FnExactZoneBounds.j1]) | (refine Ev.succ ?_; simp only [laws_FnExactZoneBounds.j2]) | (with_reducible refine Ev.sb ?_) | dsimp only
end Go.Proofs.Ytjccjmjnlblhaaa.Pure
