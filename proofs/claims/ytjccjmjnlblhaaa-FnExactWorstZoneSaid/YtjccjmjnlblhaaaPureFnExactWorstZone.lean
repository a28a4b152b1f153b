/- FnExactWorstZone: the program's WorstZone and the reference's return one and the same for all arguments, and the meters stay as they were. Conditions: none beyond the statement's own guard. -/
import Derived.Test.YtjccjmjnlblhaaaQWorstZonex3
import Derived.Test.YtjccjmjnlblhaaaQWorstZonex5
import Derived.Test.YtjccjmjnlblhaaaQWorstZonex7
import Derived.Test.YtjccjmjnlblhaaaQWorstZonexL
import Derived.Test.YtjccjmjnlblhaaaQWorstZonexDZones
namespace Go.Proofs.Ytjccjmjnlblhaaa.Pure
open Go.RowKit Go.Proofs.Ytjccjmjnlblhaaa.QWorstZone Go.Proofs.YtjccjmjnlblhaaaW.PrintWords Go.Proofs.Ytjccjmjnlblhaaa.QOpen Go.Proofs.Ytjccjmjnlblhaaa.QEv
set_option linter.unusedVariables false
set_option linter.unusedSimpArgs false
theorem worstLoop (zs : List (List Int)) (hl : zs.length ≤ 16) (h2 : ∀ y ∈ zs, y.length = 2) : ∀ (d j : Nat) (a m : Int), j + d = zs.length →
    ((∀ y ∈ zs.drop j, ¬ bad y) → ∃ r : Int × Int × Int, Ev (fun k => spec_WorstZone.l0 k zs a m (j : Int)) r ∧ Ev (fun k => impl_WorstZone.l0 k a m zs (zs.length : Int) (j : Int)) r) ∧ ((∃ y ∈ zs.drop j, bad y) → Ev (fun k => spec_WorstZone.l0 k zs a m (j : Int)) (0, 0, 6)) := by
  intro d
  induction d with
  | zero =>
    intro j a m hj
    rw [drop_end zs j hj]
    refine ⟨fun _ => ?_, fun ⟨y, hy, _⟩ => by cases hy⟩
    by_cases c : m = 0
    · refine ⟨(0, 0, 3), Ev.succ ?_, Ev.succ ?_⟩
      · simp only [spec_WorstZone.l0]
        exact Ev.neg (by omega) (Ev.pos c (Ev.now _))
      · simp only [impl_WorstZone.l0]
        exact Ev.neg (by omega) (Ev.pos c (Ev.now _))
    · refine ⟨(a, m, 0), Ev.succ ?_, Ev.succ ?_⟩
      · simp only [spec_WorstZone.l0]
        exact Ev.neg (by omega) (Ev.neg c (Ev.now _))
      · simp only [impl_WorstZone.l0]
        exact Ev.neg (by omega) (Ev.neg c (Ev.now _))
  | succ d ih =>
    intro j a m hj
    have len := h2 _ (getD_mem zs j [] (by omega))
    rw [drop_step zs j [] (by omega)]
    have e0 : rd (zs.getD j []) 0 = (zs.getD j []).getD 0 0 := rfl
    have e1 : rd (zs.getD j []) 1 = (zs.getD j []).getD 1 0 := rfl
    by_cases c : bad (zs.getD j [])
    · refine ⟨fun h => absurd c (h _ (by simp)), fun _ => Ev.succ ?_⟩
      simp only [spec_WorstZone.l0, zrd, e0, e1]
      exact Ev.pos (by omega) (Ev.pos (by omega) (Ev.pos (by omega) (Ev.pos (by omega) (Ev.pos c (Ev.now _)))))
    · have c' : ¬ (zs.getD j []).getD 1 0 < (zs.getD j []).getD 0 0 := c
      have go : ∀ h : ∃ y ∈ (zs.getD j [] :: zs.drop (j + 1)), bad y, ∃ y ∈ zs.drop (j + 1), bad y := fun ⟨y, hy, hz⟩ => by
        rcases List.mem_cons.1 hy with h | h
        · rw [h] at hz; exact absurd hz c
        · exact ⟨y, h, hz⟩
      by_cases g : (zs.getD j []).getD 0 0 > m
      · obtain ⟨g1, g2⟩ := ih (j + 1) (j : Int) ((zs.getD j []).getD 0 0) (by omega)
        refine ⟨fun h => ?_, fun h => Ev.succ ?_⟩
        · obtain ⟨r, r1, r2⟩ := g1 fun y hy => h y (by simp [hy])
          refine ⟨r, Ev.succ ?_, Ev.succ ?_⟩
          · simp only [spec_WorstZone.l0, zrd, e0, e1, wnat j (by omega)]
            exact Ev.pos (by omega) (Ev.pos (by omega) (Ev.pos (by omega) (Ev.pos (by omega) (Ev.neg c' (Ev.pos g r1)))))
          · simp only [impl_WorstZone.l0, zrd, e0, wnat j (by omega)]
            exact Ev.pos (by omega) (Ev.pos (by omega) (Ev.pos (by omega) (Ev.pos (by omega) (Ev.pos g r2))))
        · simp only [spec_WorstZone.l0, zrd, e0, e1, wnat j (by omega)]
          exact Ev.pos (by omega) (Ev.pos (by omega) (Ev.pos (by omega) (Ev.pos (by omega) (Ev.neg c' (Ev.pos g (g2 (go h)))))))
      · obtain ⟨g1, g2⟩ := ih (j + 1) a m (by omega)
        refine ⟨fun h => ?_, fun h => Ev.succ ?_⟩
        · obtain ⟨r, r1, r2⟩ := g1 fun y hy => h y (by simp [hy])
          refine ⟨r, Ev.succ ?_, Ev.succ ?_⟩
          · simp only [spec_WorstZone.l0, zrd, e0, e1, wnat j (by omega)]
            exact Ev.pos (by omega) (Ev.pos (by omega) (Ev.pos (by omega) (Ev.pos (by omega) (Ev.neg c' (Ev.neg g r1)))))
          · simp only [impl_WorstZone.l0, zrd, e0, wnat j (by omega)]
            exact Ev.pos (by omega) (Ev.pos (by omega) (Ev.pos (by omega) (Ev.pos (by omega) (Ev.neg g r2))))
        · simp only [spec_WorstZone.l0, zrd, e0, e1, wnat j (by omega)]
          exact Ev.pos (by omega) (Ev.pos (by omega) (Ev.pos (by omega) (Ev.pos (by omega) (Ev.neg c' (Ev.neg g (g2 (go h)))))))
theorem wz_both (l : List S170) (hl : smL sm170 l) : ∃ a m e : Int, Ev (fun k => spec_WorstZone.f k l) (a, m, e) ∧ Ev (fun k => impl_WorstZone.f k l) (a, m, e) := by
  obtain ⟨b, g1, g2, g3⟩ := meters_both l hl
  simp only [spec_WorstZone.f, impl_WorstZone.f, impl_ZoneBounds.f]
  cases b with
  | false => exact ⟨0, 0, 1, Ev.bind g1 (Ev.neg (by decide) (Ev.now _)), Ev.bind (Ev.bind g2 (Ev.neg (by decide) (Ev.now _))) (Ev.neg (by decide) (Ev.now _))⟩
  | true =>
    obtain ⟨hn, hp⟩ := g3 rfl
    obtain ⟨zs, z1, z2, z3, z4, z5⟩ := zones_ev l hn hp
    obtain ⟨c1, c2⟩ := worstLoop zs z2 z3 zs.length 0 0 0 (by omega)
    rw [List.drop_zero] at c1 c2
    rcases some_bad zs with h | h
    · obtain ⟨⟨a, m, e⟩, r1, r2⟩ := c1 h
      exact ⟨a, m, e, Ev.bind g1 (Ev.pos rfl (Ev.bind z1 r1)), Ev.bind (Ev.bind g2 (Ev.pos rfl (z4 h))) (Ev.pos rfl r2)⟩
    · exact ⟨0, 0, 6, Ev.bind g1 (Ev.pos rfl (Ev.bind z1 (c2 h))), Ev.bind (Ev.bind g2 (Ev.pos rfl (z5 h))) (Ev.neg (by decide) (Ev.now _))⟩
theorem FnExactWorstZone : ∀ (x0 : List (S167)), (wfL wf167) x0 → ∃ k, laws_FnExactWorstZone.f k x0 = some true := by
  intro x0 hw0
  refine Ev.rounds (r := true) ?_
  simp only [laws_FnExactWorstZone.f]
  obtain ⟨t, ht, _, _, hs⟩ := laws_szMeterS_ev x0 1048576 hw0 (by omega) (by omega)
  refine Ev.bind ht ?_
  by_cases c : t < 0
  · exact Ev.pos c (Ev.now _)
  refine Ev.neg c ?_
  have sm := hs (by omega)
  have sm2 := smL_map cv167 cv167_sm sm
  have hto := laws_toMeterS_ev x0 sm
  have hn := sm2.1
  obtain ⟨a, m, e, h1, h2⟩ := wz_both _ sm2
  have q0 := laws_eqMeterS_refl (x0.map cv167) (by omega)
  repeat' first | (with_reducible exact Ev.now _) | (with_reducible exact hto) | (with_reducible exact h1) | (with_reducible exact h2) | (with_reducible exact q0) | ((with_reducible refine Ev.pos ?_ ?_); focus (first | with_reducible assumption | with_reducible rfl | omega | rfl | trivial)) | ((with_reducible refine Ev.neg ?_ ?_); focus (first | with_reducible assumption | omega | (simp; done) | (dsimp only; omega))) | (with_reducible refine Ev.bind hto ?_) | (with_reducible refine Ev.bind h1 ?_) | (with_reducible refine Ev.bind h2 ?_) | (with_reducible refine Ev.bind q0 ?_) | (with_reducible refine Ev.bind (Ev.shift hto) ?_) | (with_reducible refine Ev.bind (Ev.shift h1) ?_) | (with_reducible refine Ev.bind (Ev.shift h2) ?_) | (with_reducible refine Ev.bind (Ev.shift q0) ?_) | (refine Ev.succ ?_; simp only [laws_FnExactWorstZone.j0]) | (with_reducible refine Ev.sb ?_) | dsimp only
end Go.Proofs.Ytjccjmjnlblhaaa.Pure
