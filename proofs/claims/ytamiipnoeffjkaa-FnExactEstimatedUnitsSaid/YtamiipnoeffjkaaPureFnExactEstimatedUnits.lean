/- FnExactEstimatedUnits: the program's EstimatedUnits and the reference's return one and the same for all arguments, in memory of the call's own, and the arguments stay as they were. Conditions: none beyond the statement's own guard. -/
import Derived.Test.YtamiipnoeffjkaaQEstimatedUnitsx1
import Derived.Test.YtamiipnoeffjkaaQEstimatedUnitsx2
import Derived.Test.YtamiipnoeffjkaaQEstimatedUnitsx4
import Derived.Test.YtamiipnoeffjkaaQEstimatedUnitsx5
import Derived.Test.YtamiipnoeffjkaaQEstimatedUnitsx6
import Derived.Test.YtamiipnoeffjkaaQEstimatedUnitsx9
import Derived.Test.YtamiipnoeffjkaaQEstimatedUnitsxL
import Derived.Test.YtamiipnoeffjkaaQEstimatedUnitsxDTenants
import Derived.Test.YtamiipnoeffjkaaQEstimatedUnitsxDDiv
import Derived.Test.YtamiipnoeffjkaaQEstimatedUnitsxDSumI
import Derived.Test.YtamiipnoeffjkaaQEstimatedUnitsxDAreasI
namespace Go.Proofs.Ytamiipnoeffjkaa.Pure
open Go.RowKit Go.Proofs.Ytamiipnoeffjkaa.QEstimatedUnits Go.Proofs.YtamiipnoeffjkaaW.PrintWords Go.Proofs.Ytamiipnoeffjkaa.QOpen Go.Proofs.Ytamiipnoeffjkaa.QEv
set_option linter.unusedVariables false
set_option linter.unusedSimpArgs false
theorem findLoop (l : List S135) (hl : l.length ≤ 1048576) (a : ByteArray) : ∀ d i : Nat, i + d = l.length →
    ∃ t : Int, Ev (fun k => spec_l22Find.l0 k l a (i : Int)) t ∧ Ev (fun k => slices_IndexFunc_Tenant.l0 k l (l.length : Int) (i : Int) a) t ∧ (t < 0 ∨ ∃ j : Nat, t = (j : Int) ∧ j < l.length) := by
  intro d
  induction d with
  | zero =>
    intro i hi
    refine ⟨-1, Ev.succ ?_, Ev.succ ?_, Or.inl (by omega)⟩
    · simp only [spec_l22Find.l0]
      exact Ev.neg (by omega) (Ev.now _)
    · simp only [slices_IndexFunc_Tenant.l0]
      exact Ev.neg (by omega) (Ev.now _)
  | succ d ih =>
    intro i hi
    by_cases c : (rd_T135 l (i : Int)).f0.toList = a.toList
    · refine ⟨(i : Int), Ev.succ ?_, Ev.succ ?_, Or.inr ⟨i, rfl, by omega⟩⟩
      · simp only [spec_l22Find.l0]
        repeat' first | (with_reducible exact Ev.now _) | ((with_reducible refine Ev.pos ?_ ?_); focus (first | with_reducible assumption | with_reducible rfl | omega | rfl | trivial)) | ((with_reducible refine Ev.neg ?_ ?_); focus (first | with_reducible assumption | omega | (simp; done) | (dsimp only; omega))) | (with_reducible refine Ev.sb ?_) | dsimp only
      · simp only [slices_IndexFunc_Tenant.l0, impl_tenantAt_1.f, beq_iff_eq, Option.bind_some]
        repeat' first | (with_reducible exact Ev.now _) | ((with_reducible refine Ev.pos ?_ ?_); focus (first | with_reducible assumption | with_reducible rfl | omega | rfl | trivial)) | ((with_reducible refine Ev.neg ?_ ?_); focus (first | with_reducible assumption | omega | (simp; done) | (dsimp only; omega))) | (with_reducible refine Ev.sb ?_) | dsimp only
    · obtain ⟨t, h1, h2, h3⟩ := ih (i + 1) (by omega)
      refine ⟨t, Ev.succ ?_, Ev.succ ?_, h3⟩
      · simp only [spec_l22Find.l0, wnat i (by omega)]
        repeat' first | (with_reducible exact Ev.now _) | (with_reducible exact h1) | ((with_reducible refine Ev.pos ?_ ?_); focus (first | with_reducible assumption | with_reducible rfl | omega | rfl | trivial)) | ((with_reducible refine Ev.neg ?_ ?_); focus (first | with_reducible assumption | omega | (simp; done) | (dsimp only; omega))) | (with_reducible refine Ev.bind h1 ?_) | (with_reducible refine Ev.bind (Ev.shift h1) ?_) | (with_reducible refine Ev.sb ?_) | dsimp only
      · simp only [slices_IndexFunc_Tenant.l0, impl_tenantAt_1.f, beq_iff_eq, Option.bind_some, wnat i (by omega)]
        repeat' first | (with_reducible exact Ev.now _) | (with_reducible exact h2) | ((with_reducible refine Ev.pos ?_ ?_); focus (first | with_reducible assumption | with_reducible rfl | omega | rfl | trivial)) | ((with_reducible refine Ev.neg ?_ ?_); focus (first | with_reducible assumption | omega | (simp; done) | (dsimp only; omega))) | (with_reducible refine Ev.bind h2 ?_) | (with_reducible refine Ev.bind (Ev.shift h2) ?_) | (with_reducible refine Ev.sb ?_) | dsimp only
theorem find_both (l : List S135) (hl : l.length ≤ 1048576) (a : ByteArray) : ∃ t : Int, Ev (fun k => spec_l22Find.f k l a) t ∧ Ev (fun k => impl_tenantAt.f k l a) t ∧ (t < 0 ∨ ∃ j : Nat, t = (j : Int) ∧ j < l.length) := by
  obtain ⟨t, h1, h2, h3⟩ := findLoop l hl a l.length 0 (by omega)
  refine ⟨t, by simp only [spec_l22Find.f]; exact h1, ?_, h3⟩
  simp only [impl_tenantAt.f, slices_IndexFunc_Tenant.f]
  exact Ev.bind h2 (Ev.now _)
theorem sum_ge : ∀ (w : List Int), (∀ j, j < w.length → 1 ≤ w.getD j 0) → ∀ k, k < w.length → w.getD k 0 + ((w.length : Int) - 1) ≤ sumL w
  | [], _, k, hk => by simp at hk
  | x :: w, h, k, hk => by
    have h' : ∀ j, j < w.length → 1 ≤ w.getD j 0 := fun j hj => by
      have := h (j + 1) (by simpa using hj)
      rwa [List.getD_cons_succ] at this
    have hx : 1 ≤ x := h 0 (by simp)
    have all : (w.length : Int) ≤ sumL w := by
      cases w with
      | nil => simp [sumL]
      | cons y w =>
        have a := sum_ge (y :: w) h' 0 (by simp)
        have b := h' 0 (by simp)
        rw [List.getD_cons_zero] at a b
        simp only [List.length_cons] at a ⊢
        omega
    cases k with
    | zero =>
      rw [List.getD_cons_zero, sumL, List.length_cons]
      omega
    | succ k =>
      have := sum_ge w h' k (by simpa using hk)
      rw [List.getD_cons_succ, sumL, List.length_cons]
      omega
theorem wokA (l : List S135) (hl : l.length ≤ 12) (hd : ∀ j, j < l.length → TenantOk (l.getD j z135)) : WOk (l.map (·.f1)) ∧ ∀ j, j < (l.map (·.f1)).length → 1 ≤ (l.map (·.f1)).getD j 0 := by
  have g : ∀ j, j < l.length → (l.map (·.f1)).getD j 0 = (l.getD j z135).f1 := fun j hj => getD_map (·.f1) l j z135 0 hj
  refine ⟨⟨by simpa using hl, fun j hj => ?_⟩, fun j hj => ?_⟩
  · have hj' : j < l.length := by simpa using hj
    rw [g j hj']
    obtain ⟨a, b, c, d⟩ := hd j hj'
    omega
  · have hj' : j < l.length := by simpa using hj
    rw [g j hj']
    exact (hd j hj').1
theorem wokU (l : List S135) (hl : l.length ≤ 12) (hd : ∀ j, j < l.length → TenantOk (l.getD j z135)) : WOk (l.map (·.f2)) := by
  refine ⟨by simpa using hl, fun j hj => ?_⟩
  have hj' : j < l.length := by simpa using hj
  rw [getD_map (·.f2) l j z135 0 hj']
  obtain ⟨a, b, c, d⟩ := hd j hj'
  omega
theorem estLoop (l : List S135) (hn : l.length ≤ 12) (hd : ∀ j, j < l.length → TenantOk (l.getD j z135)) (k : Nat) (hk : k < l.length) : ∀ (d i : Nat) (u a : Int), i + d = l.length → 0 ≤ u → u ≤ (i : Int) * 1000000 → 0 ≤ a → a ≤ (i : Int) * 1000000 →
    ∀ r, Ev (fun n => spec_EstimatedUnits.l0 n l (k : Int) (u + sumL ((l.map (·.f2)).drop i) - (if i ≤ k then (l.getD k z135).f2 else 0)) (a + sumL ((l.map (·.f1)).drop i) - (if i ≤ k then (l.getD k z135).f1 else 0)) (l.length : Int)) r →
      Ev (fun n => spec_EstimatedUnits.l0 n l (k : Int) u a (i : Int)) r := by
  intro d
  induction d with
  | zero =>
    intro i u a hi u0 u1 a0 a1 r h
    rw [drop_end _ _ (by simpa using hi), drop_end _ _ (by simpa using hi), if_neg (by omega), if_neg (by omega), sumL, Int.add_zero, Int.add_zero, Int.sub_zero, Int.sub_zero] at h
    rw [show (i : Int) = (l.length : Int) by omega]
    exact h
  | succ d ih =>
    intro i u a hi u0 u1 a0 a1 r h
    obtain ⟨x1, x2, y1, y2⟩ := hd i (by omega)
    have er : rd_T135 l (i : Int) = l.getD i z135 := rfl
    have m1 : (l.map (·.f1)).getD i 0 = (l.getD i z135).f1 := getD_map (·.f1) l i z135 0 (by omega)
    have m2 : (l.map (·.f2)).getD i 0 = (l.getD i z135).f2 := getD_map (·.f2) l i z135 0 (by omega)
    rw [drop_step (l.map (·.f2)) i 0 (by simp; omega), drop_step (l.map (·.f1)) i 0 (by simp; omega), m1, m2, sumL, sumL] at h
    refine Ev.succ ?_
    by_cases e : i = k
    · subst e
      have := ih (i + 1) u a (by omega) u0 (by omega) a0 (by omega) r (by
        rw [if_neg (by omega), if_neg (by omega), Int.sub_zero, Int.sub_zero]
        rw [if_pos (Nat.le_refl _), if_pos (Nat.le_refl _)] at h
        rw [show u + ((l.getD i z135).f2 + sumL ((l.map (·.f2)).drop (i + 1))) - (l.getD i z135).f2 = u + sumL ((l.map (·.f2)).drop (i + 1)) by omega, show a + ((l.getD i z135).f1 + sumL ((l.map (·.f1)).drop (i + 1))) - (l.getD i z135).f1 = a + sumL ((l.map (·.f1)).drop (i + 1)) by omega] at h
        exact h)
      simp only [spec_EstimatedUnits.l0, wnat i (by omega)]
      exact Ev.pos (by omega) (Ev.pos (by first | rfl | trivial) this)
    · have w1 : wrap64 (u + (l.getD i z135).f2) = u + (l.getD i z135).f2 := wid (by omega) (by omega)
      have w2 : wrap64 (a + (l.getD i z135).f1) = a + (l.getD i z135).f1 := wid (by omega) (by omega)
      have q : (i ≤ k) = (i + 1 ≤ k) := propext (by omega)
      have := ih (i + 1) (u + (l.getD i z135).f2) (a + (l.getD i z135).f1) (by omega) (by omega) (by omega) (by omega) (by omega) r (by
        simp only [q] at h
        rw [Int.add_assoc, Int.add_assoc]
        exact h)
      simp only [spec_EstimatedUnits.l0, er, w1, w2, wnat i (by omega)]
      exact Ev.pos (by omega) (Ev.neg (by omega) (Ev.pos (by omega) this))
theorem est_both (l : List S135) (hl : smL sm135 l) (a : ByteArray) : ∃ (r : List S135) (c : Int), Ev (fun k => spec_EstimatedUnits.f k l a) (r, c) ∧ Ev (fun k => impl_EstimatedUnits.f k l a) (r, c) ∧ r.length ≤ 12 := by
  obtain ⟨v, h1, h2, h3⟩ := tenants_both l hl
  obtain ⟨t, f1, f2, f3⟩ := find_both l hl.1 a
  simp only [spec_EstimatedUnits.f, impl_EstimatedUnits.f]
  cases v with
  | false => exact ⟨[], 1, Ev.bind h1 (Ev.neg (by decide) (Ev.now _)), Ev.bind f2 (Ev.bind h2 (Ev.neg (by decide) (Ev.now _))), by simp⟩
  | true =>
    obtain ⟨hn, hd⟩ := h3 rfl
    rcases f3 with z | ⟨k, rfl, hk⟩
    · exact ⟨[], 3, Ev.bind h1 (Ev.pos rfl (Ev.bind f1 (Ev.pos z (Ev.now _)))), Ev.bind f2 (Ev.bind h2 (Ev.pos rfl (Ev.pos z (Ev.now _)))), by simp⟩
    · obtain ⟨wa, wa1⟩ := wokA l hn hd
      have wu := wokU l hn hd
      obtain ⟨x1, x2, y1, y2⟩ := hd k hk
      have er : rd_T135 l (k : Int) = l.getD k z135 := rfl
      have m1 : (l.map (·.f1)).getD k 0 = (l.getD k z135).f1 := getD_map (·.f1) l k z135 0 hk
      have hge := sum_ge _ wa1 k (by simpa using hk)
      rw [m1, List.length_map] at hge
      obtain ⟨_, sa⟩ := sumL_le _ wa (l.map (·.f1)).length 0 (by omega)
      obtain ⟨su0, su⟩ := sumL_le _ wu (l.map (·.f2)).length 0 (by omega)
      rw [List.drop_zero] at sa su su0
      have hs1 := sumOfI _ wa (l.map (·.f1)).length 0 0 (by omega) (by omega) (by omega)
      have hs2 := sumOfI _ wu (l.map (·.f2)).length 0 0 (by omega) (by omega) (by omega)
      rw [List.drop_zero, Int.zero_add] at hs1 hs2
      have hs1' : Ev (fun n => impl_sumOf.f n (l.map (·.f1))) (sumL (l.map (·.f1))) := by
        simp only [impl_sumOf.f]
        exact hs1
      have hs2' : Ev (fun n => impl_sumOf.f n (l.map (·.f2))) (sumL (l.map (·.f2))) := by
        simp only [impl_sumOf.f]
        exact hs2
      have hA : Ev (fun n => impl_areasOf.f n l) (l.map (·.f1)) := by
        simp only [impl_areasOf.f]
        exact Ev.eqn (areasI l hn l.length 0 [] (by omega) rfl) (by simp)
      have hU : Ev (fun n => impl_unitsOf.f n l) (l.map (·.f2)) := by
        simp only [impl_unitsOf.f]
        exact Ev.eqn (unitsI l hn l.length 0 [] (by omega) rfl) (by simp)
      have hstep := estLoop l hn hd k hk l.length 0 0 0 (by omega) (by omega) (by omega) (by omega) (by omega)
      simp only [List.drop_zero, Int.zero_add, Nat.zero_le, if_true] at hstep
      have uk : (l.getD k z135).f2 ≤ sumL (l.map (·.f2)) := by
        have nn : ∀ (w : List Int), (∀ j, j < w.length → 0 ≤ w.getD j 0) → ∀ k, k < w.length → w.getD k 0 ≤ sumL w := by
          intro w
          induction w with
          | nil => intro _ k hk; simp at hk
          | cons x w ih =>
            intro h k hk
            have h' : ∀ j, j < w.length → 0 ≤ w.getD j 0 := fun j hj => by
              have := h (j + 1) (by simpa using hj)
              rwa [List.getD_cons_succ] at this
            have hx : 0 ≤ x := h 0 (by simp)
            have s0 : 0 ≤ sumL w := by
              cases w with
              | nil => simp [sumL]
              | cons y w =>
                have a := ih h' 0 (by simp)
                have b := h' 0 (by simp)
                omega
            cases k with
            | zero =>
              rw [List.getD_cons_zero, sumL]
              omega
            | succ k =>
              have := ih h' k (by simpa using hk)
              rw [List.getD_cons_succ, sumL]
              omega
        have := nn (l.map (·.f2)) (fun j hj => (wu.2 j hj).1) k (by simpa using hk)
        rwa [getD_map (·.f2) l k z135 0 hk] at this
      generalize hSA : sumL (l.map (·.f1)) = SA at *
      generalize hSU : sumL (l.map (·.f2)) = SU at *
      have ml : ((l.map (·.f1)).length : Int) ≤ 12 := by rw [List.length_map]; omega
      have ml2 : ((l.map (·.f2)).length : Int) ≤ 12 := by rw [List.length_map]; omega
      by_cases c1 : (l.length : Int) = 1
      · have e1 : SA = (l.getD k z135).f1 := by
          have hk0 : k = 0 := by omega
          obtain ⟨x, hx⟩ := List.length_eq_one_iff.1 (show l.length = 1 by omega)
          rw [← hSA, hx, hk0]
          simp [sumL]
        refine ⟨[], 6, Ev.bind h1 (Ev.pos rfl (Ev.bind f1 (Ev.neg (by omega) (hstep _ (Ev.succ ?_))))), Ev.bind f2 (Ev.bind h2 (Ev.pos rfl (Ev.neg (by omega) (Ev.pos c1 (Ev.now _))))), by simp⟩
        simp only [spec_EstimatedUnits.l0]
        exact Ev.neg (by omega) (Ev.pos (by omega) (Ev.now _))
      · have p0 : 0 ≤ (SU - (l.getD k z135).f2) * (l.getD k z135).f1 := Int.mul_nonneg (by omega) (by omega)
        have p1 : (SU - (l.getD k z135).f2) * (l.getD k z135).f1 ≤ 12000000 * 10000 := Int.mul_le_mul (by omega) (by omega) (by omega) (by omega)
        have w1 : wrap64 (SU - (l.getD k z135).f2) = SU - (l.getD k z135).f2 := wid (by omega) (by omega)
        have w2 : wrap64 ((SU - (l.getD k z135).f2) * (l.getD k z135).f1) = (SU - (l.getD k z135).f2) * (l.getD k z135).f1 := wid (by omega) (by omega)
        have w3 : wrap64 (SA - (l.getD k z135).f1) = SA - (l.getD k z135).f1 := wid (by omega) (by omega)
        have d1 := l01Div_eq ((SU - (l.getD k z135).f2) * (l.getD k z135).f1) (SA - (l.getD k z135).f1) p0 (by omega) (by omega) (by omega)
        have d2 := divRound_eq ((SU - (l.getD k z135).f2) * (l.getD k z135).f1) (SA - (l.getD k z135).f1) p0 (by omega) (by omega) (by omega)
        generalize (2 * ((SU - (l.getD k z135).f2) * (l.getD k z135).f1) + (SA - (l.getD k z135).f1)) / (2 * (SA - (l.getD k z135).f1)) = v at *
        have hsm : smL sm135 (l.set k (⟨(l.getD k z135).f0, (l.getD k z135).f1, v⟩ : S135)) := by
          refine ⟨by simpa using hl.1, fun x hx => ?_⟩
          rcases List.mem_or_eq_of_mem_set hx with z | z
          · exact hl.2 x z
          · have := hl.2 _ (getD_mem l k z135 hk)
            rw [z]
            exact ⟨this.1, trivial, trivial⟩
        obtain ⟨b, q1, q2, q3⟩ := tenants_both _ hsm
        have hC : slices_Clone_Tenant.f l = some l := by
          simp only [slices_Clone_Tenant.f, Option.bind_some, List.nil_append, List.length_nil, Nat.zero_add]
          rw [if_pos (by omega)]
        have kn : ((k : Int)).toNat = k := by omega
        have sp : ∀ x : List S135 × Int, Ev (fun n => (spec_l22Ok.f n (l.set k (⟨(l.getD k z135).f0, (l.getD k z135).f1, v⟩ : S135))).bind fun t128 => if t128 = true then some (l.set k (⟨(l.getD k z135).f0, (l.getD k z135).f1, v⟩ : S135), (0 : Int)) else some ([], 6)) x → Ev (fun n => (spec_l22Ok.f n l).bind fun t115 => if t115 = true then (spec_l22Find.f n l a).bind fun t116 => if t116 < 0 then some ([], 3) else spec_EstimatedUnits.l0 n l t116 0 0 0 else some ([], 1)) x := fun x hx => by
          refine Ev.bind h1 (Ev.pos rfl (Ev.bind f1 (Ev.neg (by omega) (hstep _ (Ev.succ ?_)))))
          simp only [spec_EstimatedUnits.l0, Option.bind_some, List.nil_append, List.length_nil, Nat.zero_add, er, w2, d1, kn]
          exact Ev.neg (by omega) (Ev.neg (by omega) (Ev.pos (by omega) (Ev.pos (by omega) (Ev.pos (by omega) (Ev.pos (by omega) hx)))))
        have im : ∀ x : List S135 × Int, Ev (fun n => (impl_ValidTenants.f n (l.set k (⟨(l.getD k z135).f0, (l.getD k z135).f1, v⟩ : S135))).bind fun t190 => if t190 = true then some (l.set k (⟨(l.getD k z135).f0, (l.getD k z135).f1, v⟩ : S135), (0 : Int)) else some ([], 6)) x → Ev (fun n => impl_EstimatedUnits.f n l a) x := fun x hx => by
          simp only [impl_EstimatedUnits.f]
          refine Ev.bind f2 (Ev.bind h2 (Ev.pos rfl (Ev.neg (by omega) (Ev.neg c1 ?_))))
          simp only [hC, Option.bind_some, er, kn]
          refine Ev.pos (by omega) (Ev.pos (by omega) (Ev.bind hU (Ev.bind hs2' (Ev.bind hA (Ev.bind hs1' ?_)))))
          simp only [w1, w2, w3, d2, Option.bind_some]
          exact hx
        simp only [impl_EstimatedUnits.f] at im
        cases b with
        | true => exact ⟨_, 0, sp _ (Ev.bind q1 (Ev.pos rfl (Ev.now _))), im _ (Ev.bind q2 (Ev.pos rfl (Ev.now _))), (q3 rfl).1⟩
        | false => exact ⟨[], 6, sp _ (Ev.bind q1 (Ev.neg (by decide) (Ev.now _))), im _ (Ev.bind q2 (Ev.neg (by decide) (Ev.now _))), by simp⟩
theorem FnExactEstimatedUnits : ∀ (x0 : List (S132)) (x1 : ByteArray), (wfL wf132) x0 → wfS x1 → ∃ k, laws_FnExactEstimatedUnits.f k x0 x1 = some true := by
  intro x0 x1 hw0 hw1
  refine Ev.rounds (r := true) ?_
  simp only [laws_FnExactEstimatedUnits.f]
  by_cases c0 : (x1.size : Int) > 1048576
  · exact Ev.pos c0 (Ev.now _)
  refine Ev.neg c0 ?_
  obtain ⟨t, ht, _, _, hs⟩ := laws_szTenantS_ev x0 1048576 hw0 (by omega) (by omega)
  refine Ev.bind ht ?_
  by_cases c : t < 0
  · exact Ev.pos c (Ev.now _)
  refine Ev.neg c ?_
  have sm := hs (by omega)
  have sm2 := smL_map cv132 cv132_sm sm
  have hto := laws_toTenantS_ev x0 sm
  obtain ⟨r, e, h1, h2, h3⟩ := est_both _ sm2 x1
  have hn := sm2.1
  have q0 := laws_eqTenantS_refl (x0.map cv132) (by omega)
  have q1 := laws_eqTenantS_refl r (by omega)
  obtain ⟨m0, k0, _, _⟩ := laws_markTenantS_ev (x0.map cv132) 1 (by omega) (by omega)
  obtain ⟨m1, k1, e1, j1⟩ := laws_markTenantS_ev r 1 (by omega) (by omega)
  have v1 := laws_heldTenantS_ev 1 (by omega) m1 (by omega) (by rw [e1]; exact j1)
  rw [e1] at v1
  repeat' first | (with_reducible exact Ev.now _) | (with_reducible exact hto) | (with_reducible exact h1) | (with_reducible exact h2) | (with_reducible exact q0) | (with_reducible exact q1) | (with_reducible exact k0) | (with_reducible exact k1) | (with_reducible exact v1) | ((with_reducible refine Ev.pos ?_ ?_); focus (first | with_reducible assumption | with_reducible rfl | omega | rfl | trivial)) | ((with_reducible refine Ev.neg ?_ ?_); focus (first | with_reducible assumption | omega | (simp; done) | (dsimp only; omega))) | (with_reducible refine Ev.bind hto ?_) | (with_reducible refine Ev.bind h1 ?_) | (with_reducible refine Ev.bind h2 ?_) | (with_reducible refine Ev.bind q0 ?_) | (with_reducible refine Ev.bind q1 ?_) | (with_reducible refine Ev.bind k0 ?_) | (with_reducible refine Ev.bind k1 ?_) | (with_reducible refine Ev.bind v1 ?_) | (with_reducible refine Ev.bind (Ev.shift hto) ?_) | (with_reducible refine Ev.bind (Ev.shift h1) ?_) | (with_reducible refine Ev.bind (Ev.shift h2) ?_) | (with_reducible refine Ev.bind (Ev.shift q0) ?_) | (with_reducible refine Ev.bind (Ev.shift q1) ?_) | (with_reducible refine Ev.bind (Ev.shift k0) ?_) | (with_reducible refine Ev.bind (Ev.shift k1) ?_) | (with_reducible refine Ev.bind (Ev.shift v1) ?_) | (refine Ev.succ ?_; simp only [laws_FnExactEstimatedUnits.j0]) | (refine Ev.succ ?_; simp only [laws_FnExactEstimatedUnits.j1]) | (refine Ev.succ ?_; simp only [laws_FnExactEstimatedUnits.j2]) | (with_reducible refine Ev.sb ?_) | dsimp only
end Go.Proofs.Ytamiipnoeffjkaa.Pure
