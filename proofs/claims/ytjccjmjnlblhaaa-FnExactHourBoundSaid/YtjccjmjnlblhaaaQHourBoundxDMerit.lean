/- Merit: the units by their prices, by both sides. Conditions: at most 20 units. -/
import Derived.Test.YtjccjmjnlblhaaaQHourBoundx3
import Derived.Test.YtjccjmjnlblhaaaQHourBoundx6
import Derived.Test.YtjccjmjnlblhaaaQHourBoundx7
import Derived.Test.YtjccjmjnlblhaaaQHourBoundx8
import Derived.Test.YtjccjmjnlblhaaaQHourBoundxL
namespace Go.Proofs.Ytjccjmjnlblhaaa.QHourBound
open Go.RowKit Go.Proofs.YtjccjmjnlblhaaaW.PrintWords Go.Proofs.Ytjccjmjnlblhaaa.QOpen Go.Proofs.Ytjccjmjnlblhaaa.QEv
set_option linter.unusedVariables false
set_option linter.unusedSimpArgs false
theorem swap_list (p t : List Int) (q i : Int) : ((p ++ q :: i :: t).set (p.length + 1) q).set p.length i = p ++ i :: q :: t := by
  induction p with
  | nil => rfl
  | cons a p ih => simp only [List.cons_append, List.length_cons, List.set_cons_succ, ih]
theorem rd_app (p t : List Int) (q : Int) : rd (p ++ q :: t) (p.length : Int) = q := by
  show (p ++ q :: t).getD p.length 0 = q
  rw [getD_at _ _ _ (by simp)]
  simp
theorem rd_app2 (p t : List Int) (q i : Int) : rd (p ++ q :: i :: t) ((p.length + 1 : Nat) : Int) = i := by
  have h := rd_app (p ++ [q]) t i
  rw [List.append_assoc, List.length_append] at h
  exact h
def MeritOk (u : List S143) (o : List Int) : Prop := o.length ≤ 20 ∧ ∀ x ∈ o, 0 ≤ x ∧ x < (u.length : Int)
theorem cmp_eq (a b : Int) : cmp_Compare_int64.f a b = some (if a < b then -1 else if a > b then 1 else 0) := by
  simp only [cmp_Compare_int64.f, cmp_isNaN_int64.f, Option.bind_some, bne_self_eq_false]
  by_cases c : a < b
  · simp [c]
  · by_cases c2 : a > b
    · simp [c, c2]
    · simp [c, c2]
theorem meritIn (u : List S143) (hu : u.length ≤ 20) (i : Nat) (hi : i < u.length) (t : List Int) : ∀ (j : Nat) (p s : List Int), p.length = j → MeritOk u p → p.length + s.length = i → i + 1 + t.length = u.length →
    ∃ p' s' : List Int, p' ++ s' = p ++ s ∧ (∀ r, Ev (fun k => spec_l13Order.l0 k u (p' ++ [(i : Int)] ++ s') ((i + 1 : Nat) : Int)) r → Ev (fun k => spec_l13Order.l1 k u (p ++ s) (i : Int) (j : Int)) r) ∧
      (∀ r, Ev (fun k => slices_insertionSortCmpFunc_int64.l0 k (p' ++ (i : Int) :: (s' ++ t)) 0 (u.length : Int) ((i + 1 : Nat) : Int) u) r → Ev (fun k => slices_insertionSortCmpFunc_int64.l1 k (p ++ (i : Int) :: (s ++ t)) 0 (u.length : Int) (i : Int) (j : Int) u) r) := by
  intro j
  induction j with
  | zero =>
    intro p s hp ok hl ht
    have ep : p = [] := List.eq_nil_of_length_eq_zero hp
    subst ep
    refine ⟨[], s, rfl, fun r hr => Ev.succ ?_, fun r hr => Ev.succ ?_⟩
    · simp only [spec_l13Order.l1, Option.bind_some, wnat i (by omega)]
      refine Ev.neg (by omega) (Ev.pos (by omega) (Ev.pos (by omega) (Ev.pos (by simp) (Ev.pos (by simp) (Ev.pos (by simp at hl ⊢; omega) ?_)))))
      simpa using hr
    · simp only [slices_insertionSortCmpFunc_int64.l1, wnat i (by omega)]
      exact Ev.neg (by omega) hr
  | succ j ih =>
    intro p s hp ok hl ht
    obtain ⟨q0, q, rfl⟩ : ∃ q0 q, p = q0 ++ [q] := by
      rcases List.eq_nil_or_concat p with h | ⟨a, b, h⟩
      · rw [h] at hp; cases hp
      · exact ⟨a, b, by rw [h, List.concat_eq_append]⟩
    have hq0 : q0.length = j := by simp at hp; omega
    have hq := ok.2 q (by simp)
    have ok0 : MeritOk u q0 := ⟨by have := ok.1; simp at this; omega, fun x hx => ok.2 x (by simp [hx])⟩
    have w : wrap64 (((j + 1 : Nat) : Int) - 1) = (j : Int) := by rw [wid (by omega) (by omega)]; omega
    have e1 : (q0 ++ [q]) ++ s = q0 ++ q :: s := by simp
    have e2 : (q0 ++ [q]) ++ (i : Int) :: (s ++ t) = q0 ++ q :: (i : Int) :: (s ++ t) := by simp
    have r1 : rd (q0 ++ q :: s) (j : Int) = q := by rw [← hq0]; exact rd_app q0 s q
    have r2 : rd (q0 ++ q :: (i : Int) :: (s ++ t)) (j : Int) = q := by rw [← hq0]; exact rd_app q0 _ q
    have r3 : rd (q0 ++ q :: (i : Int) :: (s ++ t)) ((j + 1 : Nat) : Int) = (i : Int) := by rw [← hq0]; exact rd_app2 q0 _ q _
    have l1 : (q0 ++ q :: s).length = i := by simp at hl ⊢; omega
    have l2 : (q0 ++ q :: (i : Int) :: (s ++ t)).length = u.length := by simp at hl ⊢; omega
    rw [e1, e2]
    by_cases c : (rd_T143 u q).f3 > (rd_T143 u (i : Int)).f3
    · obtain ⟨p', s', g0, g1, g2⟩ := ih q0 (q :: s) hq0 ok0 (by simp at hl ⊢; omega) ht
      refine ⟨p', s', g0, fun r hr => Ev.succ ?_, fun r hr => Ev.succ ?_⟩
      · simp only [spec_l13Order.l1, w, r1]
        exact Ev.pos (by omega) (Ev.pos (by omega) (Ev.pos (by omega) (Ev.pos hq.1 (Ev.pos hq.2 (Ev.pos (by omega) (Ev.pos (by omega) (Ev.pos c (g1 r hr))))))))
      · have es : ((q0 ++ q :: (i : Int) :: (s ++ t)).set (j + 1) q).set j (i : Int) = q0 ++ (i : Int) :: (q :: s ++ t) := by
          rw [← hq0, swap_list]
          rfl
        have h2 := g2 r hr
        rw [← es] at h2
        simp only [slices_insertionSortCmpFunc_int64.l1, w, r2, r3, Int.toNat_natCast, impl_meritOrder_1.f, cmp_eq, Option.bind_some]
        refine Ev.pos (by omega) (Ev.pos (by omega) (Ev.pos (by omega) (Ev.pos (by omega) (Ev.pos (by omega) ?_))))
        refine Ev.bind (a := -1) (Ev.pos (by omega) (Ev.pos (by omega) (Ev.pos hq.1 (Ev.pos hq.2 (Ev.eqn (Ev.now _) ?_))))) (Ev.pos (by omega) h2)
        rw [if_pos (by omega)]
    · refine ⟨q0 ++ [q], s, e1, fun r hr => Ev.succ ?_, fun r hr => Ev.succ ?_⟩
      · have et : (q0 ++ q :: s).take (j + 1) = q0 ++ [q] := by
          rw [← e1]
          exact List.take_left' hp
        have ed : (q0 ++ q :: s).drop (j + 1) = s := by
          rw [← e1]
          exact List.drop_left' hp
        simp only [spec_l13Order.l1, w, r1, Option.bind_some, Int.toNat_natCast, et, ed, wnat i (by omega), List.nil_append]
        refine Ev.pos (by omega) (Ev.pos (by omega) (Ev.pos (by omega) (Ev.pos hq.1 (Ev.pos hq.2 (Ev.pos (by omega) (Ev.pos (by omega) (Ev.neg c (Ev.pos (by omega) (Ev.pos (by omega) (Ev.pos ?_ (Ev.pos ?_ (Ev.pos ?_ hr))))))))))))
        all_goals (simp only [List.length_append, List.length_cons, List.length_nil] at *; omega)
      · simp only [slices_insertionSortCmpFunc_int64.l1, w, r2, r3, impl_meritOrder_1.f, cmp_eq, Option.bind_some, wnat i (by omega)]
        refine Ev.pos (by omega) (Ev.pos (by omega) (Ev.pos (by omega) (Ev.pos (by omega) (Ev.pos (by omega) ?_))))
        refine Ev.bind (a := if (rd_T143 u (i : Int)).f3 < (rd_T143 u q).f3 then -1 else if (rd_T143 u (i : Int)).f3 > (rd_T143 u q).f3 then 1 else 0) (Ev.pos (by omega) (Ev.pos (by omega) (Ev.pos hq.1 (Ev.pos hq.2 (Ev.now _))))) (Ev.neg ?_ ?_)
        · rw [if_neg (by omega)]
          split <;> omega
        · rw [← e2] at *
          exact hr
def idxs (i n : Nat) : List Int := (List.range' i (n - i)).map fun x : Nat => (x : Int)
theorem idxs_cons (i n : Nat) (h : i < n) : idxs i n = (i : Int) :: idxs (i + 1) n := by
  unfold idxs
  rw [show n - i = (n - (i + 1)) + 1 by omega, List.range'_succ]
  rfl
theorem idxs_end (n : Nat) : idxs n n = [] := by
  unfold idxs
  rw [Nat.sub_self]
  rfl
theorem idxs_len (i n : Nat) : (idxs i n).length = n - i := by
  unfold idxs
  simp
theorem meritOut (u : List S143) (hu : u.length ≤ 20) : ∀ (d i : Nat) (o : List Int), i + d = u.length → o.length = i → MeritOk u o →
    ∃ o' : List Int, o'.length = u.length ∧ MeritOk u o' ∧ Ev (fun k => spec_l13Order.l0 k u o (i : Int)) o' ∧ Ev (fun k => slices_insertionSortCmpFunc_int64.l0 k (o ++ idxs i u.length) 0 (u.length : Int) (i : Int) u) o' := by
  intro d
  induction d with
  | zero =>
    intro i o hi ho ok
    have e : i = u.length := by omega
    subst e
    refine ⟨o, ho, ok, Ev.succ ?_, Ev.succ ?_⟩
    · simp only [spec_l13Order.l0]
      exact Ev.neg (by omega) (Ev.now _)
    · simp only [slices_insertionSortCmpFunc_int64.l0]
      rw [idxs_end, List.append_nil]
      exact Ev.neg (by omega) (Ev.now _)
  | succ d ih =>
    intro i o hi ho ok
    obtain ⟨p', s', g0, g1, g2⟩ := meritIn u hu i (by omega) (idxs (i + 1) u.length) i o [] ho ok (by simp; omega) (by rw [idxs_len]; omega)
    rw [List.append_nil] at g0 g1
    have hl : (p' ++ [(i : Int)] ++ s').length = i + 1 := by
      have := congrArg List.length g0
      simp only [List.length_append, List.length_cons, List.length_nil] at this ⊢
      omega
    have ok' : MeritOk u (p' ++ [(i : Int)] ++ s') := by
      refine ⟨by omega, fun x hx => ?_⟩
      simp only [List.mem_append, List.mem_singleton] at hx
      rcases hx with (h | h) | h
      · exact ok.2 x (by rw [← g0]; exact List.mem_append_left _ h)
      · subst h; omega
      · exact ok.2 x (by rw [← g0]; exact List.mem_append_right _ h)
    obtain ⟨o', k1, k2, k3, k4⟩ := ih (i + 1) _ (by omega) hl ok'
    refine ⟨o', k1, k2, Ev.succ ?_, Ev.succ ?_⟩
    · simp only [spec_l13Order.l0, ho]
      exact Ev.pos (by omega) (g1 _ k3)
    · simp only [slices_insertionSortCmpFunc_int64.l0]
      rw [idxs_cons i u.length (by omega)]
      refine Ev.pos (by omega) ?_
      have h := g2 o' (by
        have e : p' ++ [(i : Int)] ++ s' ++ idxs (i + 1) u.length = p' ++ (i : Int) :: (s' ++ idxs (i + 1) u.length) := by simp
        rw [← e]
        exact k4)
      simpa using h
theorem fillLoop (u : List S143) (hu : u.length ≤ 20) (r : List Int) (hr : Ev (fun k => slices_SortStableFunc_int64_int64.f k (idxs 0 u.length) u) r) : ∀ (d i : Nat) (x : List Int), i + d = u.length → x.length = u.length → (∀ j, j < i → x.getD j 0 = (j : Int)) →
    Ev (fun k => impl_meritOrder.l0 k x (u.length : Int) (i : Int) u) r := by
  intro d
  induction d with
  | zero =>
    intro i x hi hx hj
    have e : x = idxs 0 u.length := by
      refine ext_getD 0 (by rw [idxs_len]; omega) (fun j h => ?_)
      rw [hj j (by omega)]
      unfold idxs
      rw [getD_at _ _ _ (by simp; omega)]
      simp
    refine Ev.succ ?_
    simp only [impl_meritOrder.l0]
    rw [e]
    exact Ev.neg (by omega) (Ev.bind hr (Ev.now _))
  | succ d ih =>
    intro i x hi hx hj
    refine Ev.succ ?_
    simp only [impl_meritOrder.l0, wnat i (by omega), Int.toNat_natCast]
    refine Ev.pos (by omega) (Ev.pos (by omega) (Ev.pos (by omega) (ih (i + 1) _ (by omega) (by simpa using hx) (fun j h => ?_))))
    rw [getD_set x i j _ 0 (by omega)]
    by_cases e : j = i
    · rw [if_pos e, e]
    · rw [if_neg e]
      exact hj j (by omega)
theorem merit_both (u : List S143) (h1 : 1 ≤ u.length) (hu : u.length ≤ 19) : ∃ o : List Int, o.length = u.length ∧ MeritOk u o ∧ Ev (fun k => spec_l13Order.f k u) o ∧ Ev (fun k => impl_meritOrder.f k u) o := by
  obtain ⟨o, g1, g2, g3, g4⟩ := meritOut u (by omega) u.length 0 [] (by omega) rfl ⟨by simp, fun x h => by cases h⟩
  refine ⟨o, g1, g2, g3, ?_⟩
  have hs : Ev (fun k => slices_SortStableFunc_int64_int64.f k (idxs 0 u.length) u) o := by
    have hins : Ev (fun k => slices_insertionSortCmpFunc_int64.f k (idxs 0 u.length) 0 (u.length : Int) u) o := by
      simp only [slices_insertionSortCmpFunc_int64.f]
      rw [wid (by omega) (by omega), Int.zero_add]
      -- the first round has nothing to do
      rw [List.nil_append] at g4
      have g5 : Ev (fun k => slices_insertionSortCmpFunc_int64.l0 k (idxs 0 u.length) 0 (u.length : Int) ((0 + 1 : Nat) : Int) u) o := by
        obtain ⟨K, hK⟩ := g4
        refine ⟨K, fun k hk => ?_⟩
        have h := hK (k + 1 + 1) (by omega)
        simp only [slices_insertionSortCmpFunc_int64.l0, slices_insertionSortCmpFunc_int64.l1] at h
        rw [if_pos (by omega), if_neg (by omega), wnat 0 (by omega)] at h
        exact h
      exact g5
    simp only [slices_SortStableFunc_int64_int64.f, slices_stableCmpFunc_int64.f, idxs_len]
    refine Ev.bind (a := o) (Ev.succ ?_) (Ev.now _)
    simp only [slices_stableCmpFunc_int64.l0]
    refine Ev.neg (by omega) (Ev.bind (a := o) ?_ (Ev.succ ?_))
    · exact hins
    · simp only [slices_stableCmpFunc_int64.l1]
      exact Ev.neg (by omega) (Ev.now _)
  simp only [impl_meritOrder.f, Option.bind_some, List.length_replicate, Int.toNat_natCast]
  exact Ev.pos (by omega) (Ev.pos (by omega) (fillLoop u (by omega) o hs u.length 0 (List.replicate u.length 0) (by omega) (by simp) (fun j h => absurd h (by omega))))
end Go.Proofs.Ytjccjmjnlblhaaa.QHourBound
