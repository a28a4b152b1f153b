/- MergeI: postings put among others, by the program alone: in order, all of them, nothing else. Conditions: short lists in order. -/
import Derived.Test.YtnmdljdkbpgdaaaQInterestx3
import Derived.Test.YtnmdljdkbpgdaaaQInterestxL
import Derived.Test.YtnmdljdkbpgdaaaQInterestxDDrawPost
import Derived.Test.YtnmdljdkbpgdaaaQInterestxDBalanceP
namespace Go.Proofs.Ytnmdljdkbpgdaaa.QInterest
open Go.RowKit Go.Proofs.YtnmdljdkbpgdaaaW.PrintWords Go.Proofs.Ytnmdljdkbpgdaaa.QOpen Go.Proofs.Ytnmdljdkbpgdaaa.QEv
set_option linter.unusedVariables false
set_option linter.unusedSimpArgs false
theorem bal_app (a : ByteArray) (d : Int) : ∀ l m : List S128, bal a d (l ++ m) = bal a d l + bal a d m
  | [], m => by simp [bal]
  | x :: l, m => by
    have := bal_app a d l m
    simp only [List.cons_append, bal, this]
    omega
theorem ins_eq (l : List S128) (x : S128) (hl : l.length ≤ 1000) (a : Nat) (ha : a ≤ l.length) : slices_Insert_Posting.f l (a : Int) [x] = some (l.take a ++ [x] ++ l.drop a) := by
  rw [slices_Insert_Posting.f, if_pos ⟨by omega, by omega, rfl, by omega⟩, Int.toNat_natCast]
theorem putI (l : List S128) (hl : l.length ≤ 1000) (hs : Srt l) (x : S128) : ∀ a : Nat, a ≤ l.length → (∀ y ∈ l.drop a, x.f2 < y.f2) → ∃ b : Nat, b ≤ l.length ∧ (∀ y ∈ l.drop b, x.f2 < y.f2) ∧ (∀ y ∈ l.take b, y.f2 ≤ x.f2) ∧
    ∀ (m : List S128) (n i : Int) (r : List S128 × Int), Ev (fun k => impl_withPostings.l0 k (l.take b ++ [x] ++ l.drop b) m n (wrap64 (i + 1))) r → Ev (fun k => impl_withPostings.l1 k l (a : Int) m n i x.f0 x.f1 x.f2) r := by
  intro a
  induction a with
  | zero =>
    intro ha hd
    have e := ins_eq l x hl 0 (by omega)
    refine ⟨0, by omega, hd, (fun y hy => by cases hy), fun m n i r hr => Ev.succ ?_⟩
    simp only [impl_withPostings.l1]
    exact Ev.neg (by omega) (Ev.bind (Ev.lit e) hr)
  | succ a ih =>
    intro ha hd
    have w : wrap64 (((a + 1 : Nat) : Int) - 1) = (a : Int) := by rw [wid (by omega) (by omega)]; omega
    have er : rd_T128 l (a : Int) = l.getD a z128 := rfl
    by_cases c : (l.getD a z128).f2 > x.f2
    · obtain ⟨b, h0, h1, h2, h3⟩ := ih (by omega) (fun y hy => by
        rw [drop_step l a z128 (by omega)] at hy
        rcases List.mem_cons.1 hy with h | h
        · rw [h]; exact c
        · exact hd y h)
      refine ⟨b, h0, h1, h2, fun m n i r hr => Ev.succ ?_⟩
      simp only [impl_withPostings.l1, w, er]
      exact Ev.pos (by omega) (Ev.pos (by omega) (Ev.pos (by omega) (Ev.pos c (h3 m n i r hr))))
    · have e := ins_eq l x hl (a + 1) ha
      refine ⟨a + 1, ha, hd, fun y hy => ?_, fun m n i r hr => Ev.succ ?_⟩
      · have ht : l.take (a + 1) = l.take a ++ [l.getD a z128] := by
          rw [getD_at l a _ (by omega)]
          exact List.take_succ_eq_append_getElem (by omega)
        have hp : (l.take (a + 1)).Pairwise (fun a b => a.f2 ≤ b.f2) := List.Pairwise.sublist (List.take_sublist _ _) hs
        rw [ht] at hy hp
        rcases List.mem_append.1 hy with h | h
        · have := (List.pairwise_append.1 hp).2.2 y h _ (List.mem_singleton.2 rfl)
          omega
        · rw [List.mem_singleton.1 h]; omega
      · simp only [impl_withPostings.l1, w, er]
        exact Ev.pos (by omega) (Ev.pos (by omega) (Ev.pos (by omega) (Ev.neg c (Ev.bind (Ev.lit e) hr))))
theorem srt_put (l : List S128) (hs : Srt l) (x : S128) (b : Nat) (h1 : ∀ y ∈ l.drop b, x.f2 < y.f2) (h2 : ∀ y ∈ l.take b, y.f2 ≤ x.f2) : Srt (l.take b ++ [x] ++ l.drop b) := by
  refine List.pairwise_append.2 ⟨srt_app _ _ (List.Pairwise.sublist (List.take_sublist _ _) hs) h2, List.Pairwise.sublist (List.drop_sublist _ _) hs, fun y hy z hz => ?_⟩
  have a := h1 z hz
  rcases List.mem_append.1 hy with h | h
  · have := h2 y h
    omega
  · rw [List.mem_singleton.1 h]; omega
theorem mergeI (m : List S128) (hm : m.length ≤ 7) (hv : ∀ y ∈ m, PostV y) : ∀ (d i : Nat) (l : List S128), i + d = m.length → l.length ≤ 7 + i → Srt l → (∀ y ∈ l, PostV y) →
    ∃ r : List S128, Ev (fun k => impl_withPostings.l0 k l m (m.length : Int) (i : Int)) (r, 0) ∧ r.length = l.length + d ∧ Srt r ∧ (∀ y ∈ r, PostV y) ∧ (∀ a t, bal a t r = bal a t l + bal a t (m.drop i)) ∧ ∀ p : S128 → Bool, r.any p = (l.any p || (m.drop i).any p) := by
  intro d
  induction d with
  | zero =>
    intro i l hi hl hs hp
    refine ⟨l, Ev.succ ?_, rfl, hs, hp, fun a t => by rw [drop_end m i hi]; simp [bal], fun p => by rw [drop_end m i hi]; simp⟩
    simp only [impl_withPostings.l0]
    exact Ev.neg (by omega) (Ev.neg (by omega) (Ev.now _))
  | succ d ih =>
    intro i l hi hl hs hp
    obtain ⟨x, hx⟩ : ∃ x, x = m.getD i z128 := ⟨_, rfl⟩
    have er : rd_T128 m (i : Int) = x := hx.symm
    have vx : PostV x := by rw [hx]; exact hv _ (getD_mem m i _ (by omega))
    obtain ⟨b, b0, b1, b2, b3⟩ := putI l (by omega) hs x l.length (Nat.le_refl _) (fun y hy => by rw [List.drop_length] at hy; cases hy)
    have ln : (l.take b ++ [x] ++ l.drop b).length = l.length + 1 := by
      simp only [List.length_append, List.length_take, List.length_drop, List.length_cons, List.length_nil]
      omega
    obtain ⟨r, g1, g2, g3, g4, g5, g6⟩ := ih (i + 1) (l.take b ++ [x] ++ l.drop b) (by omega) (by omega) (srt_put l hs x b b1 b2) (fun y hy => by
      rcases List.mem_append.1 hy with h | h
      · rcases List.mem_append.1 h with h | h
        · exact hp y (List.mem_of_mem_take h)
        · rw [List.mem_singleton.1 h]; exact vx
      · exact hp y (List.mem_of_mem_drop h))
    refine ⟨r, Ev.succ ?_, by omega, g3, g4, fun a t => ?_, fun p => ?_⟩
    · simp only [impl_withPostings.l0, er]
      have w := wnat i (by omega)
      refine Ev.pos (by omega) (Ev.pos (by omega) (Ev.pos (by omega) (b3 m _ _ _ ?_)))
      rw [w]
      exact g1
    · have e := bal_app a t (l.take b) (l.drop b)
      rw [List.take_append_drop] at e
      rw [g5, bal_app, bal_app, e, drop_step m i z128 (by omega), ← hx]
      simp only [bal]
      omega
    · have e : l.any p = ((l.take b).any p || (l.drop b).any p) := by
        rw [← List.any_append, List.take_append_drop]
      rw [g6, drop_step m i z128 (by omega), ← hx, e]
      simp only [List.any_append, List.any_cons, List.any_nil, Bool.or_false]
      cases (l.take b).any p <;> cases p x <;> cases (l.drop b).any p <;> simp
end Go.Proofs.Ytnmdljdkbpgdaaa.QInterest
