/- Put: a posting put behind all with at most its day, by both sides. Conditions: none. -/
import Derived.Test.YtnmdljdkbpgdaaaQTransferMoneyx3
import Derived.Test.YtnmdljdkbpgdaaaQTransferMoneyx6
import Derived.Test.YtnmdljdkbpgdaaaQTransferMoneyxL
import Derived.Test.YtnmdljdkbpgdaaaQTransferMoneyxDPostOnly
namespace Go.Proofs.Ytnmdljdkbpgdaaa.QTransferMoney
open Go.RowKit Go.Proofs.YtnmdljdkbpgdaaaW.PrintWords Go.Proofs.Ytnmdljdkbpgdaaa.QOpen Go.Proofs.Ytnmdljdkbpgdaaa.QEv
set_option linter.unusedVariables false
set_option linter.unusedSimpArgs false
def PutR (l : List S128) (x : S128) (l' : List S128) : Prop := Ev (fun k => spec_l23Put.f k l x.f0 x.f1 x.f2) l' ∧ l'.length = l.length + 1 ∧
  ∀ (m : List S128) (n i : Int) (r : List S128 × Int), Ev (fun k => impl_withPostings.l0 k l' m n (wrap64 (i + 1))) r → Ev (fun k => impl_withPostings.l1 k l (l.length : Int) m n i x.f0 x.f1 x.f2) r
theorem ins_eq (l : List S128) (x : S128) (hl : l.length ≤ 1000) (a : Nat) (ha : a ≤ l.length) : slices_Insert_Posting.f l (a : Int) [x] = some (l.take a ++ [x] ++ l.drop a) := by
  rw [slices_Insert_Posting.f, if_pos ⟨by omega, by omega, rfl, by omega⟩, Int.toNat_natCast]
theorem putLoop (l : List S128) (hl : l.length ≤ 1000) (x : S128) : ∀ a : Nat, a ≤ l.length → ∃ b : Nat, b ≤ l.length ∧ Ev (fun k => spec_l23Put.l0 k l (a : Int) x.f0 x.f1 x.f2) (l.take b ++ [x] ++ l.drop b) ∧
    ∀ (m : List S128) (n i : Int) (r : List S128 × Int), Ev (fun k => impl_withPostings.l0 k (l.take b ++ [x] ++ l.drop b) m n (wrap64 (i + 1))) r → Ev (fun k => impl_withPostings.l1 k l (a : Int) m n i x.f0 x.f1 x.f2) r := by
  intro a
  induction a with
  | zero =>
    intro ha
    have e := ins_eq l x hl 0 (by omega)
    refine ⟨0, by omega, Ev.succ ?_, fun m n i r hr => Ev.succ ?_⟩
    · simp only [spec_l23Put.l0, Option.bind_some]
      refine Ev.neg (by omega) (Ev.pos (by omega) (Ev.pos (by omega) (Ev.pos ?_ (Ev.pos ?_ (Ev.pos ?_ (Ev.now _))))))
      all_goals (simp only [List.length_append, List.length_take, List.length_drop, List.length_cons, List.length_nil]; omega)
    · simp only [impl_withPostings.l1]
      exact Ev.neg (by omega) (Ev.bind (Ev.lit e) hr)
  | succ a ih =>
    intro ha
    have w : wrap64 (((a + 1 : Nat) : Int) - 1) = (a : Int) := by rw [wid (by omega) (by omega)]; omega
    by_cases c : (rd_T128 l (a : Int)).f2 > x.f2
    · obtain ⟨b, h0, h1, h2⟩ := ih (by omega)
      refine ⟨b, h0, Ev.succ ?_, fun m n i r hr => Ev.succ ?_⟩
      · simp only [spec_l23Put.l0, w]
        exact Ev.pos (by omega) (Ev.pos (by omega) (Ev.pos (by omega) (Ev.pos c h1)))
      · simp only [impl_withPostings.l1, w]
        exact Ev.pos (by omega) (Ev.pos (by omega) (Ev.pos (by omega) (Ev.pos c (h2 m n i r hr))))
    · have e := ins_eq l x hl (a + 1) ha
      refine ⟨a + 1, ha, Ev.succ ?_, fun m n i r hr => Ev.succ ?_⟩
      · simp only [spec_l23Put.l0, w, Option.bind_some, Int.toNat_natCast]
        refine Ev.pos (by omega) (Ev.pos (by omega) (Ev.pos (by omega) (Ev.neg c (Ev.pos (by omega) (Ev.pos (by omega) (Ev.pos ?_ (Ev.pos ?_ (Ev.pos ?_ (Ev.now _)))))))))
        all_goals (simp only [List.length_append, List.length_take, List.length_drop, List.length_cons, List.length_nil]; omega)
      · simp only [impl_withPostings.l1, w]
        exact Ev.pos (by omega) (Ev.pos (by omega) (Ev.pos (by omega) (Ev.neg c (Ev.bind (Ev.lit e) hr))))
theorem put_both (l : List S128) (hl : l.length ≤ 1000) (x : S128) : ∃ l', PutR l x l' := by
  obtain ⟨b, h0, h1, h2⟩ := putLoop l hl x l.length (Nat.le_refl _)
  refine ⟨_, h1, ?_, h2⟩
  simp only [List.length_append, List.length_take, List.length_drop, List.length_cons, List.length_nil]
  omega
theorem clone_eq (l : List S128) (hl : l.length ≤ 1000) : slices_Clone_Posting.f l = some l := by
  simp only [slices_Clone_Posting.f, Option.bind_some, List.nil_append, List.length_nil]
  rw [if_pos (by omega)]
def endR (l : List S128) : List S128 × Int := if (l.length : Int) > 32 then ([], 5) else (l, 0)
theorem endR_pos (l : List S128) (c : (l.length : Int) > 32) : endR l = ([], 5) := if_pos c
theorem endR_neg (l : List S128) (c : ¬ (l.length : Int) > 32) : endR l = (l, 0) := if_neg c
theorem endR_len (l : List S128) : (endR l).1.length ≤ 32 := by
  unfold endR
  by_cases c : (l.length : Int) > 32
  · rw [if_pos c]; simp
  · rw [if_neg c]; show l.length ≤ 32; omega
theorem with_end (l m : List S128) (i : Int) (h : ¬ i < (m.length : Int)) : Ev (fun k => impl_withPostings.l0 k l m (m.length : Int) i) (endR l) := by
  refine Ev.succ ?_
  simp only [impl_withPostings.l0]
  refine Ev.neg h ?_
  by_cases c : (l.length : Int) > 32
  · rw [endR_pos l c]; exact Ev.pos c (Ev.now _)
  · rw [endR_neg l c]; exact Ev.neg c (Ev.now _)
theorem with_step (l l' m : List S128) (i : Nat) (hm : m.length ≤ 1000) (h : i < m.length) (hp : PutR l (rd_T128 m (i : Int)) l') (r : List S128 × Int)
    (hr : Ev (fun k => impl_withPostings.l0 k l' m (m.length : Int) ((i + 1 : Nat) : Int)) r) : Ev (fun k => impl_withPostings.l0 k l m (m.length : Int) (i : Int)) r := by
  refine Ev.succ ?_
  simp only [impl_withPostings.l0]
  refine Ev.pos (by omega) (Ev.pos (by omega) (Ev.pos (by omega) (hp.2.2 m _ _ r ?_)))
  rw [wnat i (by omega)]
  exact hr
end Go.Proofs.Ytnmdljdkbpgdaaa.QTransferMoney
