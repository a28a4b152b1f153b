/- FnInterest: without a rate there is no interest, one day of a whole year's interest is that of the balance, and merged postings have all balances. Conditions: none beyond the statement's own guard. -/
import Derived.Test.YtnmdljdkbpgdaaaQInterestx1
import Derived.Test.YtnmdljdkbpgdaaaQInterestx3
import Derived.Test.YtnmdljdkbpgdaaaQInterestx5
import Derived.Test.YtnmdljdkbpgdaaaQInterestx6
import Derived.Test.YtnmdljdkbpgdaaaQInterestx7
import Derived.Test.YtnmdljdkbpgdaaaQInterestx8
import Derived.Test.YtnmdljdkbpgdaaaQInterestxL
import Derived.Test.YtnmdljdkbpgdaaaQInterestxDMergeI
import Derived.Test.YtnmdljdkbpgdaaaQInterestxDDivS
namespace Go.Proofs.Ytnmdljdkbpgdaaa.Pure
open Go.RowKit Go.Proofs.Ytnmdljdkbpgdaaa.QInterest Go.Proofs.YtnmdljdkbpgdaaaW.PrintWords Go.Proofs.Ytnmdljdkbpgdaaa.QOpen Go.Proofs.Ytnmdljdkbpgdaaa.QEv
set_option linter.unusedVariables false
set_option linter.unusedSimpArgs false
def own (a : ByteArray) (x : S128) : Bool := decide (x.f0.toList = a.toList)
theorem has_ev (l : List S128) (hl : l.length ≤ 32) (a : ByteArray) : Ev (fun k => spec_l23Has.f k l a) (l.any (own a)) ∧ Ev (fun k => impl_hasAccount.f k l a) (l.any (own a)) := by
  have loop : ∀ d i : Nat, i + d = l.length → Ev (fun k => spec_l23Has.l0 k l a (i : Int)) ((l.drop i).any (own a)) ∧ ∃ t : Int, Ev (fun k => slices_IndexFunc_Posting.l0 k l (l.length : Int) (i : Int) a) t ∧ decide (t ≥ 0) = (l.drop i).any (own a) := by
    intro d
    induction d with
    | zero =>
      intro i hi
      rw [drop_end l i hi]
      refine ⟨Ev.succ ?_, -1, Ev.succ ?_, rfl⟩
      · simp only [spec_l23Has.l0]
        exact Ev.neg (by omega) (Ev.now _)
      · simp only [slices_IndexFunc_Posting.l0]
        exact Ev.neg (by omega) (Ev.now _)
    | succ d ih =>
      intro i hi
      obtain ⟨h1, t, h2, h3⟩ := ih (i + 1) (by omega)
      have er : rd_T128 l (i : Int) = l.getD i z128 := rfl
      rw [drop_step l i z128 (by omega), List.any_cons]
      by_cases c : (l.getD i z128).f0.toList = a.toList
      · rw [show own a (l.getD i z128) = true from decide_eq_true c, Bool.true_or]
        refine ⟨Ev.succ ?_, (i : Int), Ev.succ ?_, decide_eq_true (by omega)⟩
        · simp only [spec_l23Has.l0, er]
          exact Ev.pos (by omega) (Ev.pos (by omega) (Ev.pos c (Ev.now _)))
        · simp only [slices_IndexFunc_Posting.l0, impl_hasAccount_1.f, er, beq_iff_eq, Option.bind_some]
          exact Ev.pos (by omega) (Ev.pos (by omega) (Ev.pos (by omega) (Ev.pos c (Ev.now _))))
      · rw [show own a (l.getD i z128) = false from decide_eq_false c, Bool.false_or]
        refine ⟨Ev.succ ?_, t, Ev.succ ?_, h3⟩
        · simp only [spec_l23Has.l0, er, wnat i (by omega)]
          exact Ev.pos (by omega) (Ev.pos (by omega) (Ev.neg c h1))
        · simp only [slices_IndexFunc_Posting.l0, impl_hasAccount_1.f, er, beq_iff_eq, Option.bind_some, wnat i (by omega)]
          exact Ev.pos (by omega) (Ev.pos (by omega) (Ev.pos (by omega) (Ev.neg c h2)))
  obtain ⟨h1, t, h2, h3⟩ := loop l.length 0 (by omega)
  rw [List.drop_zero] at h1 h3
  refine ⟨h1, ?_⟩
  simp only [impl_hasAccount.f, slices_ContainsFunc_Posting.f, slices_IndexFunc_Posting.f]
  exact Ev.bind (Ev.bind h2 (Ev.now _)) (Ev.eqn (Ev.now _) h3)
theorem balS (l : List S128) (hl : l.length ≤ 32) (hp : ∀ j, j < l.length → PostOk (l.getD j z128)) (a : ByteArray) (day : Int) : ∀ (d i : Nat) (acc : Int), i + d = l.length → -((i : Int) * 1000000000) ≤ acc → acc ≤ (i : Int) * 1000000000 →
    Ev (fun k => spec_l23Balance.l0 k l a day acc (i : Int)) (acc + bal a day (l.drop i)) := by
  intro d
  induction d with
  | zero =>
    intro i acc hi h0 h1
    rw [drop_end _ _ hi]
    refine Ev.succ ?_
    simp only [spec_l23Balance.l0]
    exact Ev.neg (by omega) (Ev.eqn (Ev.now _) (by simp [bal]))
  | succ d ih =>
    intro i acc hi h0 h1
    obtain ⟨p, q, _, _⟩ := hp i (by omega)
    have er : rd_T128 l (i : Int) = l.getD i z128 := rfl
    rw [drop_step l i z128 (by omega), bal]
    generalize hx : l.getD i z128 = x at *
    by_cases c : x.f0.toList = a.toList
    · by_cases c2 : x.f2 ≤ day
      · have w : wrap64 (acc + x.f1) = acc + x.f1 := wid (by omega) (by omega)
        have h := ih (i + 1) (acc + x.f1) (by omega) (by omega) (by omega)
        rw [if_pos ⟨c, c2⟩, ← Int.add_assoc]
        refine Ev.succ ?_
        simp only [spec_l23Balance.l0, er, w, wnat i (by omega)]
        exact Ev.pos (by omega) (Ev.pos (by omega) (Ev.pos c (Ev.pos c2 h)))
      · have h := ih (i + 1) acc (by omega) (by omega) (by omega)
        rw [if_neg (fun z => c2 z.2), Int.zero_add]
        refine Ev.succ ?_
        simp only [spec_l23Balance.l0, er, wnat i (by omega)]
        exact Ev.pos (by omega) (Ev.pos (by omega) (Ev.pos c (Ev.neg c2 h)))
    · have h := ih (i + 1) acc (by omega) (by omega) (by omega)
      rw [if_neg (fun z => c z.1), Int.zero_add]
      refine Ev.succ ?_
      simp only [spec_l23Balance.l0, er, wnat i (by omega)]
      exact Ev.pos (by omega) (Ev.pos (by omega) (Ev.neg c h))
theorem bal_none (a : ByteArray) (d : Int) : ∀ l : List S128, l.any (own a) = false → bal a d l = 0
  | [], _ => rfl
  | x :: l, h => by
    rw [List.any_cons, Bool.or_eq_false_iff] at h
    have n : ¬ (x.f0.toList = a.toList ∧ x.f2 ≤ d) := fun z => by
      have := of_decide_eq_false h.1
      exact this z.1
    rw [bal, if_neg n, bal_none a d l h.2]
    rfl
theorem bal_late (a : ByteArray) (d : Int) (hd : 300 ≤ d) : ∀ l : List S128, (∀ y ∈ l, PostV y) → bal a d l = bal a 300 l
  | [], _ => rfl
  | x :: l, h => by
    have v := (h x (by simp)).2.2.2.2.2
    have ih := bal_late a d hd l (fun y hy => h y (by simp [hy]))
    simp only [bal, ih]
    by_cases c : x.f0.toList = a.toList
    · rw [if_pos ⟨c, by omega⟩, if_pos ⟨c, by omega⟩]
    · rw [if_neg (fun z => c z.1), if_neg (fun z => c z.1)]
structure Good (l : List S128) : Prop where
  n : l.length ≤ 14
  v : ∀ y ∈ l, PostV y
  s : Srt l
theorem Good.p {l : List S128} (h : Good l) : ∀ j, j < l.length → PostOk (l.getD j z128) := fun j hj => postV_ok _ (h.v _ (getD_mem l j _ hj))
theorem Good.b {l : List S128} (h : Good l) (a : ByteArray) (d : Int) : -14000000000 ≤ bal a d l ∧ bal a d l ≤ 14000000000 := by
  have := bal_le a d l h.p
  have := h.n
  constructor <;> omega
theorem balOfS (l : List S128) (h : Good l) (a : ByteArray) (d : Int) (d0 : 0 ≤ d) (d1 : d ≤ 100000) : Ev (fun k => spec_BalanceOf.f k l a d) (if l.any (own a) = true then (bal a d l, 0) else (0, 3)) := by
  have hn := h.n
  have vt := (posts_true l (by omega) h.v h.s).2
  have ht := (has_ev l (by omega) a).1
  have hb := balS l (by omega) h.p a d l.length 0 0 (by omega) (by omega) (by omega)
  rw [List.drop_zero, Int.zero_add] at hb
  have hb2 : Ev (fun k => spec_l23Balance.f k l a d) (bal a d l) := hb
  simp only [spec_BalanceOf.f, spec_l23Day.f, spec_in_eq, Option.bind_some, decide_eq_true_eq]
  refine Ev.bind vt (Ev.pos rfl (Ev.pos ⟨d0, d1⟩ (Ev.bind ht ?_)))
  by_cases c : l.any (own a) = true
  · rw [if_pos c]
    exact Ev.pos c (Ev.bind hb2 (Ev.now _))
  · rw [if_neg c]
    exact Ev.neg c (Ev.now _)
theorem balOfI (l : List S128) (h : Good l) (a : ByteArray) (d : Int) (d0 : 0 ≤ d) (d1 : d ≤ 100000) : Ev (fun k => impl_BalanceOf.f k l a d) (if l.any (own a) = true then (bal a d l, 0) else (0, 3)) := by
  have hn := h.n
  have vt := (posts_true l (by omega) h.v h.s).1
  have ht := (has_ev l (by omega) a).2
  have hb2 := balance_ev l (by omega) h.p a d
  simp only [impl_BalanceOf.f, impl_accountDay.f, impl_within_eq, Option.bind_some, decide_eq_true_eq]
  refine Ev.bind vt (Ev.pos rfl (Ev.pos ⟨d0, d1⟩ (Ev.bind ht ?_)))
  by_cases c : l.any (own a) = true
  · rw [if_pos c]
    exact Ev.pos c (Ev.bind hb2 (Ev.now _))
  · rw [if_neg c]
    exact Ev.neg c (Ev.now _)
def bsum (a : ByteArray) (l : List S128) (f : Int) : Nat → Int
  | 0 => 0
  | n + 1 => bal a f l + bsum a l (f + 1) n
theorem bsum_le (a : ByteArray) (l : List S128) (h : Good l) : ∀ (n : Nat) (f : Int), -(14000000000 * (n : Int)) ≤ bsum a l f n ∧ bsum a l f n ≤ 14000000000 * (n : Int)
  | 0, f => by simp [bsum]
  | n + 1, f => by
    have i := bsum_le a l h n (f + 1)
    have b := h.b a f
    simp only [bsum]
    constructor <;> omega
theorem bsum_add (a : ByteArray) (l : List S128) (n : Nat) : ∀ (m : Nat) (f : Int), bsum a l f (m + n) = bsum a l f m + bsum a l (f + (m : Int)) n
  | 0, f => by simp [bsum]
  | m + 1, f => by
    have i := bsum_add a l n m (f + 1)
    rw [show m + 1 + n = (m + n) + 1 by omega]
    simp only [bsum, i]
    rw [show f + 1 + (m : Int) = f + ((m + 1 : Nat) : Int) by omega]
    omega
theorem bsum_late (a : ByteArray) (l : List S128) (h : Good l) : ∀ (n : Nat) (f : Int), 300 ≤ f → bsum a l f n = (n : Int) * bal a 300 l
  | 0, f, _ => by simp [bsum]
  | n + 1, f, hf => by
    have i := bsum_late a l h n (f + 1) (by omega)
    simp only [bsum, i, bal_late a f hf l h.v]
    rw [show ((n + 1 : Nat) : Int) = (n : Int) + 1 by omega, Int.add_mul, Int.one_mul]
    omega
theorem interest_ev (l : List S128) (h : Good l) (a : ByteArray) (ht : l.any (own a) = true) (r : Int) (r0 : 0 ≤ r) (r1 : r ≤ 40) (f : Int) (n : Nat) (hn : n ≤ 365) (f0 : 0 ≤ f) (f1 : f ≤ 1000) (u : Int) (hu : u = f + (n : Int)) :
    Ev (fun k => impl_InterestOf.f k l a f u r) (rdiv (bsum a l f n * r) 365000, 0) := by
  have hl := h.n
  have vt := (posts_true l (by omega) h.v h.s).1
  have hI := (has_ev l (by omega) a).2
  rw [ht] at hI
  have loop : ∀ (d i : Nat) (acc : Int), i + d = n → -(14000000000 * (i : Int)) ≤ acc → acc ≤ 14000000000 * (i : Int) → Ev (fun k => impl_InterestOf.l0 k l a u r acc (f + (i : Int))) (rdiv ((acc + bsum a l (f + (i : Int)) d) * r) 365000, 0) := by
    intro d
    induction d with
    | zero =>
      intro i acc hi h0 h1
      have b0 : -(5110000000000 * 40) ≤ acc * r ∧ acc * r ≤ 5110000000000 * 40 := mul_bd acc r 5110000000000 40 (by omega) (by omega) r0 r1 (by omega)
      have w : wrap64 (acc * r) = acc * r := wid (by omega) (by omega)
      have dv := divRoundS_eq (acc * r) 365000 (by omega) (by omega) (by omega) (by omega)
      refine Ev.succ ?_
      simp only [impl_InterestOf.l0, w, dv, Option.bind_some, bsum, Int.add_zero]
      exact Ev.neg (by omega) (Ev.now _)
    | succ d ih =>
      intro i acc hi h0 h1
      have bb := h.b a (f + (i : Int))
      have hb := balance_ev l (by omega) h.p a (f + (i : Int))
      have w : wrap64 (acc + bal a (f + (i : Int)) l) = acc + bal a (f + (i : Int)) l := wid (by omega) (by omega)
      have w2 : wrap64 (f + (i : Int) + 1) = f + ((i + 1 : Nat) : Int) := by rw [wid (by omega) (by omega)]; omega
      have g := ih (i + 1) (acc + bal a (f + (i : Int)) l) (by omega) (by omega) (by omega)
      refine Ev.succ ?_
      simp only [impl_InterestOf.l0, w2]
      refine Ev.pos (by omega) (Ev.bind hb ?_)
      rw [w]
      refine Ev.eqn g ?_
      simp only [bsum]
      rw [show f + ((i + 1 : Nat) : Int) = f + (i : Int) + 1 by omega, Int.add_assoc acc]
  have g := loop n 0 0 (by omega) (by omega) (by omega)
  rw [show f + ((0 : Nat) : Int) = f by omega, Int.zero_add] at g
  have cd : Ev (fun k => impl_statementCode.f k l a f u r) 0 := by
    simp only [impl_statementCode.f, impl_accountDay.f, impl_within_eq, Option.bind_some, decide_eq_true_eq]
    refine Ev.bind vt (Ev.pos rfl (Ev.pos (by omega) (Ev.pos (by omega) (Ev.succ ?_))))
    simp only [impl_statementCode.j0]
    exact Ev.neg (by simp; omega) (Ev.bind hI (Ev.pos rfl (Ev.now _)))
  simp only [impl_InterestOf.f]
  exact Ev.bind cd (Ev.pos rfl g)
theorem rdiv_year (b : Int) : rdiv (365 * b * 30) 365000 = rdiv (b * 30) 1000 := by
  unfold rdiv
  by_cases c : b < 0
  · rw [if_pos (by omega), if_pos (by omega)]
    omega
  · rw [if_neg (by omega), if_neg (by omega)]
    omega
theorem rdiv_near (a : Int) : -365000 ≤ 2 * (365000 * rdiv a 365000 - a) ∧ 2 * (365000 * rdiv a 365000 - a) ≤ 365000 := by
  unfold rdiv
  by_cases c : a < 0
  · rw [if_pos c]
    constructor <;> omega
  · rw [if_neg c]
    constructor <;> omega
set_option linter.unusedSectionVars false
section all
variable (l m r : List S128) (hl : Good l) (h7 : l.length ≤ 7) (hm : Good m) (hr : Good r) (hb : ∀ a t, bal a t r = bal a t l + bal a t m) (hh : ∀ p : S128 → Bool, r.any p = (l.any p || m.any p))
include hl h7 hm hr hb hh
theorem j4_true (i : Nat) (hi : i < 4) (x12 : Int) (hx : x12 = 0 ↔ l.any (own (acq i)) = true) (next : Ev (fun k => laws_FnInterest.l0 k l m r acs ((i + 1 : Nat) : Int)) true) : Ev (fun k => laws_FnInterest.j4 k l m r acs (i : Int) x12 false) true := by
  have hacs : acs.length = 4 := rfl
  have en : rdOf ByteArray.empty acs (i : Int) = acq i := rfl
  refine Ev.succ ?_
  by_cases c : x12 = 0
  · have ht := hx.1 c
    have i1 := interest_ev l hl (acq i) ht 0 (by omega) (by omega) 0 60 (by omega) (by omega) (by omega) 60 rfl
    have i2 := interest_ev l hl (acq i) ht 30 (by omega) (by omega) 300 365 (by omega) (by omega) (by omega) 665 rfl
    have i3 := balOfS l hl (acq i) 300 (by omega) (by omega)
    have i4 := interest_ev l hl (acq i) ht 40 (by omega) (by omega) 0 30 (by omega) (by omega) (by omega) 30 rfl
    have i5 := interest_ev l hl (acq i) ht 40 (by omega) (by omega) 30 30 (by omega) (by omega) (by omega) 60 rfl
    have i6 := interest_ev l hl (acq i) ht 40 (by omega) (by omega) 0 60 (by omega) (by omega) (by omega) 60 rfl
    rw [if_pos ht] at i3
    rw [bsum_late (acq i) l hl 365 300 (by omega)] at i2
    rw [show ((365 : Nat) : Int) * bal (acq i) 300 l * 30 = 365 * bal (acq i) 300 l * 30 from rfl, rdiv_year] at i2
    have z0 : rdiv (bsum (acq i) l 0 60 * 0) 365000 = 0 := by rw [Int.mul_zero]; decide
    rw [z0] at i1
    have bb := bal_le (acq i) 300 l hl.p
    have ad := bsum_add (acq i) l 30 30 0
    rw [show (0 : Int) + ((30 : Nat) : Int) = 30 from rfl] at ad
    have l1 := bsum_le (acq i) l hl 30 0
    have l2 := bsum_le (acq i) l hl 30 30
    obtain ⟨s, hs⟩ : ∃ s, s = bsum (acq i) l 0 30 := ⟨_, rfl⟩
    obtain ⟨t, htt⟩ : ∃ t, t = bsum (acq i) l 30 30 := ⟨_, rfl⟩
    rw [show (30 + 30 : Nat) = 60 from rfl, ← hs, ← htt] at ad
    rw [← hs] at l1 i4
    rw [← htt] at l2 i5
    rw [ad] at i6
    have n1 := rdiv_near (s * 40)
    have n2 := rdiv_near (t * 40)
    have n3 := rdiv_near ((s + t) * 40)
    obtain ⟨A, hA⟩ : ∃ A, A = rdiv (s * 40) 365000 := ⟨_, rfl⟩
    obtain ⟨B, hB⟩ : ∃ B, B = rdiv (t * 40) 365000 := ⟨_, rfl⟩
    obtain ⟨C, hC⟩ : ∃ C, C = rdiv ((s + t) * 40) 365000 := ⟨_, rfl⟩
    rw [← hA] at n1 i4
    rw [← hB] at n2 i5
    rw [← hC] at n3 i6
    obtain ⟨b, hbb⟩ : ∃ b, b = bal (acq i) 300 l := ⟨_, rfl⟩
    rw [← hbb] at i2 i3 bb
    have w1 : wrap64 (b * 30) = b * 30 := wid (by omega) (by omega)
    have dv : spec_DivRound.f (b * 30) 1000 = some (rdiv (b * 30) 1000) := by
      have d := l01DivS_eq (b * 30) 1000 (by omega) (by omega) (by omega) (by omega)
      simp only [spec_DivRound.f, spec_in_eq, d, Option.bind_some]
      rw [if_neg (by omega), if_pos (decide_eq_true (by omega)), if_pos (decide_eq_true (by omega))]
    have w2 : wrap64 (A + B) = A + B := wid (by omega) (by omega)
    have w3 : wrap64 (A + B - C) = A + B - C := wid (by omega) (by omega)
    have w4 : wrap64 (-(A + B - C)) = -(A + B - C) := wid (by omega) (by omega)
    have hmx : ¬ mx (A + B - C) (-(A + B - C)) > 2 := by
      unfold mx
      split <;> omega
    simp only [laws_FnInterest.j4, en, wnat i (by omega)]
    refine Ev.neg (by decide) (Ev.pos c (Ev.pos (by omega) (Ev.pos (by omega) (Ev.bind i1 (Ev.bind i2 (Ev.bind i3 (Ev.bind i4 (Ev.bind i5 (Ev.bind i6 ?_)))))))))
    simp only [w1, dv, Option.bind_some, laws_r8Abs.f, w2, w3, w4]
    exact Ev.pos (by first | rfl | trivial) (Ev.pos (by first | rfl | trivial) (Ev.pos (by first | rfl | trivial) (Ev.pos (by first | rfl | trivial) (Ev.pos (by first | rfl | trivial) (Ev.pos (by first | rfl | trivial) (Ev.pos (by first | rfl | trivial) (Ev.pos (by first | rfl | trivial) (Ev.neg hmx next))))))))
  · simp only [laws_FnInterest.j4, wnat i (by omega)]
    exact Ev.neg (by decide) (Ev.neg c next)
theorem l0_step (i : Nat) (hi : i < 4) (next : Ev (fun k => laws_FnInterest.l0 k l m r acs ((i + 1 : Nat) : Int)) true) : Ev (fun k => laws_FnInterest.l0 k l m r acs (i : Int)) true := by
  have hacs : acs.length = 4 := rfl
  have en : rdOf ByteArray.empty acs (i : Int) = acq i := rfl
  have e1 := balOfS l hl (acq i) 40 (by omega) (by omega)
  have e2 := balOfS m hm (acq i) 40 (by omega) (by omega)
  have e3 := balOfI r hr (acq i) 40 (by omega) (by omega)
  rw [hh (own (acq i)), hb] at e3
  have b1 := hl.b (acq i) 40
  have b2 := hm.b (acq i) 40
  have w : wrap64 (bal (acq i) 40 l + bal (acq i) 40 m) = bal (acq i) 40 l + bal (acq i) 40 m := wid (by omega) (by omega)
  refine Ev.succ ?_
  simp only [laws_FnInterest.l0, en]
  refine Ev.pos (by omega) (Ev.pos (by omega) (Ev.bind e1 (Ev.bind e2 (Ev.bind e3 ?_))))
  cases c1 : l.any (own (acq i)) with
  | true =>
    have nx := j4_true l m r hl h7 hm hr hb hh i hi 0 ⟨fun _ => c1, fun _ => rfl⟩ next
    rw [if_pos rfl, Bool.true_or, if_pos rfl]
    refine Ev.pos rfl (Ev.succ ?_)
    simp only [laws_FnInterest.j2]
    have go : ∀ (v e : Int), v = bal (acq i) 40 m → Ev (fun k => laws_FnInterest.j3 k l m r acs (i : Int) (bal (acq i) 40 l) 0 v e (bal (acq i) 40 l + bal (acq i) 40 m) 0) true := by
      intro v e hv
      subst hv
      refine Ev.succ ?_
      simp only [laws_FnInterest.j3, w, bne_self_eq_false]
      exact Ev.pos (by first | rfl | trivial) (Ev.neg (by decide) (Ev.pos (by first | rfl | trivial) nx))
    cases c2 : m.any (own (acq i)) with
    | true =>
      rw [if_pos rfl]
      exact Ev.pos rfl (go _ _ rfl)
    | false =>
      rw [if_neg (by decide)]
      exact Ev.neg (by simp) (go _ _ (bal_none _ _ m c2).symm)
  | false =>
    have nx := j4_true l m r hl h7 hm hr hb hh i hi 3 ⟨fun h => by omega, fun h => by rw [c1] at h; cases h⟩ next
    have z := bal_none (acq i) 40 l c1
    rw [if_neg (by decide), Bool.false_or]
    refine Ev.neg (by simp) (Ev.succ ?_)
    simp only [laws_FnInterest.j2]
    cases c2 : m.any (own (acq i)) with
    | true =>
      rw [if_pos rfl, if_pos rfl]
      refine Ev.pos rfl (Ev.succ ?_)
      have w2 : wrap64 (0 + bal (acq i) 40 m) = bal (acq i) 40 l + bal (acq i) 40 m := by rw [z]; exact wid (by omega) (by omega)
      simp only [laws_FnInterest.j3, w2, bne_self_eq_false]
      exact Ev.neg (by omega) (Ev.neg (by decide) (Ev.pos (by first | rfl | trivial) nx))
    | false =>
      rw [if_neg (by decide), if_neg (by decide)]
      refine Ev.neg (by simp) (Ev.succ ?_)
      simp only [laws_FnInterest.j3]
      exact Ev.neg (by omega) (Ev.neg (by decide) (Ev.neg (by simp) nx))
theorem all_true : Ev (fun k => laws_FnInterest.l0 k l m r acs 0) true := by
  have e : Ev (fun k => laws_FnInterest.l0 k l m r acs ((4 : Nat) : Int)) true := by
    refine Ev.succ ?_
    simp only [laws_FnInterest.l0]
    exact Ev.neg (by decide) (Ev.now _)
  exact l0_step l m r hl h7 hm hr hb hh 0 (by omega) (l0_step l m r hl h7 hm hr hb hh 1 (by omega) (l0_step l m r hl h7 hm hr hb hh 2 (by omega) (l0_step l m r hl h7 hm hr hb hh 3 (by omega) e)))
end all
theorem FnInterest : ∀ (x0 : List Int) (x1 : List Int), (wfL (wfI .u8)) x0 → (wfL (wfI .u8)) x1 → ∃ k, laws_FnInterest.f k x0 x1 = some true := by
  intro x0 x1 hw0 hw1
  refine Ev.rounds (r := true) ?_
  simp only [laws_FnInterest.f, laws_r8Long.f]
  by_cases c0 : (x0.length : Int) > 1048576
  · exact Ev.bind (a := true) (Ev.pos c0 (Ev.now _)) (Ev.pos rfl (Ev.now _))
  by_cases c1 : (x1.length : Int) > 1048576
  · exact Ev.bind (a := true) (Ev.neg c0 (Ev.eqn (Ev.now _) (decide_eq_true c1))) (Ev.pos rfl (Ev.now _))
  refine Ev.bind (a := false) (Ev.neg c0 (Ev.eqn (Ev.now _) (decide_eq_false c1))) (Ev.neg (by decide) ?_)
  obtain ⟨l, d1, n1, v1, s1⟩ := draw_posts x0 (bytes_of x0 hw0 (by omega))
  obtain ⟨m, d2, n2, v2, s2⟩ := draw_posts x1 (bytes_of x1 hw1 (by omega))
  have t1 := posts_true l (by omega) v1 s1
  have t2 := posts_true m (by omega) v2 s2
  obtain ⟨r, g1, g2, g3, g4, g5, g6⟩ := mergeI m n2 v2 m.length 0 l (by omega) (by omega) s1 v1
  have t3 := posts_true r (by omega) g4 g3
  have cl : slices_Clone_Posting.f l = some l := by
    simp only [slices_Clone_Posting.f, Option.bind_some, List.nil_append, List.length_nil]
    rw [if_pos (by omega)]
  have wp : Ev (fun k => impl_withPostings.f k l m) (r, 0) := by
    simp only [impl_withPostings.f, cl, Option.bind_some]
    exact g1
  have mp : Ev (fun k => impl_MergePostings.f k l m) (r, 0) := by
    simp only [impl_MergePostings.f]
    exact Ev.bind t1.1 (Ev.pos rfl (Ev.bind t2.1 (Ev.pos rfl (Ev.bind wp (Ev.now _)))))
  have vp : Ev (fun k => spec_ValidPostings.f k r) true := by
    simp only [spec_ValidPostings.f]
    exact Ev.bind t3.2 (Ev.now _)
  have w : wrap64 ((l.length : Int) + (m.length : Int)) = (r.length : Int) := by rw [wid (by omega) (by omega)]; omega
  refine Ev.bind d1 (Ev.bind d2 (Ev.bind mp (Ev.pos rfl (Ev.bind vp (Ev.pos rfl (Ev.succ ?_))))))
  simp only [laws_FnInterest.j0, w, bne_self_eq_false]
  refine Ev.neg (by decide) ?_
  exact all_true l m r ⟨by omega, v1, s1⟩ n1 ⟨by omega, v2, s2⟩ ⟨by omega, g4, g3⟩ (fun a t => by rw [g5, List.drop_zero]) (fun p => by rw [g6, List.drop_zero])
end Go.Proofs.Ytnmdljdkbpgdaaa.Pure
