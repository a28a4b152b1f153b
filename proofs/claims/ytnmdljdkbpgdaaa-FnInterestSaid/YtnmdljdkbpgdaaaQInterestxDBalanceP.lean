/- BalanceP: the balance of an account, by the program's loop; sums of balances over days. Conditions: postings as stated. -/
import Derived.Test.YtnmdljdkbpgdaaaQInterestx6
import Derived.Test.YtnmdljdkbpgdaaaQInterestxL
import Derived.Test.YtnmdljdkbpgdaaaQInterestxDPostingsP
namespace Go.Proofs.Ytnmdljdkbpgdaaa.QInterest
open Go.RowKit Go.Proofs.YtnmdljdkbpgdaaaW.PrintWords Go.Proofs.Ytnmdljdkbpgdaaa.QOpen Go.Proofs.Ytnmdljdkbpgdaaa.QEv
set_option linter.unusedVariables false
set_option linter.unusedSimpArgs false
def bal (a : ByteArray) (d : Int) : List S128 → Int
  | [] => 0
  | x :: t => (if x.f0.toList = a.toList ∧ x.f2 ≤ d then x.f1 else 0) + bal a d t
theorem bal_le (a : ByteArray) (d : Int) : ∀ (l : List S128), (∀ j, j < l.length → PostOk (l.getD j z128)) → -((l.length : Int) * 1000000000) ≤ bal a d l ∧ bal a d l ≤ (l.length : Int) * 1000000000
  | [], _ => by simp [bal]
  | x :: t, h => by
    have h0 : PostOk x := h 0 (by simp)
    have ih := bal_le a d t (fun j hj => h (j + 1) (by simp; omega))
    have e : ((x :: t).length : Int) = (t.length : Int) + 1 := by simp
    obtain ⟨p, q, _, _⟩ := h0
    rw [e, bal]
    split <;> omega
theorem balLoop (l : List S128) (hl : l.length ≤ 32) (hp : ∀ j, j < l.length → PostOk (l.getD j z128)) (a : ByteArray) (day : Int) : ∀ (d i : Nat) (acc : Int), i + d = l.length → -((i : Int) * 1000000000) ≤ acc → acc ≤ (i : Int) * 1000000000 →
    Ev (fun k => impl_balanceOf.l0 k a day acc l (l.length : Int) (i : Int)) (acc + bal a day (l.drop i)) := by
  intro d
  induction d with
  | zero =>
    intro i acc hi h0 h1
    rw [drop_end _ _ hi]
    refine Ev.succ ?_
    simp only [impl_balanceOf.l0]
    exact Ev.neg (by omega) (Ev.eqn (Ev.now _) (by simp [bal]))
  | succ d ih =>
    intro i acc hi h0 h1
    obtain ⟨p, q, _, _⟩ := hp i (by omega)
    rw [drop_step l i z128 (by omega), bal]
    change -1000000000 ≤ (rd_T128 l (i : Int)).f1 at p
    change (rd_T128 l (i : Int)).f1 ≤ 1000000000 at q
    change Ev _ (acc + ((if (rd_T128 l (i : Int)).f0.toList = a.toList ∧ (rd_T128 l (i : Int)).f2 ≤ day then (rd_T128 l (i : Int)).f1 else 0) + _))
    by_cases c : (rd_T128 l (i : Int)).f0.toList = a.toList
    · by_cases c2 : (rd_T128 l (i : Int)).f2 ≤ day
      · have w : wrap64 (acc + (rd_T128 l (i : Int)).f1) = acc + (rd_T128 l (i : Int)).f1 := wid (by omega) (by omega)
        have h := ih (i + 1) (acc + (rd_T128 l (i : Int)).f1) (by omega) (by omega) (by omega)
        rw [if_pos ⟨c, c2⟩, ← Int.add_assoc]
        refine Ev.succ ?_
        simp only [impl_balanceOf.l0, w, wnat i (by omega)]
        repeat' first | (with_reducible exact Ev.now _) | (with_reducible exact h) | ((with_reducible refine Ev.pos ?_ ?_); focus (first | with_reducible assumption | with_reducible rfl | omega | rfl | trivial)) | ((with_reducible refine Ev.neg ?_ ?_); focus (first | with_reducible assumption | omega | (simp; done) | (dsimp only; omega))) | (with_reducible refine Ev.bind h ?_) | (with_reducible refine Ev.bind (Ev.shift h) ?_) | (with_reducible refine Ev.sb ?_) | dsimp only
      · have h := ih (i + 1) acc (by omega) (by omega) (by omega)
        rw [if_neg (fun z => c2 z.2), Int.zero_add]
        refine Ev.succ ?_
        simp only [impl_balanceOf.l0, wnat i (by omega)]
        repeat' first | (with_reducible exact Ev.now _) | (with_reducible exact h) | ((with_reducible refine Ev.pos ?_ ?_); focus (first | with_reducible assumption | with_reducible rfl | omega | rfl | trivial)) | ((with_reducible refine Ev.neg ?_ ?_); focus (first | with_reducible assumption | omega | (simp; done) | (dsimp only; omega))) | (with_reducible refine Ev.bind h ?_) | (with_reducible refine Ev.bind (Ev.shift h) ?_) | (with_reducible refine Ev.sb ?_) | dsimp only
    · have h := ih (i + 1) acc (by omega) (by omega) (by omega)
      rw [if_neg (fun z => c z.1), Int.zero_add]
      refine Ev.succ ?_
      simp only [impl_balanceOf.l0, wnat i (by omega)]
      repeat' first | (with_reducible exact Ev.now _) | (with_reducible exact h) | ((with_reducible refine Ev.pos ?_ ?_); focus (first | with_reducible assumption | with_reducible rfl | omega | rfl | trivial)) | ((with_reducible refine Ev.neg ?_ ?_); focus (first | with_reducible assumption | omega | (simp; done) | (dsimp only; omega))) | (with_reducible refine Ev.bind h ?_) | (with_reducible refine Ev.bind (Ev.shift h) ?_) | (with_reducible refine Ev.sb ?_) | dsimp only
theorem balance_ev (l : List S128) (hl : l.length ≤ 32) (hp : ∀ j, j < l.length → PostOk (l.getD j z128)) (a : ByteArray) (day : Int) : Ev (fun k => impl_balanceOf.f k l a day) (bal a day l) := by
  have h := balLoop l hl hp a day l.length 0 0 (by omega) (by omega) (by omega)
  simp only [impl_balanceOf.f]
  exact Ev.eqn h (by simp)
def wsum (a : ByteArray) (f u : Int) : List S128 → Int
  | [] => 0
  | x :: t => (if x.f0.toList = a.toList then x.f1 * max 0 (u - max f x.f2) else 0) + wsum a f u t
theorem wsum_zero (a : ByteArray) (f : Int) : ∀ l : List S128, wsum a f f l = 0
  | [] => rfl
  | x :: t => by
    rw [wsum, wsum_zero a f t, show max 0 (f - max f x.f2) = 0 by omega, Int.mul_zero]
    simp
theorem wsum_step (a : ByteArray) (f u : Int) (h : f ≤ u) : ∀ l : List S128, wsum a f (u + 1) l = wsum a f u l + bal a u l
  | [] => rfl
  | x :: t => by
    rw [wsum, wsum, bal, wsum_step a f u h t]
    by_cases c : x.f0.toList = a.toList
    · by_cases c2 : x.f2 ≤ u
      · rw [if_pos c, if_pos c, if_pos ⟨c, c2⟩, show max 0 (u + 1 - max f x.f2) = max 0 (u - max f x.f2) + 1 by omega, Int.mul_add, Int.mul_one]
        omega
      · rw [if_pos c, if_pos c, if_neg (fun z => c2 z.2), show max 0 (u + 1 - max f x.f2) = 0 by omega, show max 0 (u - max f x.f2) = 0 by omega, Int.mul_zero]
        omega
    · rw [if_neg c, if_neg c, if_neg (fun z => c z.1)]
      omega
theorem mul_bd (x y A B : Int) (h0 : -A ≤ x) (h1 : x ≤ A) (h2 : 0 ≤ y) (h3 : y ≤ B) (hA : 0 ≤ A) : -(A * B) ≤ x * y ∧ x * y ≤ A * B := by
  have a1 : x * y ≤ A * y := Int.mul_le_mul_of_nonneg_right h1 h2
  have a2 : A * y ≤ A * B := Int.mul_le_mul_of_nonneg_left h3 hA
  have a3 : -A * y ≤ x * y := Int.mul_le_mul_of_nonneg_right h0 h2
  rw [Int.neg_mul] at a3
  omega
theorem wsum_le (a : ByteArray) (f u : Int) (h0 : 0 ≤ f) (h1 : u ≤ 100000) : ∀ (l : List S128), (∀ j, j < l.length → PostOk (l.getD j z128)) → -((l.length : Int) * 100000000000000) ≤ wsum a f u l ∧ wsum a f u l ≤ (l.length : Int) * 100000000000000
  | [], _ => by simp [wsum]
  | x :: t, h => by
    have hx : PostOk x := h 0 (by simp)
    have ih := wsum_le a f u h0 h1 t (fun j hj => h (j + 1) (by simp; omega))
    have e : ((x :: t).length : Int) = (t.length : Int) + 1 := by simp
    obtain ⟨p, q, _, _⟩ := hx
    have m := mul_bd x.f1 (max 0 (u - max f x.f2)) 1000000000 100000 p q (by omega) (by omega) (by omega)
    rw [e, wsum]
    split <;> omega
end Go.Proofs.Ytnmdljdkbpgdaaa.QInterest
