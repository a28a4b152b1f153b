/- Pigeon: as many different things need as many places. Conditions: none. -/
import Derived.Test.YtionpndhcijmcaaQGangsxL
namespace Go.Proofs.Ytionpndhcijmcaa.QGangs
open Go.RowKit Go.Proofs.YtionpndhcijmcaaW.PrintWords Go.Proofs.Ytionpndhcijmcaa.QOpen Go.Proofs.Ytionpndhcijmcaa.QEv
set_option linter.unusedVariables false
set_option linter.unusedSimpArgs false
theorem pigeon : ∀ (b a : Nat) (f : Nat → Nat), (∀ q, q < a → f q < b) → (∀ p q, p < a → q < a → f p = f q → p = q) → a ≤ b := by
  intro b
  induction b with
  | zero =>
    intro a f h _
    by_cases c : a = 0
    · omega
    · have := h 0 (by omega)
      omega
  | succ b ih =>
    intro a f h inj
    by_cases c : ∃ q, q < a ∧ f q = b
    · obtain ⟨q0, h0, h1⟩ := c
      have := ih (a - 1) (fun q => f (if q < q0 then q else q + 1)) (fun q hq => by
        have hlt : (if q < q0 then q else q + 1) < a := by split <;> omega
        have a1 := h _ hlt
        have a2 : f (if q < q0 then q else q + 1) ≠ b := fun e => by
          have := inj _ _ hlt h0 (e.trans h1.symm)
          split at this <;> omega
        omega) (fun p q hp hq e => by
        have hp2 : (if p < q0 then p else p + 1) < a := by split <;> omega
        have hq2 : (if q < q0 then q else q + 1) < a := by split <;> omega
        have := inj _ _ hp2 hq2 e
        split at this <;> split at this <;> omega)
      omega
    · exact Nat.le_succ_of_le (ih a f (fun q hq => by
        have a1 := h q hq
        have a2 : f q ≠ b := fun e => c ⟨q, hq, e⟩
        omega) inj)
theorem onto (n : Nat) (f : Nat → Nat) (hb : ∀ q, q < n → f q < n) (inj : ∀ p q, p < n → q < n → f p = f q → p = q) (i : Nat) (hi : i < n) : ∃ q, q < n ∧ f q = i := by
  by_cases c : ∃ q, q < n ∧ f q = i
  · exact c
  · exfalso
    have ne : ∀ q, q < n → f q ≠ i := fun q hq e => c ⟨q, hq, e⟩
    have := pigeon (n - 1) n (fun q => if f q < i then f q else f q - 1) (fun q hq => by
      have a1 := hb q hq
      have a2 := ne q hq
      split <;> omega) (fun p q hp hq e => by
      have a1 := ne p hp
      have a2 := ne q hq
      refine inj p q hp hq ?_
      split at e <;> split at e <;> omega)
    omega
def acts (p : Nat → Bool) : Nat → Nat → List Nat
  | _, 0 => []
  | j, d + 1 => if p j = true then j :: acts p (j + 1) d else acts p (j + 1) d
theorem acts_mem (p : Nat → Bool) : ∀ (d j x : Nat), x ∈ acts p j d → j ≤ x ∧ x < j + d ∧ p x = true := by
  intro d
  induction d with
  | zero => intro j x h; simp [acts] at h
  | succ d ih =>
    intro j x h
    rw [acts] at h
    split at h
    · rename_i c
      rcases List.mem_cons.1 h with e | e
      · subst e
        exact ⟨by omega, by omega, c⟩
      · obtain ⟨a, b, c⟩ := ih (j + 1) x e
        exact ⟨by omega, by omega, c⟩
    · obtain ⟨a, b, c⟩ := ih (j + 1) x h
      exact ⟨by omega, by omega, c⟩
theorem acts_pair (p : Nat → Bool) : ∀ (d j : Nat), (acts p j d).Pairwise (· < ·) := by
  intro d
  induction d with
  | zero => intro j; simp [acts]
  | succ d ih =>
    intro j
    rw [acts]
    split
    · refine List.Pairwise.cons (fun x hx => ?_) (ih (j + 1))
      have := (acts_mem p d (j + 1) x hx).1
      omega
    · exact ih (j + 1)
end Go.Proofs.Ytionpndhcijmcaa.QGangs
