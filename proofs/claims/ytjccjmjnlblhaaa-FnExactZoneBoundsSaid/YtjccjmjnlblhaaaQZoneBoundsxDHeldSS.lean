/- HeldSS: rows of numbers that were marked hold their marks. Conditions: rows of a length that a program can have. -/
import Derived.Test.YtjccjmjnlblhaaaQZoneBoundsx1
import Derived.Test.YtjccjmjnlblhaaaQZoneBoundsxL
namespace Go.Proofs.Ytjccjmjnlblhaaa.QZoneBounds
open Go.RowKit Go.Proofs.YtjccjmjnlblhaaaW.PrintWords Go.Proofs.Ytjccjmjnlblhaaa.QOpen Go.Proofs.Ytjccjmjnlblhaaa.QEv
set_option linter.unusedVariables false
set_option linter.unusedSimpArgs false
theorem rdl (x : List (List Int)) (j : Nat) : rd_L3 x (j : Int) = x.getD j [] := rfl
theorem markHeld : ∀ (d i : Nat) (acc : List (List Int)) (K : Int), i + d = acc.length → acc.length ≤ 1048576 → (∀ j, j < acc.length → (acc.getD j []).length ≤ 1048576) → 0 ≤ K → K + (d : Int) * 1048576 ≤ 4611686018427387904 →
    ∃ (K' : Int) (l' : List (List Int)), Ev (fun k => laws_markInt64SS.l0 k acc K (i : Int)) (K', l') ∧ l'.length = acc.length ∧ (∀ j, j < i → l'.getD j [] = acc.getD j []) ∧ Ev (fun k => laws_heldInt64SS.l0 k l' K (i : Int)) K' ∧ 0 ≤ K' := by
  intro d
  induction d with
  | zero =>
    intro i acc K hi hl hr h0 h1
    refine ⟨K, acc, Ev.succ ?_, rfl, fun _ _ => rfl, Ev.succ ?_, h0⟩
    · simp only [laws_markInt64SS.l0]
      exact Ev.neg (by omega) (Ev.now _)
    · simp only [laws_heldInt64SS.l0]
      exact Ev.neg (by omega) (Ev.now _)
  | succ d ih =>
    intro i acc K hi hl hr h0 h1
    have hri := hr i (by omega)
    obtain ⟨r, er⟩ : ∃ r, r = acc.getD i [] := ⟨_, rfl⟩
    rw [← er] at hri
    obtain ⟨r', e1, e2, e3⟩ := laws_markInt64S_ev r K h0 (by omega)
    have ls : (acc.set i r').length = acc.length := List.length_set
    have gs : ∀ j, (acc.set i r').getD j [] = if j = i then r' else acc.getD j [] := fun j => getD_set acc i j r' [] (by omega)
    obtain ⟨K', l', g1, g2, g3, g4, g5⟩ := ih (i + 1) (acc.set i r') (K + 1 * (r.length : Int)) (by omega) (by omega) (fun j hj => by
      rw [gs]
      by_cases e : j = i
      · rw [if_pos e]; omega
      · rw [if_neg e]; exact hr j (by omega)) (by omega) (by omega)
    have gi := g3 i (by omega)
    rw [gs, if_pos rfl] at gi
    have hv := laws_heldInt64S_ev K h0 r' (by omega) (fun j hj => e3 j (by omega))
    rw [e2] at hv
    refine ⟨K', l', Ev.succ ?_, by omega, fun j hj => ?_, Ev.succ ?_, g5⟩
    · simp only [laws_markInt64SS.l0, rdl, ← er, wnat i (by omega), Int.toNat_natCast]
      exact Ev.pos (by omega) (Ev.pos (by omega) (Ev.bind e1 g1))
    · rw [g3 j (by omega), gs, if_neg (by omega)]
    · simp only [laws_heldInt64SS.l0, rdl, gi, wnat i (by omega)]
      exact Ev.pos (by omega) (Ev.pos (by omega) (Ev.bind hv (Ev.neg (by omega) g4)))
theorem markHeld_ev (l : List (List Int)) (hl : l.length ≤ 1048576) (hr : ∀ j, j < l.length → (l.getD j []).length ≤ 1048576) : ∃ (K : Int) (l' : List (List Int)), Ev (fun k => laws_markInt64SS.f k l 1) (K, l') ∧ Ev (fun k => laws_heldInt64SS.f k l' 1) K ∧ 0 ≤ K := by
  obtain ⟨K, l', g1, _, _, g4, g5⟩ := markHeld l.length 0 l 1 (by omega) hl hr (by omega) (by omega)
  exact ⟨K, l', g1, g4, g5⟩
end Go.Proofs.Ytjccjmjnlblhaaa.QZoneBounds
