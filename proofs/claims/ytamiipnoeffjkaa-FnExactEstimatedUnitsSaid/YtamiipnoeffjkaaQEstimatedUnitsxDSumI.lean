/- SumI: the sum of weights, by the program's loop. Conditions: at most 12 weights from 0 to 1000000. -/
import Derived.Test.YtamiipnoeffjkaaQEstimatedUnitsx5
import Derived.Test.YtamiipnoeffjkaaQEstimatedUnitsxL
namespace Go.Proofs.Ytamiipnoeffjkaa.QEstimatedUnits
open Go.RowKit Go.Proofs.YtamiipnoeffjkaaW.PrintWords Go.Proofs.Ytamiipnoeffjkaa.QOpen Go.Proofs.Ytamiipnoeffjkaa.QEv
set_option linter.unusedVariables false
set_option linter.unusedSimpArgs false
def WOk (w : List Int) : Prop := w.length ≤ 12 ∧ ∀ j, j < w.length → 0 ≤ w.getD j 0 ∧ w.getD j 0 ≤ 1000000
def sumL : List Int → Int
  | [] => 0
  | x :: l => x + sumL l
theorem sumL_app : ∀ (l : List Int) (x : Int), sumL (l ++ [x]) = sumL l + x
  | [], x => by simp [sumL]
  | y :: l, x => by
    rw [List.cons_append, sumL, sumL, sumL_app l x]
    omega
theorem sumL_le (w : List Int) (hw : WOk w) : ∀ (d i : Nat), i + d = w.length → 0 ≤ sumL (w.drop i) ∧ sumL (w.drop i) ≤ (d : Int) * 1000000 := by
  intro d
  induction d with
  | zero =>
    intro i hi
    rw [drop_end _ _ hi]
    simp [sumL]
  | succ d ih =>
    intro i hi
    obtain ⟨a, b⟩ := ih (i + 1) (by omega)
    obtain ⟨p, q⟩ := hw.2 i (by omega)
    rw [drop_step w i 0 (by omega), sumL]
    omega
theorem sumOfI (w : List Int) (hw : WOk w) : ∀ (d i : Nat) (acc : Int), i + d = w.length → 0 ≤ acc → acc ≤ (i : Int) * 1000000 → Ev (fun k => impl_sumOf.l0 k acc w (w.length : Int) (i : Int)) (acc + sumL (w.drop i)) := by
  obtain ⟨hn, hv⟩ := hw
  intro d
  induction d with
  | zero =>
    intro i acc hi h0 h1
    rw [drop_end _ _ hi]
    refine Ev.succ ?_
    simp only [impl_sumOf.l0]
    exact Ev.neg (by omega) (Ev.eqn (Ev.now _) (by simp [sumL]))
  | succ d ih =>
    intro i acc hi h0 h1
    have hj := hv i (by omega)
    have e0 : rd w (i : Int) = w.getD i 0 := rfl
    rw [drop_step w i 0 (by omega), sumL, ← Int.add_assoc]
    have wa : wrap64 (acc + w.getD i 0) = acc + w.getD i 0 := wid (by omega) (by omega)
    have h := ih (i + 1) (acc + w.getD i 0) (by omega) (by omega) (by omega)
    refine Ev.succ ?_
    simp only [impl_sumOf.l0, e0, wa, wnat i (by omega)]
    exact Ev.pos (by omega) (Ev.pos (by omega) (Ev.pos (by omega) h))
end Go.Proofs.Ytamiipnoeffjkaa.QEstimatedUnits
