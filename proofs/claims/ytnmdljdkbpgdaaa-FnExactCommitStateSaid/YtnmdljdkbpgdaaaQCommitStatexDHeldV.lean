/- HeldV: a history that was marked holds its marks. Conditions: rows of a length that a program can have. -/
import Derived.Test.YtnmdljdkbpgdaaaQCommitStatex3
import Derived.Test.YtnmdljdkbpgdaaaQCommitStatex10
import Derived.Test.YtnmdljdkbpgdaaaQCommitStatexL
namespace Go.Proofs.Ytnmdljdkbpgdaaa.QCommitState
open Go.RowKit Go.Proofs.YtnmdljdkbpgdaaaW.PrintWords Go.Proofs.Ytnmdljdkbpgdaaa.QOpen Go.Proofs.Ytnmdljdkbpgdaaa.QEv
set_option linter.unusedVariables false
set_option linter.unusedSimpArgs false
theorem markHeldV : ∀ (d i : Nat) (acc : List S119) (K : Int), i + d = acc.length → acc.length ≤ 1048576 → (∀ j, j < acc.length → ((acc.getD j z119).f3).length ≤ 1048576) → 0 ≤ K → K + (d : Int) * 2097155 ≤ 4611686018427387904 →
    ∃ (K' : Int) (l' : List S119), Ev (fun k => laws_markVersionS.l0 k acc K (i : Int)) (K', l') ∧ l'.length = acc.length ∧ (∀ j, j < i → l'.getD j z119 = acc.getD j z119) ∧ Ev (fun k => laws_heldVersionS.l0 k l' K (i : Int)) K' ∧ 0 ≤ K' := by
  intro d
  induction d with
  | zero =>
    intro i acc K hi hl hr h0 h1
    refine ⟨K, acc, Ev.succ ?_, rfl, fun _ _ => rfl, Ev.succ ?_, h0⟩
    · simp only [laws_markVersionS.l0]
      exact Ev.neg (by omega) (Ev.now _)
    · simp only [laws_heldVersionS.l0]
      exact Ev.neg (by omega) (Ev.now _)
  | succ d ih =>
    intro i acc K hi hl hr h0 h1
    have hri := hr i (by omega)
    have rdv : ∀ (x : List S119), rd_T119 x (i : Int) = x.getD i z119 := fun _ => rfl
    obtain ⟨r, er⟩ : ∃ r, r = (acc.getD i z119).f3 := ⟨_, rfl⟩
    rw [← er] at hri
    have w1 : wrap64 (K + 1) = K + 1 := wid (by omega) (by omega)
    have w2 : wrap64 (K + 1 + 1) = K + 1 + 1 := wid (by omega) (by omega)
    have w3 : wrap64 (K + 1 + 1 + 1) = K + 1 + 1 + 1 := wid (by omega) (by omega)
    obtain ⟨r', e1, e2, e3⟩ := laws_markSettingS_ev r (K + 1 + 1 + 1) (by omega) (by omega)
    have mt := mtx_ev (K + 1 + 1) (by omega)
    obtain ⟨v, ev⟩ : ∃ v : S119, v = ⟨K, K + 1, mtx (K + 1 + 1), r'⟩ := ⟨_, rfl⟩
    have ls : (acc.set i v).length = acc.length := List.length_set
    have gs : ∀ j, (acc.set i v).getD j z119 = if j = i then v else acc.getD j z119 := fun j => getD_set acc i j v z119 (by omega)
    obtain ⟨K', l', g1, g2, g3, g4, g5⟩ := ih (i + 1) (acc.set i v) (K + 1 + 1 + 1 + 2 * (r.length : Int)) (by omega) (by omega) (fun j hj => by
      rw [gs]
      by_cases e : j = i
      · rw [if_pos e, ev]; show r'.length ≤ _; omega
      · rw [if_neg e]; exact hr j (by omega)) (by omega) (by omega)
    have gi := g3 i (by omega)
    rw [gs, if_pos rfl] at gi
    have hv := laws_heldSettingS_ev (K + 1 + 1 + 1) (by omega) r' (by omega) (fun j hj => e3 j (by omega))
    rw [e2] at hv
    refine ⟨K', l', Ev.succ ?_, by omega, fun j hj => ?_, Ev.succ ?_, g5⟩
    · simp only [laws_markVersionS.l0, rdv, ← er, w1, w2, w3, wnat i (by omega), Int.toNat_natCast]
      rw [ev] at g1
      exact Ev.pos (by omega) (Ev.pos (by omega) (Ev.bind mt (Ev.bind e1 g1)))
    · rw [g3 j (by omega), gs, if_neg (by omega)]
    · simp only [laws_heldVersionS.l0, rdv, gi, ev, w1, w2, w3, wnat i (by omega)]
      exact Ev.pos (by omega) (Ev.pos (by omega) (Ev.pos (by first | rfl | trivial) (Ev.pos (by first | rfl | trivial) (Ev.bind mt (Ev.pos (by first | rfl | trivial) (Ev.bind hv (Ev.neg (by omega) g4)))))))
theorem markHeldV_ev (l : List S119) (hl : l.length ≤ 1048576) (hr : ∀ j, j < l.length → ((l.getD j z119).f3).length ≤ 1048576) : ∃ (K : Int) (l' : List S119), Ev (fun k => laws_markVersionS.f k l 1) (K, l') ∧ Ev (fun k => laws_heldVersionS.f k l' 1) K ∧ 0 ≤ K := by
  obtain ⟨K, l', g1, _, _, g4, g5⟩ := markHeldV l.length 0 l 1 (by omega) hl hr (by omega) (by omega)
  exact ⟨K, l', g1, g4, g5⟩
end Go.Proofs.Ytnmdljdkbpgdaaa.QCommitState
