/- FnExactHeatBill: the program's HeatBill and the reference's return one and the same for all arguments, in memory of the call's own, and the arguments stay as they were. Conditions: none beyond the statement's own guard. -/
import Derived.Test.YtionpndhcijmcaaQHeatBillx4
import Derived.Test.YtionpndhcijmcaaQHeatBillx9
import Derived.Test.YtionpndhcijmcaaQHeatBillxL
import Derived.Test.YtionpndhcijmcaaQHeatBillxDBill
namespace Go.Proofs.Ytionpndhcijmcaa.Pure
open Go.RowKit Go.Proofs.Ytionpndhcijmcaa.QHeatBill Go.Proofs.YtionpndhcijmcaaW.PrintWords Go.Proofs.Ytionpndhcijmcaa.QOpen Go.Proofs.Ytionpndhcijmcaa.QEv
set_option linter.unusedVariables false
set_option linter.unusedSimpArgs false
theorem FnExactHeatBill : ∀ (x0 : List (S83)) (x1 : Int) (x2 : Int), (wfL wf83) x0 → (wfI .i64) x1 → (wfI .i64) x2 → ∃ k, laws_FnExactHeatBill.f k x0 x1 x2 = some true := by
  intro x0 x1 x2 hw0 hw1 hw2
  obtain ⟨t, ht, _, _, hs⟩ := laws_szTenantS_ev x0 1048576 hw0 (by omega) (by omega)
  refine Ev.rounds (r := true) ?_
  simp only [laws_FnExactHeatBill.f]
  refine Ev.bind ht ?_
  by_cases c : t < 0
  · exact Ev.pos c (Ev.now _)
  refine Ev.neg c ?_
  have sm := hs (by omega)
  have sm2 := smL_map cv83 cv83_sm sm
  have hto := laws_toTenantS_ev x0 sm
  obtain ⟨r, e, g1, h2, h3, _⟩ := bill_both _ sm2 x1 x2
  have h1 : Ev (fun k => spec_HeatBill.f k (x0.map cv83) x1 x2) (r, e) := by
    simp only [spec_HeatBill.f]
    exact Ev.bind g1 (Ev.now _)
  have hn := sm2.1
  have q0 := laws_eqTenantS_refl (x0.map cv83) (by omega)
  have q1 := laws_eqInt64S_refl r (by omega)
  obtain ⟨m0, k0, _, _⟩ := laws_markTenantS_ev (x0.map cv83) 1 (by omega) (by omega)
  obtain ⟨m1, k1, e1, j1⟩ := laws_markInt64S_ev r 1 (by omega) (by omega)
  have v1 := laws_heldInt64S_ev 1 (by omega) m1 (by omega) (by rw [e1]; exact j1)
  rw [e1] at v1
  repeat' first | (with_reducible exact Ev.now _) | ((with_reducible refine Ev.pos ?_ ?_); focus (first | rfl | omega | trivial)) | ((with_reducible refine Ev.neg ?_ ?_); focus (first | omega | (simp; done) | (dsimp only; omega))) | (with_reducible refine Ev.bind hto ?_) | (with_reducible refine Ev.bind h1 ?_) | (with_reducible refine Ev.bind h2 ?_) | (with_reducible refine Ev.bind q0 ?_) | (with_reducible refine Ev.bind q1 ?_) | (with_reducible refine Ev.bind k0 ?_) | (with_reducible refine Ev.bind k1 ?_) | (with_reducible refine Ev.bind v1 ?_) | (with_reducible refine Ev.bind (Ev.shift hto) ?_) | (with_reducible refine Ev.bind (Ev.shift h1) ?_) | (with_reducible refine Ev.bind (Ev.shift h2) ?_) | (with_reducible refine Ev.bind (Ev.shift q0) ?_) | (with_reducible refine Ev.bind (Ev.shift q1) ?_) | (with_reducible refine Ev.bind (Ev.shift k0) ?_) | (with_reducible refine Ev.bind (Ev.shift k1) ?_) | (with_reducible refine Ev.bind (Ev.shift v1) ?_) | (refine Ev.succ ?_; simp only [laws_FnExactHeatBill.j0]) | (refine Ev.succ ?_; simp only [laws_FnExactHeatBill.j1]) | (refine Ev.succ ?_; simp only [laws_FnExactHeatBill.j2]) | dsimp only
end Go.Proofs.Ytionpndhcijmcaa.Pure
