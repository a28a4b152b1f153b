/- FnExactFixedShares: the program's FixedShares and the reference's return one and the same for all arguments, in memory of the call's own, and the arguments stay as they were. Conditions: none beyond the statement's own guard. -/
import Derived.Test.YtionpndhcijmcaaQFixedSharesx2
import Derived.Test.YtionpndhcijmcaaQFixedSharesx4
import Derived.Test.YtionpndhcijmcaaQFixedSharesx5
import Derived.Test.YtionpndhcijmcaaQFixedSharesx7
import Derived.Test.YtionpndhcijmcaaQFixedSharesxL
import Derived.Test.YtionpndhcijmcaaQFixedSharesxDAreas
namespace Go.Proofs.Ytionpndhcijmcaa.Pure
open Go.RowKit Go.Proofs.Ytionpndhcijmcaa.QFixedShares Go.Proofs.YtionpndhcijmcaaW.PrintWords Go.Proofs.Ytionpndhcijmcaa.QOpen Go.Proofs.Ytionpndhcijmcaa.QEv
set_option linter.unusedVariables false
set_option linter.unusedSimpArgs false
theorem shares_both (l : List S89) (hl : smL sm89 l) (m : Int) : ∃ (r : List Int) (c : Int), Ev (fun k => spec_FixedShares.f k l m) (r, c) ∧ Ev (fun k => impl_FixedShares.f k l m) (r, c) ∧ r.length ≤ 12 := by
  obtain ⟨v, h1, h2, h3⟩ := tenants_both l hl
  simp only [spec_FixedShares.f, impl_FixedShares.f, spec_l22Money.f, spec_l22Done.f, spec_in_eq, Option.bind_some, decide_eq_true_eq]
  cases v with
  | false =>
    refine ⟨[], 1, Ev.bind h1 (Ev.neg (by decide) (Ev.now _)), Ev.bind (a := ([], 1)) ?_ (Ev.now _), by simp⟩
    simp only [impl_tenantShares.f]
    exact Ev.bind h2 (Ev.neg (by decide) (Ev.now _))
  | true =>
    obtain ⟨hn, hd⟩ := h3 rfl
    by_cases c1 : 0 ≤ m ∧ m ≤ 1000000000
    · obtain ⟨wa, wb⟩ := wok_areas l hn hd
      obtain ⟨a1, a2⟩ := areas_both l hn
      obtain ⟨r, b, d1, d2, d3, d4, d5⟩ := divide_both m c1.1 c1.2 _ wa
      cases b with
      | true =>
        refine ⟨r, 0, ?_, ?_, by rw [d3 rfl]; simpa using hn⟩
        · exact Ev.bind h1 (Ev.pos rfl (Ev.pos c1 (Ev.bind a1 (Ev.bind d1 (Ev.now _)))))
        · refine Ev.bind (a := (r, 0)) ?_ (Ev.now _)
          simp only [impl_tenantShares.f, impl_moneyOk.f, impl_within_eq, Option.bind_some, decide_eq_true_eq]
          exact Ev.bind h2 (Ev.pos rfl (Ev.pos c1 (Ev.bind a2 (Ev.bind d2 (Ev.now _)))))
      | false =>
        refine ⟨[], 6, ?_, ?_, by simp⟩
        · exact Ev.bind h1 (Ev.pos rfl (Ev.pos c1 (Ev.bind a1 (Ev.bind d1 (Ev.now _)))))
        · refine Ev.bind (a := ([], 6)) ?_ (Ev.now _)
          simp only [impl_tenantShares.f, impl_moneyOk.f, impl_within_eq, Option.bind_some, decide_eq_true_eq]
          exact Ev.bind h2 (Ev.pos rfl (Ev.pos c1 (Ev.bind a2 (Ev.bind d2 (Ev.now _)))))
    · refine ⟨[], 2, ?_, ?_, by simp⟩
      · exact Ev.bind h1 (Ev.pos rfl (Ev.neg c1 (Ev.now _)))
      · refine Ev.bind (a := ([], 2)) ?_ (Ev.now _)
        simp only [impl_tenantShares.f, impl_moneyOk.f, impl_within_eq, Option.bind_some, decide_eq_true_eq]
        exact Ev.bind h2 (Ev.pos rfl (Ev.neg c1 (Ev.now _)))
theorem FnExactFixedShares : ∀ (x0 : List (S83)) (x1 : Int), (wfL wf83) x0 → (wfI .i64) x1 → ∃ k, laws_FnExactFixedShares.f k x0 x1 = some true := by
  intro x0 x1 hw0 hw1
  obtain ⟨t, ht, _, _, hs⟩ := laws_szTenantS_ev x0 1048576 hw0 (by omega) (by omega)
  refine Ev.rounds (r := true) ?_
  simp only [laws_FnExactFixedShares.f]
  refine Ev.bind ht ?_
  by_cases c : t < 0
  · exact Ev.pos c (Ev.now _)
  refine Ev.neg c ?_
  have sm := hs (by omega)
  have sm2 := smL_map cv83 cv83_sm sm
  have hto := laws_toTenantS_ev x0 sm
  obtain ⟨r, e, h1, h2, h3⟩ := shares_both _ sm2 x1
  have hn := sm2.1
  have q0 := laws_eqTenantS_refl (x0.map cv83) (by omega)
  have q1 := laws_eqInt64S_refl r (by omega)
  obtain ⟨m0, k0, _, _⟩ := laws_markTenantS_ev (x0.map cv83) 1 (by omega) (by omega)
  obtain ⟨m1, k1, e1, j1⟩ := laws_markInt64S_ev r 1 (by omega) (by omega)
  have v1 := laws_heldInt64S_ev 1 (by omega) m1 (by omega) (by rw [e1]; exact j1)
  rw [e1] at v1
  repeat' first | (with_reducible exact Ev.now _) | (with_reducible exact hto) | (with_reducible exact h1) | (with_reducible exact h2) | (with_reducible exact q0) | (with_reducible exact q1) | (with_reducible exact k0) | (with_reducible exact k1) | (with_reducible exact v1) | ((with_reducible refine Ev.pos ?_ ?_); focus (first | with_reducible assumption | with_reducible rfl | omega | rfl | trivial)) | ((with_reducible refine Ev.neg ?_ ?_); focus (first | with_reducible assumption | omega | (simp; done) | (dsimp only; omega))) | (with_reducible refine Ev.bind hto ?_) | (with_reducible refine Ev.bind h1 ?_) | (with_reducible refine Ev.bind h2 ?_) | (with_reducible refine Ev.bind q0 ?_) | (with_reducible refine Ev.bind q1 ?_) | (with_reducible refine Ev.bind k0 ?_) | (with_reducible refine Ev.bind k1 ?_) | (with_reducible refine Ev.bind v1 ?_) | (with_reducible refine Ev.bind (Ev.shift hto) ?_) | (with_reducible refine Ev.bind (Ev.shift h1) ?_) | (with_reducible refine Ev.bind (Ev.shift h2) ?_) | (with_reducible refine Ev.bind (Ev.shift q0) ?_) | (with_reducible refine Ev.bind (Ev.shift q1) ?_) | (with_reducible refine Ev.bind (Ev.shift k0) ?_) | (with_reducible refine Ev.bind (Ev.shift k1) ?_) | (with_reducible refine Ev.bind (Ev.shift v1) ?_) | (refine Ev.succ ?_; simp only [laws_FnExactFixedShares.j0]) | (refine Ev.succ ?_; simp only [laws_FnExactFixedShares.j1]) | (refine Ev.succ ?_; simp only [laws_FnExactFixedShares.j2]) | (with_reducible refine Ev.sb ?_) | dsimp only
end Go.Proofs.Ytionpndhcijmcaa.Pure
