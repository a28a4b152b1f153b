/- TenantsI: the program's test of tenants comes to an end; what it says of each. Conditions: names of a size that a program can have. -/
import Derived.Test.YtglhbjmagfchiaaQSharesx4
import Derived.Test.YtglhbjmagfchiaaQSharesx5
import Derived.Test.YtglhbjmagfchiaaQSharesxL
import Derived.Test.YtglhbjmagfchiaaQSharesxDNamesI
namespace Go.Proofs.Ytglhbjmagfchiaa.QShares
open Go.RowKit Go.Proofs.YtglhbjmagfchiaaW.PrintWords Go.Proofs.Ytglhbjmagfchiaa.QOpen Go.Proofs.Ytglhbjmagfchiaa.QEv
set_option linter.unusedVariables false
set_option linter.unusedSimpArgs false
def TenantOk (x : S243) : Prop := 1 ≤ x.f1 ∧ x.f1 ≤ 10000 ∧ 0 ≤ x.f2 ∧ x.f2 ≤ 1000000
theorem tenantI (x : S243) (hx : x.f0.size ≤ 1048576) : ∃ b, Ev (fun k => impl_Tenant_valid.f k x.f0 x.f1 x.f2) b ∧ (b = true → TenantOk x) := by
  obtain ⟨b, h2⟩ := nameI x.f0 (by omega)
  simp only [impl_Tenant_valid.f, within_eq, Option.bind_some, decide_eq_true_eq]
  cases b with
  | false => exact ⟨false, Ev.bind h2 (Ev.neg (by decide) (Ev.now _)), fun h => by cases h⟩
  | true =>
    by_cases c : 1 ≤ x.f1 ∧ x.f1 ≤ 10000
    · refine ⟨decide (0 ≤ x.f2 ∧ x.f2 ≤ 1000000), Ev.bind h2 (Ev.pos rfl (Ev.pos c (Ev.now _))), fun h => ?_⟩
      have := of_decide_eq_true h
      unfold TenantOk
      omega
    · exact ⟨false, Ev.bind h2 (Ev.pos rfl (Ev.neg c (Ev.now _))), fun h => by cases h⟩
theorem tenantsLoopI (l : List S243) (hn : l.length ≤ 12) (hl : ∀ j, j < l.length → (l.getD j z243).f0.size ≤ 1048576) : ∀ d i : Nat, i + d = l.length →
    ∃ b, Ev (fun k => impl_ValidTenants.l0 k l l (l.length : Int) (i : Int)) b ∧ (b = true → ∀ j, i ≤ j → j < l.length → TenantOk (l.getD j z243)) := by
  intro d
  induction d with
  | zero =>
    intro i hi
    refine ⟨true, Ev.succ ?_, fun _ j h1 h2 => by omega⟩
    simp only [impl_ValidTenants.l0]
    exact Ev.neg (by omega) (Ev.now _)
  | succ d ih =>
    intro i hi
    obtain ⟨v, g2, g3⟩ := tenantI (rd_T243 l (i : Int)) (hl i (by omega))
    cases v with
    | false =>
      refine ⟨false, Ev.succ ?_, fun h => by cases h⟩
      simp only [impl_ValidTenants.l0]
      repeat' first | (with_reducible exact Ev.now _) | (with_reducible exact g2) | ((with_reducible refine Ev.pos ?_ ?_); focus (first | with_reducible assumption | with_reducible rfl | omega | rfl | trivial)) | ((with_reducible refine Ev.neg ?_ ?_); focus (first | with_reducible assumption | omega | (simp; done) | (dsimp only; omega))) | (with_reducible refine Ev.bind g2 ?_) | (with_reducible refine Ev.bind (Ev.shift g2) ?_) | (with_reducible refine Ev.sb ?_) | dsimp only
    | true =>
      have hok := g3 rfl
      obtain ⟨b, h3, h4⟩ := ih (i + 1) (by omega)
      have h4' : b = true → ∀ j, i ≤ j → j < l.length → TenantOk (l.getD j z243) := fun hb j hj hj2 => by
        by_cases e : j = i
        · subst e; exact hok
        · exact h4 hb j (by omega) hj2
      by_cases h0 : 0 < i
      · have w : wrap64 ((i : Int) - 1) = (i : Int) - 1 := wid (by omega) (by omega)
        rcases hA : Op.bytesLess (rd_T243 l ((i : Int) - 1)).f0.toList (rd_T243 l (i : Int)).f0.toList with _ | _
        · refine ⟨false, Ev.succ ?_, fun h => by cases h⟩
          simp only [impl_ValidTenants.l0, w, hA]
          repeat' first | (with_reducible exact Ev.now _) | (with_reducible exact g2) | ((with_reducible refine Ev.pos ?_ ?_); focus (first | with_reducible assumption | with_reducible rfl | omega | rfl | trivial)) | ((with_reducible refine Ev.neg ?_ ?_); focus (first | with_reducible assumption | omega | (simp; done) | (dsimp only; omega))) | (with_reducible refine Ev.bind g2 ?_) | (with_reducible refine Ev.bind (Ev.shift g2) ?_) | (with_reducible refine Ev.sb ?_) | dsimp only
        · refine ⟨b, Ev.succ ?_, h4'⟩
          simp only [impl_ValidTenants.l0, w, hA, wnat i (by omega)]
          repeat' first | (with_reducible exact Ev.now _) | (with_reducible exact g2) | (with_reducible exact h3) | ((with_reducible refine Ev.pos ?_ ?_); focus (first | with_reducible assumption | with_reducible rfl | omega | rfl | trivial)) | ((with_reducible refine Ev.neg ?_ ?_); focus (first | with_reducible assumption | omega | (simp; done) | (dsimp only; omega))) | (with_reducible refine Ev.bind g2 ?_) | (with_reducible refine Ev.bind h3 ?_) | (with_reducible refine Ev.bind (Ev.shift g2) ?_) | (with_reducible refine Ev.bind (Ev.shift h3) ?_) | (with_reducible refine Ev.sb ?_) | dsimp only
      · refine ⟨b, Ev.succ ?_, h4'⟩
        simp only [impl_ValidTenants.l0, wnat i (by omega)]
        repeat' first | (with_reducible exact Ev.now _) | (with_reducible exact g2) | (with_reducible exact h3) | ((with_reducible refine Ev.pos ?_ ?_); focus (first | with_reducible assumption | with_reducible rfl | omega | rfl | trivial)) | ((with_reducible refine Ev.neg ?_ ?_); focus (first | with_reducible assumption | omega | (simp; done) | (dsimp only; omega))) | (with_reducible refine Ev.bind g2 ?_) | (with_reducible refine Ev.bind h3 ?_) | (with_reducible refine Ev.bind (Ev.shift g2) ?_) | (with_reducible refine Ev.bind (Ev.shift h3) ?_) | (with_reducible refine Ev.sb ?_) | dsimp only
theorem tenantsI (l : List S243) (hn : l.length ≤ 1000) (hl : ∀ j, j < l.length → (l.getD j z243).f0.size ≤ 1048576) : ∃ b, Ev (fun k => impl_ValidTenants.f k l) b ∧ (b = true → l.length ≤ 12 ∧ ∀ j, j < l.length → TenantOk (l.getD j z243)) := by
  simp only [impl_ValidTenants.f]
  by_cases h : l.length ≤ 12
  · obtain ⟨b, h3, h4⟩ := tenantsLoopI l h hl l.length 0 (by omega)
    exact ⟨b, Ev.neg (by omega) h3, fun hb => ⟨h, fun j hj => h4 hb j (by omega) hj⟩⟩
  · exact ⟨false, Ev.pos (by omega) (Ev.now _), fun h => by cases h⟩
end Go.Proofs.Ytglhbjmagfchiaa.QShares
