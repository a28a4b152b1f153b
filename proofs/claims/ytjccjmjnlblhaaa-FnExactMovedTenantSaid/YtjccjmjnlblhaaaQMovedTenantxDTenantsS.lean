/- TenantsS: as Tenants, and what is known of the names: short, each behind the one before it. Conditions: none. -/
import Derived.Test.YtjccjmjnlblhaaaQMovedTenantx1
import Derived.Test.YtjccjmjnlblhaaaQMovedTenantx4
import Derived.Test.YtjccjmjnlblhaaaQMovedTenantx5
import Derived.Test.YtjccjmjnlblhaaaQMovedTenantxL
import Derived.Test.YtjccjmjnlblhaaaQMovedTenantxDNames
namespace Go.Proofs.Ytjccjmjnlblhaaa.QMovedTenant
open Go.RowKit Go.Proofs.YtjccjmjnlblhaaaW.PrintWords Go.Proofs.Ytjccjmjnlblhaaa.QOpen Go.Proofs.Ytjccjmjnlblhaaa.QEv
set_option linter.unusedVariables false
set_option linter.unusedSimpArgs false
def TenantOk (x : S129) : Prop := 1 ≤ x.f1 ∧ x.f1 ≤ 10000 ∧ 0 ≤ x.f2 ∧ x.f2 ≤ 1000000
def TenantAt (l : List S129) (j : Nat) : Prop := TenantOk (l.getD j z129) ∧ (l.getD j z129).f0.size ≤ 10 ∧ (0 < j → Op.bytesLess (l.getD (j - 1) z129).f0.toList (l.getD j z129).f0.toList = true)
theorem tenant_bothS (x : S129) (hx : sm129 x) : ∃ b, Ev (fun k => spec_l22One.f k x.f0 x.f1 x.f2) b ∧ Ev (fun k => impl_Tenant_valid.f k x.f0 x.f1 x.f2) b ∧ (b = true → TenantOk x ∧ x.f0.size ≤ 10) := by
  have hz : x.f0.size ≤ 1048576 := hx.1
  obtain ⟨b, h1, h2, h3⟩ := name_both x.f0 (by omega)
  simp only [spec_l22One.f, impl_Tenant_valid.f, spec_in_eq, impl_within_eq, Option.bind_some, decide_eq_true_eq]
  cases b with
  | false => exact ⟨false, Ev.bind h1 (Ev.neg (by decide) (Ev.now _)), Ev.bind h2 (Ev.neg (by decide) (Ev.now _)), fun h => by cases h⟩
  | true =>
    by_cases c : 1 ≤ x.f1 ∧ x.f1 ≤ 10000
    · refine ⟨decide (0 ≤ x.f2 ∧ x.f2 ≤ 1000000), Ev.bind h1 (Ev.pos rfl (Ev.pos c (Ev.now _))), Ev.bind h2 (Ev.pos rfl (Ev.pos c (Ev.now _))), fun h => ?_⟩
      have := of_decide_eq_true h
      exact ⟨by unfold TenantOk; omega, (h3 rfl).2⟩
    · exact ⟨false, Ev.bind h1 (Ev.pos rfl (Ev.neg c (Ev.now _))), Ev.bind h2 (Ev.pos rfl (Ev.neg c (Ev.now _))), fun h => by cases h⟩
theorem tenantLoopS (l : List S129) (hl : smL sm129 l) : ∀ d i : Nat, i + d = l.length →
    ∃ b, Ev (fun k => spec_l22Ok.l0 k l (i : Int)) b ∧ (12 < l.length → b = false) ∧ (l.length ≤ 12 → Ev (fun k => impl_ValidTenants.l0 k l l (l.length : Int) (i : Int)) b) ∧
      (b = true → ∀ j, i ≤ j → j < l.length → TenantAt l j) := by
  have hl0 := hl.1
  intro d
  induction d with
  | zero =>
    intro i hi
    refine ⟨decide ((l.length : Int) ≤ 12), Ev.succ ?_, fun h => by simp; omega, fun h => Ev.succ ?_, fun _ j h1 h2 => by omega⟩
    · simp only [spec_l22Ok.l0]
      exact Ev.neg (by omega) (Ev.now _)
    · simp only [impl_ValidTenants.l0]
      exact Ev.neg (by omega) (Ev.eqn (Ev.now _) (by simp; omega))
  | succ d ih =>
    intro i hi
    have hsm : sm129 (rd_T129 l (i : Int)) := smL_get hl (j := i) _ (by omega)
    obtain ⟨v, g1, g2, g3⟩ := tenant_bothS (rd_T129 l (i : Int)) hsm
    cases v with
    | false =>
      refine ⟨false, Ev.succ ?_, fun _ => rfl, fun h => Ev.succ ?_, fun h => by cases h⟩
      · simp only [spec_l22Ok.l0]
        exact Ev.pos (by omega) (Ev.pos (by omega) (Ev.bind g1 (Ev.neg (by decide) (Ev.now _))))
      · simp only [impl_ValidTenants.l0]
        exact Ev.pos (by omega) (Ev.pos (by omega) (Ev.pos (by omega) (Ev.bind g2 (Ev.neg (by decide) (Ev.now _)))))
    | true =>
      have hok := g3 rfl
      obtain ⟨b, h1, h2, h3, h4⟩ := ih (i + 1) (by omega)
      have h4' : (0 < i → Op.bytesLess (l.getD (i - 1) z129).f0.toList (l.getD i z129).f0.toList = true) → b = true → ∀ j, i ≤ j → j < l.length → TenantAt l j := fun hA hb j hj hj2 => by
        by_cases e : j = i
        · subst e; exact ⟨hok.1, hok.2, hA⟩
        · exact h4 hb j (by omega) hj2
      by_cases h0 : 0 < i
      · have w : wrap64 ((i : Int) - 1) = (i : Int) - 1 := wid (by omega) (by omega)
        rcases hA : Op.bytesLess (rd_T129 l ((i : Int) - 1)).f0.toList (rd_T129 l (i : Int)).f0.toList with _ | _
        · refine ⟨false, Ev.succ ?_, fun _ => rfl, fun h => Ev.succ ?_, fun h => by cases h⟩
          · simp only [spec_l22Ok.l0, w, hA]
            exact Ev.pos (by omega) (Ev.pos (by omega) (Ev.bind g1 (Ev.pos rfl (Ev.pos (by omega) (Ev.pos (by omega) (Ev.pos (by omega) (Ev.neg (by decide) (Ev.now _))))))))
          · simp only [impl_ValidTenants.l0, w, hA]
            exact Ev.pos (by omega) (Ev.pos (by omega) (Ev.pos (by omega) (Ev.bind g2 (Ev.pos rfl (Ev.pos (by omega) (Ev.pos (by omega) (Ev.pos (by omega) (Ev.neg (by decide) (Ev.now _)))))))))
        · have hA2 : Op.bytesLess (l.getD (i - 1) z129).f0.toList (l.getD i z129).f0.toList = true := by
            have e : ((i : Int) - 1).toNat = i - 1 := by omega
            have h : rd_T129 l ((i : Int) - 1) = l.getD (i - 1) z129 := by
              show l.getD _ _ = _
              rw [e]
            rw [← h]
            exact hA
          refine ⟨b, Ev.succ ?_, h2, fun h => Ev.succ ?_, h4' (fun _ => hA2)⟩
          · simp only [spec_l22Ok.l0, w, hA, wnat i (by omega)]
            exact Ev.pos (by omega) (Ev.pos (by omega) (Ev.bind g1 (Ev.pos rfl (Ev.pos (by omega) (Ev.pos (by omega) (Ev.pos (by omega) (Ev.pos (by first | rfl | trivial) h1)))))))
          · simp only [impl_ValidTenants.l0, w, hA, wnat i (by omega)]
            exact Ev.pos (by omega) (Ev.pos (by omega) (Ev.pos (by omega) (Ev.bind g2 (Ev.pos rfl (Ev.pos (by omega) (Ev.pos (by omega) (Ev.pos (by omega) (Ev.pos (by first | rfl | trivial) (h3 h)))))))))
      · refine ⟨b, Ev.succ ?_, h2, fun h => Ev.succ ?_, h4' (fun z => absurd z h0)⟩
        · simp only [spec_l22Ok.l0, wnat i (by omega)]
          exact Ev.pos (by omega) (Ev.pos (by omega) (Ev.bind g1 (Ev.pos rfl (Ev.neg (by omega) h1))))
        · simp only [impl_ValidTenants.l0, wnat i (by omega)]
          exact Ev.pos (by omega) (Ev.pos (by omega) (Ev.pos (by omega) (Ev.bind g2 (Ev.pos rfl (Ev.neg (by omega) (h3 h))))))
theorem tenants_bothS (l : List S129) (hl : smL sm129 l) : ∃ b, Ev (fun k => spec_l22Ok.f k l) b ∧ Ev (fun k => impl_ValidTenants.f k l) b ∧ (b = true → l.length ≤ 12 ∧ ∀ j, j < l.length → TenantAt l j) := by
  obtain ⟨b, h1, h2, h3, h4⟩ := tenantLoopS l hl l.length 0 (by omega)
  by_cases h : l.length ≤ 12
  · refine ⟨b, ?_, ?_, fun hb => ⟨h, fun j hj => h4 hb j (by omega) hj⟩⟩
    · simp only [spec_l22Ok.f]
      exact h1
    · simp only [impl_ValidTenants.f]
      exact Ev.neg (by omega) (h3 h)
  · have hb := h2 (by omega)
    subst hb
    refine ⟨false, ?_, ?_, fun h => by cases h⟩
    · simp only [spec_l22Ok.f]
      exact h1
    · simp only [impl_ValidTenants.f]
      exact Ev.pos (by omega) (Ev.now _)
end Go.Proofs.Ytjccjmjnlblhaaa.QMovedTenant
