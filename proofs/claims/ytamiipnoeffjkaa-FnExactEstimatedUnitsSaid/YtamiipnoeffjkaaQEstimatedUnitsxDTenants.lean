/- Tenants: both sides hold one and the same for valid. Conditions: none. -/
import Derived.Test.YtamiipnoeffjkaaQEstimatedUnitsx1
import Derived.Test.YtamiipnoeffjkaaQEstimatedUnitsx3
import Derived.Test.YtamiipnoeffjkaaQEstimatedUnitsx4
import Derived.Test.YtamiipnoeffjkaaQEstimatedUnitsxL
import Derived.Test.YtamiipnoeffjkaaQEstimatedUnitsxDNames
namespace Go.Proofs.Ytamiipnoeffjkaa.QEstimatedUnits
open Go.RowKit Go.Proofs.YtamiipnoeffjkaaW.PrintWords Go.Proofs.Ytamiipnoeffjkaa.QOpen Go.Proofs.Ytamiipnoeffjkaa.QEv
set_option linter.unusedVariables false
set_option linter.unusedSimpArgs false
def TenantOk (x : S135) : Prop := 1 ≤ x.f1 ∧ x.f1 ≤ 10000 ∧ 0 ≤ x.f2 ∧ x.f2 ≤ 1000000
theorem tenant_both (x : S135) (hx : sm135 x) : ∃ b, Ev (fun k => spec_l22One.f k x.f0 x.f1 x.f2) b ∧ Ev (fun k => impl_Tenant_valid.f k x.f0 x.f1 x.f2) b ∧ (b = true → TenantOk x) := by
  have hz : x.f0.size ≤ 1048576 := hx.1
  obtain ⟨b, h1, h2, h3⟩ := name_both x.f0 (by omega)
  simp only [spec_l22One.f, impl_Tenant_valid.f, spec_in_eq, impl_within_eq, Option.bind_some, decide_eq_true_eq]
  cases b with
  | false => exact ⟨false, Ev.bind h1 (Ev.neg (by decide) (Ev.now _)), Ev.bind h2 (Ev.neg (by decide) (Ev.now _)), fun h => by cases h⟩
  | true =>
    by_cases c : 1 ≤ x.f1 ∧ x.f1 ≤ 10000
    · refine ⟨decide (0 ≤ x.f2 ∧ x.f2 ≤ 1000000), Ev.bind h1 (Ev.pos rfl (Ev.pos c (Ev.now _))), Ev.bind h2 (Ev.pos rfl (Ev.pos c (Ev.now _))), fun h => ?_⟩
      have := of_decide_eq_true h
      unfold TenantOk
      omega
    · exact ⟨false, Ev.bind h1 (Ev.pos rfl (Ev.neg c (Ev.now _))), Ev.bind h2 (Ev.pos rfl (Ev.neg c (Ev.now _))), fun h => by cases h⟩
theorem tenantLoop (l : List S135) (hl : smL sm135 l) : ∀ d i : Nat, i + d = l.length →
    ∃ b, Ev (fun k => spec_l22Ok.l0 k l (i : Int)) b ∧ (12 < l.length → b = false) ∧ (l.length ≤ 12 → Ev (fun k => impl_ValidTenants.l0 k l l (l.length : Int) (i : Int)) b) ∧
      (b = true → ∀ j, i ≤ j → j < l.length → TenantOk (l.getD j z135)) := by
  have hl0 := hl.1
  intro d
  induction d with
  | zero =>
    intro i hi
    refine ⟨decide ((l.length : Int) ≤ 12), Ev.succ ?_, fun h => by simp; omega, fun h => Ev.succ ?_, fun _ j h1 h2 => by omega⟩
    · simp only [spec_l22Ok.l0]
      exact Ev.neg (by omega) (Ev.now _)
    · simp only [impl_ValidTenants.l0]
      exact Ev.neg (by omega) (Ev.eqn (Ev.now _) (by simp; omega))
  | succ d ih =>
    intro i hi
    have hsm : sm135 (rd_T135 l (i : Int)) := smL_get hl (j := i) _ (by omega)
    obtain ⟨v, g1, g2, g3⟩ := tenant_both (rd_T135 l (i : Int)) hsm
    cases v with
    | false =>
      refine ⟨false, Ev.succ ?_, fun _ => rfl, fun h => Ev.succ ?_, fun h => by cases h⟩
      · simp only [spec_l22Ok.l0]
        exact Ev.pos (by omega) (Ev.pos (by omega) (Ev.bind g1 (Ev.neg (by decide) (Ev.now _))))
      · simp only [impl_ValidTenants.l0]
        exact Ev.pos (by omega) (Ev.pos (by omega) (Ev.pos (by omega) (Ev.bind g2 (Ev.neg (by decide) (Ev.now _)))))
    | true =>
      have hok := g3 rfl
      obtain ⟨b, h1, h2, h3, h4⟩ := ih (i + 1) (by omega)
      have h4' : b = true → ∀ j, i ≤ j → j < l.length → TenantOk (l.getD j z135) := fun hb j hj hj2 => by
        by_cases e : j = i
        · subst e; exact hok
        · exact h4 hb j (by omega) hj2
      by_cases h0 : 0 < i
      · have w : wrap64 ((i : Int) - 1) = (i : Int) - 1 := wid (by omega) (by omega)
        rcases hA : Op.bytesLess (rd_T135 l ((i : Int) - 1)).f0.toList (rd_T135 l (i : Int)).f0.toList with _ | _
        · refine ⟨false, Ev.succ ?_, fun _ => rfl, fun h => Ev.succ ?_, fun h => by cases h⟩
          · simp only [spec_l22Ok.l0, w, hA]
            exact Ev.pos (by omega) (Ev.pos (by omega) (Ev.bind g1 (Ev.pos rfl (Ev.pos (by omega) (Ev.pos (by omega) (Ev.pos (by omega) (Ev.neg (by decide) (Ev.now _))))))))
          · simp only [impl_ValidTenants.l0, w, hA]
            exact Ev.pos (by omega) (Ev.pos (by omega) (Ev.pos (by omega) (Ev.bind g2 (Ev.pos rfl (Ev.pos (by omega) (Ev.pos (by omega) (Ev.pos (by omega) (Ev.neg (by decide) (Ev.now _)))))))))
        · refine ⟨b, Ev.succ ?_, h2, fun h => Ev.succ ?_, h4'⟩
          · simp only [spec_l22Ok.l0, w, hA, wnat i (by omega)]
            exact Ev.pos (by omega) (Ev.pos (by omega) (Ev.bind g1 (Ev.pos rfl (Ev.pos (by omega) (Ev.pos (by omega) (Ev.pos (by omega) (Ev.pos (by first | rfl | trivial) h1)))))))
          · simp only [impl_ValidTenants.l0, w, hA, wnat i (by omega)]
            exact Ev.pos (by omega) (Ev.pos (by omega) (Ev.pos (by omega) (Ev.bind g2 (Ev.pos rfl (Ev.pos (by omega) (Ev.pos (by omega) (Ev.pos (by omega) (Ev.pos (by first | rfl | trivial) (h3 h)))))))))
      · refine ⟨b, Ev.succ ?_, h2, fun h => Ev.succ ?_, h4'⟩
        · simp only [spec_l22Ok.l0, wnat i (by omega)]
          exact Ev.pos (by omega) (Ev.pos (by omega) (Ev.bind g1 (Ev.pos rfl (Ev.neg (by omega) h1))))
        · simp only [impl_ValidTenants.l0, wnat i (by omega)]
          exact Ev.pos (by omega) (Ev.pos (by omega) (Ev.pos (by omega) (Ev.bind g2 (Ev.pos rfl (Ev.neg (by omega) (h3 h))))))
theorem tenants_both (l : List S135) (hl : smL sm135 l) : ∃ b, Ev (fun k => spec_l22Ok.f k l) b ∧ Ev (fun k => impl_ValidTenants.f k l) b ∧ (b = true → l.length ≤ 12 ∧ ∀ j, j < l.length → TenantOk (l.getD j z135)) := by
  obtain ⟨b, h1, h2, h3, h4⟩ := tenantLoop l hl l.length 0 (by omega)
  by_cases h : l.length ≤ 12
  · refine ⟨b, ?_, ?_, fun hb => ⟨h, fun j hj => h4 hb j (by omega) hj⟩⟩
    · simp only [spec_l22Ok.f]
      exact h1
    · simp only [impl_ValidTenants.f]
      exact Ev.neg (by omega) (h3 h)
  · have hb := h2 (by omega)
    subst hb
    refine ⟨false, ?_, ?_, fun h => by cases h⟩
    · simp only [spec_l22Ok.f]
      exact h1
    · simp only [impl_ValidTenants.f]
      exact Ev.pos (by omega) (Ev.now _)
end Go.Proofs.Ytamiipnoeffjkaa.QEstimatedUnits
