/- Buildings: both sides hold one and the same for valid. Conditions: none. -/
import Derived.Test.YtamiipnoeffjkaaQOutdoorForx2
import Derived.Test.YtamiipnoeffjkaaQOutdoorForx4
import Derived.Test.YtamiipnoeffjkaaQOutdoorForx5
import Derived.Test.YtamiipnoeffjkaaQOutdoorForxL
import Derived.Test.YtamiipnoeffjkaaQOutdoorForxDBuilding
namespace Go.Proofs.Ytamiipnoeffjkaa.QOutdoorFor
open Go.RowKit Go.Proofs.YtamiipnoeffjkaaW.PrintWords Go.Proofs.Ytamiipnoeffjkaa.QOpen Go.Proofs.Ytamiipnoeffjkaa.QEv
set_option linter.unusedVariables false
set_option linter.unusedSimpArgs false
theorem build_sm (x : S96) (hx : sm96 x) : ∃ b, Ev (fun k => spec_l05One.f k x.f0 x.f1 x.f2 x.f3 x.f4 x.f5) b ∧ Ev (fun k => impl_Building_valid.f k x.f0 x.f1 x.f2 x.f3 x.f4 x.f5) b ∧ (b = true → BuildOk x) := build_both x hx.1 hx.2.2.2.2.2.1
theorem buildLoop (l : List S96) (hl : smL sm96 l) : ∀ d i : Nat, i + d = l.length →
    ∃ b, Ev (fun k => spec_l05Ok.l0 k l (i : Int)) b ∧ (12 < l.length → b = false) ∧ (l.length ≤ 12 → Ev (fun k => impl_ValidBuildings.l0 k l l (l.length : Int) (i : Int)) b) ∧
      (b = true → ∀ j, i ≤ j → j < l.length → BuildOk (l.getD j z96)) := by
  have hl0 := hl.1
  intro d
  induction d with
  | zero =>
    intro i hi
    refine ⟨decide ((l.length : Int) ≤ 12), Ev.succ ?_, fun h => by simp; omega, fun h => Ev.succ ?_, fun _ j h1 h2 => by omega⟩
    · simp only [spec_l05Ok.l0]
      exact Ev.neg (by omega) (Ev.now _)
    · simp only [impl_ValidBuildings.l0]
      exact Ev.neg (by omega) (Ev.eqn (Ev.now _) (by simp; omega))
  | succ d ih =>
    intro i hi
    have hsm : sm96 (rd_T96 l (i : Int)) := smL_get hl (j := i) _ (by omega)
    obtain ⟨v, g1, g2, g3⟩ := build_sm (rd_T96 l (i : Int)) hsm
    cases v with
    | false =>
      refine ⟨false, Ev.succ ?_, fun _ => rfl, fun h => Ev.succ ?_, fun h => by cases h⟩
      · simp only [spec_l05Ok.l0]
        exact Ev.pos (by omega) (Ev.pos (by omega) (Ev.bind g1 (Ev.neg (by decide) (Ev.now _))))
      · simp only [impl_ValidBuildings.l0]
        exact Ev.pos (by omega) (Ev.pos (by omega) (Ev.pos (by omega) (Ev.bind g2 (Ev.neg (by decide) (Ev.now _)))))
    | true =>
      have hok := g3 rfl
      obtain ⟨b, h1, h2, h3, h4⟩ := ih (i + 1) (by omega)
      have h4' : b = true → ∀ j, i ≤ j → j < l.length → BuildOk (l.getD j z96) := fun hb j hj hj2 => by
        by_cases e : j = i
        · subst e; exact hok
        · exact h4 hb j (by omega) hj2
      by_cases h0 : 0 < i
      · have w : wrap64 ((i : Int) - 1) = (i : Int) - 1 := wid (by omega) (by omega)
        rcases hA : Op.bytesLess (rd_T96 l ((i : Int) - 1)).f0.toList (rd_T96 l (i : Int)).f0.toList with _ | _
        · refine ⟨false, Ev.succ ?_, fun _ => rfl, fun h => Ev.succ ?_, fun h => by cases h⟩
          · simp only [spec_l05Ok.l0, w, hA]
            exact Ev.pos (by omega) (Ev.pos (by omega) (Ev.bind g1 (Ev.pos rfl (Ev.pos (by omega) (Ev.pos (by omega) (Ev.pos (by omega) (Ev.neg (by decide) (Ev.now _))))))))
          · simp only [impl_ValidBuildings.l0, w, hA]
            exact Ev.pos (by omega) (Ev.pos (by omega) (Ev.pos (by omega) (Ev.bind g2 (Ev.pos rfl (Ev.pos (by omega) (Ev.pos (by omega) (Ev.pos (by omega) (Ev.neg (by decide) (Ev.now _)))))))))
        · refine ⟨b, Ev.succ ?_, h2, fun h => Ev.succ ?_, h4'⟩
          · simp only [spec_l05Ok.l0, w, hA, wnat i (by omega)]
            exact Ev.pos (by omega) (Ev.pos (by omega) (Ev.bind g1 (Ev.pos rfl (Ev.pos (by omega) (Ev.pos (by omega) (Ev.pos (by omega) (Ev.pos (by first | rfl | trivial) h1)))))))
          · simp only [impl_ValidBuildings.l0, w, hA, wnat i (by omega)]
            exact Ev.pos (by omega) (Ev.pos (by omega) (Ev.pos (by omega) (Ev.bind g2 (Ev.pos rfl (Ev.pos (by omega) (Ev.pos (by omega) (Ev.pos (by omega) (Ev.pos (by first | rfl | trivial) (h3 h)))))))))
      · refine ⟨b, Ev.succ ?_, h2, fun h => Ev.succ ?_, h4'⟩
        · simp only [spec_l05Ok.l0, wnat i (by omega)]
          exact Ev.pos (by omega) (Ev.pos (by omega) (Ev.bind g1 (Ev.pos rfl (Ev.neg (by omega) h1))))
        · simp only [impl_ValidBuildings.l0, wnat i (by omega)]
          exact Ev.pos (by omega) (Ev.pos (by omega) (Ev.pos (by omega) (Ev.bind g2 (Ev.pos rfl (Ev.neg (by omega) (h3 h))))))
theorem builds_both (l : List S96) (hl : smL sm96 l) : ∃ b, Ev (fun k => spec_l05Ok.f k l) b ∧ Ev (fun k => impl_ValidBuildings.f k l) b ∧ (b = true → l.length ≤ 12 ∧ ∀ j, j < l.length → BuildOk (l.getD j z96)) := by
  obtain ⟨b, h1, h2, h3, h4⟩ := buildLoop l hl l.length 0 (by omega)
  by_cases h : l.length ≤ 12
  · refine ⟨b, ?_, ?_, fun hb => ⟨h, fun j hj => h4 hb j (by omega) hj⟩⟩
    · simp only [spec_l05Ok.f]
      exact h1
    · simp only [impl_ValidBuildings.f]
      exact Ev.neg (by omega) (h3 h)
  · have hb := h2 (by omega)
    subst hb
    refine ⟨false, ?_, ?_, fun h => by cases h⟩
    · simp only [spec_l05Ok.f]
      exact h1
    · simp only [impl_ValidBuildings.f]
      exact Ev.pos (by omega) (Ev.now _)
end Go.Proofs.Ytamiipnoeffjkaa.QOutdoorFor
