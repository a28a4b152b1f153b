/- FnExactPriceOfLimit: the program's PriceOfLimit and the reference's return one and the same for all arguments, and the fuels stay as they were. Conditions: none beyond the statement's own guard. -/
import Derived.Test.YtnhkamfccoppbaaQPriceOfLimitx2
import Derived.Test.YtnhkamfccoppbaaQPriceOfLimitx3
import Derived.Test.YtnhkamfccoppbaaQPriceOfLimitx4
import Derived.Test.YtnhkamfccoppbaaQPriceOfLimitx6
import Derived.Test.YtnhkamfccoppbaaQPriceOfLimitx8
import Derived.Test.YtnhkamfccoppbaaQPriceOfLimitx9
import Derived.Test.YtnhkamfccoppbaaQPriceOfLimitx10
import Derived.Test.YtnhkamfccoppbaaQPriceOfLimitx11
import Derived.Test.YtnhkamfccoppbaaQPriceOfLimitxL
import Derived.Test.YtnhkamfccoppbaaQPriceOfLimitxDMixPickI
import Derived.Test.YtnhkamfccoppbaaQPriceOfLimitxDMixMore
namespace Go.Proofs.Ytnhkamfccoppbaa.Pure
open Go.RowKit Go.Proofs.Ytnhkamfccoppbaa.QPriceOfLimit Go.Proofs.YtnhkamfccoppbaaW.PrintWords Go.Proofs.Ytnhkamfccoppbaa.QOpen Go.Proofs.Ytnhkamfccoppbaa.QEv
set_option linter.unusedVariables false
set_option linter.unusedSimpArgs false
theorem cheap_ev (l : List S46) (h6 : l.length ≤ 6) (hok : ∀ j, j < l.length → FuelOk (l.getD j z46)) (D : Nat) (hD : D ≤ 120) (lim : Int) (E : Nat) (eE : mn lim 2400 = (E : Int)) (hc : Ev (fun k => impl_mixCode.f k l (D : Int) lim) 0) (hv : 0 ≤ mL cst l (D : Int) (E : Int)) :
    ∃ r, Ev (fun k => impl_CheapestMix.f k l (D : Int) lim) (r, mL cst l (D : Int) (E : Int), 0) := by
  have hE : E ≤ 2400 := by
    have : mn lim 2400 ≤ 2400 := by
      unfold mn
      split <;> omega
    omega
  have hg := gok_of l hok
  have lv : Ev (fun k => impl_mixes_least.f k l 0 (E : Int) 0 0 0 (D : Int) (E : Int)) (mL cst l (D : Int) (E : Int)) := least_ev l cst price_cst h6 hg (E : Int) l.length 0 (by omega) (D : Int) (E : Int) (by omega) (by omega)
  obtain ⟨r, g1⟩ := pick_impl l h6 hg (E : Int) (mL cst l (D : Int) (E : Int)) l.length 0 (by omega) (D : Int) (E : Int) [] (by omega) (by omega) hv (by simp)
  simp only [impl_CheapestMix.f, eE, impl_mixes_best.f]
  exact ⟨r, Ev.bind hc (Ev.pos rfl (Ev.bind (Ev.pos (vf_of l h6 hok (D : Int) (E : Int) (by omega) (by omega)) (Ev.bind lv (Ev.neg (by omega) g1))) (Ev.now _)))⟩
theorem look2 (l : List S46) (h6 : l.length ≤ 6) (hg : GOk cst l) (D E : Nat) (hD : D ≤ 120) (hE : E ≤ 2400) : ∃ T, Ev (fun k => spec_l16Costs.f k l (D : Int) ((E + 1 : Nat) : Int)) T ∧ rd (rd_L4 (rd_L5 T 0) (D : Int)) (E : Int) = mL cst l (D : Int) (E : Int) ∧ rd (rd_L4 (rd_L5 T 0) (D : Int)) ((E + 1 : Nat) : Int) = mL cst l (D : Int) ((E + 1 : Nat) : Int) ∧
    0 < (T.length : Int) ∧ (D : Int) < ((rd_L5 T 0).length : Int) ∧ (E : Int) < ((rd_L4 (rd_L5 T 0) (D : Int)).length : Int) ∧ ((E + 1 : Nat) : Int) < ((rd_L4 (rd_L5 T 0) (D : Int)).length : Int) := by
  obtain ⟨T, hT, t1⟩ := costs_ev l D (E + 1) hD (by omega) h6 hg
  have a1 : 0 ≤ (D : Int) ∧ (D : Int) ≤ (D : Int) := by omega
  have a2 : 0 ≤ (E : Int) ∧ (E : Int) ≤ ((E + 1 : Nat) : Int) := by omega
  have a3 : 0 ≤ ((E + 1 : Nat) : Int) ∧ ((E + 1 : Nat) : Int) ≤ ((E + 1 : Nat) : Int) := by omega
  obtain ⟨s1, s2, s3, s4⟩ := suff_look hT 0 (Nat.zero_le _) (D : Int) (E : Int) a1 a2
  obtain ⟨u1, u2, u3, u4⟩ := suff_look hT 0 (Nat.zero_le _) (D : Int) ((E + 1 : Nat) : Int) a1 a3
  exact ⟨T, t1, s1, u1, s4, s2, s3, u3⟩
theorem query_same (l : List S46) (D : Nat) (x y : Int) (hx : 0 ≤ x) (hy : 0 ≤ y) (c c' : Int) (hc : Ev (fun k => spec_l16Query.f k l (D : Int) x) c) (hc' : Ev (fun k => spec_l16Query.f k l (D : Int) y) c') : c = c' := by
  obtain ⟨K, hK⟩ := hc
  obtain ⟨K', hK'⟩ := hc'
  have a1 := hK (K + K') (by omega)
  have a2 := hK' (K + K') (by omega)
  simp only [spec_l16Query.f] at a1 a2
  rw [if_neg (by omega)] at a1
  rw [if_neg (by omega)] at a2
  rw [a1] at a2
  exact Option.some.inj a2
theorem price_both (l : List S46) (hl : smL sm46 l) (d lim : Int) : ∃ p c : Int, Ev (fun k => spec_PriceOfLimit.f k l d lim) (p, c) ∧ Ev (fun k => impl_PriceOfLimit.f k l d lim) (p, c) := by
  obtain ⟨c, h1, h2, h3⟩ := code_both l hl d lim
  simp only [spec_PriceOfLimit.f, limit_eq, Option.bind_some]
  by_cases c0 : c = 0
  · subst c0
    obtain ⟨h6, hok, hd, hlim⟩ := h3 rfl
    obtain ⟨D, rfl⟩ : ∃ n : Nat, d = (n : Int) := ⟨d.toNat, by omega⟩
    have hE0 : 0 ≤ mn lim 2400 ∧ mn lim 2400 ≤ 2400 := by
      unfold mn
      split <;> omega
    obtain ⟨E, eE⟩ : ∃ n : Nat, mn lim 2400 = (n : Int) := ⟨(mn lim 2400).toNat, by omega⟩
    have hE : E ≤ 2400 := by omega
    have hD : D ≤ 120 := by omega
    have d1 : 0 ≤ (D : Int) ∧ (D : Int) ≤ 120 := by omega
    have e1 : 0 ≤ (E : Int) ∧ (E : Int) ≤ 2401 := by omega
    have e2 : 0 ≤ ((E + 1 : Nat) : Int) := by omega
    have e3 : (E : Int) ≤ ((E + 1 : Nat) : Int) := by omega
    have hg := gok_of l hok
    have w : wrap64 ((E : Int) + 1) = ((E + 1 : Nat) : Int) := wnat E (by omega)
    rw [eE]
    simp only [w]
    by_cases cv : mL cst l (D : Int) (E : Int) < 0
    · have lv : Ev (fun k => impl_mixes_least.f k l 0 (E : Int) 0 0 0 (D : Int) (E : Int)) (mL cst l (D : Int) (E : Int)) := least_ev l cst price_cst h6 hg (E : Int) l.length 0 (Nat.zero_add _) (D : Int) (E : Int) d1 e1
      have ci : Ev (fun k => impl_CheapestMix.f k l (D : Int) lim) ([], 0, 3) := by
        simp only [impl_CheapestMix.f, eE, impl_mixes_best.f]
        exact Ev.bind h2 (Ev.pos rfl (Ev.bind (Ev.pos (vf_of l h6 hok (D : Int) (E : Int) d1 e1) (Ev.bind lv (Ev.pos cv (Ev.now _)))) (Ev.now _)))
      obtain ⟨T, t1, s1, u1, s4, s2, s3, u3⟩ := look2 l h6 hg D E hD hE
      refine ⟨0, 3, Ev.bind h1 (Ev.pos rfl (Ev.bind t1 ?_)), ?_⟩
      · rw [s1]
        exact Ev.pos s4 (Ev.pos d1.1 (Ev.pos s2 (Ev.pos e1.1 (Ev.pos s3 (Ev.pos cv (Ev.now _))))))
      · simp only [impl_PriceOfLimit.f]
        exact Ev.bind ci (Ev.neg (by decide) (Ev.now _))
    · have cv' : 0 ≤ mL cst l (D : Int) (E : Int) := Int.not_lt.mp cv
      obtain ⟨r, ci⟩ := cheap_ev l h6 hok D hD lim E eE h2 cv'
      have mo := mL_mono cst l hg (D : Int) (E : Int) ((E + 1 : Nat) : Int) e3 cv'
      -- the limit of the second search
      have lg : 400 * (l.length : Int) ≤ 2400 := by omega
      obtain ⟨E2, eE2, ev2⟩ : ∃ E2 : Nat, mn ((E + 1 : Nat) : Int) 2400 = (E2 : Int) ∧ mL cst l (D : Int) (E2 : Int) = mL cst l (D : Int) ((E + 1 : Nat) : Int) := by
        by_cases cE : E = 2400
        · subst cE
          refine ⟨2400, by unfold mn; rw [if_pos (by decide)]; rfl, mL_big cst l hg _ _ _ lg (Int.le_trans lg (by decide))⟩
        · have hlt : ¬ (2400 : Int) < ((E + 1 : Nat) : Int) := by omega
          exact ⟨E + 1, by unfold mn; rw [if_neg hlt], rfl⟩
      obtain ⟨c2, h1b, h2b, h3b⟩ := code_both l hl (D : Int) ((E + 1 : Nat) : Int)
      have c2z : c2 = 0 := (query_same l D _ _ hlim e2 0 c2 h1 h1b).symm
      subst c2z
      obtain ⟨r2, ci2⟩ := cheap_ev l h6 hok D hD ((E + 1 : Nat) : Int) E2 eE2 h2b (by rw [ev2]; exact mo)
      rw [ev2] at ci2
      obtain ⟨T, t1, s1, u1, s4, s2, s3, u3⟩ := look2 l h6 hg D E hD hE
      refine ⟨wrap64 (mL cst l (D : Int) (E : Int) - mL cst l (D : Int) ((E + 1 : Nat) : Int)), 0, Ev.bind h1 (Ev.pos rfl (Ev.bind t1 ?_)), ?_⟩
      · rw [s1, u1]
        exact Ev.pos s4 (Ev.pos d1.1 (Ev.pos s2 (Ev.pos e1.1 (Ev.pos s3 (Ev.neg cv (Ev.pos e2 (Ev.pos u3 (Ev.now _))))))))
      · simp only [impl_PriceOfLimit.f, eE, w]
        exact Ev.bind ci (Ev.pos rfl (Ev.bind ci2 (Ev.now _)))
  · refine ⟨0, c, Ev.bind h1 (Ev.neg c0 (Ev.now _)), ?_⟩
    have ci : Ev (fun k => impl_CheapestMix.f k l d lim) ([], 0, c) := by
      simp only [impl_CheapestMix.f]
      exact Ev.bind h2 (Ev.neg c0 (Ev.now _))
    simp only [impl_PriceOfLimit.f]
    exact Ev.bind ci (Ev.neg c0 (Ev.now _))
theorem FnExactPriceOfLimit : ∀ (x0 : List (S40)) (x1 : Int) (x2 : Int), (wfL wf40) x0 → (wfI .i64) x1 → (wfI .i64) x2 → ∃ k, laws_FnExactPriceOfLimit.f k x0 x1 x2 = some true := by
  intro x0 x1 x2 hw0 hw1 hw2
  refine Ev.rounds (r := true) ?_
  simp only [laws_FnExactPriceOfLimit.f]
  obtain ⟨t, ht, _, _, hs⟩ := laws_szFuelS_ev x0 1048576 hw0 (by omega) (by omega)
  refine Ev.bind ht ?_
  by_cases c : t < 0
  · exact Ev.pos c (Ev.now _)
  refine Ev.neg c ?_
  have sm := hs (by omega)
  have sm2 := smL_map cv40 cv40_sm sm
  have hto := laws_toFuelS_ev x0 sm
  have hn := sm2.1
  obtain ⟨p, e, h1, h2⟩ := price_both _ sm2 x1 x2
  have q0 := laws_eqFuelS_refl (x0.map cv40) (by omega)
  repeat' first | (with_reducible exact Ev.now _) | (with_reducible exact hto) | (with_reducible exact h1) | (with_reducible exact h2) | (with_reducible exact q0) | ((with_reducible refine Ev.pos ?_ ?_); focus (first | with_reducible assumption | with_reducible rfl | omega | rfl | trivial)) | ((with_reducible refine Ev.neg ?_ ?_); focus (first | with_reducible assumption | omega | (simp; done) | (dsimp only; omega))) | (with_reducible refine Ev.bind hto ?_) | (with_reducible refine Ev.bind h1 ?_) | (with_reducible refine Ev.bind h2 ?_) | (with_reducible refine Ev.bind q0 ?_) | (with_reducible refine Ev.bind (Ev.shift hto) ?_) | (with_reducible refine Ev.bind (Ev.shift h1) ?_) | (with_reducible refine Ev.bind (Ev.shift h2) ?_) | (with_reducible refine Ev.bind (Ev.shift q0) ?_) | (refine Ev.succ ?_; simp only [laws_FnExactPriceOfLimit.j0]) | (with_reducible refine Ev.sb ?_) | dsimp only
end Go.Proofs.Ytnhkamfccoppbaa.Pure
