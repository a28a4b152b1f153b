/- FnExactCleanestMix: the program's CleanestMix and the reference's return one and the same for all arguments, in memory of the call's own, and the fuels stay as they were. Conditions: none beyond the statement's own guard. -/
import Derived.Test.YtnhkamfccoppbaaQCleanestMixx2
import Derived.Test.YtnhkamfccoppbaaQCleanestMixx4
import Derived.Test.YtnhkamfccoppbaaQCleanestMixx7
import Derived.Test.YtnhkamfccoppbaaQCleanestMixx9
import Derived.Test.YtnhkamfccoppbaaQCleanestMixx10
import Derived.Test.YtnhkamfccoppbaaQCleanestMixx11
import Derived.Test.YtnhkamfccoppbaaQCleanestMixx12
import Derived.Test.YtnhkamfccoppbaaQCleanestMixxL
import Derived.Test.YtnhkamfccoppbaaQCleanestMixxDMixPickT
namespace Go.Proofs.Ytnhkamfccoppbaa.Pure
open Go.RowKit Go.Proofs.Ytnhkamfccoppbaa.QCleanestMix Go.Proofs.YtnhkamfccoppbaaW.PrintWords Go.Proofs.Ytnhkamfccoppbaa.QOpen Go.Proofs.Ytnhkamfccoppbaa.QEv
set_option linter.unusedVariables false
set_option linter.unusedSimpArgs false
theorem mix_both (l : List S46) (hl : smL sm46 l) (d : Int) : ∃ (r : List Int) (p c : Int), Ev (fun k => spec_CleanestMix.f k l d) (r, p, c) ∧ Ev (fun k => impl_CleanestMix.f k l d) (r, p, c) ∧ r.length ≤ 6 := by
  obtain ⟨b, h1, h2, h3⟩ := fuels_both l hl
  have dem : spec_l16Demand.f d = some (decide (0 ≤ d ∧ d ≤ 120)) := by simp only [spec_l16Demand.f, spec_in_eq, Option.bind_some]
  simp only [spec_CleanestMix.f, impl_CleanestMix.f, dem, Option.bind_some, decide_eq_true_eq]
  cases b with
  | false =>
    have hc : Ev (fun k => impl_mixCode.f k l d 0) 1 := by
      simp only [impl_mixCode.f]
      exact Ev.bind h2 (Ev.neg (by decide) (Ev.now _))
    exact ⟨[], 0, 1, Ev.bind h1 (Ev.neg (by decide) (Ev.now _)), Ev.bind hc (Ev.neg (by decide) (Ev.now _)), by simp⟩
  | true =>
    obtain ⟨h6, hok⟩ := h3 rfl
    by_cases c : 0 ≤ d ∧ d ≤ 120
    · have hc : Ev (fun k => impl_mixCode.f k l d 0) 0 := by
        simp only [impl_mixCode.f, impl_within_eq, Option.bind_some, decide_eq_true_eq]
        exact Ev.bind h2 (Ev.pos rfl (Ev.pos c (Ev.neg (by decide) (Ev.now _))))
      obtain ⟨D, rfl⟩ : ∃ n : Nat, d = (n : Int) := ⟨d.toNat, by omega⟩
      have hg := gok_of l hok
      obtain ⟨T, hT, t1⟩ := tab_ev l D (by omega) h6 hg
      obtain ⟨s1, s2, s3⟩ := tsuff_look hT 0 (by omega) (D : Int) (by omega)
      have s1' : rd (rd_L4 T 0) (D : Int) = mL emi l (D : Int) 2400 := s1
      have lv : Ev (fun k => impl_mixes_least.f k l 0 2400 0 0 0 (D : Int) 2400) (mL emi l (D : Int) 2400) := least_ev l emi price_emi h6 hg 2400 l.length 0 (by omega) (D : Int) 2400 (by omega) (by omega)
      have vf := vf_of l h6 hok (D : Int) 2400 (by omega) (by omega)
      simp only [impl_mixes_best.f]
      by_cases cv : mL emi l (D : Int) 2400 < 0
      · refine ⟨[], 0, 3, Ev.bind h1 (Ev.pos rfl (Ev.pos c (Ev.bind t1 ?_))), Ev.bind hc (Ev.pos rfl (Ev.bind (Ev.pos vf (Ev.bind lv (Ev.pos cv (Ev.now _)))) (Ev.now _))), by simp⟩
        rw [s1']
        exact Ev.pos (by omega) (Ev.pos (by omega) (Ev.pos s2 (Ev.pos cv (Ev.now _))))
      · obtain ⟨r, g1, g2, g3⟩ := pick_both l h6 hg 2400 (mL emi l (D : Int) 2400) D (by omega) T hT l.length 0 (by omega) (D : Int) 2400 [] (by omega) (by omega) (by show 0 ≤ mL emi l (D : Int) 2400; omega) (by simp)
        refine ⟨r, mL emi l (D : Int) 2400, 0, Ev.bind h1 (Ev.pos rfl (Ev.pos c (Ev.bind t1 ?_))), Ev.bind hc (Ev.pos rfl (Ev.bind (Ev.pos vf (Ev.bind lv (Ev.neg cv g1))) (Ev.now _))), g3⟩
        rw [s1']
        exact Ev.pos (by omega) (Ev.pos (by omega) (Ev.pos s2 (Ev.neg cv g2)))
    · have hc : Ev (fun k => impl_mixCode.f k l d 0) 2 := by
        simp only [impl_mixCode.f, impl_within_eq, Option.bind_some, decide_eq_true_eq]
        exact Ev.bind h2 (Ev.pos rfl (Ev.neg c (Ev.now _)))
      exact ⟨[], 0, 2, Ev.bind h1 (Ev.pos rfl (Ev.neg c (Ev.now _))), Ev.bind hc (Ev.neg (by decide) (Ev.now _)), by simp⟩
theorem FnExactCleanestMix : ∀ (x0 : List (S40)) (x1 : Int), (wfL wf40) x0 → (wfI .i64) x1 → ∃ k, laws_FnExactCleanestMix.f k x0 x1 = some true := by
  intro x0 x1 hw0 hw1
  refine Ev.rounds (r := true) ?_
  simp only [laws_FnExactCleanestMix.f]
  obtain ⟨t, ht, _, _, hs⟩ := laws_szFuelS_ev x0 1048576 hw0 (by omega) (by omega)
  refine Ev.bind ht ?_
  by_cases c : t < 0
  · exact Ev.pos c (Ev.now _)
  refine Ev.neg c ?_
  have sm := hs (by omega)
  have sm2 := smL_map cv40 cv40_sm sm
  have hto := laws_toFuelS_ev x0 sm
  have hn := sm2.1
  obtain ⟨r, p, e, h1, h2, h3⟩ := mix_both _ sm2 x1
  have q0 := laws_eqFuelS_refl (x0.map cv40) (by omega)
  have q1 := laws_eqInt64S_refl r (by omega)
  obtain ⟨m0, k0, _, _⟩ := laws_markFuelS_ev (x0.map cv40) 1 (by omega) (by omega)
  obtain ⟨m1, k1, e1, j1⟩ := laws_markInt64S_ev r 1 (by omega) (by omega)
  have v1 := laws_heldInt64S_ev 1 (by omega) m1 (by omega) (by rw [e1]; exact j1)
  rw [e1] at v1
  repeat' first | (with_reducible exact Ev.now _) | (with_reducible exact hto) | (with_reducible exact h1) | (with_reducible exact h2) | (with_reducible exact q0) | (with_reducible exact q1) | (with_reducible exact k0) | (with_reducible exact k1) | (with_reducible exact v1) | ((with_reducible refine Ev.pos ?_ ?_); focus (first | with_reducible assumption | with_reducible rfl | omega | rfl | trivial)) | ((with_reducible refine Ev.neg ?_ ?_); focus (first | with_reducible assumption | omega | (simp; done) | (dsimp only; omega))) | (with_reducible refine Ev.bind hto ?_) | (with_reducible refine Ev.bind h1 ?_) | (with_reducible refine Ev.bind h2 ?_) | (with_reducible refine Ev.bind q0 ?_) | (with_reducible refine Ev.bind q1 ?_) | (with_reducible refine Ev.bind k0 ?_) | (with_reducible refine Ev.bind k1 ?_) | (with_reducible refine Ev.bind v1 ?_) | (with_reducible refine Ev.bind (Ev.shift hto) ?_) | (with_reducible refine Ev.bind (Ev.shift h1) ?_) | (with_reducible refine Ev.bind (Ev.shift h2) ?_) | (with_reducible refine Ev.bind (Ev.shift q0) ?_) | (with_reducible refine Ev.bind (Ev.shift q1) ?_) | (with_reducible refine Ev.bind (Ev.shift k0) ?_) | (with_reducible refine Ev.bind (Ev.shift k1) ?_) | (with_reducible refine Ev.bind (Ev.shift v1) ?_) | (refine Ev.succ ?_; simp only [laws_FnExactCleanestMix.j0]) | (refine Ev.succ ?_; simp only [laws_FnExactCleanestMix.j1]) | (refine Ev.succ ?_; simp only [laws_FnExactCleanestMix.j2]) | (with_reducible refine Ev.sb ?_) | dsimp only
end Go.Proofs.Ytnhkamfccoppbaa.Pure
