/- FnExactCheapestMix: the program's CheapestMix and the reference's return one and the same for all arguments, in memory of the call's own, and the fuels stay as they were. Conditions: none beyond the statement's own guard. -/
import Derived.Test.YtnhkamfccoppbaaQCheapestMixx5
import Derived.Test.YtnhkamfccoppbaaQCheapestMixx10
import Derived.Test.YtnhkamfccoppbaaQCheapestMixx11
import Derived.Test.YtnhkamfccoppbaaQCheapestMixx12
import Derived.Test.YtnhkamfccoppbaaQCheapestMixx13
import Derived.Test.YtnhkamfccoppbaaQCheapestMixxL
import Derived.Test.YtnhkamfccoppbaaQCheapestMixxDMixPick
import Derived.Test.YtnhkamfccoppbaaQCheapestMixxDMixCode
namespace Go.Proofs.Ytnhkamfccoppbaa.Pure
open Go.RowKit Go.Proofs.Ytnhkamfccoppbaa.QCheapestMix Go.Proofs.YtnhkamfccoppbaaW.PrintWords Go.Proofs.Ytnhkamfccoppbaa.QOpen Go.Proofs.Ytnhkamfccoppbaa.QEv
set_option linter.unusedVariables false
set_option linter.unusedSimpArgs false
theorem mix_both (l : List S46) (hl : smL sm46 l) (d lim : Int) : ∃ (r : List Int) (p c : Int), Ev (fun k => spec_CheapestMix.f k l d lim) (r, p, c) ∧ Ev (fun k => impl_CheapestMix.f k l d lim) (r, p, c) ∧ r.length ≤ 6 := by
  obtain ⟨c, h1, h2, h3⟩ := code_both l hl d lim
  simp only [spec_CheapestMix.f, impl_CheapestMix.f, limit_eq, Option.bind_some]
  by_cases c0 : c = 0
  · obtain ⟨h6, hok, hd, hlim⟩ := h3 c0
    obtain ⟨D, rfl⟩ : ∃ n : Nat, d = (n : Int) := ⟨d.toNat, by omega⟩
    have hE0 : 0 ≤ mn lim 2400 ∧ mn lim 2400 ≤ 2400 := by
      unfold mn
      split <;> omega
    obtain ⟨E, eE⟩ : ∃ n : Nat, mn lim 2400 = (n : Int) := ⟨(mn lim 2400).toNat, by omega⟩
    have hg := gok_of l hok
    obtain ⟨T, hT, t1⟩ := costs_ev l D E (by omega) (by omega) h6 hg
    obtain ⟨s1, s2, s3, s4⟩ := suff_look hT 0 (by omega) (D : Int) (E : Int) (by omega) (by omega)
    have s1' : rd (rd_L5 (rd_L6 T 0) (D : Int)) (E : Int) = mL cst l (D : Int) (E : Int) := s1
    have lv : Ev (fun k => impl_mixes_least.f k l 0 (E : Int) 0 0 0 (D : Int) (E : Int)) (mL cst l (D : Int) (E : Int)) := least_ev l cst price_cst h6 hg (E : Int) l.length 0 (by omega) (D : Int) (E : Int) (by omega) (by omega)
    have vf := vf_of l h6 hok (D : Int) (E : Int) (by omega) (by omega)
    rw [eE]
    simp only [impl_mixes_best.f]
    by_cases cv : mL cst l (D : Int) (E : Int) < 0
    · refine ⟨[], 0, 3, Ev.bind h1 (Ev.pos c0 (Ev.bind t1 ?_)), Ev.bind h2 (Ev.pos c0 (Ev.bind (Ev.pos vf (Ev.bind lv (Ev.pos cv (Ev.now _)))) (Ev.now _))), by simp⟩
      rw [s1']
      exact Ev.pos (by omega) (Ev.pos (by omega) (Ev.pos s2 (Ev.pos (by omega) (Ev.pos s3 (Ev.pos cv (Ev.now _))))))
    · obtain ⟨r, g1, g2, g3⟩ := pick_both l h6 hg lim (E : Int) (mL cst l (D : Int) (E : Int)) D E (by omega) (by omega) T hT (by rw [limit_eq, eE]) l.length 0 (by omega) (D : Int) (E : Int) [] (by omega) (by omega) (by show 0 ≤ mL cst l (D : Int) (E : Int); omega) (by simp)
      refine ⟨r, mL cst l (D : Int) (E : Int), 0, Ev.bind h1 (Ev.pos c0 (Ev.bind t1 ?_)), Ev.bind h2 (Ev.pos c0 (Ev.bind (Ev.pos vf (Ev.bind lv (Ev.neg cv g1))) (Ev.now _))), g3⟩
      rw [s1']
      exact Ev.pos (by omega) (Ev.pos (by omega) (Ev.pos s2 (Ev.pos (by omega) (Ev.pos s3 (Ev.neg cv g2)))))
  · exact ⟨[], 0, c, Ev.bind h1 (Ev.neg c0 (Ev.now _)), Ev.bind h2 (Ev.neg c0 (Ev.now _)), by simp⟩
theorem FnExactCheapestMix : ∀ (x0 : List (S40)) (x1 : Int) (x2 : Int), (wfL wf40) x0 → (wfI .i64) x1 → (wfI .i64) x2 → ∃ k, laws_FnExactCheapestMix.f k x0 x1 x2 = some true := by
  intro x0 x1 x2 hw0 hw1 hw2
  refine Ev.rounds (r := true) ?_
  simp only [laws_FnExactCheapestMix.f]
  obtain ⟨t, ht, _, _, hs⟩ := laws_szFuelS_ev x0 1048576 hw0 (by omega) (by omega)
  refine Ev.bind ht ?_
  by_cases c : t < 0
  · exact Ev.pos c (Ev.now _)
  refine Ev.neg c ?_
  have sm := hs (by omega)
  have sm2 := smL_map cv40 cv40_sm sm
  have hto := laws_toFuelS_ev x0 sm
  have hn := sm2.1
  obtain ⟨r, p, e, h1, h2, h3⟩ := mix_both _ sm2 x1 x2
  have q0 := laws_eqFuelS_refl (x0.map cv40) (by omega)
  have q1 := laws_eqInt64S_refl r (by omega)
  obtain ⟨m0, k0, _, _⟩ := laws_markFuelS_ev (x0.map cv40) 1 (by omega) (by omega)
  obtain ⟨m1, k1, e1, j1⟩ := laws_markInt64S_ev r 1 (by omega) (by omega)
  have v1 := laws_heldInt64S_ev 1 (by omega) m1 (by omega) (by rw [e1]; exact j1)
  rw [e1] at v1
  repeat' first | (with_reducible exact Ev.now _) | (with_reducible exact hto) | (with_reducible exact h1) | (with_reducible exact h2) | (with_reducible exact q0) | (with_reducible exact q1) | (with_reducible exact k0) | (with_reducible exact k1) | (with_reducible exact v1) | ((with_reducible refine Ev.pos ?_ ?_); focus (first | with_reducible assumption | with_reducible rfl | omega | rfl | trivial)) | ((with_reducible refine Ev.neg ?_ ?_); focus (first | with_reducible assumption | omega | (simp; done) | (dsimp only; omega))) | (with_reducible refine Ev.bind hto ?_) | (with_reducible refine Ev.bind h1 ?_) | (with_reducible refine Ev.bind h2 ?_) | (with_reducible refine Ev.bind q0 ?_) | (with_reducible refine Ev.bind q1 ?_) | (with_reducible refine Ev.bind k0 ?_) | (with_reducible refine Ev.bind k1 ?_) | (with_reducible refine Ev.bind v1 ?_) | (with_reducible refine Ev.bind (Ev.shift hto) ?_) | (with_reducible refine Ev.bind (Ev.shift h1) ?_) | (with_reducible refine Ev.bind (Ev.shift h2) ?_) | (with_reducible refine Ev.bind (Ev.shift q0) ?_) | (with_reducible refine Ev.bind (Ev.shift q1) ?_) | (with_reducible refine Ev.bind (Ev.shift k0) ?_) | (with_reducible refine Ev.bind (Ev.shift k1) ?_) | (with_reducible refine Ev.bind (Ev.shift v1) ?_) | (refine Ev.succ ?_; simp only [laws_FnExactCheapestMix.j0]) | (refine Ev.succ ?_; simp only [laws_FnExactCheapestMix.j1]) | (refine Ev.succ ?_; simp only [laws_FnExactCheapestMix.j2]) | (with_reducible refine Ev.sb ?_) | dsimp only
end Go.Proofs.Ytnhkamfccoppbaa.Pure
