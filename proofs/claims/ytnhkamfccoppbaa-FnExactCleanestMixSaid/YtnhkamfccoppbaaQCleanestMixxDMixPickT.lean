/- MixPickT: the program and the reference pick the same blocks, no limit told. Conditions: valid fuels. -/
import Derived.Test.YtnhkamfccoppbaaQCleanestMixx4
import Derived.Test.YtnhkamfccoppbaaQCleanestMixx9
import Derived.Test.YtnhkamfccoppbaaQCleanestMixx10
import Derived.Test.YtnhkamfccoppbaaQCleanestMixxL
import Derived.Test.YtnhkamfccoppbaaQCleanestMixxDMixTab
namespace Go.Proofs.Ytnhkamfccoppbaa.QCleanestMix
open Go.RowKit Go.Proofs.YtnhkamfccoppbaaW.PrintWords Go.Proofs.Ytnhkamfccoppbaa.QOpen Go.Proofs.Ytnhkamfccoppbaa.QEv
set_option linter.unusedVariables false
set_option linter.unusedSimpArgs false
theorem pick_both (l : List S46) (h6 : l.length ≤ 6) (hg : GOk emi l) (lim p : Int) (D : Nat) (hD : D ≤ 120) (T : List (List Int)) (hs : TSuff l D 0 T) :
    ∀ n f : Nat, f + n = l.length → ∀ (d e : Int) (acc : List Int), 0 ≤ d ∧ d ≤ (D : Int) → 400 * (n : Int) ≤ e ∧ e ≤ 2401 → 0 ≤ mL emi (l.drop f) d e → acc.length ≤ f →
    ∃ r, Ev (fun k => impl_mixes_best.l0 k p acc l 0 lim 0 0 (f : Int) d e) (r, p, 0) ∧ Ev (fun k => spec_CleanestMix.l0 k l (D : Int) T acc d (f : Int)) (r, mL emi l (D : Int) 2400, 0) ∧ r.length ≤ 6 := by
  have sub : ∀ q, GOk emi (l.drop q) := fun q y hy => hg y (List.mem_of_mem_drop hy)
  intro n
  induction n with
  | zero =>
    intro f hf d e acc hd he _ ha
    obtain ⟨t1, t2, t3⟩ := tsuff_look hs 0 (by omega) (D : Int) (by omega)
    refine ⟨acc, Ev.succ ?_, Ev.succ ?_, by omega⟩
    · simp only [impl_mixes_best.l0]
      exact Ev.neg (by omega) (Ev.now _)
    · simp only [spec_CleanestMix.l0]
      refine Ev.neg (by omega) (Ev.pos (by omega) (Ev.pos (by omega) (Ev.pos t2 (Ev.eqn (Ev.now _) ?_))))
      have e0 : rd (rd_L4 T 0) (D : Int) = mL emi (l.drop (0 + 0)) (D : Int) 2400 := t1
      rw [e0]
      rfl
  | succ n ih =>
    intro f hf d e acc hd he hv ha
    obtain ⟨x, ex⟩ : ∃ x, x = l.getD f z46 := ⟨_, rfl⟩
    have er : rd_T46 l (f : Int) = x := ex.symm
    have hx := hg x (by rw [ex]; exact getD_mem l f _ (by omega))
    have hok := hx.1
    unfold FuelOk at hok
    have hr := rest_bd h6 hg (f + 1)
    have hr0 := rest_bd h6 hg f
    have len0 : (l.drop f).length = n + 1 := by rw [List.length_drop]; omega
    have len1 : (l.drop (f + 1)).length = n := by rw [List.length_drop]; omega
    have mv : ∀ d e, mL emi (l.drop f) d e = mFold (emi x) x (mL emi (l.drop (f + 1))) d e (x.f3 + 1).toNat := fun d e => by
      rw [drop_step l f z46 (by omega), ← ex]
      rfl
    have hv2 := hv
    rw [mv] at hv2
    obtain ⟨b1, hb1, hh1⟩ := fold_hit _ hv2
    rw [← mv] at hh1
    obtain ⟨b0, hb0, hh, hmin⟩ := min_of _ b1 hh1
    obtain ⟨ok0, pos0, eq0⟩ := hh
    have m0 := mul_bd (b := (b0 : Int)) (c := x.f1) (m := 20) (n := 20) (by omega) (by omega) hok.1.1 hok.1.2
    obtain ⟨r, g1, g2, g3⟩ := ih (f + 1) (by omega) (d - (b0 : Int)) (e - (b0 : Int) * x.f1) (acc ++ [(b0 : Int)]) (by omega) (by omega) pos0 (by simp; omega)
    have r2 := least_ev l emi price_emi h6 hg lim (n + 1) f hf d e (by omega) (by omega)
    obtain ⟨s1, s2, s3⟩ := tsuff_look hs f (by omega) d hd
    rw [Nat.zero_add, mL_big emi _ (sub f) d 2400 e (by omega) (by omega)] at s1
    -- what both sides see of some blocks
    have see : ∀ b : Nat, b ≤ b0 → (0 ≤ d - (b : Int) ∧ 0 ≤ e - (b : Int) * x.f1) ∧ Ev (fun k => impl_mixes_least.f k l 0 lim 0 0 ((f + 1 : Nat) : Int) (d - (b : Int)) (e - (b : Int) * x.f1)) (mL emi (l.drop (f + 1)) (d - (b : Int)) (e - (b : Int) * x.f1)) ∧
        wrap64 ((b : Int) * x.f1) = (b : Int) * x.f1 ∧ wrap64 (d - (b : Int)) = d - (b : Int) ∧
        wrap64 (mL emi (l.drop (f + 1)) (d - (b : Int)) (e - (b : Int) * x.f1) + (b : Int) * x.f1) = mL emi (l.drop (f + 1)) (d - (b : Int)) (e - (b : Int) * x.f1) + (b : Int) * x.f1 ∧
        rd (rd_L4 T ((f + 1 : Nat) : Int)) (d - (b : Int)) = mL emi (l.drop (f + 1)) (d - (b : Int)) (e - (b : Int) * x.f1) ∧ d - (b : Int) < ((rd_L4 T ((f + 1 : Nat) : Int)).length : Int) ∧ ((f + 1 : Nat) : Int) < (T.length : Int) := by
      intro b hb
      have ok := ok_down hx.1 ok0 hb
      have m1 := mul_bd (b := (b : Int)) (c := x.f1) (m := 20) (n := 20) (by omega) (by omega) hok.1.1 hok.1.2
      have hrr := hr (d - (b : Int)) (e - (b : Int) * x.f1)
      obtain ⟨k1, k2, k3⟩ := tsuff_look hs (f + 1) (by omega) (d - (b : Int)) (by omega)
      rw [Nat.zero_add, mL_big emi _ (sub (f + 1)) (d - (b : Int)) 2400 (e - (b : Int) * x.f1) (by omega) (by omega)] at k1
      exact ⟨ok, least_ev l emi price_emi h6 hg lim n (f + 1) (by omega) _ _ (by omega) (by omega), wid (by omega) (by omega), wid (by omega) (by omega), wid (by omega) (by omega), k1, k2, k3⟩
    have impl : ∀ m b : Nat, b + m = b0 → Ev (fun k => impl_mixes_best.l1 k p acc (b : Int) l 0 lim 0 0 (f : Int) d e) (r, p, 0) := by
      intro m
      induction m with
      | zero =>
        intro b hb
        have hb' : b = b0 := by omega
        subst hb'
        obtain ⟨ok, q1, w1, w2, w5, _⟩ := see b (Nat.le_refl _)
        refine Ev.succ ?_
        simp only [impl_mixes_best.l1, after_val l lim f d e b (by omega) h6 x ex hx.1 (by omega) (by omega) (by omega), Option.bind_some, decide_eq_true_eq, er, price_emi x, emi, w1, w5]
        refine Ev.pos (by omega) (Ev.pos ok (Ev.bind q1 (Ev.pos pos0 (Ev.bind q1 (Ev.pos (by omega) (Ev.pos (by omega) (Ev.bind r2 ?_)))))))
        simp only [w5]
        exact Ev.pos eq0 (Ev.pos (by omega) g1)
      | succ m ihm =>
        intro b hb
        have g := ihm (b + 1) (by omega)
        have nh := hmin b (by omega)
        obtain ⟨ok, q1, w1, w2, w5, _⟩ := see b (by omega)
        refine Ev.succ ?_
        simp only [impl_mixes_best.l1, after_val l lim f d e b (by omega) h6 x ex hx.1 (by omega) (by omega) (by omega), Option.bind_some, decide_eq_true_eq, er, price_emi x, emi, w1, w5, wnat b (by omega)]
        refine Ev.pos (by omega) (Ev.pos ok (Ev.bind q1 ?_))
        by_cases c2 : mL emi (l.drop (f + 1)) (d - (b : Int)) (e - (b : Int) * x.f1) ≥ 0
        · refine Ev.pos c2 (Ev.bind q1 (Ev.pos (by omega) (Ev.pos (by omega) (Ev.bind r2 ?_))))
          simp only [w5]
          exact Ev.neg (fun e_ => nh ⟨ok, c2, e_⟩) g
        · exact Ev.neg c2 g
    have spec : ∀ m b : Nat, b + m = b0 → Ev (fun k => spec_CleanestMix.l1 k l (D : Int) T acc d (f : Int) (b : Int)) (r, mL emi l (D : Int) 2400, 0) := by
      intro m
      induction m with
      | zero =>
        intro b hb
        have hb' : b = b0 := by omega
        subst hb'
        obtain ⟨ok, q1, w1, w2, w5, k1, k2, k3⟩ := see b (Nat.le_refl _)
        refine Ev.succ ?_
        simp only [spec_CleanestMix.l1, er]
        refine Ev.pos (by omega) (Ev.pos (by omega) (Ev.pos (by omega) (Ev.succ ?_)))
        simp only [spec_CleanestMix.j2, er, w1, w2, wnat f (by omega), k1, w5, s1, decide_eq_true_eq]
        exact Ev.pos (by omega) (Ev.pos (by omega) (Ev.pos k3 (Ev.pos (by omega) (Ev.pos k2 (Ev.pos pos0 (Ev.pos (by omega) (Ev.pos (by omega) (Ev.pos s3 (Ev.pos (by omega) (Ev.pos s2 (Ev.pos eq0 (Ev.pos (by omega) g2))))))))))))
      | succ m ihm =>
        intro b hb
        have g := ihm (b + 1) (by omega)
        have nh := hmin b (by omega)
        obtain ⟨ok, q1, w1, w2, w5, k1, k2, k3⟩ := see b (by omega)
        refine Ev.succ ?_
        simp only [spec_CleanestMix.l1, er]
        refine Ev.pos (by omega) (Ev.pos (by omega) (Ev.pos (by omega) (Ev.succ ?_)))
        simp only [spec_CleanestMix.j2, er, w1, w2, wnat f (by omega), wnat b (by omega), k1, w5, s1, decide_eq_true_eq]
        refine Ev.pos (by omega) (Ev.pos (by omega) (Ev.pos k3 (Ev.pos (by omega) (Ev.pos k2 ?_))))
        by_cases c2 : mL emi (l.drop (f + 1)) (d - (b : Int)) (e - (b : Int) * x.f1) ≥ 0
        · exact Ev.pos c2 (Ev.pos (by omega) (Ev.pos (by omega) (Ev.pos s3 (Ev.pos (by omega) (Ev.pos s2 (Ev.neg (fun e_ => nh ⟨ok, c2, e_⟩) g))))))
        · exact Ev.neg c2 g
    refine ⟨r, Ev.succ ?_, Ev.succ ?_, g3⟩
    · simp only [impl_mixes_best.l0]
      exact Ev.pos (by omega) (impl b0 0 (by omega))
    · simp only [spec_CleanestMix.l0]
      exact Ev.pos (by omega) (spec b0 0 (by omega))
end Go.Proofs.Ytnhkamfccoppbaa.QCleanestMix
