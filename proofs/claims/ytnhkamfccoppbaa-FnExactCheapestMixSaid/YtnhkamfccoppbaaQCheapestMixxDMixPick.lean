/- MixPick: the program and the reference pick the same blocks. Conditions: valid fuels. -/
import Derived.Test.YtnhkamfccoppbaaQCheapestMixx3
import Derived.Test.YtnhkamfccoppbaaQCheapestMixx5
import Derived.Test.YtnhkamfccoppbaaQCheapestMixx10
import Derived.Test.YtnhkamfccoppbaaQCheapestMixx11
import Derived.Test.YtnhkamfccoppbaaQCheapestMixxL
import Derived.Test.YtnhkamfccoppbaaQCheapestMixxDMixCost
namespace Go.Proofs.Ytnhkamfccoppbaa.QCheapestMix
open Go.RowKit Go.Proofs.YtnhkamfccoppbaaW.PrintWords Go.Proofs.Ytnhkamfccoppbaa.QOpen Go.Proofs.Ytnhkamfccoppbaa.QEv
set_option linter.unusedVariables false
set_option linter.unusedSimpArgs false
theorem price_cst (x : S46) : impl_price.f x.f0 x.f1 x.f2 x.f3 = some (cst x) := rfl
theorem pick_both (l : List S46) (h6 : l.length ≤ 6) (hg : GOk cst l) (lim0 lim p : Int) (D E : Nat) (hD : D ≤ 120) (hE : E ≤ 2401) (T : List (List (List Int))) (hs : Suff l D E 0 T) (hlim : spec_l16Limit.f lim0 = some (E : Int)) :
    ∀ n f : Nat, f + n = l.length → ∀ (d e : Int) (acc : List Int), 0 ≤ d ∧ d ≤ (D : Int) → 0 ≤ e ∧ e ≤ (E : Int) → 0 ≤ mL cst (l.drop f) d e → acc.length ≤ f →
    ∃ r, Ev (fun k => impl_mixes_best.l0 k p acc l 0 lim 0 0 (f : Int) d e) (r, p, 0) ∧ Ev (fun k => spec_CheapestMix.l0 k l (D : Int) lim0 e T acc d (f : Int)) (r, mL cst l (D : Int) (E : Int), 0) ∧ r.length ≤ 6 := by
  intro n
  induction n with
  | zero =>
    intro f hf d e acc hd he _ ha
    obtain ⟨t1, t2, t3, t4⟩ := suff_look hs 0 (by omega) (D : Int) (E : Int) (by omega) (by omega)
    refine ⟨acc, Ev.succ ?_, Ev.succ ?_, by omega⟩
    · simp only [impl_mixes_best.l0]
      exact Ev.neg (by omega) (Ev.now _)
    · simp only [spec_CheapestMix.l0, hlim, Option.bind_some]
      refine Ev.neg (by omega) (Ev.pos (by omega) (Ev.pos (by omega) (Ev.pos t2 (Ev.pos (by omega) (Ev.pos t3 (Ev.eqn (Ev.now _) ?_))))))
      have e0 : rd (rd_L5 (rd_L6 T 0) (D : Int)) (E : Int) = mL cst (l.drop (0 + 0)) (D : Int) (E : Int) := t1
      rw [e0]
      rfl
  | succ n ih =>
    intro f hf d e acc hd he hv ha
    obtain ⟨x, ex⟩ : ∃ x, x = l.getD f z46 := ⟨_, rfl⟩
    have er : rd_T46 l (f : Int) = x := ex.symm
    have hx := hg x (by rw [ex]; exact getD_mem l f _ (by omega))
    have hok := hx.1
    unfold FuelOk at hok
    have hr := rest_bd h6 hg (f + 1)
    have hr0 := rest_bd h6 hg f
    have mv : ∀ d e, mL cst (l.drop f) d e = mFold (cst x) x (mL cst (l.drop (f + 1))) d e (x.f3 + 1).toNat := fun d e => by
      rw [drop_step l f z46 (by omega), ← ex]
      rfl
    have hv2 := hv
    rw [mv] at hv2
    obtain ⟨b1, hb1, hh1⟩ := fold_hit _ hv2
    rw [← mv] at hh1
    obtain ⟨b0, hb0, hh, hmin⟩ := min_of _ b1 hh1
    obtain ⟨ok0, pos0, eq0⟩ := hh
    have m0 := mul_bd (b := (b0 : Int)) (c := x.f1) (m := 20) (n := 20) (by omega) (by omega) hok.1.1 hok.1.2
    obtain ⟨r, g1, g2, g3⟩ := ih (f + 1) (by omega) (d - (b0 : Int)) (e - (b0 : Int) * x.f1) (acc ++ [(b0 : Int)]) (by omega) (by omega) pos0 (by simp; omega)
    have r2 := least_ev l cst price_cst h6 hg lim (n + 1) f hf d e (by omega) (by omega)
    obtain ⟨s1, s2, s3, s4⟩ := suff_look hs f (by omega) d e hd he
    rw [Nat.zero_add] at s1
    -- what both sides see of some blocks
    have see : ∀ b : Nat, b ≤ b0 → (0 ≤ d - (b : Int) ∧ 0 ≤ e - (b : Int) * x.f1) ∧ Ev (fun k => impl_mixes_least.f k l 0 lim 0 0 ((f + 1 : Nat) : Int) (d - (b : Int)) (e - (b : Int) * x.f1)) (mL cst (l.drop (f + 1)) (d - (b : Int)) (e - (b : Int) * x.f1)) ∧
        wrap64 ((b : Int) * x.f1) = (b : Int) * x.f1 ∧ wrap64 (d - (b : Int)) = d - (b : Int) ∧ wrap64 (e - (b : Int) * x.f1) = e - (b : Int) * x.f1 ∧ wrap64 ((b : Int) * x.f2) = (b : Int) * x.f2 ∧
        wrap64 (mL cst (l.drop (f + 1)) (d - (b : Int)) (e - (b : Int) * x.f1) + (b : Int) * x.f2) = mL cst (l.drop (f + 1)) (d - (b : Int)) (e - (b : Int) * x.f1) + (b : Int) * x.f2 ∧
        rd (rd_L5 (rd_L6 T ((f + 1 : Nat) : Int)) (d - (b : Int))) (e - (b : Int) * x.f1) = mL cst (l.drop (f + 1)) (d - (b : Int)) (e - (b : Int) * x.f1) ∧ d - (b : Int) < ((rd_L6 T ((f + 1 : Nat) : Int)).length : Int) ∧ e - (b : Int) * x.f1 < ((rd_L5 (rd_L6 T ((f + 1 : Nat) : Int)) (d - (b : Int))).length : Int) ∧ ((f + 1 : Nat) : Int) < (T.length : Int) := by
      intro b hb
      have ok := ok_down hx.1 ok0 hb
      have m1 := mul_bd (b := (b : Int)) (c := x.f1) (m := 20) (n := 20) (by omega) (by omega) hok.1.1 hok.1.2
      have m2 := mul_bd (b := (b : Int)) (c := x.f2) (m := 20) (n := 1000) (by omega) (by omega) hok.2.1.1 hok.2.1.2
      have hrr := hr (d - (b : Int)) (e - (b : Int) * x.f1)
      obtain ⟨k1, k2, k3, k4⟩ := suff_look hs (f + 1) (by omega) (d - (b : Int)) (e - (b : Int) * x.f1) (by omega) (by omega)
      rw [Nat.zero_add] at k1
      exact ⟨ok, least_ev l cst price_cst h6 hg lim n (f + 1) (by omega) _ _ (by omega) (by omega), wid (by omega) (by omega), wid (by omega) (by omega), wid (by omega) (by omega), wid (by omega) (by omega), wid (by omega) (by omega), k1, k2, k3, k4⟩
    have impl : ∀ m b : Nat, b + m = b0 → Ev (fun k => impl_mixes_best.l1 k p acc (b : Int) l 0 lim 0 0 (f : Int) d e) (r, p, 0) := by
      intro m
      induction m with
      | zero =>
        intro b hb
        have hb' : b = b0 := by omega
        subst hb'
        obtain ⟨ok, q1, w1, w2, w3, w4, w5, _⟩ := see b (Nat.le_refl _)
        refine Ev.succ ?_
        simp only [impl_mixes_best.l1, after_val l lim f d e b (by omega) h6 x ex hx.1 (by omega) (by omega) (by omega), Option.bind_some, decide_eq_true_eq, er, price_cst x, cst, w4, w5]
        refine Ev.pos (by omega) (Ev.pos ok (Ev.bind q1 (Ev.pos pos0 (Ev.bind q1 (Ev.pos (by omega) (Ev.pos (by omega) (Ev.bind r2 ?_)))))))
        simp only [w5]
        exact Ev.pos eq0 (Ev.pos (by omega) g1)
      | succ m ihm =>
        intro b hb
        have g := ihm (b + 1) (by omega)
        have nh := hmin b (by omega)
        obtain ⟨ok, q1, w1, w2, w3, w4, w5, _⟩ := see b (by omega)
        refine Ev.succ ?_
        simp only [impl_mixes_best.l1, after_val l lim f d e b (by omega) h6 x ex hx.1 (by omega) (by omega) (by omega), Option.bind_some, decide_eq_true_eq, er, price_cst x, cst, w4, w5, wnat b (by omega)]
        refine Ev.pos (by omega) (Ev.pos ok (Ev.bind q1 ?_))
        by_cases c2 : mL cst (l.drop (f + 1)) (d - (b : Int)) (e - (b : Int) * x.f1) ≥ 0
        · refine Ev.pos c2 (Ev.bind q1 (Ev.pos (by omega) (Ev.pos (by omega) (Ev.bind r2 ?_))))
          simp only [w5]
          exact Ev.neg (fun e_ => nh ⟨ok, c2, e_⟩) g
        · exact Ev.neg c2 g
    have spec : ∀ m b : Nat, b + m = b0 → Ev (fun k => spec_CheapestMix.l1 k l (D : Int) lim0 e T acc d (f : Int) (b : Int)) (r, mL cst l (D : Int) (E : Int), 0) := by
      intro m
      induction m with
      | zero =>
        intro b hb
        have hb' : b = b0 := by omega
        subst hb'
        obtain ⟨ok, q1, w1, w2, w3, w4, w5, k1, k2, k3, k4⟩ := see b (Nat.le_refl _)
        refine Ev.succ ?_
        simp only [spec_CheapestMix.l1, er, w1]
        refine Ev.pos (by omega) (Ev.pos (by omega) (Ev.pos (by omega) (Ev.pos (by omega) (Ev.succ ?_))))
        simp only [spec_CheapestMix.j2, er, w1, w2, w3, w4, wnat f (by omega), k1, w5, s1, decide_eq_true_eq]
        exact Ev.pos (by omega) (Ev.pos (by omega) (Ev.pos k4 (Ev.pos (by omega) (Ev.pos k2 (Ev.pos (by omega) (Ev.pos (by omega) (Ev.pos (by omega) (Ev.pos k3 (Ev.pos pos0 (Ev.pos (by omega) (Ev.pos (by omega) (Ev.pos s2 (Ev.pos (by omega) (Ev.pos s3 (Ev.pos eq0 (Ev.pos (by omega) g2))))))))))))))))
      | succ m ihm =>
        intro b hb
        have g := ihm (b + 1) (by omega)
        have nh := hmin b (by omega)
        obtain ⟨ok, q1, w1, w2, w3, w4, w5, k1, k2, k3, k4⟩ := see b (by omega)
        refine Ev.succ ?_
        simp only [spec_CheapestMix.l1, er, w1]
        refine Ev.pos (by omega) (Ev.pos (by omega) (Ev.pos (by omega) (Ev.pos (by omega) (Ev.succ ?_))))
        simp only [spec_CheapestMix.j2, er, w1, w2, w3, w4, wnat f (by omega), wnat b (by omega), k1, w5, s1, decide_eq_true_eq]
        refine Ev.pos (by omega) (Ev.pos (by omega) (Ev.pos k4 (Ev.pos (by omega) (Ev.pos k2 (Ev.pos (by omega) (Ev.pos (by omega) (Ev.pos (by omega) (Ev.pos k3 ?_))))))))
        by_cases c2 : mL cst (l.drop (f + 1)) (d - (b : Int)) (e - (b : Int) * x.f1) ≥ 0
        · exact Ev.pos c2 (Ev.pos (by omega) (Ev.pos (by omega) (Ev.pos s2 (Ev.pos (by omega) (Ev.pos s3 (Ev.neg (fun e_ => nh ⟨ok, c2, e_⟩) g))))))
        · exact Ev.neg c2 g
    refine ⟨r, Ev.succ ?_, Ev.succ ?_, g3⟩
    · simp only [impl_mixes_best.l0]
      exact Ev.pos (by omega) (impl b0 0 (by omega))
    · simp only [spec_CheapestMix.l0]
      exact Ev.pos (by omega) (spec b0 0 (by omega))
end Go.Proofs.Ytnhkamfccoppbaa.QCheapestMix
