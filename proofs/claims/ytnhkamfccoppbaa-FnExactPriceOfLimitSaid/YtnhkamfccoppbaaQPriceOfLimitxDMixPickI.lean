/- MixPickI: the program's search picks blocks. Conditions: valid fuels. -/
import Derived.Test.YtnhkamfccoppbaaQPriceOfLimitx8
import Derived.Test.YtnhkamfccoppbaaQPriceOfLimitx9
import Derived.Test.YtnhkamfccoppbaaQPriceOfLimitxL
import Derived.Test.YtnhkamfccoppbaaQPriceOfLimitxDMixCode
namespace Go.Proofs.Ytnhkamfccoppbaa.QPriceOfLimit
open Go.RowKit Go.Proofs.YtnhkamfccoppbaaW.PrintWords Go.Proofs.Ytnhkamfccoppbaa.QOpen Go.Proofs.Ytnhkamfccoppbaa.QEv
set_option linter.unusedVariables false
set_option linter.unusedSimpArgs false
theorem price_cst (x : S46) : impl_price.f x.f0 x.f1 x.f2 x.f3 = some (cst x) := rfl
theorem pick_impl (l : List S46) (h6 : l.length ≤ 6) (hg : GOk cst l) (lim p : Int) :
    ∀ n f : Nat, f + n = l.length → ∀ (d e : Int) (acc : List Int), 0 ≤ d ∧ d ≤ 120 → 0 ≤ e ∧ e ≤ 2401 → 0 ≤ mL cst (l.drop f) d e → acc.length ≤ f → ∃ r, Ev (fun k => impl_mixes_best.l0 k p acc l 0 lim 0 0 (f : Int) d e) (r, p, 0) := by
  intro n
  induction n with
  | zero =>
    intro f hf d e acc hd he _ ha
    refine ⟨acc, Ev.succ ?_⟩
    simp only [impl_mixes_best.l0]
    exact Ev.neg (by omega) (Ev.now _)
  | succ n ih =>
    intro f hf d e acc hd he hv ha
    obtain ⟨x, ex⟩ : ∃ x, x = l.getD f z46 := ⟨_, rfl⟩
    have er : rd_T46 l (f : Int) = x := ex.symm
    have hx := hg x (by rw [ex]; exact getD_mem l f _ (by omega))
    have hok := hx.1
    unfold FuelOk at hok
    have hr := rest_bd h6 hg (f + 1)
    have mv : ∀ d e, mL cst (l.drop f) d e = mFold (cst x) x (mL cst (l.drop (f + 1))) d e (x.f3 + 1).toNat := fun d e => by
      rw [drop_step l f z46 (by omega), ← ex]
      rfl
    have hv2 := hv
    rw [mv] at hv2
    obtain ⟨b1, hb1, hh1⟩ := fold_hit _ hv2
    rw [← mv] at hh1
    obtain ⟨b0, hb0, hh, hmin⟩ := min_of _ b1 hh1
    obtain ⟨ok0, pos0, eq0⟩ := hh
    have m0 := mul_bd (b := (b0 : Int)) (c := x.f1) (m := 20) (n := 20) (by omega) (by omega) hok.1.1 hok.1.2
    obtain ⟨r, g1⟩ := ih (f + 1) (by omega) (d - (b0 : Int)) (e - (b0 : Int) * x.f1) (acc ++ [(b0 : Int)]) (by omega) (by omega) pos0 (by simp; omega)
    have r2 := least_ev l cst price_cst h6 hg lim (n + 1) f hf d e (by omega) (by omega)
    have see : ∀ b : Nat, b ≤ b0 → (0 ≤ d - (b : Int) ∧ 0 ≤ e - (b : Int) * x.f1) ∧ Ev (fun k => impl_mixes_least.f k l 0 lim 0 0 ((f + 1 : Nat) : Int) (d - (b : Int)) (e - (b : Int) * x.f1)) (mL cst (l.drop (f + 1)) (d - (b : Int)) (e - (b : Int) * x.f1)) ∧
        wrap64 ((b : Int) * x.f2) = (b : Int) * x.f2 ∧ wrap64 (mL cst (l.drop (f + 1)) (d - (b : Int)) (e - (b : Int) * x.f1) + (b : Int) * x.f2) = mL cst (l.drop (f + 1)) (d - (b : Int)) (e - (b : Int) * x.f1) + (b : Int) * x.f2 := by
      intro b hb
      have ok := ok_down hx.1 ok0 hb
      have m1 := mul_bd (b := (b : Int)) (c := x.f1) (m := 20) (n := 20) (by omega) (by omega) hok.1.1 hok.1.2
      have m2 := mul_bd (b := (b : Int)) (c := x.f2) (m := 20) (n := 1000) (by omega) (by omega) hok.2.1.1 hok.2.1.2
      have hrr := hr (d - (b : Int)) (e - (b : Int) * x.f1)
      exact ⟨ok, least_ev l cst price_cst h6 hg lim n (f + 1) (by omega) _ _ (by omega) (by omega), wid (by omega) (by omega), wid (by omega) (by omega)⟩
    have impl : ∀ m b : Nat, b + m = b0 → Ev (fun k => impl_mixes_best.l1 k p acc (b : Int) l 0 lim 0 0 (f : Int) d e) (r, p, 0) := by
      intro m
      induction m with
      | zero =>
        intro b hb
        have hb' : b = b0 := by omega
        subst hb'
        obtain ⟨ok, q1, w4, w5⟩ := see b (Nat.le_refl _)
        refine Ev.succ ?_
        simp only [impl_mixes_best.l1, after_val l lim f d e b (by omega) h6 x ex hx.1 (by omega) (by omega) (by omega), Option.bind_some, decide_eq_true_eq, er, price_cst x, cst, w4]
        refine Ev.pos (by omega) (Ev.pos ok (Ev.bind q1 (Ev.pos pos0 (Ev.bind q1 (Ev.pos (by omega) (Ev.pos (by omega) (Ev.bind r2 ?_)))))))
        simp only [w5]
        exact Ev.pos eq0 (Ev.pos (by omega) g1)
      | succ m ihm =>
        intro b hb
        have g := ihm (b + 1) (by omega)
        have nh := hmin b (by omega)
        obtain ⟨ok, q1, w4, w5⟩ := see b (by omega)
        refine Ev.succ ?_
        simp only [impl_mixes_best.l1, after_val l lim f d e b (by omega) h6 x ex hx.1 (by omega) (by omega) (by omega), Option.bind_some, decide_eq_true_eq, er, price_cst x, cst, w4, wnat b (by omega)]
        refine Ev.pos (by omega) (Ev.pos ok (Ev.bind q1 ?_))
        by_cases c2 : mL cst (l.drop (f + 1)) (d - (b : Int)) (e - (b : Int) * x.f1) ≥ 0
        · refine Ev.pos c2 (Ev.bind q1 (Ev.pos (by omega) (Ev.pos (by omega) (Ev.bind r2 ?_))))
          simp only [w5]
          exact Ev.neg (fun e_ => nh ⟨ok, c2, e_⟩) g
        · exact Ev.neg c2 g
    refine ⟨r, Ev.succ ?_⟩
    simp only [impl_mixes_best.l0]
    exact Ev.pos (by omega) (impl b0 0 (by omega))
end Go.Proofs.Ytnhkamfccoppbaa.QPriceOfLimit
