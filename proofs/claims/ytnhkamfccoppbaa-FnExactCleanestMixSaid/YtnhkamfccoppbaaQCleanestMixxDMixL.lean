/- MixL: the least price of a mix, told plainly; what the program's search gives. Conditions: valid fuels. -/
import Derived.Test.YtnhkamfccoppbaaQCleanestMixx8
import Derived.Test.YtnhkamfccoppbaaQCleanestMixx9
import Derived.Test.YtnhkamfccoppbaaQCleanestMixxL
import Derived.Test.YtnhkamfccoppbaaQCleanestMixxDFuels
namespace Go.Proofs.Ytnhkamfccoppbaa.QCleanestMix
open Go.RowKit Go.Proofs.YtnhkamfccoppbaaW.PrintWords Go.Proofs.Ytnhkamfccoppbaa.QOpen Go.Proofs.Ytnhkamfccoppbaa.QEv
set_option linter.unusedVariables false
set_option linter.unusedSimpArgs false
def mStep (c : Int) (x : S46) (rest : Int → Int → Int) (d e best b : Int) : Int :=
  if 0 ≤ d - b ∧ 0 ≤ e - b * x.f1 then (if 0 ≤ rest (d - b) (e - b * x.f1) ∧ (best < 0 ∨ rest (d - b) (e - b * x.f1) + b * c < best) then rest (d - b) (e - b * x.f1) + b * c else best) else best
def mFold (c : Int) (x : S46) (rest : Int → Int → Int) (d e : Int) : Nat → Int
  | 0 => -1
  | n + 1 => mStep c x rest d e (mFold c x rest d e n) (n : Int)
/-- The least price from a list of fuels for a demand within a limit; -1 if there is none. -/
def mL (pr : S46 → Int) : List S46 → Int → Int → Int
  | [], d, _ => if d > 0 then -1 else 0
  | x :: xs, d, e => mFold (pr x) x (mL pr xs) d e (x.f3 + 1).toNat
def GOk (pr : S46 → Int) (l : List S46) : Prop := ∀ x ∈ l, FuelOk x ∧ 0 ≤ pr x ∧ pr x ≤ 1000
theorem mul_bd {b c m n : Int} (h0 : 0 ≤ b) (h1 : b ≤ m) (h2 : 0 ≤ c) (h3 : c ≤ n) : 0 ≤ b * c ∧ b * c ≤ m * n := ⟨Int.mul_nonneg h0 h2, Int.mul_le_mul h1 h3 h2 (Int.le_trans h0 h1)⟩
theorem mFold_bd {c : Int} {x : S46} {rest : Int → Int → Int} {d e M : Int} (hc : 0 ≤ c ∧ c ≤ 1000) (hr : ∀ d e, -1 ≤ rest d e ∧ rest d e ≤ M) (hM : 0 ≤ M) : ∀ n : Nat, n ≤ 21 → -1 ≤ mFold c x rest d e n ∧ mFold c x rest d e n ≤ M + 20000 := by
  intro n
  induction n with
  | zero => intro _; simp only [mFold]; omega
  | succ n ih =>
    intro hn
    have h1 := ih (by omega)
    have h2 := hr (d - (n : Int)) (e - (n : Int) * x.f1)
    have h3 := mul_bd (b := (n : Int)) (c := c) (m := 20) (n := 1000) (by omega) (by omega) hc.1 hc.2
    simp only [mFold, mStep]
    generalize rest (d - (n : Int)) (e - (n : Int) * x.f1) = r at *
    generalize mFold c x rest d e n = best at *
    generalize (n : Int) * c = q at *
    split
    · split <;> omega
    · omega
theorem mL_bd (pr : S46 → Int) : ∀ l : List S46, GOk pr l → ∀ d e, -1 ≤ mL pr l d e ∧ mL pr l d e ≤ 20000 * (l.length : Int) := by
  intro l
  induction l with
  | nil =>
    intro _ d e
    simp only [mL, List.length_nil]
    split <;> omega
  | cons x xs ih =>
    intro h d e
    have hx := h x (by simp)
    have h2 := ih (fun y hy => h y (by simp [hy]))
    have := mFold_bd (x := x) (d := d) (e := e) hx.2 h2 (by omega) (x.f3 + 1).toNat (by have := hx.1; unfold FuelOk at this; omega)
    simp only [mL, List.length_cons]
    omega
theorem after_val (l : List S46) (lim : Int) (f : Nat) (d e : Int) (i : Nat) (hf : f < l.length) (h6 : l.length ≤ 6) (x : S46) (ex : x = l.getD f z46) (hx : FuelOk x) (hd : 0 ≤ d ∧ d ≤ 120) (he : 0 ≤ e ∧ e ≤ 2401) (hi : i ≤ 1000) :
    impl_mixes_after.f l 0 lim 0 0 (f : Int) d e (i : Int) = some (((f + 1 : Nat) : Int), d - (i : Int), e - (i : Int) * x.f1, decide (0 ≤ d - (i : Int) ∧ 0 ≤ e - (i : Int) * x.f1)) := by
  have er : rd_T46 l (f : Int) = x := ex.symm
  unfold FuelOk at hx
  have m1 := mul_bd (b := (i : Int)) (c := x.f1) (m := 1000) (n := 20) (by omega) (by omega) hx.1.1 hx.1.2
  have w1 : wrap64 ((i : Int) * x.f1) = (i : Int) * x.f1 := wid (by omega) (by omega)
  have w2 : wrap64 (d - (i : Int)) = d - (i : Int) := wid (by omega) (by omega)
  have w3 : wrap64 (e - (i : Int) * x.f1) = e - (i : Int) * x.f1 := wid (by omega) (by omega)
  simp only [impl_mixes_after.f, er, w1, w2, w3, wnat f (by omega)]
  rw [if_pos (by omega), if_pos (by omega)]
  by_cases c : d - (i : Int) ≥ 0
  · rw [if_pos c]
    have : decide (e - (i : Int) * x.f1 ≥ 0) = decide (0 ≤ d - (i : Int) ∧ 0 ≤ e - (i : Int) * x.f1) := by
      rw [decide_eq_decide]
      omega
    rw [this]
  · rw [if_neg c]
    have : false = decide (0 ≤ d - (i : Int) ∧ 0 ≤ e - (i : Int) * x.f1) := (decide_eq_false (fun h => c h.1)).symm
    rw [this]
theorem least_ev (l : List S46) (pr : S46 → Int) (hp : ∀ x : S46, impl_price.f x.f0 x.f1 x.f2 x.f3 = some (pr x)) (h6 : l.length ≤ 6) (hg : GOk pr l) (lim : Int) : ∀ n f : Nat, f + n = l.length → ∀ d e : Int, 0 ≤ d ∧ d ≤ 120 → 0 ≤ e ∧ e ≤ 2401 →
    Ev (fun k => impl_mixes_least.f k l 0 lim 0 0 (f : Int) d e) (mL pr (l.drop f) d e) := by
  intro n
  induction n with
  | zero =>
    intro f hf d e hd he
    rw [drop_end l f hf]
    refine Ev.succ ?_
    simp only [impl_mixes_least.f, mL]
    refine Ev.pos (by omega) ?_
    by_cases c : d > 0
    · rw [if_pos c, if_pos c]
      exact Ev.now _
    · rw [if_neg c, if_neg c]
      exact Ev.now _
  | succ n ih =>
    intro f hf d e hd he
    obtain ⟨x, ex⟩ : ∃ x, x = l.getD f z46 := ⟨_, rfl⟩
    have er : rd_T46 l (f : Int) = x := ex.symm
    have hx := hg x (by rw [ex]; exact getD_mem l f _ (by omega))
    have hok := hx.1
    unfold FuelOk at hok
    have hpr := hp x
    obtain ⟨rest, erest⟩ : ∃ r, r = mL pr (l.drop (f + 1)) := ⟨_, rfl⟩
    have hr : ∀ d e, -1 ≤ rest d e ∧ rest d e ≤ 120000 := fun d e => by
      have := mL_bd pr (l.drop (f + 1)) (fun y hy => hg y (List.mem_of_mem_drop hy)) d e
      rw [← erest] at this
      have hl : (l.drop (f + 1)).length ≤ 6 := by rw [List.length_drop]; omega
      omega
    have goal : mL pr (l.drop f) d e = mFold (pr x) x rest d e (x.f3 + 1).toNat := by
      rw [drop_step l f z46 (by omega), ← ex, erest]
      rfl
    rw [goal]
    have key : ∀ m i : Nat, i + m = (x.f3 + 1).toNat → Ev (fun k => impl_mixes_least.l0 k (mFold (pr x) x rest d e i) (x.f3 + 1) (i : Int) l 0 lim 0 0 (f : Int) d e) (mFold (pr x) x rest d e (x.f3 + 1).toNat) := by
      intro m
      induction m with
      | zero =>
        intro i hi
        refine Ev.succ ?_
        simp only [impl_mixes_least.l0]
        exact Ev.neg (by omega) (Ev.eqn (Ev.now _) (by rw [show i = (x.f3 + 1).toNat by omega]))
      | succ m ihm =>
        intro i hi
        have g := ihm (i + 1) (by omega)
        have hb := mFold_bd (x := x) (d := d) (e := e) hx.2 hr (by omega) i (by omega)
        refine Ev.succ ?_
        simp only [impl_mixes_least.l0, after_val l lim f d e i (by omega) h6 x ex hx.1 hd he (by omega), Option.bind_some, decide_eq_true_eq, er, hpr, wnat i (by omega)]
        refine Ev.pos (by omega) ?_
        simp only [mFold, mStep] at g
        by_cases c : 0 ≤ d - (i : Int) ∧ 0 ≤ e - (i : Int) * x.f1
        · have m1 := mul_bd (b := (i : Int)) (c := x.f1) (m := 20) (n := 20) (by omega) (by omega) hok.1.1 hok.1.2
          have r1 : Ev (fun k => impl_mixes_least.f k l 0 lim 0 0 ((f + 1 : Nat) : Int) (d - (i : Int)) (e - (i : Int) * x.f1)) (rest (d - (i : Int)) (e - (i : Int) * x.f1)) := by
            rw [erest]
            exact ih (f + 1) (by omega) _ _ (by omega) (by omega)
          rw [if_pos c] at g
          refine Ev.pos c (Ev.bind r1 (Ev.pos (by omega) (Ev.pos (by omega) ?_)))
          have m2 := mul_bd (b := (i : Int)) (c := pr x) (m := 20) (n := 1000) (by omega) (by omega) hx.2.1 hx.2.2
          have hrr := hr (d - (i : Int)) (e - (i : Int) * x.f1)
          have w1 : wrap64 ((i : Int) * pr x) = (i : Int) * pr x := wid (by omega) (by omega)
          have w2 : wrap64 (rest (d - (i : Int)) (e - (i : Int) * x.f1) + (i : Int) * pr x) = rest (d - (i : Int)) (e - (i : Int) * x.f1) + (i : Int) * pr x := wid (by omega) (by omega)
          simp only [w1, w2]
          by_cases c2 : rest (d - (i : Int)) (e - (i : Int) * x.f1) ≥ 0
          · refine Ev.pos c2 ?_
            by_cases c3 : mFold (pr x) x rest d e i < 0
            · rw [if_pos ⟨c2, .inl c3⟩] at g
              exact Ev.pos c3 g
            · refine Ev.neg c3 ?_
              by_cases c4 : rest (d - (i : Int)) (e - (i : Int) * x.f1) + (i : Int) * pr x < mFold (pr x) x rest d e i
              · rw [if_pos ⟨c2, .inr c4⟩] at g
                exact Ev.pos c4 g
              · rw [if_neg (fun h => h.2.elim c3 c4)] at g
                exact Ev.neg c4 g
          · rw [if_neg (fun h => c2 h.1)] at g
            exact Ev.neg c2 g
        · rw [if_neg c] at g
          exact Ev.neg c g
    have w3 : wrap64 (x.f3 + 1) = x.f3 + 1 := wid (by omega) (by omega)
    refine Ev.succ ?_
    simp only [impl_mixes_least.f, er, w3]
    exact Ev.neg (by omega) (Ev.pos (by omega) (Ev.pos (by omega) (key (x.f3 + 1).toNat 0 (by omega))))
/-- Some blocks of the first fuel give the least price. -/
def hit (c : Int) (x : S46) (rest : Int → Int → Int) (d e v : Int) (b : Nat) : Prop := (0 ≤ d - (b : Int) ∧ 0 ≤ e - (b : Int) * x.f1) ∧ 0 ≤ rest (d - (b : Int)) (e - (b : Int) * x.f1) ∧ rest (d - (b : Int)) (e - (b : Int) * x.f1) + (b : Int) * c = v
theorem fold_hit {c : Int} {x : S46} {rest : Int → Int → Int} {d e : Int} : ∀ n : Nat, 0 ≤ mFold c x rest d e n → ∃ b, b < n ∧ hit c x rest d e (mFold c x rest d e n) b := by
  intro n
  induction n with
  | zero => intro h; simp only [mFold] at h; omega
  | succ n ih =>
    intro h
    simp only [mFold, mStep] at h ⊢
    by_cases c1 : 0 ≤ d - (n : Int) ∧ 0 ≤ e - (n : Int) * x.f1
    · rw [if_pos c1] at h ⊢
      by_cases c2 : 0 ≤ rest (d - (n : Int)) (e - (n : Int) * x.f1) ∧ (mFold c x rest d e n < 0 ∨ rest (d - (n : Int)) (e - (n : Int) * x.f1) + (n : Int) * c < mFold c x rest d e n)
      · rw [if_pos c2] at h ⊢
        exact ⟨n, by omega, c1, c2.1, rfl⟩
      · rw [if_neg c2] at h ⊢
        obtain ⟨b, hb, hh⟩ := ih h
        exact ⟨b, by omega, hh⟩
    · rw [if_neg c1] at h ⊢
      obtain ⟨b, hb, hh⟩ := ih h
      exact ⟨b, by omega, hh⟩
theorem min_of (P : Nat → Prop) (b : Nat) (hb : P b) : ∃ m, m ≤ b ∧ P m ∧ ∀ j, j < m → ¬ P j := by
  induction b using Nat.strongRecOn with
  | _ b ih =>
    by_cases h : ∃ j, j < b ∧ P j
    · obtain ⟨j, hj, pj⟩ := h
      obtain ⟨m, a1, a2, a3⟩ := ih j hj pj
      exact ⟨m, by omega, a2, a3⟩
    · exact ⟨b, Nat.le_refl _, hb, fun j hj pj => h ⟨j, hj, pj⟩⟩
theorem ok_down {x : S46} {d e : Int} {b j : Nat} (hx : FuelOk x) (h : 0 ≤ d - (b : Int) ∧ 0 ≤ e - (b : Int) * x.f1) (hj : j ≤ b) : 0 ≤ d - (j : Int) ∧ 0 ≤ e - (j : Int) * x.f1 := by
  unfold FuelOk at hx
  have : (j : Int) * x.f1 ≤ (b : Int) * x.f1 := Int.mul_le_mul_of_nonneg_right (by omega) hx.1.1
  omega
theorem fold_stop {c : Int} {x : S46} {rest : Int → Int → Int} {d e : Int} (hx : FuelOk x) {b : Nat} (h : ¬ (0 ≤ d - (b : Int) ∧ 0 ≤ e - (b : Int) * x.f1)) : ∀ m : Nat, mFold c x rest d e (b + m) = mFold c x rest d e b := by
  intro m
  induction m with
  | zero => rfl
  | succ m ih =>
    show mStep c x rest d e (mFold c x rest d e (b + m)) ((b + m : Nat) : Int) = _
    unfold mStep
    rw [if_neg (fun h2 => h (ok_down hx h2 (by omega))), ih]
end Go.Proofs.Ytnhkamfccoppbaa.QCleanestMix
