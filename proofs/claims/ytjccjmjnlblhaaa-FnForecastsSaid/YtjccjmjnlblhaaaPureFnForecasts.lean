/- FnForecasts: the heat of a day is the sum of its hours, the peak hour has the greatest load, water carries its load, and the outdoor temperature for a load is the highest one. Conditions: none beyond the statement's own guard. -/
import Derived.Test.YtjccjmjnlblhaaaQForecastsx1
import Derived.Test.YtjccjmjnlblhaaaQForecastsx4
import Derived.Test.YtjccjmjnlblhaaaQForecastsx6
import Derived.Test.YtjccjmjnlblhaaaQForecastsx7
import Derived.Test.YtjccjmjnlblhaaaQForecastsx8
import Derived.Test.YtjccjmjnlblhaaaQForecastsx9
import Derived.Test.YtjccjmjnlblhaaaQForecastsx10
import Derived.Test.YtjccjmjnlblhaaaQForecastsxL
import Derived.Test.YtjccjmjnlblhaaaQForecastsxDDrawBuild
import Derived.Test.YtjccjmjnlblhaaaQForecastsxDLoadsI
import Derived.Test.YtjccjmjnlblhaaaQForecastsxDOutI
import Derived.Test.YtjccjmjnlblhaaaQForecastsxDFirstMax
namespace Go.Proofs.Ytjccjmjnlblhaaa.Pure
open Go.RowKit Go.Proofs.Ytjccjmjnlblhaaa.QForecasts Go.Proofs.YtjccjmjnlblhaaaW.PrintWords Go.Proofs.Ytjccjmjnlblhaaa.QOpen Go.Proofs.Ytjccjmjnlblhaaa.QEv
set_option linter.unusedVariables false
set_option linter.unusedSimpArgs false
theorem load_le (x : S94) (hx : BuildOk x) (t : Int) (t0 : -4000 ≤ t) (h : Nat) (hh : h < 24) : loadv x t h ≤ 11500000 := by
  obtain ⟨_, _, b0, b1, c0, c1, d0, d1, l5, p5⟩ := hx
  obtain ⟨q0, q1⟩ := p5 h hh
  unfold loadv
  have m0 : 0 ≤ x.f2 * x.f5.getD h 0 := Int.mul_nonneg b0 q0
  have m1 : x.f2 * x.f5.getD h 0 ≤ 1000000 * 3000 := Int.mul_le_mul b1 q1 q0 (by omega)
  have k0 : 0 ≤ max 0 (x.f4 - t) := by omega
  have k1 : max 0 (x.f4 - t) ≤ 8500 := by omega
  have n0 : 0 ≤ x.f3 * max 0 (x.f4 - t) := Int.mul_nonneg c0 k0
  have n1 : x.f3 * max 0 (x.f4 - t) ≤ 100000 * 8500 := Int.mul_le_mul c1 k1 k0 (by omega)
  unfold rdiv
  rw [if_neg (by omega), if_neg (by omega)]
  omega
theorem sum_le (t : Int) (t0 : -4000 ≤ t) (t1 : t ≤ 4500) (h : Nat) (hh : h < 24) : ∀ l : List S94, (∀ x ∈ l, BuildOk x) → 0 ≤ sumv t h l ∧ sumv t h l ≤ 11500000 * (l.length : Int)
  | [], _ => by simp [sumv]
  | x :: l, hl => by
    have a := load_le x (hl x (by simp)) t t0 h hh
    have c := (load_both x (hl x (by simp)) t h hh (by omega) (by omega)).2.2.1
    obtain ⟨b0, b1⟩ := sum_le t t0 t1 h hh l (fun y hy => hl y (by simp [hy]))
    simp only [sumv, List.length_cons]
    constructor <;> omega
theorem foreI (l : List S94) (hn : l.length ≤ 4) (hl : ∀ x ∈ l, BuildOk x) (o : List Int) (ho : DayOk o) : ∀ (d h : Nat) (acc : List Int), h + d = 24 → acc.length = h → (∀ x ∈ acc, 0 ≤ x ∧ x ≤ 46000000) →
    ∃ r : List Int, Ev (fun k => impl_forecastOf.l0 k l o (acc ++ List.replicate d 0) 24 (h : Int)) r ∧ r.length = 24 ∧ (∀ x ∈ r, 0 ≤ x ∧ x ≤ 46000000) := by
  have hl2 : ∀ j, j < l.length → BuildOk (l.getD j z94) := fun j hj => hl _ (getD_mem l j _ hj)
  intro d
  induction d with
  | zero =>
    intro h acc hh ha hb
    refine ⟨acc, Ev.succ ?_, by omega, hb⟩
    simp only [impl_forecastOf.l0]
    exact Ev.neg (by omega) (Ev.eqn (Ev.now _) (by simp))
  | succ d ih =>
    intro h acc hh ha hb
    obtain ⟨t0, t1⟩ := ho.2 h (by omega)
    obtain ⟨v0, v1⟩ := sum_le (o.getD h 0) t0 t1 h (by omega) l hl
    have hol := ho.1
    obtain ⟨r, h2, h3, h4⟩ := ih (h + 1) (acc ++ [sumv (o.getD h 0) h l]) (by omega) (by simp; omega) (fun x hx => by
      rcases List.mem_append.1 hx with z | z
      · exact hb x z
      · rw [List.mem_singleton.1 z]; omega)
    refine ⟨r, Ev.succ ?_, h3, h4⟩
    simp only [impl_forecastOf.l0]
    refine Ev.pos (by omega) ?_
    have g := get_mid acc d
    rw [ha] at g
    have s := set_mid acc d (sumv (o.getD h 0) h l)
    rw [ha] at s
    refine hourLoop l (by omega) hl2 o ho h (by omega) 24 l.length 0 _ (by omega) (by simp; omega) (by rw [g]; omega) (by rw [g]; omega) r ?_
    rw [g, List.drop_zero, Int.zero_add, s]
    exact h2
def tot : List Int → Int
  | [] => 0
  | x :: l => x + tot l
theorem tot_le : ∀ l : List Int, (∀ x ∈ l, 0 ≤ x ∧ x ≤ 46000000) → 0 ≤ tot l ∧ tot l ≤ 46000000 * (l.length : Int)
  | [], _ => by simp [tot]
  | x :: l, hl => by
    have a := hl x (by simp)
    obtain ⟨b0, b1⟩ := tot_le l (fun y hy => hl y (by simp [hy]))
    simp only [tot, List.length_cons]
    constructor <;> omega
theorem sumOf_ev (r : List Int) (hn : r.length ≤ 24) (hb : ∀ x ∈ r, 0 ≤ x ∧ x ≤ 46000000) : ∀ (d i : Nat) (acc : Int), i + d = r.length → 0 ≤ acc → acc ≤ (i : Int) * 46000000 →
    Ev (fun k => impl_sumOf.l0 k acc r (r.length : Int) (i : Int)) (acc + tot (r.drop i)) := by
  intro d
  induction d with
  | zero =>
    intro i acc hi h0 h1
    rw [drop_end r i hi]
    refine Ev.succ ?_
    simp only [impl_sumOf.l0, tot, Int.add_zero]
    exact Ev.neg (by omega) (Ev.now _)
  | succ d ih =>
    intro i acc hi h0 h1
    obtain ⟨p, q⟩ := hb _ (getD_mem r i 0 (by omega))
    have e0 : rd r (i : Int) = r.getD i 0 := rfl
    rw [drop_step r i 0 (by omega), tot, ← Int.add_assoc]
    generalize r.getD i 0 = x at *
    have w : wrap64 (acc + x) = acc + x := wid (by omega) (by omega)
    refine Ev.succ ?_
    simp only [impl_sumOf.l0, e0, w, wnat i (by omega)]
    exact Ev.pos (by omega) (Ev.pos (by omega) (Ev.pos (by omega) (ih (i + 1) (acc + x) (by omega) (by omega) (by omega))))
theorem first_max (f : List Int) (hf : 0 < f.length) : ∃ g, firstMax f g := by
  have h : ∀ n, n < f.length → ∃ g, g ≤ n ∧ (∀ j, j ≤ n → f.getD j 0 ≤ f.getD g 0) ∧ ∀ j, j < g → f.getD j 0 < f.getD g 0 := by
    intro n
    induction n with
    | zero => intro _; exact ⟨0, by omega, fun j hj => by rw [show j = 0 by omega]; exact Int.le_refl _, fun j hj => by omega⟩
    | succ n ih =>
      intro hn
      obtain ⟨g, g0, g1, g2⟩ := ih (by omega)
      by_cases c : f.getD g 0 < f.getD (n + 1) 0
      · refine ⟨n + 1, by omega, fun j hj => ?_, fun j hj => ?_⟩
        · by_cases e : j = n + 1
          · rw [e]; exact Int.le_refl _
          · have := g1 j (by omega); omega
        · have := g1 j (by omega); omega
      · refine ⟨g, by omega, fun j hj => ?_, g2⟩
        by_cases e : j = n + 1
        · rw [e]; omega
        · exact g1 j (by omega)
  obtain ⟨g, g0, g1, g2⟩ := h (f.length - 1) (by omega)
  exact ⟨g, by omega, fun j hj => g1 j (by omega), g2⟩
theorem at_ev (x : List Int) (hx : BytesOk x) (a n : Int) (h0 : 0 ≤ a) (hn : 1 ≤ n) : ∃ v : Int, laws_r8At.f x a n = some v ∧ 0 ≤ v ∧ v < n := by
  simp only [laws_r8At.f]
  by_cases c : n ≤ 1
  · rw [if_pos c]; exact ⟨0, rfl, by omega, by omega⟩
  · rw [if_neg c]
    by_cases c2 : a ≥ (x.length : Int)
    · rw [if_pos c2]; exact ⟨0, rfl, by omega, by omega⟩
    · obtain ⟨b0, b1⟩ := bytes_at x hx a h0 (by omega)
      have w : wrap64 (rd x a) = rd x a := wid (by omega) (by omega)
      rw [if_neg c2, if_pos h0, if_pos (by omega), if_neg (by omega), w, Int.tmod_eq_emod_of_nonneg b0]
      exact ⟨_, rfl, Int.emod_nonneg _ (by omega), Int.emod_lt_of_pos _ (by omega)⟩
theorem wide_ev (x : List Int) (hx : BytesOk x) (a n : Int) (h0 : 0 ≤ a) (h1 : a ≤ 1000) (hn : 1 ≤ n) : ∃ v : Int, laws_r8Wide.f x a n = some v ∧ 0 ≤ v ∧ v < n := by
  obtain ⟨u, e1, u0, u1⟩ := at_ev x hx a 256 h0 (by omega)
  have wa : wrap64 (a + 1) = a + 1 := wid (by omega) (by omega)
  obtain ⟨v, e2, v0, v1⟩ := at_ev x hx (a + 1) 256 (by omega) (by omega)
  have w1 : wrap64 (256 * u) = 256 * u := wid (by omega) (by omega)
  have w2 : wrap64 (256 * u + v) = 256 * u + v := wid (by omega) (by omega)
  simp only [laws_r8Wide.f, e1, wa, e2, Option.bind_some, w1, w2]
  rw [if_neg (by omega), Int.tmod_eq_emod_of_nonneg (by omega)]
  exact ⟨_, rfl, Int.emod_nonneg _ (by omega), Int.emod_lt_of_pos _ (by omega)⟩
theorem loadOf_ev (x : S94) (hv : Ev (fun k => spec_l05One.f k x.f0 x.f1 x.f2 x.f3 x.f4 x.f5) true) (hx : BuildOk x) (t : Int) (t0 : -4000 ≤ t) (t1 : t ≤ 4500) (h : Nat) (hh : h < 24) : Ev (fun k => spec_LoadOf.f k x.f0 x.f1 x.f2 x.f3 x.f4 x.f5 t (h : Int)) (loadv x t h, 0) := by
  have e := (load_both x hx t h hh (by omega) (by omega)).1
  simp only [spec_LoadOf.f, spec_l05Outdoor.f, spec_l05Hour.f, spec_in_eq, Option.bind_some, decide_eq_true_eq, e]
  exact Ev.bind hv (Ev.pos rfl (Ev.pos ⟨t0, t1⟩ (Ev.pos (by omega) (Ev.now _))))
theorem loadOf_out (x : S94) (hv : Ev (fun k => spec_l05One.f k x.f0 x.f1 x.f2 x.f3 x.f4 x.f5) true) (h : Nat) : Ev (fun k => spec_LoadOf.f k x.f0 x.f1 x.f2 x.f3 x.f4 x.f5 4501 (h : Int)) (0, 2) := by
  simp only [spec_LoadOf.f, spec_l05Outdoor.f, spec_l05Hour.f, spec_in_eq, Option.bind_some, decide_eq_true_eq]
  exact Ev.bind hv (Ev.pos rfl (Ev.neg (by omega) (Ev.now _)))
theorem endLoop (l : List S94) (hn : l.length ≤ 4) (hv : InvB l 4) (h : Nat) (hh : h < 24) (g t : Int) (t0 : -4000 ≤ t) (t1 : t ≤ 4500) : ∀ (d i : Nat) (a b : Int), i + d = l.length → 0 ≤ a → a ≤ 11500000 * (i : Int) → (t < 4500 → 0 ≤ b ∧ b ≤ 11500000 * (i : Int)) →
    a + sumv t h (l.drop i) ≥ g → (t = 4500 ∨ b + sumv (t + 1) h (l.drop i) < g) → Ev (fun k => laws_FnForecasts.l1 k l (h : Int) g t a b (i : Int)) true := by
  intro d
  induction d with
  | zero =>
    intro i a b hi a0 a1 hb h1 h2
    rw [drop_end l i hi] at h1 h2
    simp only [sumv, Int.add_zero] at h1 h2
    refine Ev.succ ?_
    simp only [laws_FnForecasts.l1]
    refine Ev.neg (by omega) (Ev.pos h1 ?_)
    by_cases c : t = 4500
    · exact Ev.pos c (Ev.now _)
    · exact Ev.neg c (Ev.eqn (Ev.now _) (decide_eq_true (by omega)))
  | succ d ih =>
    intro i a b hi a0 a1 hb h1 h2
    have hx := getD_mem l i z94 (by omega)
    obtain ⟨q, q1, q2⟩ := hv.2.1 _ hx
    have ok := hv.1 _ hx
    have sv := (build_true _ ok q q1 q2).2
    have er : rd_T94 l (i : Int) = l.getD i z94 := rfl
    rw [drop_step l i z94 (by omega)] at h1 h2
    simp only [sumv, ← Int.add_assoc] at h1 h2
    generalize l.getD i z94 = x at *
    have e1 := loadOf_ev x sv ok t t0 t1 h hh
    have le1 := load_le x ok t t0 h hh
    have ge1 := (load_both x ok t h hh (by omega) (by omega)).2.2.1
    have wt : wrap64 (t + 1) = t + 1 := wid (by omega) (by omega)
    have wa : wrap64 (a + loadv x t h) = a + loadv x t h := wid (by omega) (by omega)
    by_cases c : t = 4500
    · subst c
      have e2 := loadOf_out x sv h
      have g := ih (i + 1) (a + loadv x 4500 h) (wrap64 (b + 0)) (by omega) (by omega) (by omega) (fun z => by omega) h1 (Or.inl rfl)
      refine Ev.succ ?_
      simp only [laws_FnForecasts.l1, er, wt, wnat i (by omega)]
      refine Ev.pos (by omega) (Ev.pos (by omega) (Ev.bind e1 (Ev.bind e2 (Ev.pos (by first | rfl | trivial) ?_))))
      rw [wa]
      exact g
    · obtain ⟨b0, b1⟩ := hb (by omega)
      have e2 := loadOf_ev x sv ok (t + 1) (by omega) (by omega) h hh
      have le2 := load_le x ok (t + 1) (by omega) h hh
      have ge2 := (load_both x ok (t + 1) h hh (by omega) (by omega)).2.2.1
      have wb : wrap64 (b + loadv x (t + 1) h) = b + loadv x (t + 1) h := wid (by omega) (by omega)
      have g := ih (i + 1) (a + loadv x t h) (b + loadv x (t + 1) h) (by omega) (by omega) (by omega) (fun z => ⟨by omega, by omega⟩) h1 (Or.inr (by rcases h2 with h2 | h2; exact absurd h2 c; exact h2))
      refine Ev.succ ?_
      simp only [laws_FnForecasts.l1, er, wt, wnat i (by omega)]
      refine Ev.pos (by omega) (Ev.pos (by omega) (Ev.bind e1 (Ev.bind e2 (Ev.pos (by first | rfl | trivial) ?_))))
      rw [wa, wb]
      exact g
theorem j2_true (x1 : List Int) (hb : BytesOk x1) (l : List S94) (hn : l.length ≤ 4) (hv : InvB l 4) (vt : Ev (fun k => impl_ValidBuildings.f k l) true) : Ev (fun k => laws_FnForecasts.j2 k x1 l) true := by
  have hl2 : ∀ j, j < l.length → BuildOk (l.getD j z94) := fun j hj => hv.1 _ (getD_mem l j _ hj)
  obtain ⟨h, e1, h0, h1⟩ := at_ev x1 hb 4 24 (by omega) (by omega)
  obtain ⟨g, e2, g0, g1⟩ := wide_ev x1 hb 5 60000 (by omega) (by omega) (by omega)
  obtain ⟨n, rfl⟩ := Int.eq_ofNat_of_zero_le h0
  obtain ⟨r, k1, r0, r1, r2, r3⟩ := outFirst l (by omega) hl2 n (by omega) g 8501 0 8501 (by omega) (by omega) (by omega) (by omega) (Or.inl rfl) (Or.inl rfl)
  have kf : Ev (fun k => impl_firstIn.f k (-4500) 4000 l (n : Int) g) (-4500 + r, decide (r < 8501)) := by
    simp only [impl_firstIn.f]
    exact Ev.pos (by omega) (Ev.bind k1 (Ev.now _))
  have w : wrap64 (-(-4500 + r)) = 4500 - r := by rw [wid (by omega) (by omega)]; omega
  refine Ev.succ ?_
  simp only [laws_FnForecasts.j2, e1, e2, Option.bind_some]
  by_cases c : r < 8501
  · have o : Ev (fun k => impl_OutdoorFor.f k l g (n : Int)) (4500 - r, 0) := by
      simp only [impl_OutdoorFor.f, impl_hourOk.f, impl_within_eq, Option.bind_some, decide_eq_true_eq]
      refine Ev.bind vt (Ev.pos rfl (Ev.pos (by omega) (Ev.succ ?_)))
      simp only [impl_OutdoorFor.j0, impl_orNotFound.f]
      refine Ev.neg (by simp; omega) (Ev.bind kf ?_)
      rw [decide_eq_true c, w]
      exact Ev.now _
    refine Ev.bind o (Ev.pos rfl ?_)
    refine endLoop l hn hv n (by omega) g (4500 - r) (by omega) (by omega) l.length 0 0 0 (by omega) (by omega) (by omega) (fun _ => ⟨by omega, by omega⟩) ?_ ?_
    · rw [List.drop_zero, Int.zero_add]
      rcases r3 with r3 | r3
      · omega
      · exact r3
    · rw [List.drop_zero, Int.zero_add]
      rcases r2 with r2 | r2
      · exact Or.inl (by omega)
      · exact Or.inr r2
  · have o : Ev (fun k => impl_OutdoorFor.f k l g (n : Int)) (0, 3) := by
      simp only [impl_OutdoorFor.f, impl_hourOk.f, impl_within_eq, Option.bind_some, decide_eq_true_eq]
      refine Ev.bind vt (Ev.pos rfl (Ev.pos (by omega) (Ev.succ ?_)))
      simp only [impl_OutdoorFor.j0, impl_orNotFound.f]
      refine Ev.neg (by simp; omega) (Ev.bind kf ?_)
      rw [decide_eq_false c]
      exact Ev.now _
    exact Ev.bind o (Ev.neg (by simp) (Ev.now _))
theorem heatFlow_ev (q w c : Int) (q0 : -1 ≤ q) (q1 : q ≤ 100000) (c0 : 1000 ≤ c) (c1 : c ≤ 3999) (w0 : 5000 ≤ w) (w1 : w ≤ 9999) : impl_HeatFlow.f q w c = some (rdiv (4186 * q * (w - c)) 100000, 0) := by
  have e1 : wrap64 (4186 * q) = 4186 * q := wid (by omega) (by omega)
  have e2 : wrap64 (w - c) = w - c := wid (by omega) (by omega)
  have m0 : -4186 * 8999 ≤ 4186 * q * (w - c) := by
    have h : (-4186) * (w - c) ≤ 4186 * q * (w - c) := Int.mul_le_mul_of_nonneg_right (by omega) (by omega)
    omega
  have m1 : 4186 * q * (w - c) ≤ 418600000 * 8999 := by
    have h : 4186 * q * (w - c) ≤ 418600000 * (w - c) := Int.mul_le_mul_of_nonneg_right (by omega) (by omega)
    omega
  have e3 : wrap64 (4186 * q * (w - c)) = 4186 * q * (w - c) := wid (by omega) (by omega)
  have d := divRoundS_eq (4186 * q * (w - c)) 100000 (by omega) (by omega) (by omega) (by omega)
  simp only [impl_HeatFlow.f, impl_flowOk.f, impl_degreesOk.f, impl_within_eq, Option.bind_some, decide_eq_true_eq, e1, e2, e3, d]
  rw [if_pos (by omega), if_pos (by omega), if_pos (by omega)]
theorem water_ev (m w c : Int) (m0 : 0 ≤ m) (m1 : m ≤ 46000000) (c0 : 1000 ≤ c) (c1 : c ≤ 3999) (w0 : 5000 ≤ w) (w1 : w ≤ 9999) : ∃ q : Int, 0 ≤ q ∧ m * 100000 ≤ q * (4186 * (w - c)) ∧ (0 < q → (q - 1) * (4186 * (w - c)) < m * 100000) ∧
    Ev (fun k => impl_WaterFor.f k m w c) (if q ≤ 100000 then (q, 0) else (0, 3)) := by
  obtain ⟨b, hb⟩ : ∃ b, b = 4186 * (w - c) := ⟨_, rfl⟩
  have e1 : wrap64 (m * 100000) = m * 100000 := wid (by omega) (by omega)
  have e2 : wrap64 (w - c) = w - c := wid (by omega) (by omega)
  have e3 : wrap64 (4186 * (w - c)) = b := by rw [wid (by omega) (by omega), hb]
  have e4 : wrap64 (m * 100000 + b) = m * 100000 + b := wid (by omega) (by omega)
  have e5 : wrap64 (m * 100000 + b - 1) = m * 100000 + b - 1 := wid (by omega) (by omega)
  obtain ⟨q, hq⟩ : ∃ q, q = (m * 100000 + b - 1) / b := ⟨_, rfl⟩
  have p1 := Int.emod_add_mul_ediv (m * 100000 + b - 1) b
  have p2 := Int.emod_nonneg (m * 100000 + b - 1) (show b ≠ 0 by omega)
  have p3 := Int.emod_lt_of_pos (m * 100000 + b - 1) (show 0 < b by omega)
  have q0 : 0 ≤ q := by rw [hq]; exact Int.ediv_nonneg (by omega) (by omega)
  have q1 : q ≤ m * 100000 + b - 1 := by rw [hq]; exact Int.ediv_le_self _ (by omega)
  rw [← hq] at p1
  have cm : b * q = q * b := Int.mul_comm b q
  have e6 : Int.tdiv (m * 100000 + b - 1) b = q := by rw [Int.tdiv_eq_ediv_of_nonneg (by omega), hq]
  have e7 : wrap64 q = q := wid (by omega) (by omega)
  refine ⟨q, q0, ?_, fun _ => ?_, ?_⟩
  · rw [← hb]; omega
  · rw [← hb, Int.sub_mul, Int.one_mul]; omega
  · simp only [impl_WaterFor.f, impl_degreesOk.f, impl_within_eq, Option.bind_some, decide_eq_true_eq]
    refine Ev.pos (by omega) (Ev.pos (by omega) (Ev.succ ?_))
    simp only [impl_WaterFor.j0, impl_divUp.f, impl_orNotFound.f, e1, e2, e3, e4, e5, e6, e7]
    refine Ev.neg (by simp; omega) (Ev.neg (by omega) (Ev.bind (a := q) (Ev.neg (by omega) (Ev.now _)) ?_))
    by_cases cq : q ≤ 100000
    · rw [if_pos cq, decide_eq_true cq]
      exact Ev.now _
    · rw [if_neg cq, decide_eq_false cq]
      exact Ev.now _
theorem l0_true (x1 : List Int) (hb1 : BytesOk x1) (l : List S94) (hn : l.length ≤ 4) (hv : InvB l 4) (vt : Ev (fun k => impl_ValidBuildings.f k l) true) (r : List Int) (hr : r.length = 24) (hb : ∀ x ∈ r, 0 ≤ x ∧ x ≤ 46000000) (g : Nat) (hg : firstMax r g) : ∀ (d i : Nat) (acc : Int), i + d = r.length → acc + tot (r.drop i) = tot r → 0 ≤ acc → acc ≤ (i : Int) * 46000000 →
    Ev (fun k => laws_FnForecasts.l0 k x1 l r (rdiv (tot r) 1000) (g : Int) (r.getD g 0) acc (i : Int)) true := by
  have jt := j2_true x1 hb1 l hn hv vt
  obtain ⟨s0, s1⟩ := tot_le r hb
  intro d
  induction d with
  | zero =>
    intro i acc hi hs h0 h1
    rw [drop_end r i hi] at hs
    simp only [tot, Int.add_zero] at hs
    subst hs
    have hd : rdiv (tot r) 1000 = (2 * tot r + 1000) / 2000 := by
      unfold rdiv
      rw [if_neg (by omega), show (2 : Int) * 1000 = 2000 from rfl]
    obtain ⟨v, hvv⟩ : ∃ v, v = rdiv (tot r) 1000 := ⟨_, rfl⟩
    have b1 : -500 ≤ 1000 * v - tot r ∧ 1000 * v - tot r ≤ 500 := by rw [hvv, hd]; omega
    have w1 : wrap64 (1000 * v) = 1000 * v := wid (by omega) (by omega)
    have w2 : wrap64 (1000 * v - tot r) = 1000 * v - tot r := wid (by omega) (by omega)
    have w3 : wrap64 (-(1000 * v - tot r)) = -(1000 * v - tot r) := wid (by omega) (by omega)
    have hm : mx (1000 * v - tot r) (-(1000 * v - tot r)) ≤ 500 := by
      unfold mx
      split <;> omega
    obtain ⟨wa, ea, a0, a1⟩ := wide_ev x1 hb1 0 5000 (by omega) (by omega) (by omega)
    obtain ⟨ca, ec, c0, c1⟩ := wide_ev x1 hb1 2 3000 (by omega) (by omega) (by omega)
    have w4 : wrap64 (5000 + wa) = 5000 + wa := wid (by omega) (by omega)
    have w5 : wrap64 (1000 + ca) = 1000 + ca := wid (by omega) (by omega)
    obtain ⟨m0, m1⟩ := hb _ (getD_mem r g 0 hg.1)
    obtain ⟨m, hmm⟩ : ∃ m, m = r.getD g 0 := ⟨_, rfl⟩
    rw [← hmm] at m0 m1
    obtain ⟨q, q0, q1, q2, q3⟩ := water_ev m (5000 + wa) (1000 + ca) m0 m1 (by omega) (by omega) (by omega) (by omega)
    rw [← hmm, ← hvv]
    refine Ev.succ ?_
    simp only [laws_FnForecasts.l0, laws_r8Abs.f, w1, w2, w3, ea, ec, w4, w5, Option.bind_some]
    refine Ev.neg (by omega) (Ev.neg (by omega) (Ev.bind q3 ?_))
    by_cases cq : q ≤ 100000
    · rw [if_pos cq]
      have w6 : wrap64 (q - 1) = q - 1 := wid (by omega) (by omega)
      have f1 := heatFlow_ev q (5000 + wa) (1000 + ca) (by omega) cq (by omega) (by omega) (by omega) (by omega)
      have f2 := heatFlow_ev (q - 1) (5000 + wa) (1000 + ca) (by omega) (by omega) (by omega) (by omega) (by omega) (by omega)
      obtain ⟨D, hD⟩ : ∃ D, D = 5000 + wa - (1000 + ca) := ⟨_, rfl⟩
      rw [← hD] at f1 f2 q1 q2
      have x1e : 4186 * q * D = q * (4186 * D) := by rw [Int.mul_comm 4186 q, Int.mul_assoc]
      have x2e : 4186 * (q - 1) * D = (q - 1) * (4186 * D) := by rw [Int.mul_comm 4186 (q - 1), Int.mul_assoc]
      rw [x1e] at f1
      rw [x2e] at f2
      have g1 : m ≤ rdiv (q * (4186 * D)) 100000 := by
        unfold rdiv
        rw [if_neg (by omega)]
        omega
      have g2 : 0 < q → rdiv ((q - 1) * (4186 * D)) 100000 ≤ m := by
        intro hq
        have h := q2 hq
        have h2 : 0 ≤ (q - 1) * (4186 * D) := Int.mul_nonneg (by omega) (by omega)
        unfold rdiv
        rw [if_neg (by omega)]
        omega
      refine Ev.pos rfl ?_
      simp only [f1, w6, f2, Option.bind_some]
      refine Ev.pos (by first | rfl | trivial) (Ev.neg (by omega) ?_)
      by_cases cz : q > 0
      · have := g2 cz
        exact Ev.pos cz (Ev.pos (by first | rfl | trivial) (Ev.neg (by omega) jt))
      · exact Ev.neg cz jt
    · rw [if_neg cq]
      exact Ev.neg (by simp) (Ev.pos rfl jt)
  | succ d ih =>
    intro i acc hi hs h0 h1
    have e0 : rd r (i : Int) = r.getD i 0 := rfl
    obtain ⟨p, q⟩ := hb _ (getD_mem r i 0 (by omega))
    have le := hg.2.1 i (by omega)
    have lt := hg.2.2 i
    rw [drop_step r i 0 (by omega), tot, ← Int.add_assoc] at hs
    have w : wrap64 (acc + r.getD i 0) = acc + r.getD i 0 := wid (by omega) (by omega)
    have h := ih (i + 1) (acc + r.getD i 0) (by omega) hs (by omega) (by omega)
    refine Ev.succ ?_
    simp only [laws_FnForecasts.l0, e0, w, wnat i (by omega)]
    refine Ev.pos (by omega) (Ev.pos (by omega) (Ev.neg (by omega) ?_))
    by_cases c : (i : Int) < (g : Int)
    · have := lt (by omega)
      exact Ev.pos c (Ev.neg (by omega) h)
    · exact Ev.neg c h
theorem FnForecasts : ∀ (x0 : List Int) (x1 : List Int), (wfL (wfI .u8)) x0 → (wfL (wfI .u8)) x1 → ∃ k, laws_FnForecasts.f k x0 x1 = some true := by
  intro x0 x1 hw0 hw1
  refine Ev.rounds (r := true) ?_
  simp only [laws_FnForecasts.f, laws_r8Long.f]
  by_cases c0 : (x0.length : Int) > 1048576
  · exact Ev.bind (a := true) (Ev.pos c0 (Ev.now _)) (Ev.pos rfl (Ev.now _))
  by_cases c1 : (x1.length : Int) > 1048576
  · exact Ev.bind (a := true) (Ev.neg c0 (Ev.eqn (Ev.now _) (decide_eq_true c1))) (Ev.pos rfl (Ev.now _))
  refine Ev.bind (a := false) (Ev.neg c0 (Ev.eqn (Ev.now _) (decide_eq_false c1))) (Ev.neg (by decide) ?_)
  have b0 := bytes_of x0 hw0 (by omega)
  have b1 := bytes_of x1 hw1 (by omega)
  obtain ⟨l, d1, hn, hv⟩ := draw_builds x0 b0
  obtain ⟨o, d2, ho⟩ := draw_day x1 b1
  have vt := builds_true l hn hv
  have dt := day_true o ho
  obtain ⟨r, f1, hr, hb⟩ := foreI l hn hv.1 o ho 24 0 [] (by omega) rfl (fun x hx => by cases hx)
  obtain ⟨s0, s1⟩ := tot_le r hb
  have hf : Ev (fun k => impl_forecastOf.f k l o) r := by
    simp only [impl_forecastOf.f]
    exact Ev.pos (by omega) (Ev.sb f1)
  have hF : Ev (fun k => impl_ForecastOf.f k l o) (r, 0) := by
    simp only [impl_ForecastOf.f, dt, Option.bind_some]
    exact Ev.bind vt (Ev.pos rfl (Ev.pos (by first | rfl | trivial) (Ev.bind hf (Ev.now _))))
  have dv := divRoundS_eq (tot r) 1000 (by omega) (by omega) (by omega) (by omega)
  have hs : Ev (fun k => impl_sumOf.f k r) (tot r) := by
    have h := sumOf_ev r (by omega) hb r.length 0 0 (by omega) (by omega) (by omega)
    rw [List.drop_zero, Int.zero_add] at h
    simp only [impl_sumOf.f]
    exact h
  have hH : Ev (fun k => impl_HeatOf.f k l o) (rdiv (tot r) 1000, 0) := by
    simp only [impl_HeatOf.f]
    refine Ev.bind hF (Ev.pos rfl (Ev.bind hs ?_))
    simp only [dv, Option.bind_some]
    exact Ev.now _
  obtain ⟨g, hg⟩ := first_max r (by omega)
  have hP : Ev (fun k => impl_PeakHour.f k l o) ((g : Int), r.getD g 0, 0) := by
    simp only [impl_PeakHour.f]
    exact Ev.bind hF (Ev.pos rfl (Ev.bind (max_ev r (by omega) g hg) (Ev.bind (indexMax_ev r (by omega) g hg) (Ev.now _))))
  have hgl := hg.1
  have er : rd r (g : Int) = r.getD g 0 := rfl
  refine Ev.bind d1 (Ev.bind d2 (Ev.bind hF (Ev.bind hH (Ev.bind hP ?_))))
  refine Ev.pos rfl (Ev.pos (by show (r.length : Int) = 24; omega) (Ev.pos rfl (Ev.pos rfl (Ev.neg (by show ¬ (g : Int) < 0; omega) (Ev.neg (by show ¬ (g : Int) ≥ 24; omega) (Ev.pos (by show 0 ≤ (g : Int); omega) (Ev.pos (by show (g : Int) < (r.length : Int); omega) (Ev.succ ?_))))))))
  simp only [laws_FnForecasts.j0, er]
  refine Ev.neg (by simp) ?_
  exact l0_true x1 b1 l hn hv vt r hr hb g hg r.length 0 0 (by omega) (by rw [List.drop_zero, Int.zero_add]) (by omega) (by omega)
end Go.Proofs.Ytjccjmjnlblhaaa.Pure
