/- DivideI: money divided by weights by the program: the parts add up, and each is its share but for rounding. Conditions: at most 12 weights from 0 to 1000000, money from 0 to 1000000000. -/
import Derived.Test.YtglhbjmagfchiaaQSharesx2
import Derived.Test.YtglhbjmagfchiaaQSharesxL
import Derived.Test.YtglhbjmagfchiaaQSharesxDDivI
namespace Go.Proofs.Ytglhbjmagfchiaa.QShares
open Go.RowKit Go.Proofs.YtglhbjmagfchiaaW.PrintWords Go.Proofs.Ytglhbjmagfchiaa.QOpen Go.Proofs.Ytglhbjmagfchiaa.QEv
set_option linter.unusedVariables false
set_option linter.unusedSimpArgs false
def WOk (w : List Int) : Prop := w.length ≤ 12 ∧ ∀ j, j < w.length → 0 ≤ w.getD j 0 ∧ w.getD j 0 ≤ 1000000
def sumL : List Int → Int
  | [] => 0
  | x :: l => x + sumL l
theorem sumL_app : ∀ (l : List Int) (x : Int), sumL (l ++ [x]) = sumL l + x
  | [], x => by simp [sumL]
  | y :: l, x => by
    rw [List.cons_append, sumL, sumL, sumL_app l x]
    omega
theorem sumL_le (w : List Int) (hw : WOk w) : ∀ (d i : Nat), i + d = w.length → 0 ≤ sumL (w.drop i) ∧ sumL (w.drop i) ≤ (d : Int) * 1000000 := by
  intro d
  induction d with
  | zero =>
    intro i hi
    rw [drop_end _ _ hi]
    simp [sumL]
  | succ d ih =>
    intro i hi
    obtain ⟨a, b⟩ := ih (i + 1) (by omega)
    obtain ⟨p, q⟩ := hw.2 i (by omega)
    rw [drop_step w i 0 (by omega), sumL]
    omega
theorem sumOfI (w : List Int) (hw : WOk w) : ∀ (d i : Nat) (acc : Int), i + d = w.length → 0 ≤ acc → acc ≤ (i : Int) * 1000000 → Ev (fun k => impl_sumOf.l0 k acc w (w.length : Int) (i : Int)) (acc + sumL (w.drop i)) := by
  obtain ⟨hn, hv⟩ := hw
  intro d
  induction d with
  | zero =>
    intro i acc hi h0 h1
    rw [drop_end _ _ hi]
    refine Ev.succ ?_
    simp only [impl_sumOf.l0]
    exact Ev.neg (by omega) (Ev.eqn (Ev.now _) (by simp [sumL]))
  | succ d ih =>
    intro i acc hi h0 h1
    have hj := hv i (by omega)
    have e0 : rd w (i : Int) = w.getD i 0 := rfl
    rw [drop_step w i 0 (by omega), sumL, ← Int.add_assoc]
    have wa : wrap64 (acc + w.getD i 0) = acc + w.getD i 0 := wid (by omega) (by omega)
    have h := ih (i + 1) (acc + w.getD i 0) (by omega) (by omega) (by omega)
    refine Ev.succ ?_
    simp only [impl_sumOf.l0, e0, wa, wnat i (by omega)]
    exact Ev.pos (by omega) (Ev.pos (by omega) (Ev.pos (by omega) h))
def rnd (m a s : Int) : Int := (2 * (m * s) + a) / (2 * a)
def PartOk (m a w r : Int) : Prop := m * w / a ≤ r ∧ r ≤ m * w / a + 1 ∧ (w = 0 → r = 0)
theorem part_ok (m a s w : Int) (ha : 0 < a) : PartOk m a w (rnd m a (s + w) - rnd m a s) := by
  unfold PartOk rnd
  have e : m * (s + w) = m * s + m * w := Int.mul_add _ _ _
  rw [e]
  generalize m * s = X
  generalize hY : m * w = Y
  have r0 := Int.emod_nonneg Y (by omega : a ≠ 0)
  have r1 := Int.emod_lt_of_pos Y ha
  have d := Int.emod_add_mul_ediv Y a
  generalize Y / a = q at *
  generalize hr : Y % a = r at *
  have e1 : 2 * (X + Y) + a = (2 * X + a + 2 * r) + 2 * a * q := by
    have : 2 * a * q = 2 * (a * q) := by rw [Int.mul_assoc]
    omega
  rw [e1, Int.add_mul_ediv_left _ _ (by omega)]
  have k0 : (2 * X + a) / (2 * a) ≤ (2 * X + a + 2 * r) / (2 * a) := Int.ediv_le_ediv (by omega) (by omega)
  have k1 : (2 * X + a + 2 * r) / (2 * a) ≤ (2 * X + a) / (2 * a) + 1 := by
    have : (2 * X + a) / (2 * a) + 1 = (2 * X + a + 2 * a * 1) / (2 * a) := by rw [Int.add_mul_ediv_left _ _ (by omega)]
    rw [this]
    exact Int.ediv_le_ediv (by omega) (by omega)
  refine ⟨by omega, by omega, fun hw => ?_⟩
  subst hw
  rw [Int.mul_zero] at hY
  subst hY
  have q0 : q = 0 := by
    have : a * q ≤ 0 := by omega
    by_cases c : q = 0
    · exact c
    · exfalso
      by_cases c1 : 0 < q
      · have := Int.mul_pos ha c1
        omega
      · have h2 : a * q ≤ a * (-1) := Int.mul_le_mul_of_nonneg_left (by omega) (by omega)
        omega
  subst q0
  rw [Int.mul_zero, Int.add_zero] at d
  subst d
  rw [Int.mul_zero, Int.add_zero, Int.add_zero, Int.sub_self]
theorem rnd_all (m a : Int) (ha : 0 < a) : rnd m a a = m := by
  unfold rnd
  have e : 2 * (m * a) + a = a + 2 * a * m := by
    have : 2 * a * m = 2 * (m * a) := by rw [Int.mul_assoc, Int.mul_comm a m]
    omega
  rw [e, Int.add_mul_ediv_left _ _ (by omega), Int.ediv_eq_zero_of_lt (by omega) (by omega)]
  omega
theorem rnd_zero (m a : Int) (ha : 0 < a) : rnd m a 0 = 0 := by
  unfold rnd
  rw [Int.mul_zero, Int.mul_zero, Int.ediv_eq_zero_of_lt (by omega) (by omega)]
theorem prodI_le (m a : Int) (h0 : 0 ≤ m) (h1 : m ≤ 1000000000) (a0 : 0 ≤ a) (a1 : a ≤ 12000000) : 0 ≤ m * a ∧ m * a ≤ 12000000000000000 :=
  ⟨Int.mul_nonneg h0 a0, Int.le_trans (Int.mul_le_mul h1 a1 a0 (by omega)) (by omega)⟩
theorem getD_app (l : List Int) (x : Int) (j : Nat) : (l ++ [x]).getD j 0 = if j = l.length then x else l.getD j 0 := by
  rw [List.getD_eq_getElem?_getD, List.getD_eq_getElem?_getD]
  by_cases c : j < l.length
  · rw [List.getElem?_append_left c, if_neg (by omega)]
  · rw [List.getElem?_append_right (by omega)]
    by_cases e : j = l.length
    · subst e
      simp
    · rw [if_neg e, List.getElem?_eq_none (by simp; omega), List.getElem?_eq_none (by omega)]
theorem divLoopI (m : Int) (h0 : 0 ≤ m) (h1 : m ≤ 1000000000) (w : List Int) (hw : WOk w) (s : Int) (hs : 0 < s) (hs1 : s ≤ 12000000) : ∀ (d i : Nat) (acc : Int) (out : List Int), i + d = w.length → 0 ≤ acc → acc + sumL (w.drop i) = s → out.length = i → sumL out = rnd m s acc → (∀ j, j < i → PartOk m s (w.getD j 0) (out.getD j 0)) →
    ∃ r : List Int, Ev (fun k => impl_divide.l0 k m s acc (rnd m s acc) out w (w.length : Int) (i : Int)) (r, true) ∧ r.length = w.length ∧ sumL r = m ∧ (∀ j, j < w.length → PartOk m s (w.getD j 0) (r.getD j 0)) := by
  have hn := hw.1
  intro d
  induction d with
  | zero =>
    intro i acc out hi a0 a1 ho hsum hp
    rw [drop_end _ _ hi, sumL, Int.add_zero] at a1
    subst a1
    rw [rnd_all m acc hs] at hsum
    refine ⟨out, Ev.succ ?_, by omega, hsum, fun j hj => hp j (by omega)⟩
    simp only [impl_divide.l0]
    exact Ev.neg (by omega) (Ev.now _)
  | succ d ih =>
    intro i acc out hi a0 a1 ho hsum hp
    have hj := hw.2 i (by omega)
    have e0 : rd w (i : Int) = w.getD i 0 := rfl
    obtain ⟨t0, _⟩ := sumL_le w hw d (i + 1) (by omega)
    rw [drop_step w i 0 (by omega), sumL, ← Int.add_assoc] at a1
    have pk := part_ok m s acc (w.getD i 0) hs
    generalize hx : w.getD i 0 = x at *
    have wa : wrap64 (acc + x) = acc + x := wid (by omega) (by omega)
    obtain ⟨p0, p1⟩ := prodI_le m (acc + x) h0 h1 (by omega) (by omega)
    obtain ⟨z0, z1⟩ := prodI_le m acc h0 h1 (by omega) (by omega)
    have wp : wrap64 ((acc + x) * m) = m * (acc + x) := by rw [Int.mul_comm]; exact wid (by omega) (by omega)
    have dv := divRound_eq (m * (acc + x)) s p0 (by omega) hs (by omega)
    have eR : (2 * (m * (acc + x)) + s) / (2 * s) = rnd m s (acc + x) := rfl
    rw [eR] at dv
    have b0 : 0 ≤ rnd m s (acc + x) ∧ rnd m s (acc + x) ≤ 1000000000000000000 := by
      unfold rnd
      have : (2 * (m * (acc + x)) + s) / (2 * s) ≤ 2 * (m * (acc + x)) + s := Int.ediv_le_self _ (by omega)
      exact ⟨Int.ediv_nonneg (by omega) (by omega), by omega⟩
    have b1 : 0 ≤ rnd m s acc ∧ rnd m s acc ≤ 1000000000000000000 := by
      unfold rnd
      have : (2 * (m * acc) + s) / (2 * s) ≤ 2 * (m * acc) + s := Int.ediv_le_self _ (by omega)
      exact ⟨Int.ediv_nonneg (by omega) (by omega), by omega⟩
    have wv : wrap64 (rnd m s (acc + x) - rnd m s acc) = rnd m s (acc + x) - rnd m s acc := wid (by omega) (by omega)
    have wl : wrap64 (rnd m s acc + (rnd m s (acc + x) - rnd m s acc)) = rnd m s (acc + x) := by rw [wid (by omega) (by omega)]; omega
    obtain ⟨r, g1, g2, g3, g4⟩ := ih (i + 1) (acc + x) (out ++ [rnd m s (acc + x) - rnd m s acc]) (by omega) (by omega) a1 (by simp; omega) (by rw [sumL_app, hsum]; omega) (fun j hj2 => by
      rw [getD_app]
      by_cases e : j = i
      · rw [if_pos (by omega), e, hx]
        exact pk
      · rw [if_neg (by omega)]
        exact hp j (by omega))
    refine ⟨r, Ev.succ ?_, g2, g3, g4⟩
    simp only [impl_divide.l0, e0, wa, wp, dv, Option.bind_some, wv, wl, wnat i (by omega)]
    exact Ev.pos (by omega) (Ev.pos (by omega) (Ev.pos (by omega) (Ev.pos (by omega) g1)))
theorem divideI (m : Int) (h0 : 0 ≤ m) (h1 : m ≤ 1000000000) (w : List Int) (hw : WOk w) :
    (sumL w = 0 ∧ Ev (fun k => impl_divide.f k m w) ([], false)) ∨ (0 < sumL w ∧ ∃ r : List Int, Ev (fun k => impl_divide.f k m w) (r, true) ∧ r.length = w.length ∧ sumL r = m ∧ (∀ j, j < w.length → PartOk m (sumL w) (w.getD j 0) (r.getD j 0))) := by
  have hs := sumOfI w hw w.length 0 0 (by omega) (by omega) (by omega)
  rw [List.drop_zero, Int.zero_add] at hs
  have hs' : Ev (fun k => impl_sumOf.f k w) (sumL w) := by
    simp only [impl_sumOf.f]
    exact hs
  obtain ⟨a, b⟩ := sumL_le w hw w.length 0 (by omega)
  rw [List.drop_zero] at a b
  have hn := hw.1
  by_cases e : sumL w = 0
  · refine Or.inl ⟨e, ?_⟩
    simp only [impl_divide.f]
    exact Ev.bind hs' (Ev.pos e (Ev.now _))
  · obtain ⟨r, g1, g2, g3, g4⟩ := divLoopI m h0 h1 w hw (sumL w) (by omega) (by omega) w.length 0 0 [] (by omega) (by omega) (by rw [List.drop_zero]; omega) rfl (by rw [rnd_zero m _ (by omega)]; rfl) (fun j hj => absurd hj (by omega))
    rw [rnd_zero m _ (by omega)] at g1
    refine Or.inr ⟨by omega, r, ?_, g2, g3, g4⟩
    simp only [impl_divide.f]
    exact Ev.bind hs' (Ev.neg e g1)
theorem part_nonneg (m a w r : Int) (h : PartOk m a w r) (ha : 0 < a) (h0 : 0 ≤ m) (hw : 0 ≤ w) : 0 ≤ r := by
  have := Int.ediv_nonneg (Int.mul_nonneg h0 hw) (show 0 ≤ a by omega)
  have := h.1
  omega
theorem part_mono (m a v r w q : Int) (h : PartOk m a v r) (k : PartOk m a w q) (ha : 0 < a) (h0 : 0 ≤ m) (hw : w ≤ v) : q - 1 ≤ r := by
  have e : m * w ≤ m * v := Int.mul_le_mul_of_nonneg_left hw h0
  have := Int.ediv_le_ediv ha e
  have := h.1
  have := k.2.1
  omega
end Go.Proofs.Ytglhbjmagfchiaa.QShares
