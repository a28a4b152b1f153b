/- FnShares: money that is divided adds up to the cent, larger weights never pay less but for rounding, and bills are what is to be paid. Conditions: none beyond the statement's own guard. -/
import Derived.Test.YtglhbjmagfchiaaQSharesx1
import Derived.Test.YtglhbjmagfchiaaQSharesx2
import Derived.Test.YtglhbjmagfchiaaQSharesx3
import Derived.Test.YtglhbjmagfchiaaQSharesx5
import Derived.Test.YtglhbjmagfchiaaQSharesx6
import Derived.Test.YtglhbjmagfchiaaQSharesx7
import Derived.Test.YtglhbjmagfchiaaQSharesx8
import Derived.Test.YtglhbjmagfchiaaQSharesxL
import Derived.Test.YtglhbjmagfchiaaQSharesxDDrawShares
import Derived.Test.YtglhbjmagfchiaaQSharesxDDivideI
import Derived.Test.YtglhbjmagfchiaaQSharesxDTenantsI
import Derived.Test.YtglhbjmagfchiaaQSharesxDFirstMax
namespace Go.Proofs.Ytglhbjmagfchiaa.Pure
open Go.RowKit Go.Proofs.Ytglhbjmagfchiaa.QShares Go.Proofs.YtglhbjmagfchiaaW.PrintWords Go.Proofs.Ytglhbjmagfchiaa.QOpen Go.Proofs.Ytglhbjmagfchiaa.QEv
set_option linter.unusedVariables false
set_option linter.unusedSimpArgs false
theorem areasI (l : List S243) (hl : l.length ≤ 12) : ∀ (d i : Nat) (acc : List Int), i + d = l.length → acc.length = i → Ev (fun k => impl_areasOf.l0 k acc l (l.length : Int) (i : Int)) (acc ++ (l.drop i).map (·.f1)) := by
  intro d
  induction d with
  | zero =>
    intro i acc hi ha
    rw [drop_end _ _ hi]
    refine Ev.succ ?_
    simp only [impl_areasOf.l0]
    exact Ev.neg (by omega) (Ev.eqn (Ev.now _) (by simp))
  | succ d ih =>
    intro i acc hi ha
    have h2 := ih (i + 1) (acc ++ [(rd_T243 l (i : Int)).f1]) (by omega) (by simp; omega)
    have e : acc ++ (l.drop i).map (·.f1) = (acc ++ [(rd_T243 l (i : Int)).f1]) ++ (l.drop (i + 1)).map (·.f1) := by
      rw [drop_step l i z243 (by omega)]
      simp
      rfl
    rw [e]
    refine Ev.succ ?_
    simp only [impl_areasOf.l0, wnat i (by omega)]
    exact Ev.pos (by omega) (Ev.pos (by omega) (Ev.pos (by omega) (Ev.pos (by omega) h2)))
theorem unitsI (l : List S243) (hl : l.length ≤ 12) : ∀ (d i : Nat) (acc : List Int), i + d = l.length → acc.length = i → Ev (fun k => impl_unitsOf.l0 k acc l (l.length : Int) (i : Int)) (acc ++ (l.drop i).map (·.f2)) := by
  intro d
  induction d with
  | zero =>
    intro i acc hi ha
    rw [drop_end _ _ hi]
    refine Ev.succ ?_
    simp only [impl_unitsOf.l0]
    exact Ev.neg (by omega) (Ev.eqn (Ev.now _) (by simp))
  | succ d ih =>
    intro i acc hi ha
    have h2 := ih (i + 1) (acc ++ [(rd_T243 l (i : Int)).f2]) (by omega) (by simp; omega)
    have e : acc ++ (l.drop i).map (·.f2) = (acc ++ [(rd_T243 l (i : Int)).f2]) ++ (l.drop (i + 1)).map (·.f2) := by
      rw [drop_step l i z243 (by omega)]
      simp
      rfl
    rw [e]
    refine Ev.succ ?_
    simp only [impl_unitsOf.l0, wnat i (by omega)]
    exact Ev.pos (by omega) (Ev.pos (by omega) (Ev.pos (by omega) (Ev.pos (by omega) h2)))
theorem wokA (l : List S243) (hl : l.length ≤ 12) (hd : ∀ j, j < l.length → TenantOk (l.getD j z243)) : WOk (l.map (·.f1)) ∧ (l ≠ [] → 0 < sumL (l.map (·.f1))) := by
  have g : ∀ j, j < l.length → (l.map (·.f1)).getD j 0 = (l.getD j z243).f1 := fun j hj => getD_map (·.f1) l j z243 0 hj
  have w : WOk (l.map (·.f1)) := by
    refine ⟨by simpa using hl, fun j hj => ?_⟩
    have hj' : j < l.length := by simpa using hj
    rw [g j hj']
    obtain ⟨a, b, c, d⟩ := hd j hj'
    omega
  refine ⟨w, fun hne => ?_⟩
  have hp := List.length_pos_iff.2 hne
  obtain ⟨t0, _⟩ := sumL_le _ w ((l.map (·.f1)).length - 1) 1 (by simp; omega)
  have h0 := (hd 0 hp).1
  have e := drop_step (l.map (·.f1)) 0 0 (by simp; omega)
  rw [List.drop_zero] at e
  have t1 : 0 ≤ sumL ((l.map (·.f1)).drop (0 + 1)) := t0
  rw [e, sumL, g 0 hp]
  omega
theorem wokU (l : List S243) (hl : l.length ≤ 12) (hd : ∀ j, j < l.length → TenantOk (l.getD j z243)) : WOk (l.map (·.f2)) := by
  refine ⟨by simpa using hl, fun j hj => ?_⟩
  have hj' : j < l.length := by simpa using hj
  rw [getD_map (·.f2) l j z243 0 hj']
  obtain ⟨a, b, c, d⟩ := hd j hj'
  omega
theorem sumL_set : ∀ (l : List Int) (i : Nat) (v : Int), i < l.length → sumL (l.set i v) = sumL l - l.getD i 0 + v
  | [], i, v, h => by simp at h
  | x :: l, 0, v, h => by
    simp only [List.set_cons_zero, sumL, List.getD_cons_zero]
    omega
  | x :: l, i + 1, v, h => by
    have := sumL_set l i v (by simpa using h)
    simp only [List.set_cons_succ, sumL, List.getD_cons_succ, this]
    omega
theorem addI (b : List Int) (hb : b.length ≤ 12) (hbb : ∀ j, j < b.length → 0 ≤ b.getD j 0 ∧ b.getD j 0 ≤ 1000000001) : ∀ (d i : Nat) (a : List Int), i + d = a.length → a.length = b.length → (∀ j, j < a.length → 0 ≤ a.getD j 0 ∧ a.getD j 0 ≤ 2000000002) → (∀ j, i ≤ j → j < a.length → a.getD j 0 ≤ 1000000001) →
    ∃ r : List Int, Ev (fun k => impl_heatBill.l0 k a b (b.length : Int) (i : Int)) r ∧ r.length = a.length ∧ sumL r = sumL a + sumL (b.drop i) ∧ (∀ j, j < r.length → 0 ≤ r.getD j 0 ∧ r.getD j 0 ≤ 2000000002) := by
  intro d
  induction d with
  | zero =>
    intro i a hi hab ha ha2
    refine ⟨a, Ev.succ ?_, rfl, by rw [drop_end b i (by omega), sumL]; omega, ha⟩
    simp only [impl_heatBill.l0]
    exact Ev.neg (by omega) (Ev.now _)
  | succ d ih =>
    intro i a hi hab ha ha2
    have ea : rd a (i : Int) = a.getD i 0 := rfl
    have eb : rd b (i : Int) = b.getD i 0 := rfl
    obtain ⟨p0, p1⟩ := ha i (by omega)
    have p2 := ha2 i (by omega) (by omega)
    obtain ⟨q0, q1⟩ := hbb i (by omega)
    have w : wrap64 (a.getD i 0 + b.getD i 0) = a.getD i 0 + b.getD i 0 := wid (by omega) (by omega)
    obtain ⟨r, h1, h2, h3, h4⟩ := ih (i + 1) (a.set i (a.getD i 0 + b.getD i 0)) (by simp; omega) (by simpa using hab) (fun j hj => by
      rw [getD_set a i j _ 0 (by omega)]
      split
      · omega
      · exact ha j (by simpa using hj)) (fun j hj hj2 => by
      rw [getD_set a i j _ 0 (by omega), if_neg (by omega)]
      exact ha2 j (by omega) (by simpa using hj2))
    refine ⟨r, Ev.succ ?_, by simpa using h2, ?_, h4⟩
    · simp only [impl_heatBill.l0, ea, eb, w, wnat i (by omega), Int.toNat_natCast]
      exact Ev.pos (by omega) (Ev.pos (by omega) (Ev.pos (by omega) (Ev.pos (by omega) h1)))
    · rw [h3, sumL_set a i _ (by omega), drop_step b i 0 (by omega), sumL]
      omega
theorem getD_le_sum (l : List Int) (M : Int) (h : ∀ j, j < l.length → 0 ≤ l.getD j 0) (hs : sumL l = M) : ∀ j, j < l.length → l.getD j 0 ≤ M := by
  subst hs
  induction l with
  | nil => intro j hj; simp at hj
  | cons x l ih =>
    have h' : ∀ j, j < l.length → 0 ≤ l.getD j 0 := fun j hj => by
      have := h (j + 1) (by simpa using hj)
      rwa [List.getD_cons_succ] at this
    have hx : 0 ≤ x := h 0 (by simp)
    have ihs := ih h'
    have sn : 0 ≤ sumL l := by
      clear ih ihs hx
      induction l with
      | nil => simp [sumL]
      | cons y l ih2 =>
        have a := h' 0 (by simp)
        rw [List.getD_cons_zero] at a
        have b := ih2 (fun j hj => by
          cases j with
          | zero => exact h 0 (by simp)
          | succ j =>
            have := h' (j + 1) (by simp only [List.length_cons] at hj ⊢; omega)
            rwa [List.getD_cons_succ] at this ⊢) (fun j hj => by
          have := h' (j + 1) (by simpa using hj)
          rwa [List.getD_cons_succ] at this)
        rw [sumL]
        omega
    intro j hj
    cases j with
    | zero =>
      rw [List.getD_cons_zero, sumL]
      omega
    | succ j =>
      have := ihs j (by simpa using hj)
      rw [List.getD_cons_succ, sumL]
      omega
theorem parts_fine (m a : Int) (w r : List Int) (ha : 0 < a) (h0 : 0 ≤ m) (hw : WOk w) (hl : r.length = w.length) (hs : sumL r = m) (hp : ∀ j, j < w.length → PartOk m a (w.getD j 0) (r.getD j 0)) : (∀ j, j < r.length → 0 ≤ r.getD j 0 ∧ r.getD j 0 ≤ m) := fun j hj => by
  have n : ∀ j, j < r.length → 0 ≤ r.getD j 0 := fun j hj => part_nonneg m a _ _ (hp j (by omega)) ha h0 (hw.2 j (by omega)).1
  exact ⟨n j hj, getD_le_sum r m n hs j hj⟩
theorem billI (l : List S243) (hn : l.length ≤ 1000) (hz : NamesOk l) (m f : Int) : ∃ (r : List Int) (c : Int), Ev (fun k => impl_HeatBill.f k l m f) (r, c) ∧ (c ≠ 0 → r = []) ∧
    (c = 0 → r.length = l.length ∧ 0 < r.length ∧ r.length ≤ 12 ∧ sumL r = m ∧ 0 ≤ m ∧ m ≤ 1000000000 ∧ ∀ j, j < r.length → 0 ≤ r.getD j 0 ∧ r.getD j 0 ≤ 2000000002) := by
  obtain ⟨v, h2, h3⟩ := tenantsI l hn (fun j hj => by have := hz _ (getD_mem l j z243 hj); omega)
  simp only [impl_HeatBill.f, impl_moneyOk.f, within_eq, Option.bind_some, decide_eq_true_eq]
  cases v with
  | false => exact ⟨[], 1, Ev.bind h2 (Ev.neg (by decide) (Ev.now _)), fun _ => rfl, fun h => by cases h⟩
  | true =>
    obtain ⟨hn, hd⟩ := h3 rfl
    by_cases c1 : 0 ≤ m ∧ m ≤ 1000000000
    · by_cases c2 : 0 ≤ f ∧ f ≤ 1000
      · by_cases e : l = []
        · refine ⟨[], 6, Ev.bind h2 (Ev.pos rfl (Ev.pos c1 (Ev.succ ?_))), fun _ => rfl, fun h => by cases h⟩
          simp only [impl_HeatBill.j0]
          exact Ev.neg (by simp [c2]) (Ev.pos (by simp [e]) (Ev.now _))
        · have hpos := List.length_pos_iff.2 e
          have a : m * f ≤ m * 1000 := Int.mul_le_mul_of_nonneg_left c2.2 c1.1
          have b := Int.mul_nonneg c1.1 c2.1
          have wp : wrap64 (m * f) = m * f := wid (by omega) (by omega)
          have dv := divRound_eq (m * f) 1000 b (by omega) (by omega) (by omega)
          have p0 : 0 ≤ (2 * (m * f) + 1000) / (2 * 1000) := by omega
          have p1 : (2 * (m * f) + 1000) / (2 * 1000) ≤ m := by omega
          generalize (2 * (m * f) + 1000) / (2 * 1000) = p at *
          have wq : wrap64 (m - p) = m - p := wid (by omega) (by omega)
          obtain ⟨wa, wpos⟩ := wokA l hn hd
          have wu := wokU l hn hd
          have hA : Ev (fun k => impl_areasOf.f k l) (l.map (·.f1)) := by
            simp only [impl_areasOf.f]
            exact Ev.eqn (areasI l hn l.length 0 [] (by omega) rfl) (by simp)
          have hU : Ev (fun k => impl_unitsOf.f k l) (l.map (·.f2)) := by
            simp only [impl_unitsOf.f]
            exact Ev.eqn (unitsI l hn l.length 0 [] (by omega) rfl) (by simp)
          have key : ∀ ra rb : List Int, ra.length = l.length → rb.length = l.length → sumL ra = p → sumL rb = m - p → (∀ j, j < ra.length → 0 ≤ ra.getD j 0 ∧ ra.getD j 0 ≤ p) → (∀ j, j < rb.length → 0 ≤ rb.getD j 0 ∧ rb.getD j 0 ≤ m - p) →
              ∃ r : List Int, Ev (fun k => impl_heatBill.j0 k ra rb) r ∧ r.length = l.length ∧ sumL r = m ∧ ∀ j, j < r.length → 0 ≤ r.getD j 0 ∧ r.getD j 0 ≤ 2000000002 := fun ra rb la lb sa sb ba bb => by
            obtain ⟨r, g1, g2, g3, g4⟩ := addI rb (by omega) (fun j hj => by have := bb j hj; omega) ra.length 0 ra (by omega) (by omega) (fun j hj => by have := ba j hj; omega) (fun j _ hj => by have := ba j hj; omega)
            rw [List.drop_zero] at g3
            refine ⟨r, Ev.succ ?_, by omega, by omega, g4⟩
            simp only [impl_heatBill.j0]
            exact g1
          have fin : ∀ r : List Int, Ev (fun k => impl_heatBill.f k l m f) r → r.length = l.length → sumL r = m → (∀ j, j < r.length → 0 ≤ r.getD j 0 ∧ r.getD j 0 ≤ 2000000002) → ∃ (r : List Int) (c : Int), Ev (fun k => (impl_ValidTenants.f k l).bind fun t364 => (if t364 = true then (if 0 ≤ m ∧ m ≤ 1000000000 then impl_HeatBill.j0 k l m f (!decide (0 ≤ f ∧ f ≤ 1000)) else (impl_HeatBill.j0 k l m f true)) else (some (([] : List Int), 1)))) (r, c) ∧ (c ≠ 0 → r = []) ∧
              (c = 0 → r.length = l.length ∧ 0 < r.length ∧ r.length ≤ 12 ∧ sumL r = m ∧ 0 ≤ m ∧ m ≤ 1000000000 ∧ ∀ j, j < r.length → 0 ≤ r.getD j 0 ∧ r.getD j 0 ≤ 2000000002) := fun r g1 g2 g3 g4 => by
            refine ⟨r, 0, Ev.bind h2 (Ev.pos rfl (Ev.pos c1 (Ev.succ ?_))), fun h => absurd rfl h, fun _ => ⟨g2, by omega, by omega, g3, c1.1, c1.2, g4⟩⟩
            simp only [impl_HeatBill.j0]
            exact Ev.neg (by simp [c2]) (Ev.neg (by omega) (Ev.bind g1 (Ev.now _)))
          have ll1 : (l.map (·.f1)).length = l.length := by simp
          have ll2 : (l.map (·.f2)).length = l.length := by simp
          rcases divideI p p0 (by omega) _ wa with ⟨z, _⟩ | ⟨z, ra, x1, x2, x3, x4⟩
          · have := wpos e
            omega
          · have fa := parts_fine p _ _ ra z p0 wa x2 x3 x4
            rcases divideI (m - p) (by omega) (by omega) _ wu with ⟨y0, y1⟩ | ⟨y0, rb, y1, y2, y3, y4⟩
            · rcases divideI (m - p) (by omega) (by omega) _ wa with ⟨z2, _⟩ | ⟨z2, rb, u1, u2, u3, u4⟩
              · have := wpos e
                omega
              · have fb := parts_fine (m - p) _ _ rb z2 (by omega) wa u2 u3 u4
                obtain ⟨r, k1, k2, k3, k4⟩ := key ra rb (by omega) (by omega) x3 u3 fa fb
                refine fin r ?_ k2 k3 k4
                simp only [impl_heatBill.f, wp, dv, Option.bind_some, wq]
                exact Ev.bind hA (Ev.bind x1 (Ev.bind hU (Ev.bind y1 (Ev.neg (by simp) (Ev.bind hA (Ev.bind u1 k1))))))
            · have fb := parts_fine (m - p) _ _ rb y0 (by omega) wu y2 y3 y4
              obtain ⟨r, k1, k2, k3, k4⟩ := key ra rb (by omega) (by omega) x3 y3 fa fb
              refine fin r ?_ k2 k3 k4
              simp only [impl_heatBill.f, wp, dv, Option.bind_some, wq]
              exact Ev.bind hA (Ev.bind x1 (Ev.bind hU (Ev.bind y1 (Ev.pos rfl k1))))
      · refine ⟨[], 2, Ev.bind h2 (Ev.pos rfl (Ev.pos c1 (Ev.succ ?_))), fun _ => rfl, fun h => by cases h⟩
        simp only [impl_HeatBill.j0]
        exact Ev.pos (by simp; omega) (Ev.now _)
    · refine ⟨[], 2, Ev.bind h2 (Ev.pos rfl (Ev.neg c1 (Ev.succ ?_))), fun _ => rfl, fun h => by cases h⟩
      simp only [impl_HeatBill.j0]
      exact Ev.pos (by first | rfl | trivial) (Ev.now _)
theorem first_max (f : List Int) : ∀ n : Nat, 0 < n → n ≤ f.length → ∃ g, g < n ∧ (∀ j, j < n → f.getD j 0 ≤ f.getD g 0) ∧ (∀ j, j < g → f.getD j 0 < f.getD g 0) := by
  intro n
  induction n with
  | zero => intro h; omega
  | succ n ih =>
    intro _ hn
    by_cases c : n = 0
    · subst c
      exact ⟨0, by omega, fun j hj => by rw [show j = 0 by omega]; omega, fun j hj => by omega⟩
    · obtain ⟨g, h1, h2, h3⟩ := ih (by omega) (by omega)
      by_cases c2 : f.getD g 0 < f.getD n 0
      · refine ⟨n, by omega, fun j hj => ?_, fun j hj => ?_⟩
        · by_cases e : j = n
          · subst e; omega
          · have := h2 j (by omega); omega
        · have := h2 j hj; omega
      · refine ⟨g, by omega, fun j hj => ?_, h3⟩
        by_cases e : j = n
        · subst e; omega
        · exact h2 j (by omega)
theorem sumB (l : List Int) (hn : l.length ≤ 12) (hb : ∀ j, j < l.length → 0 ≤ l.getD j 0 ∧ l.getD j 0 ≤ 2000000002) : ∀ (d i : Nat) (acc : Int), i + d = l.length → 0 ≤ acc → acc ≤ (i : Int) * 2000000002 → Ev (fun k => laws_b10Sum.l0 k l acc (i : Int)) (acc + sumL (l.drop i)) := by
  intro d
  induction d with
  | zero =>
    intro i acc hi h0 h1
    rw [drop_end _ _ hi]
    refine Ev.succ ?_
    simp only [laws_b10Sum.l0]
    exact Ev.neg (by omega) (Ev.eqn (Ev.now _) (by simp [sumL]))
  | succ d ih =>
    intro i acc hi h0 h1
    have hj := hb i (by omega)
    have e0 : rd l (i : Int) = l.getD i 0 := rfl
    rw [drop_step l i 0 (by omega), sumL, ← Int.add_assoc]
    have wa : wrap64 (acc + l.getD i 0) = acc + l.getD i 0 := wid (by omega) (by omega)
    have h := ih (i + 1) (acc + l.getD i 0) (by omega) (by omega) (by omega)
    refine Ev.succ ?_
    simp only [laws_b10Sum.l0, e0, wa, wnat i (by omega)]
    exact Ev.pos (by omega) (Ev.pos (by omega) h)
theorem sumB_ev (l : List Int) (hn : l.length ≤ 12) (hb : ∀ j, j < l.length → 0 ≤ l.getD j 0 ∧ l.getD j 0 ≤ 2000000002) : Ev (fun k => laws_b10Sum.f k l) (sumL l) := by
  have h := sumB l hn hb l.length 0 0 (by omega) (by omega) (by omega)
  rw [List.drop_zero, Int.zero_add] at h
  simp only [laws_b10Sum.f]
  exact h
theorem mostLoop (r : List Int) (hn : r.length ≤ 12) (m : Int) (h : ∀ j, j < r.length → 0 ≤ r.getD j 0 ∧ r.getD j 0 ≤ m) : ∀ d i : Nat, i + d = r.length → Ev (fun k => laws_FnShares.l2 k r m (i : Int)) true := by
  intro d
  induction d with
  | zero =>
    intro i hi
    refine Ev.succ ?_
    simp only [laws_FnShares.l2]
    exact Ev.neg (by omega) (Ev.now _)
  | succ d ih =>
    intro i hi
    have g := ih (i + 1) (by omega)
    obtain ⟨a, b⟩ := h i (by omega)
    have e0 : rd r (i : Int) = r.getD i 0 := rfl
    refine Ev.succ ?_
    simp only [laws_FnShares.l2, e0, wnat i (by omega)]
    exact Ev.pos (by omega) (Ev.pos (by omega) (Ev.neg (by omega) (Ev.neg (by omega) g)))
theorem half2 (c : List Int) (hc : BytesOk c) : Ev (fun k => laws_FnShares.j5 k c) true := by
  obtain ⟨l, m, f, h1, h2, h3⟩ := drawLargest_ev c hc
  obtain ⟨r, e, g1, g2, g3⟩ := billI l h2 h3 m f
  refine Ev.succ ?_
  simp only [laws_FnShares.j5]
  refine Ev.bind h1 (Ev.bind g1 ?_)
  by_cases z : e = 0
  · obtain ⟨x1, x2, x3, x4, x5, x6, x7⟩ := g3 z
    obtain ⟨g, y1, y2, y3⟩ := first_max r r.length x2 (by omega)
    have hL : Ev (fun k => impl_LargestShare.f k l m f) ((g : Int), r.getD g 0, 0) := by
      simp only [impl_LargestShare.f]
      exact Ev.bind g1 (Ev.pos z (Ev.bind (max_ev r (by omega) g ⟨y1, y2, y3⟩) (Ev.bind (indexMax_ev r (by omega) g ⟨y1, y2, y3⟩) (Ev.now _))))
    have hS := sumB_ev r x3 x7
    rw [x4] at hS
    have eg : rd r (g : Int) = r.getD g 0 := rfl
    refine Ev.bind hL (Ev.pos z (Ev.pos z (Ev.pos (by dsimp only; omega) (Ev.bind hS (Ev.pos rfl (Ev.neg (by dsimp only; omega) (Ev.neg (by dsimp only; omega) (Ev.pos (by dsimp only; omega) (Ev.pos (by dsimp only; omega) (Ev.succ ?_))))))))))
    simp only [laws_FnShares.j6, eg]
    refine Ev.neg (by simp) ?_
    exact mostLoop r x3 (r.getD g 0) (fun j hj => ⟨(x7 j hj).1, y2 j hj⟩) r.length 0 (by omega)
  · have hL : Ev (fun k => impl_LargestShare.f k l m f) (0, 0, e) := by
      simp only [impl_LargestShare.f]
      exact Ev.bind g1 (Ev.neg z (Ev.now _))
    have hr := g2 z
    subst hr
    exact Ev.bind hL (Ev.pos rfl (Ev.neg z (Ev.pos (by simp) (Ev.pos rfl (Ev.now _)))))
theorem inner1 (c : List Int) (w r : List Int) (hl : r.length = w.length) (hn : r.length ≤ 12) (i : Nat) (hi : i < r.length) (hb : ∀ j, j < r.length → 0 ≤ r.getD j 0 ∧ r.getD j 0 ≤ 1000000000)
    (hm : ∀ k, k < r.length → w.getD k 0 ≤ w.getD i 0 → r.getD k 0 - 1 ≤ r.getD i 0) (hnext : Ev (fun k => laws_FnShares.l0 k c w r ((i + 1 : Nat) : Int)) true) : ∀ d j : Nat, j + d = r.length → Ev (fun k => laws_FnShares.l1 k c w r (i : Int) (j : Int)) true := by
  intro d
  induction d with
  | zero =>
    intro j hj
    refine Ev.succ ?_
    simp only [laws_FnShares.l1, wnat i (by omega)]
    exact Ev.neg (by omega) hnext
  | succ d ih =>
    intro j hj
    have g := ih (j + 1) (by omega)
    obtain ⟨b0, b1⟩ := hb j (by omega)
    have ei : rd r (i : Int) = r.getD i 0 := rfl
    have ej : rd r (j : Int) = r.getD j 0 := rfl
    have fi : rd w (i : Int) = w.getD i 0 := rfl
    have fj : rd w (j : Int) = w.getD j 0 := rfl
    have w1 : wrap64 (r.getD j 0 - 1) = r.getD j 0 - 1 := wid (by omega) (by omega)
    refine Ev.succ ?_
    simp only [laws_FnShares.l1, ei, ej, fi, fj, w1, wnat j (by omega)]
    refine Ev.pos (by omega) (Ev.pos (by omega) (Ev.pos (by omega) (Ev.pos (by omega) (Ev.pos (by omega) ?_))))
    by_cases q : w.getD i 0 ≥ w.getD j 0
    · have := hm j (by omega) (by omega)
      exact Ev.pos q (Ev.pos (by omega) (Ev.neg (by omega) g))
    · exact Ev.neg q g
theorem outer1 (c : List Int) (hc : Ev (fun k => laws_FnShares.j5 k c) true) (m a : Int) (ha : 0 < a) (h0 : 0 ≤ m) (h1 : m ≤ 1000000000) (w r : List Int) (hw : WOk w) (hl : r.length = w.length) (hs : sumL r = m) (hp : ∀ j, j < w.length → PartOk m a (w.getD j 0) (r.getD j 0)) : ∀ d i : Nat, i + d = r.length → Ev (fun k => laws_FnShares.l0 k c w r (i : Int)) true := by
  have hn := hw.1
  have hf := parts_fine m a w r ha h0 hw hl hs hp
  intro d
  induction d with
  | zero =>
    intro i hi
    refine Ev.succ ?_
    simp only [laws_FnShares.l0]
    exact Ev.neg (by omega) hc
  | succ d ih =>
    intro i hi
    have g := ih (i + 1) (by omega)
    have hin := inner1 c w r hl (by omega) i (by omega) (fun j hj => by have := hf j hj; omega) (fun k hk hwk => part_mono m a _ _ _ _ (hp i (by omega)) (hp k (by omega)) ha h0 hwk) g r.length 0 (by omega)
    have ei : rd r (i : Int) = r.getD i 0 := rfl
    have fi : rd w (i : Int) = w.getD i 0 := rfl
    obtain ⟨b0, b1⟩ := hf i (by omega)
    have hj3 : Ev (fun k => laws_FnShares.j3 k c w r (i : Int) false) true := by
      refine Ev.succ ?_
      simp only [laws_FnShares.j3]
      exact Ev.neg (by decide) hin
    refine Ev.succ ?_
    simp only [laws_FnShares.l0, ei, fi]
    refine Ev.pos (by omega) (Ev.pos (by omega) (Ev.neg (by omega) (Ev.pos (by omega) ?_)))
    by_cases q : w.getD i 0 = 0
    · have z := (hp i (by omega)).2.2 q
      rw [z]
      exact Ev.pos q hj3
    · exact Ev.neg q hj3
theorem FnShares : ∀ (x0 : List Int) (x1 : List Int), (wfL (wfI .u8)) x0 → (wfL (wfI .u8)) x1 → ∃ k, laws_FnShares.f k x0 x1 = some true := by
  intro x0 x1 hw0 hw1
  refine Ev.rounds (r := true) ?_
  simp only [laws_FnShares.f, laws_b10Long.f, Option.bind_some, decide_eq_true_eq]
  by_cases c0 : (x0.length : Int) > 1048576
  · refine Ev.pos c0 (Ev.succ ?_)
    simp only [laws_FnShares.j0]
    exact Ev.pos (by first | rfl | trivial) (Ev.now _)
  refine Ev.neg c0 (Ev.succ ?_)
  simp only [laws_FnShares.j0, decide_eq_true_eq]
  by_cases c1 : (x1.length : Int) > 1048576
  · exact Ev.pos c1 (Ev.now _)
  refine Ev.neg c1 ?_
  have b0 := bytes_of x0 hw0 (by omega)
  have b1 := bytes_of x1 hw1 (by omega)
  have h5 := half2 x1 b1
  obtain ⟨m, w, hd, hwl⟩ := drawDivide_ev x0 b0
  refine Ev.bind hd ?_
  have hj : ∀ b, (b = true) → Ev (fun k => impl_DivideMoney.j0 k m w b) ([], 2) := fun b hb => by
    refine Ev.succ ?_
    simp only [impl_DivideMoney.j0]
    exact Ev.pos hb (Ev.now _)
  by_cases q0 : 0 ≤ m ∧ m ≤ 1000000000
  · by_cases q1 : (w.length : Int) > 12
    · have hD : Ev (fun k => impl_DivideMoney.f k m w) ([], 2) := by
        simp only [impl_DivideMoney.f, impl_moneyOk.f, within_eq, Option.bind_some, decide_eq_true_eq]
        exact Ev.pos q0 (Ev.pos q1 (hj true rfl))
      exact Ev.bind hD (Ev.neg (by decide) h5)
    · have hi : impl_allWithin.f w 0 1000000 = some (w.all fun n => decide (0 ≤ n ∧ n ≤ 1000000)) := by
        simp only [impl_allWithin.f]
        rw [if_pos (by omega)]
      cases hq : w.all (fun n => decide (0 ≤ n ∧ n ≤ 1000000)) with
      | false =>
        have hD : Ev (fun k => impl_DivideMoney.f k m w) ([], 2) := by
          simp only [impl_DivideMoney.f, impl_moneyOk.f, within_eq, hi, hq, Option.bind_some, decide_eq_true_eq]
          exact Ev.pos q0 (Ev.neg q1 (hj _ rfl))
        exact Ev.bind hD (Ev.neg (by decide) h5)
      | true =>
        have hw : WOk w := ⟨by omega, fun j hj => by
          have := List.all_eq_true.1 hq _ (getD_mem w j 0 hj)
          simpa using this⟩
        rcases divideI m q0.1 q0.2 w hw with ⟨z, y⟩ | ⟨z, r, y1, y2, y3, y4⟩
        · have hD : Ev (fun k => impl_DivideMoney.f k m w) ([], 6) := by
            simp only [impl_DivideMoney.f, impl_moneyOk.f, within_eq, hi, hq, Option.bind_some, decide_eq_true_eq]
            refine Ev.pos q0 (Ev.neg q1 (Ev.succ ?_))
            simp only [impl_DivideMoney.j0]
            exact Ev.neg (by decide) (Ev.bind y (Ev.neg (by simp) (Ev.now _)))
          exact Ev.bind hD (Ev.neg (by decide) h5)
        · have hD : Ev (fun k => impl_DivideMoney.f k m w) (r, 0) := by
            simp only [impl_DivideMoney.f, impl_moneyOk.f, within_eq, hi, hq, Option.bind_some, decide_eq_true_eq]
            refine Ev.pos q0 (Ev.neg q1 (Ev.succ ?_))
            simp only [impl_DivideMoney.j0]
            exact Ev.neg (by decide) (Ev.bind y1 (Ev.pos rfl (Ev.now _)))
          have hf := parts_fine m _ w r z q0.1 hw y2 y3 y4
          have hS := sumB_ev r (by omega) (fun j hj => by have := hf j hj; omega)
          rw [y3] at hS
          refine Ev.bind hD (Ev.pos rfl (Ev.pos (by dsimp only; omega) (Ev.bind hS (Ev.succ ?_))))
          simp only [laws_FnShares.j1]
          refine Ev.neg (by simp) ?_
          exact outer1 x1 h5 m (sumL w) z q0.1 q0.2 w r hw y2 y3 y4 r.length 0 (by omega)
  · have hD : Ev (fun k => impl_DivideMoney.f k m w) ([], 2) := by
      simp only [impl_DivideMoney.f, impl_moneyOk.f, within_eq, Option.bind_some, decide_eq_true_eq]
      exact Ev.neg q0 (hj true rfl)
    exact Ev.bind hD (Ev.neg (by decide) h5)
end Go.Proofs.Ytglhbjmagfchiaa.Pure
