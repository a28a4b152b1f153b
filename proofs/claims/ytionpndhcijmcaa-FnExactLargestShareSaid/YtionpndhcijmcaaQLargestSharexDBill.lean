/- Bill: the bills of all tenants, by both sides. Conditions: none. -/
import Derived.Test.YtionpndhcijmcaaQLargestSharex2
import Derived.Test.YtionpndhcijmcaaQLargestSharex3
import Derived.Test.YtionpndhcijmcaaQLargestSharex5
import Derived.Test.YtionpndhcijmcaaQLargestSharex7
import Derived.Test.YtionpndhcijmcaaQLargestSharexL
import Derived.Test.YtionpndhcijmcaaQLargestSharexDDivide
namespace Go.Proofs.Ytionpndhcijmcaa.QLargestShare
open Go.RowKit Go.Proofs.YtionpndhcijmcaaW.PrintWords Go.Proofs.Ytionpndhcijmcaa.QOpen Go.Proofs.Ytionpndhcijmcaa.QEv
set_option linter.unusedVariables false
set_option linter.unusedSimpArgs false
theorem wok_areas (l : List S89) (hl : l.length ≤ 12) (hd : ∀ j, j < l.length → TenantOk (l.getD j z89)) : WOk (l.map (·.f1)) ∧ ∀ j, j < (l.map (·.f1)).length → 1 ≤ (l.map (·.f1)).getD j 0 := by
  have g : ∀ j, j < l.length → (l.map (·.f1)).getD j 0 = (l.getD j z89).f1 := fun j hj => getD_map (·.f1) l j z89 0 hj
  refine ⟨⟨by simpa using hl, fun j hj => ?_⟩, fun j hj => ?_⟩
  · have hj' : j < l.length := by simpa using hj
    rw [g j hj']
    obtain ⟨a, b, c, d⟩ := hd j hj'
    omega
  · have hj' : j < l.length := by simpa using hj
    rw [g j hj']
    exact (hd j hj').1
theorem wok_units (l : List S89) (hl : l.length ≤ 12) (hd : ∀ j, j < l.length → TenantOk (l.getD j z89)) : WOk (l.map (·.f2)) := by
  refine ⟨by simpa using hl, fun j hj => ?_⟩
  have hj' : j < l.length := by simpa using hj
  rw [getD_map (·.f2) l j z89 0 hj']
  obtain ⟨a, b, c, d⟩ := hd j hj'
  omega
theorem addLoop (b : List Int) : ∀ (d i : Nat) (a : List Int), i + d = a.length → a.length = b.length → a.length ≤ 12 →
    ∃ r : List Int, Ev (fun k => spec_l22Bill.l0 k a b (i : Int)) (r, 0) ∧ Ev (fun k => impl_heatBill.l0 k a b (b.length : Int) (i : Int)) r ∧ r.length = a.length := by
  intro d
  induction d with
  | zero =>
    intro i a hi hb hn
    refine ⟨a, Ev.succ ?_, Ev.succ ?_, rfl⟩
    · simp only [spec_l22Bill.l0]
      exact Ev.neg (by omega) (Ev.now _)
    · simp only [impl_heatBill.l0]
      exact Ev.neg (by omega) (Ev.now _)
  | succ d ih =>
    intro i a hi hb hn
    obtain ⟨r, h1, h2, h3⟩ := ih (i + 1) (a.set ((i : Int)).toNat (wrap64 (rd a (i : Int) + rd b (i : Int)))) (by simp; omega) (by simpa using hb) (by simpa using hn)
    refine ⟨r, Ev.succ ?_, Ev.succ ?_, by simpa using h3⟩
    · simp only [spec_l22Bill.l0, wnat i (by omega)]
      exact Ev.pos (by omega) (Ev.pos (by omega) (Ev.pos (by omega) h1))
    · simp only [impl_heatBill.l0, wnat i (by omega)]
      exact Ev.pos (by omega) (Ev.pos (by omega) (Ev.pos (by omega) (Ev.pos (by omega) h2)))
theorem part_le (m f : Int) (m0 : 0 ≤ m) (m1 : m ≤ 1000000000) (f0 : 0 ≤ f) (f1 : f ≤ 1000) : 0 ≤ m * f ∧ m * f ≤ 1000000000000 ∧ 0 ≤ (2 * (m * f) + 1000) / (2 * 1000) ∧ (2 * (m * f) + 1000) / (2 * 1000) ≤ m := by
  have a : m * f ≤ m * 1000 := Int.mul_le_mul_of_nonneg_left f1 m0
  have b := Int.mul_nonneg m0 f0
  refine ⟨b, by omega, by omega, by omega⟩
theorem bill_both (l : List S89) (hl : smL sm89 l) (m f : Int) : ∃ (r : List Int) (c : Int), Ev (fun k => spec_l22Bill.f k l m f) (r, c) ∧ Ev (fun k => impl_HeatBill.f k l m f) (r, c) ∧ r.length ≤ 12 ∧ (c = 0 → 0 < r.length) := by
  obtain ⟨v, h1, h2, h3⟩ := tenants_both l hl
  simp only [spec_l22Bill.f, impl_HeatBill.f, spec_l22Money.f, impl_moneyOk.f, spec_in_eq, impl_within_eq, Option.bind_some, decide_eq_true_eq]
  cases v with
  | false => exact ⟨[], 1, Ev.bind h1 (Ev.neg (by decide) (Ev.now _)), Ev.bind h2 (Ev.neg (by decide) (Ev.now _)), by simp, fun h => by cases h⟩
  | true =>
    obtain ⟨hn, hd⟩ := h3 rfl
    by_cases c1 : 0 ≤ m ∧ m ≤ 1000000000
    · by_cases c2 : 0 ≤ f ∧ f ≤ 1000
      · obtain ⟨p0, p1, q0, q1⟩ := part_le m f c1.1 c1.2 c2.1 c2.2
        have wp : wrap64 (m * f) = m * f := wid (by omega) (by omega)
        have d1 := l01Div_eq (m * f) 1000 p0 (by omega) (by omega) (by omega)
        have d2 := divRound_eq (m * f) 1000 p0 (by omega) (by omega) (by omega)
        generalize (2 * (m * f) + 1000) / (2 * 1000) = p at *
        have wq : wrap64 (m - p) = m - p := wid (by omega) (by omega)
        obtain ⟨ha1, ha2⟩ := areas_both l hn
        obtain ⟨hu1, hu2⟩ := units_both l hn
        obtain ⟨wa, wa1⟩ := wok_areas l hn hd
        have wu := wok_units l hn hd
        obtain ⟨ra, ba, x1, x2, x3, x4, x5⟩ := divide_both p q0 (by omega) _ wa
        obtain ⟨ru, bu, y1, y2, y3, _, _⟩ := divide_both (m - p) (by omega) (by omega) _ wu
        obtain ⟨rb, bb, z1, z2, z3, z4, z5⟩ := divide_both (m - p) (by omega) (by omega) _ wa
        by_cases e : l = []
        · have := x4 (by rw [e]; rfl)
          subst this
          refine ⟨[], 6, Ev.bind h1 (Ev.pos rfl (Ev.pos c1 (Ev.succ ?_))), Ev.bind h2 (Ev.pos rfl (Ev.pos c1 (Ev.succ ?_))), by simp, fun h => by cases h⟩
          · simp only [spec_l22Bill.j0, wp, d1, Option.bind_some]
            exact Ev.neg (by simp [c2]) (Ev.bind ha1 (Ev.bind x1 (Ev.neg (by simp) (Ev.now _))))
          · simp only [impl_HeatBill.j0]
            exact Ev.neg (by simp [c2]) (Ev.pos (by simp [e]) (Ev.now _))
        · have el : (l.map (·.f1)) ≠ [] := by simpa using e
          have := x5 wa1 el
          subst this
          have := z5 wa1 el
          subst this
          have la : ra.length = l.length := by simpa using x3 rfl
          have lb : rb.length = l.length := by simpa using z3 rfl
          have hpos := List.length_pos_iff.2 e
          have key : ∀ o : List Int, o.length = l.length → ∃ r : List Int, Ev (fun k => spec_l22Bill.j1 k ra o) (r, 0) ∧ Ev (fun k => impl_heatBill.j0 k ra o) r ∧ r.length = l.length := fun o ho => by
            obtain ⟨r, g1, g2, g3⟩ := addLoop o ra.length 0 ra (by omega) (by omega) (by omega)
            refine ⟨r, Ev.succ ?_, Ev.succ ?_, by omega⟩
            · simp only [spec_l22Bill.j1]
              exact g1
            · simp only [impl_heatBill.j0]
              exact g2
          cases bu with
          | true =>
            have lu : ru.length = l.length := by simpa using y3 rfl
            obtain ⟨r, g1, g2, g3⟩ := key ru lu
            refine ⟨r, 0, Ev.bind h1 (Ev.pos rfl (Ev.pos c1 (Ev.succ ?_))), Ev.bind h2 (Ev.pos rfl (Ev.pos c1 (Ev.succ ?_))), by omega, fun _ => by omega⟩
            · simp only [spec_l22Bill.j0, wp, d1, Option.bind_some, wq]
              exact Ev.neg (by simp [c2]) (Ev.bind ha1 (Ev.bind x1 (Ev.pos rfl (Ev.bind hu1 (Ev.bind y1 (Ev.pos rfl g1))))))
            · simp only [impl_HeatBill.j0, impl_heatBill.f, wp, d2, Option.bind_some, wq]
              exact Ev.neg (by simp [c2]) (Ev.neg (by omega) (Ev.bind (Ev.bind ha2 (Ev.bind x2 (Ev.bind hu2 (Ev.bind y2 (Ev.pos rfl g2))))) (Ev.now _)))
          | false =>
            obtain ⟨r, g1, g2, g3⟩ := key rb lb
            refine ⟨r, 0, Ev.bind h1 (Ev.pos rfl (Ev.pos c1 (Ev.succ ?_))), Ev.bind h2 (Ev.pos rfl (Ev.pos c1 (Ev.succ ?_))), by omega, fun _ => by omega⟩
            · simp only [spec_l22Bill.j0, wp, d1, Option.bind_some, wq]
              exact Ev.neg (by simp [c2]) (Ev.bind ha1 (Ev.bind x1 (Ev.pos rfl (Ev.bind hu1 (Ev.bind y1 (Ev.neg (by simp) (Ev.bind ha1 (Ev.bind z1 g1))))))))
            · simp only [impl_HeatBill.j0, impl_heatBill.f, wp, d2, Option.bind_some, wq]
              exact Ev.neg (by simp [c2]) (Ev.neg (by omega) (Ev.bind (Ev.bind ha2 (Ev.bind x2 (Ev.bind hu2 (Ev.bind y2 (Ev.neg (by simp) (Ev.bind ha2 (Ev.bind z2 g2))))))) (Ev.now _)))
      · refine ⟨[], 2, Ev.bind h1 (Ev.pos rfl (Ev.pos c1 (Ev.succ ?_))), Ev.bind h2 (Ev.pos rfl (Ev.pos c1 (Ev.succ ?_))), by simp, fun h => by cases h⟩
        · simp only [spec_l22Bill.j0]
          exact Ev.pos (by simp; omega) (Ev.now _)
        · simp only [impl_HeatBill.j0]
          exact Ev.pos (by simp; omega) (Ev.now _)
    · refine ⟨[], 2, Ev.bind h1 (Ev.pos rfl (Ev.neg c1 (Ev.succ ?_))), Ev.bind h2 (Ev.pos rfl (Ev.neg c1 (Ev.succ ?_))), by simp, fun h => by cases h⟩
      · simp only [spec_l22Bill.j0]
        exact Ev.pos (by first | rfl | trivial) (Ev.now _)
      · simp only [impl_HeatBill.j0]
        exact Ev.pos (by first | rfl | trivial) (Ev.now _)
end Go.Proofs.Ytionpndhcijmcaa.QLargestShare
