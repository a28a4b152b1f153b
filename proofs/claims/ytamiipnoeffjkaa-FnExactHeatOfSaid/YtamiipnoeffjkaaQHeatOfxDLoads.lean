/- Loads: the load of a building and the loads of an hour, by both sides. Conditions: valid buildings, hours and temperatures. -/
import Derived.Test.YtamiipnoeffjkaaQHeatOfx3
import Derived.Test.YtamiipnoeffjkaaQHeatOfx4
import Derived.Test.YtamiipnoeffjkaaQHeatOfx7
import Derived.Test.YtamiipnoeffjkaaQHeatOfx8
import Derived.Test.YtamiipnoeffjkaaQHeatOfxL
import Derived.Test.YtamiipnoeffjkaaQHeatOfxDBuilding
import Derived.Test.YtamiipnoeffjkaaQHeatOfxDDay
import Derived.Test.YtamiipnoeffjkaaQHeatOfxDDivS
namespace Go.Proofs.Ytamiipnoeffjkaa.QHeatOf
open Go.RowKit Go.Proofs.YtamiipnoeffjkaaW.PrintWords Go.Proofs.Ytamiipnoeffjkaa.QOpen Go.Proofs.Ytamiipnoeffjkaa.QEv
set_option linter.unusedVariables false
set_option linter.unusedSimpArgs false
def loadv (x : S96) (t : Int) (h : Nat) : Int := rdiv (x.f2 * x.f5.getD h 0) 1000 + rdiv (x.f3 * max 0 (x.f4 - t)) 100
theorem load_both (x : S96) (hx : BuildOk x) (t : Int) (h : Nat) (hh : h < 24) (t0 : -4500 ≤ t) (t1 : t ≤ 4600) : spec_l05Load.f x.f0 x.f1 x.f2 x.f3 x.f4 x.f5 t (h : Int) = some (loadv x t h) ∧ impl_Building_load.f x.f0 x.f1 x.f2 x.f3 x.f4 x.f5 t (h : Int) = some (loadv x t h) ∧ 0 ≤ loadv x t h ∧ loadv x t h ≤ 4000000000 := by
  obtain ⟨_, _, a0, a1, b0, b1, c0, c1, hl, hp⟩ := hx
  obtain ⟨p0, p1⟩ := hp h hh
  have e0 : rd x.f5 (h : Int) = x.f5.getD h 0 := rfl
  unfold loadv
  generalize x.f5.getD h 0 = P at *
  have w0 : wrap64 (x.f4 - t) = x.f4 - t := wid (by omega) (by omega)
  have m1 : spec_l00Max.f 0 (x.f4 - t) = some (max 0 (x.f4 - t)) := by
    simp only [spec_l00Max.f]
    split <;> (congr 1; omega)
  have m2 : mx (x.f4 - t) 0 = max 0 (x.f4 - t) := by
    simp only [mx]
    split <;> omega
  have g0 : 0 ≤ max 0 (x.f4 - t) := by omega
  have g1 : max 0 (x.f4 - t) ≤ 9000 := by omega
  generalize max 0 (x.f4 - t) = M at *
  have q0 : 0 ≤ x.f2 * P := Int.mul_nonneg a0 p0
  have q1 : x.f2 * P ≤ 1000000 * 3000 := Int.mul_le_mul a1 p1 p0 (by omega)
  have r0 : 0 ≤ x.f3 * M := Int.mul_nonneg b0 g0
  have r1 : x.f3 * M ≤ 100000 * 9000 := Int.mul_le_mul b1 g1 g0 (by omega)
  generalize hQ : x.f2 * P = Q at *
  generalize hR : x.f3 * M = R at *
  have w1 : wrap64 Q = Q := wid (by omega) (by omega)
  have w2 : wrap64 R = R := wid (by omega) (by omega)
  have d1 := l01DivS_eq Q 1000 (by omega) (by omega) (by omega) (by omega)
  have d2 := divRoundS_eq Q 1000 (by omega) (by omega) (by omega) (by omega)
  have d3 := l01DivS_eq R 100 (by omega) (by omega) (by omega) (by omega)
  have d4 := divRoundS_eq R 100 (by omega) (by omega) (by omega) (by omega)
  obtain ⟨u0, _, u1, _⟩ := rdiv_le Q 1000 (by omega)
  obtain ⟨v0, _, v1, _⟩ := rdiv_le R 100 (by omega)
  have u0 := u0 q0
  have u1 := u1 3000000000 (by omega) (by omega)
  have v0 := v0 r0
  have v1 := v1 900000000 (by omega) (by omega)
  generalize rdiv Q 1000 = U at *
  generalize rdiv R 100 = V at *
  have w3 : wrap64 (U + V) = U + V := wid (by omega) (by omega)
  refine ⟨?_, ?_, by omega, by omega⟩
  · simp only [spec_l05Load.f, e0, w0, hQ, w1, w2, w3, m1, hR, d1, d3, w2, w3, Option.bind_some]
    rw [if_pos (by omega), if_pos (by omega)]
  · simp only [impl_Building_load.f, e0, w0, hQ, w1, w2, w3, m2, hR, d2, d4, Option.bind_some]
    rw [if_pos (by omega), if_pos (by omega)]
def sumv (t : Int) (h : Nat) : List S96 → Int
  | [] => 0
  | x :: l => loadv x t h + sumv t h l
theorem hourLoop (l : List S96) (hn : l.length ≤ 12) (hl : ∀ j, j < l.length → BuildOk (l.getD j z96)) (o : List Int) (ho : DayOk o) (h : Nat) (hh : h < 24) (n : Int) : ∀ (d i : Nat) (y : List Int), i + d = l.length → y.length = 24 → 0 ≤ y.getD h 0 → y.getD h 0 ≤ (i : Int) * 4000000000 →
    ∀ r, Ev (fun k => impl_forecastOf.l0 k l o (y.set h (y.getD h 0 + sumv (o.getD h 0) h (l.drop i))) n ((h + 1 : Nat) : Int)) r → Ev (fun k => impl_forecastOf.l1 k l o y (h : Int) n (h : Int) l (l.length : Int) (i : Int)) r := by
  intro d
  induction d with
  | zero =>
    intro i y hi hy h0 h1 r hr
    rw [drop_end _ _ hi, sumv, Int.add_zero] at hr
    have e : y.set h (y.getD h 0) = y := by
      refine ext_getD 0 (by simp) (fun j hj => ?_)
      have hj' : j < y.length := by simpa using hj
      rw [getD_set y h j _ 0 (by omega)]
      split
      · rename_i e; subst e; rfl
      · rfl
    rw [e] at hr
    refine Ev.succ ?_
    simp only [impl_forecastOf.l1, wnat h (by omega)]
    exact Ev.neg (by omega) hr
  | succ d ih =>
    intro i y hi hy h0 h1 r hr
    have hb := hl i (by omega)
    obtain ⟨t0, t1⟩ := ho.2 h hh
    obtain ⟨_, e2, v0, v1⟩ := load_both _ hb (o.getD h 0) h hh (by omega) (by omega)
    rw [drop_step l i z96 (by omega), sumv] at hr
    have er : rd_T96 l (i : Int) = l.getD i z96 := rfl
    have eo : rd o (h : Int) = o.getD h 0 := rfl
    have ey : rd y (h : Int) = y.getD h 0 := rfl
    have hol := ho.1
    generalize l.getD i z96 = B at *
    have w : wrap64 (y.getD h 0 + loadv B (o.getD h 0) h) = y.getD h 0 + loadv B (o.getD h 0) h := wid (by omega) (by omega)
    have es : (y.set h (y.getD h 0 + loadv B (o.getD h 0) h)).getD h 0 = y.getD h 0 + loadv B (o.getD h 0) h := by
      rw [getD_set y h h _ 0 (by omega), if_pos rfl]
    have := ih (i + 1) (y.set h (y.getD h 0 + loadv B (o.getD h 0) h)) (by omega) (by simpa using hy) (by rw [es]; omega) (by rw [es]; omega) r (by rw [es, List.set_set, Int.add_assoc]; exact hr)
    refine Ev.succ ?_
    simp only [impl_forecastOf.l1, er, eo, ey, e2, Option.bind_some, w, wnat i (by omega), Int.toNat_natCast]
    exact Ev.pos (by omega) (Ev.pos (by omega) (Ev.pos (by omega) (Ev.pos (by omega) (Ev.pos (by omega) (Ev.pos (by omega) this)))))
theorem set_mid (acc : List Int) (d : Nat) (v : Int) : (acc ++ List.replicate (d + 1) 0).set acc.length v = (acc ++ [v]) ++ List.replicate d 0 := by
  rw [List.replicate_succ, List.set_append_right _ _ (Nat.le_refl _), Nat.sub_self, List.set_cons_zero, List.append_assoc]
  rfl
theorem get_mid (acc : List Int) (d : Nat) : (acc ++ List.replicate (d + 1) 0).getD acc.length 0 = (0 : Int) := by
  rw [List.replicate_succ, List.getD_eq_getElem?_getD, List.getElem?_append_right (Nat.le_refl _), Nat.sub_self]
  rfl
end Go.Proofs.Ytamiipnoeffjkaa.QHeatOf
