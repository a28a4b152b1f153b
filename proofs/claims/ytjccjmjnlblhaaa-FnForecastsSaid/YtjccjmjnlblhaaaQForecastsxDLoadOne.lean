/- One building's load: both sides hold one and the same. Conditions: a valid building, an hour of the day, a temperature within bounds. -/
import Derived.Test.YtjccjmjnlblhaaaQForecastsx5
import Derived.Test.YtjccjmjnlblhaaaQForecastsx9
import Derived.Test.YtjccjmjnlblhaaaQForecastsxL
import Derived.Test.YtjccjmjnlblhaaaQForecastsxDBuilding
import Derived.Test.YtjccjmjnlblhaaaQForecastsxDDivS
namespace Go.Proofs.Ytjccjmjnlblhaaa.QForecasts
open Go.RowKit Go.Proofs.YtjccjmjnlblhaaaW.PrintWords Go.Proofs.Ytjccjmjnlblhaaa.QOpen Go.Proofs.Ytjccjmjnlblhaaa.QEv
set_option linter.unusedVariables false
set_option linter.unusedSimpArgs false
def loadv (x : S94) (t : Int) (h : Nat) : Int := rdiv (x.f2 * x.f5.getD h 0) 1000 + rdiv (x.f3 * max 0 (x.f4 - t)) 100
theorem load_both (x : S94) (hx : BuildOk x) (t : Int) (h : Nat) (hh : h < 24) (t0 : -4500 ≤ t) (t1 : t ≤ 4600) : spec_l05Load.f x.f0 x.f1 x.f2 x.f3 x.f4 x.f5 t (h : Int) = some (loadv x t h) ∧ impl_Building_load.f x.f0 x.f1 x.f2 x.f3 x.f4 x.f5 t (h : Int) = some (loadv x t h) ∧ 0 ≤ loadv x t h ∧ loadv x t h ≤ 4000000000 := by
  obtain ⟨_, _, a0, a1, b0, b1, c0, c1, hl, hp⟩ := hx
  obtain ⟨p0, p1⟩ := hp h hh
  have e0 : rd x.f5 (h : Int) = x.f5.getD h 0 := rfl
  unfold loadv
  generalize x.f5.getD h 0 = P at *
  have w0 : wrap64 (x.f4 - t) = x.f4 - t := wid (by omega) (by omega)
  have m1 : spec_l00Max.f 0 (x.f4 - t) = some (max 0 (x.f4 - t)) := by
    simp only [spec_l00Max.f]
    split <;> (congr 1; omega)
  have m2 : mx (x.f4 - t) 0 = max 0 (x.f4 - t) := by
    simp only [mx]
    split <;> omega
  have g0 : 0 ≤ max 0 (x.f4 - t) := by omega
  have g1 : max 0 (x.f4 - t) ≤ 9000 := by omega
  generalize max 0 (x.f4 - t) = M at *
  have q0 : 0 ≤ x.f2 * P := Int.mul_nonneg a0 p0
  have q1 : x.f2 * P ≤ 1000000 * 3000 := Int.mul_le_mul a1 p1 p0 (by omega)
  have r0 : 0 ≤ x.f3 * M := Int.mul_nonneg b0 g0
  have r1 : x.f3 * M ≤ 100000 * 9000 := Int.mul_le_mul b1 g1 g0 (by omega)
  generalize hQ : x.f2 * P = Q at *
  generalize hR : x.f3 * M = R at *
  have w1 : wrap64 Q = Q := wid (by omega) (by omega)
  have w2 : wrap64 R = R := wid (by omega) (by omega)
  have d1 := l01DivS_eq Q 1000 (by omega) (by omega) (by omega) (by omega)
  have d2 := divRoundS_eq Q 1000 (by omega) (by omega) (by omega) (by omega)
  have d3 := l01DivS_eq R 100 (by omega) (by omega) (by omega) (by omega)
  have d4 := divRoundS_eq R 100 (by omega) (by omega) (by omega) (by omega)
  obtain ⟨u0, _, u1, _⟩ := rdiv_le Q 1000 (by omega)
  obtain ⟨v0, _, v1, _⟩ := rdiv_le R 100 (by omega)
  have u0 := u0 q0
  have u1 := u1 3000000000 (by omega) (by omega)
  have v0 := v0 r0
  have v1 := v1 900000000 (by omega) (by omega)
  generalize rdiv Q 1000 = U at *
  generalize rdiv R 100 = V at *
  have w3 : wrap64 (U + V) = U + V := wid (by omega) (by omega)
  refine ⟨?_, ?_, by omega, by omega⟩
  · simp only [spec_l05Load.f, e0, w0, hQ, w1, w2, w3, m1, hR, d1, d3, w2, w3, Option.bind_some]
    rw [if_pos (by omega), if_pos (by omega)]
  · simp only [impl_Building_load.f, e0, w0, hQ, w1, w2, w3, m2, hR, d2, d4, Option.bind_some]
    rw [if_pos (by omega), if_pos (by omega)]
def sumv (t : Int) (h : Nat) : List S94 → Int
  | [] => 0
  | x :: l => loadv x t h + sumv t h l
end Go.Proofs.Ytjccjmjnlblhaaa.QForecasts
