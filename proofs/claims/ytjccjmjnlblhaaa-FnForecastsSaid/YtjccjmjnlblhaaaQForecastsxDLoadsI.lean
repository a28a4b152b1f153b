/- LoadsI: the loads of an hour, by the program alone. Conditions: valid buildings, hours and temperatures. -/
import Derived.Test.YtjccjmjnlblhaaaQForecastsx6
import Derived.Test.YtjccjmjnlblhaaaQForecastsxL
import Derived.Test.YtjccjmjnlblhaaaQForecastsxDLoadOne
import Derived.Test.YtjccjmjnlblhaaaQForecastsxDDayI
namespace Go.Proofs.Ytjccjmjnlblhaaa.QForecasts
open Go.RowKit Go.Proofs.YtjccjmjnlblhaaaW.PrintWords Go.Proofs.Ytjccjmjnlblhaaa.QOpen Go.Proofs.Ytjccjmjnlblhaaa.QEv
set_option linter.unusedVariables false
set_option linter.unusedSimpArgs false
theorem hourLoop (l : List S94) (hn : l.length ≤ 12) (hl : ∀ j, j < l.length → BuildOk (l.getD j z94)) (o : List Int) (ho : DayOk o) (h : Nat) (hh : h < 24) (n : Int) : ∀ (d i : Nat) (y : List Int), i + d = l.length → y.length = 24 → 0 ≤ y.getD h 0 → y.getD h 0 ≤ (i : Int) * 4000000000 →
    ∀ r, Ev (fun k => impl_forecastOf.l0 k l o (y.set h (y.getD h 0 + sumv (o.getD h 0) h (l.drop i))) n ((h + 1 : Nat) : Int)) r → Ev (fun k => impl_forecastOf.l1 k l o y (h : Int) n (h : Int) l (l.length : Int) (i : Int)) r := by
  intro d
  induction d with
  | zero =>
    intro i y hi hy h0 h1 r hr
    rw [drop_end _ _ hi, sumv, Int.add_zero] at hr
    have e : y.set h (y.getD h 0) = y := by
      refine ext_getD 0 (by simp) (fun j hj => ?_)
      have hj' : j < y.length := by simpa using hj
      rw [getD_set y h j _ 0 (by omega)]
      split
      · rename_i e; subst e; rfl
      · rfl
    rw [e] at hr
    refine Ev.succ ?_
    simp only [impl_forecastOf.l1, wnat h (by omega)]
    exact Ev.neg (by omega) hr
  | succ d ih =>
    intro i y hi hy h0 h1 r hr
    have hb := hl i (by omega)
    obtain ⟨t0, t1⟩ := ho.2 h hh
    obtain ⟨_, e2, v0, v1⟩ := load_both _ hb (o.getD h 0) h hh (by omega) (by omega)
    rw [drop_step l i z94 (by omega), sumv] at hr
    have er : rd_T94 l (i : Int) = l.getD i z94 := rfl
    have eo : rd o (h : Int) = o.getD h 0 := rfl
    have ey : rd y (h : Int) = y.getD h 0 := rfl
    have hol := ho.1
    generalize l.getD i z94 = B at *
    have w : wrap64 (y.getD h 0 + loadv B (o.getD h 0) h) = y.getD h 0 + loadv B (o.getD h 0) h := wid (by omega) (by omega)
    have es : (y.set h (y.getD h 0 + loadv B (o.getD h 0) h)).getD h 0 = y.getD h 0 + loadv B (o.getD h 0) h := by
      rw [getD_set y h h _ 0 (by omega), if_pos rfl]
    have := ih (i + 1) (y.set h (y.getD h 0 + loadv B (o.getD h 0) h)) (by omega) (by simpa using hy) (by rw [es]; omega) (by rw [es]; omega) r (by rw [es, List.set_set, Int.add_assoc]; exact hr)
    refine Ev.succ ?_
    simp only [impl_forecastOf.l1, er, eo, ey, e2, Option.bind_some, w, wnat i (by omega), Int.toNat_natCast]
    exact Ev.pos (by omega) (Ev.pos (by omega) (Ev.pos (by omega) (Ev.pos (by omega) (Ev.pos (by omega) (Ev.pos (by omega) this)))))
theorem set_mid (acc : List Int) (d : Nat) (v : Int) : (acc ++ List.replicate (d + 1) 0).set acc.length v = (acc ++ [v]) ++ List.replicate d 0 := by
  rw [List.replicate_succ, List.set_append_right _ _ (Nat.le_refl _), Nat.sub_self, List.set_cons_zero, List.append_assoc]
  rfl
theorem get_mid (acc : List Int) (d : Nat) : (acc ++ List.replicate (d + 1) 0).getD acc.length 0 = (0 : Int) := by
  rw [List.replicate_succ, List.getD_eq_getElem?_getD, List.getElem?_append_right (Nat.le_refl _), Nat.sub_self]
  rfl
end Go.Proofs.Ytjccjmjnlblhaaa.QForecasts
