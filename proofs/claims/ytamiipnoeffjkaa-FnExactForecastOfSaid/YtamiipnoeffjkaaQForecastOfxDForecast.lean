/- Forecast: the loads of all buildings by hours, by both sides. Conditions: valid buildings and temperatures. -/
import Derived.Test.YtamiipnoeffjkaaQForecastOfx4
import Derived.Test.YtamiipnoeffjkaaQForecastOfx5
import Derived.Test.YtamiipnoeffjkaaQForecastOfx9
import Derived.Test.YtamiipnoeffjkaaQForecastOfxL
import Derived.Test.YtamiipnoeffjkaaQForecastOfxDBuildings
import Derived.Test.YtamiipnoeffjkaaQForecastOfxDLoads
namespace Go.Proofs.Ytamiipnoeffjkaa.QForecastOf
open Go.RowKit Go.Proofs.YtamiipnoeffjkaaW.PrintWords Go.Proofs.Ytamiipnoeffjkaa.QOpen Go.Proofs.Ytamiipnoeffjkaa.QEv
set_option linter.unusedVariables false
set_option linter.unusedSimpArgs false
theorem sumBuild (l : List S96) (hn : l.length ≤ 12) (hl : ∀ j, j < l.length → BuildOk (l.getD j z96)) (t : Int) (t0 : -4500 ≤ t) (t1 : t ≤ 4600) (h : Nat) (hh : h < 24) : ∀ (d i : Nat) (acc : Int), i + d = l.length → 0 ≤ acc → acc ≤ (i : Int) * 4000000000 →
    Ev (fun k => spec_l05Sum.l0 k l t (h : Int) acc (i : Int)) (acc + sumv t h (l.drop i)) ∧ 0 ≤ acc + sumv t h (l.drop i) ∧ acc + sumv t h (l.drop i) ≤ 48000000000 := by
  intro d
  induction d with
  | zero =>
    intro i acc hi h0 h1
    rw [drop_end _ _ hi, sumv, Int.add_zero]
    refine ⟨Ev.succ ?_, h0, by omega⟩
    simp only [spec_l05Sum.l0]
    exact Ev.neg (by omega) (Ev.now _)
  | succ d ih =>
    intro i acc hi h0 h1
    obtain ⟨e1, _, v0, v1⟩ := load_both _ (hl i (by omega)) t h hh t0 t1
    have er : rd_T96 l (i : Int) = l.getD i z96 := rfl
    rw [drop_step l i z96 (by omega), sumv, ← Int.add_assoc]
    generalize l.getD i z96 = B at *
    have w : wrap64 (acc + loadv B t h) = acc + loadv B t h := wid (by omega) (by omega)
    obtain ⟨g1, g2, g3⟩ := ih (i + 1) (acc + loadv B t h) (by omega) (by omega) (by omega)
    refine ⟨Ev.succ ?_, g2, g3⟩
    simp only [spec_l05Sum.l0, er, e1, Option.bind_some, w, wnat i (by omega)]
    exact Ev.pos (by omega) (Ev.pos (by omega) g1)
theorem sumBuild_ev (l : List S96) (hn : l.length ≤ 12) (hl : ∀ j, j < l.length → BuildOk (l.getD j z96)) (t : Int) (t0 : -4500 ≤ t) (t1 : t ≤ 4600) (h : Nat) (hh : h < 24) :
    Ev (fun k => spec_l05Sum.f k l t (h : Int)) (sumv t h l) ∧ 0 ≤ sumv t h l ∧ sumv t h l ≤ 48000000000 := by
  have := sumBuild l hn hl t t0 t1 h hh l.length 0 0 (by omega) (by omega) (by omega)
  simp only [List.drop_zero, Int.zero_add] at this
  simp only [spec_l05Sum.f]
  exact this
theorem foreLoop (l : List S96) (hn : l.length ≤ 12) (hl : ∀ j, j < l.length → BuildOk (l.getD j z96)) (o : List Int) (ho : DayOk o) : ∀ (d h : Nat) (acc : List Int), h + d = 24 → acc.length = h → (∀ x ∈ acc, 0 ≤ x ∧ x ≤ 48000000000) →
    ∃ r : List Int, Ev (fun k => spec_l05Forecast.l0 k l o acc (h : Int)) r ∧ Ev (fun k => impl_forecastOf.l0 k l o (acc ++ List.replicate d 0) 24 (h : Int)) r ∧ r.length = 24 ∧ (∀ x ∈ r, 0 ≤ x ∧ x ≤ 48000000000) := by
  intro d
  induction d with
  | zero =>
    intro h acc hh ha hb
    refine ⟨acc, Ev.succ ?_, Ev.succ ?_, by omega, hb⟩
    · simp only [spec_l05Forecast.l0]
      exact Ev.neg (by omega) (Ev.now _)
    · simp only [impl_forecastOf.l0]
      exact Ev.neg (by omega) (Ev.eqn (Ev.now _) (by simp))
  | succ d ih =>
    intro h acc hh ha hb
    obtain ⟨t0, t1⟩ := ho.2 h (by omega)
    obtain ⟨e1, v0, v1⟩ := sumBuild_ev l hn hl (o.getD h 0) (by omega) (by omega) h (by omega)
    have eo : rd o (h : Int) = o.getD h 0 := rfl
    have hol := ho.1
    obtain ⟨r, h1, h2, h3, h4⟩ := ih (h + 1) (acc ++ [sumv (o.getD h 0) h l]) (by omega) (by simp; omega) (fun x hx => by
      rcases List.mem_append.1 hx with z | z
      · exact hb x z
      · rw [List.mem_singleton.1 z]; omega)
    refine ⟨r, Ev.succ ?_, Ev.succ ?_, h3, h4⟩
    · simp only [spec_l05Forecast.l0, eo, wnat h (by omega)]
      exact Ev.pos (by omega) (Ev.pos (by omega) (Ev.pos (by omega) (Ev.bind e1 (Ev.pos (by omega) h1))))
    · simp only [impl_forecastOf.l0]
      refine Ev.pos (by omega) ?_
      have g := get_mid acc d
      rw [ha] at g
      have s := set_mid acc d (sumv (o.getD h 0) h l)
      rw [ha] at s
      refine hourLoop l hn hl o ho h (by omega) 24 l.length 0 _ (by omega) (by simp; omega) (by rw [g]; omega) (by rw [g]; omega) r ?_
      rw [g, List.drop_zero, Int.zero_add, s]
      exact h2
theorem fore_both (l : List S96) (hn : l.length ≤ 12) (hl : ∀ j, j < l.length → BuildOk (l.getD j z96)) (o : List Int) (ho : DayOk o) :
    ∃ r : List Int, Ev (fun k => spec_l05Forecast.f k l o) r ∧ Ev (fun k => impl_forecastOf.f k l o) r ∧ r.length = 24 ∧ (∀ x ∈ r, 0 ≤ x ∧ x ≤ 48000000000) := by
  obtain ⟨r, h1, h2, h3, h4⟩ := foreLoop l hn hl o ho 24 0 [] (by omega) rfl (by simp)
  refine ⟨r, by simp only [spec_l05Forecast.f]; exact h1, ?_, h3, h4⟩
  simp only [impl_forecastOf.f]
  refine Ev.pos (by omega) (Ev.sb ?_)
  exact h2
theorem fore_ask (l : List S96) (hl : smL sm96 l) (o : List Int) (ho : o.length ≤ 1048576) : ∃ (r : List Int) (c : Int), Ev (fun k => spec_l05Ask.f k l o) c ∧ Ev (fun k => impl_ForecastOf.f k l o) (r, c) ∧ r.length ≤ 24 ∧ (c ≠ 0 → r = []) ∧ (c = 0 → Ev (fun k => spec_l05Forecast.f k l o) r ∧ r.length = 24 ∧ (∀ x ∈ r, 0 ≤ x ∧ x ≤ 48000000000)) := by
  obtain ⟨v, h1, h2, h3⟩ := builds_both l hl
  obtain ⟨u, g1, g2, g3⟩ := day_both o ho
  simp only [spec_l05Ask.f, impl_ForecastOf.f, g2, Option.bind_some]
  cases v with
  | false => exact ⟨[], 1, Ev.bind h1 (Ev.neg (by decide) (Ev.now _)), Ev.bind h2 (Ev.neg (by decide) (Ev.now _)), by simp, fun _ => rfl, fun h => by cases h⟩
  | true =>
    cases u with
    | false => exact ⟨[], 7, Ev.bind h1 (Ev.pos rfl (Ev.bind g1 (Ev.neg (by decide) (Ev.now _)))), Ev.bind h2 (Ev.pos rfl (Ev.neg (by decide) (Ev.now _))), by simp, fun _ => rfl, fun h => by cases h⟩
    | true =>
      obtain ⟨hn, hb⟩ := h3 rfl
      obtain ⟨r, k1, k2, k3, k4⟩ := fore_both l hn hb o (g3 rfl)
      exact ⟨r, 0, Ev.bind h1 (Ev.pos rfl (Ev.bind g1 (Ev.pos rfl (Ev.now _)))), Ev.bind h2 (Ev.pos rfl (Ev.pos rfl (Ev.bind k2 (Ev.now _)))), by omega, fun h => absurd rfl h, fun _ => ⟨k1, k3, k4⟩⟩
end Go.Proofs.Ytamiipnoeffjkaa.QForecastOf
