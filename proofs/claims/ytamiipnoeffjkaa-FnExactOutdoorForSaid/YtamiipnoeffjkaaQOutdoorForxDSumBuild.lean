/- SumBuild: the loads of all buildings at one temperature and hour, by the reference. Conditions: valid buildings. -/
import Derived.Test.YtamiipnoeffjkaaQOutdoorForx3
import Derived.Test.YtamiipnoeffjkaaQOutdoorForxL
import Derived.Test.YtamiipnoeffjkaaQOutdoorForxDLoadOne
namespace Go.Proofs.Ytamiipnoeffjkaa.QOutdoorFor
open Go.RowKit Go.Proofs.YtamiipnoeffjkaaW.PrintWords Go.Proofs.Ytamiipnoeffjkaa.QOpen Go.Proofs.Ytamiipnoeffjkaa.QEv
set_option linter.unusedVariables false
set_option linter.unusedSimpArgs false
theorem sumBuild (l : List S96) (hn : l.length ≤ 12) (hl : ∀ j, j < l.length → BuildOk (l.getD j z96)) (t : Int) (t0 : -4500 ≤ t) (t1 : t ≤ 4600) (h : Nat) (hh : h < 24) : ∀ (d i : Nat) (acc : Int), i + d = l.length → 0 ≤ acc → acc ≤ (i : Int) * 4000000000 →
    Ev (fun k => spec_l05Sum.l0 k l t (h : Int) acc (i : Int)) (acc + sumv t h (l.drop i)) ∧ 0 ≤ acc + sumv t h (l.drop i) ∧ acc + sumv t h (l.drop i) ≤ 48000000000 := by
  intro d
  induction d with
  | zero =>
    intro i acc hi h0 h1
    rw [drop_end _ _ hi, sumv, Int.add_zero]
    refine ⟨Ev.succ ?_, h0, by omega⟩
    simp only [spec_l05Sum.l0]
    exact Ev.neg (by omega) (Ev.now _)
  | succ d ih =>
    intro i acc hi h0 h1
    obtain ⟨e1, _, v0, v1⟩ := load_both _ (hl i (by omega)) t h hh t0 t1
    have er : rd_T96 l (i : Int) = l.getD i z96 := rfl
    rw [drop_step l i z96 (by omega), sumv, ← Int.add_assoc]
    generalize l.getD i z96 = B at *
    have w : wrap64 (acc + loadv B t h) = acc + loadv B t h := wid (by omega) (by omega)
    obtain ⟨g1, g2, g3⟩ := ih (i + 1) (acc + loadv B t h) (by omega) (by omega) (by omega)
    refine ⟨Ev.succ ?_, g2, g3⟩
    simp only [spec_l05Sum.l0, er, e1, Option.bind_some, w, wnat i (by omega)]
    exact Ev.pos (by omega) (Ev.pos (by omega) g1)
theorem sumBuild_ev (l : List S96) (hn : l.length ≤ 12) (hl : ∀ j, j < l.length → BuildOk (l.getD j z96)) (t : Int) (t0 : -4500 ≤ t) (t1 : t ≤ 4600) (h : Nat) (hh : h < 24) :
    Ev (fun k => spec_l05Sum.f k l t (h : Int)) (sumv t h l) ∧ 0 ≤ sumv t h l ∧ sumv t h l ≤ 48000000000 := by
  have := sumBuild l hn hl t t0 t1 h hh l.length 0 0 (by omega) (by omega) (by omega)
  simp only [List.drop_zero, Int.zero_add] at this
  simp only [spec_l05Sum.f]
  exact this
end Go.Proofs.Ytamiipnoeffjkaa.QOutdoorFor
