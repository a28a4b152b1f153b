/- Heat: the heat that is not served, by both sides' loops. Conditions: as many hours as repairs. -/
import Derived.Test.YtionpndhcijmcaaQUnservedHeatx4
import Derived.Test.YtionpndhcijmcaaQUnservedHeatx5
import Derived.Test.YtionpndhcijmcaaQUnservedHeatx9
import Derived.Test.YtionpndhcijmcaaQUnservedHeatxL
import Derived.Test.YtionpndhcijmcaaQUnservedHeatxDEnds
namespace Go.Proofs.Ytionpndhcijmcaa.QUnservedHeat
open Go.RowKit Go.Proofs.YtionpndhcijmcaaW.PrintWords Go.Proofs.Ytionpndhcijmcaa.QOpen Go.Proofs.Ytionpndhcijmcaa.QEv
set_option linter.unusedVariables false
set_option linter.unusedSimpArgs false
theorem heatLoop (l : List S47) (hn : l.length ≤ 8) (r : List Int) (hr : r.length = l.length) : ∀ (d i : Nat) (acc : Int), i + d = l.length →
    ∃ t, Ev (fun k => spec_l20Heat.l0 k l r acc (i : Int)) t ∧ Ev (fun k => impl_gangHeat.l0 k l acc r (r.length : Int) (i : Int)) t := by
  intro d
  induction d with
  | zero =>
    intro i acc hi
    refine ⟨acc, Ev.succ ?_, Ev.succ ?_⟩
    · simp only [spec_l20Heat.l0]
      exact Ev.neg (by omega) (Ev.now _)
    · simp only [impl_gangHeat.l0]
      exact Ev.neg (by omega) (Ev.now _)
  | succ d ih =>
    intro i acc hi
    obtain ⟨t, h1, h2⟩ := ih (i + 1) (wrap64 (acc + wrap64 ((rd_T47 l (i : Int)).f2 * rd r (i : Int)))) (by omega)
    refine ⟨t, Ev.succ ?_, Ev.succ ?_⟩
    · simp only [spec_l20Heat.l0, wnat i (by omega)]
      exact Ev.pos (by omega) (Ev.pos (by omega) (Ev.pos (by omega) h1))
    · simp only [impl_gangHeat.l0, wnat i (by omega)]
      exact Ev.pos (by omega) (Ev.pos (by omega) (Ev.pos (by omega) (Ev.pos (by omega) h2)))
theorem heat_both (l : List S47) (o : List Int) (g : Int) (h : AskOk l o g) : ∃ r t, Ev (fun k => spec_l20Ends.f k l o g) r ∧ Ev (fun k => spec_l20Heat.f k l r) t ∧ Ev (fun k => impl_gangHeat.f k l o g) t := by
  obtain ⟨r, a, b, c⟩ := ends_both l o g h
  obtain ⟨t, h1, h2⟩ := heatLoop l h.1 r c l.length 0 0 (by omega)
  refine ⟨r, t, a, ?_, ?_⟩
  · simp only [spec_l20Heat.f]
    exact h1
  · simp only [impl_gangHeat.f]
    exact Ev.bind b h2
end Go.Proofs.Ytionpndhcijmcaa.QUnservedHeat
