/- Last: the last hour when a repair ends, by both sides' loops. Conditions: repairs, an order and gangs as stated. -/
import Derived.Test.YtionpndhcijmcaaQFewestGangsx5
import Derived.Test.YtionpndhcijmcaaQFewestGangsx6
import Derived.Test.YtionpndhcijmcaaQFewestGangsx9
import Derived.Test.YtionpndhcijmcaaQFewestGangsxL
import Derived.Test.YtionpndhcijmcaaQFewestGangsxDEnds
namespace Go.Proofs.Ytionpndhcijmcaa.QFewestGangs
open Go.RowKit Go.Proofs.YtionpndhcijmcaaW.PrintWords Go.Proofs.Ytionpndhcijmcaa.QOpen Go.Proofs.Ytionpndhcijmcaa.QEv
set_option linter.unusedVariables false
set_option linter.unusedSimpArgs false
theorem lastLoop (r : List Int) (hr : r.length ≤ 8) : ∀ (d i : Nat) (acc : Int), i + d = r.length →
    ∃ t, Ev (fun k => spec_l20Last.l0 k r acc (i : Int)) t ∧ Ev (fun k => impl_latestEnd.l0 k acc r (r.length : Int) (i : Int)) t := by
  intro d
  induction d with
  | zero =>
    intro i acc hi
    refine ⟨acc, Ev.succ ?_, Ev.succ ?_⟩
    · simp only [spec_l20Last.l0]
      exact Ev.neg (by omega) (Ev.now _)
    · simp only [impl_latestEnd.l0]
      exact Ev.neg (by omega) (Ev.now _)
  | succ d ih =>
    intro i acc hi
    obtain ⟨t, h1, h2⟩ := ih (i + 1) (mx acc (rd r (i : Int))) (by omega)
    refine ⟨t, Ev.succ ?_, Ev.succ ?_⟩
    · simp only [spec_l20Last.l0, max_eq, Option.bind_some, wnat i (by omega)]
      exact Ev.pos (by omega) (Ev.pos (by omega) h1)
    · simp only [impl_latestEnd.l0, wnat i (by omega)]
      exact Ev.pos (by omega) (Ev.pos (by omega) (Ev.pos (by omega) h2))
theorem last_both (l : List S47) (o : List Int) (g : Int) (h : AskOk l o g) : ∃ r t, Ev (fun k => spec_l20Ends.f k l o g) r ∧ Ev (fun k => spec_l20Last.f k r) t ∧ Ev (fun k => impl_latestEnd.f k l o g) t := by
  obtain ⟨r, a, b, c⟩ := ends_both l o g h
  have := h.1
  obtain ⟨t, h1, h2⟩ := lastLoop r (by omega) r.length 0 0 (by omega)
  refine ⟨r, t, a, ?_, ?_⟩
  · simp only [spec_l20Last.f]
    exact h1
  · simp only [impl_latestEnd.f]
    exact Ev.bind b h2
end Go.Proofs.Ytionpndhcijmcaa.QFewestGangs
