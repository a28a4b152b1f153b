/- MixCode: both sides give one and the same code to fuels, a demand and a limit; the reference's limit. Conditions: lists that a program can have. -/
import Derived.Test.YtnhkamfccoppbaaQPriceOfLimitx1
import Derived.Test.YtnhkamfccoppbaaQPriceOfLimitx2
import Derived.Test.YtnhkamfccoppbaaQPriceOfLimitx6
import Derived.Test.YtnhkamfccoppbaaQPriceOfLimitx8
import Derived.Test.YtnhkamfccoppbaaQPriceOfLimitxL
import Derived.Test.YtnhkamfccoppbaaQPriceOfLimitxDMixCost
namespace Go.Proofs.Ytnhkamfccoppbaa.QPriceOfLimit
open Go.RowKit Go.Proofs.YtnhkamfccoppbaaW.PrintWords Go.Proofs.Ytnhkamfccoppbaa.QOpen Go.Proofs.Ytnhkamfccoppbaa.QEv
set_option linter.unusedVariables false
set_option linter.unusedSimpArgs false
theorem limit_eq (a : Int) : spec_l16Limit.f a = some (mn a 2400) := by
  simp only [spec_l16Limit.f, spec_l00Min.f]
  by_cases c : a < 2400
  · rw [if_pos c]
    simp only [Option.bind_some, mn]
    rw [if_neg (by omega)]
  · rw [if_neg c]
    simp only [Option.bind_some, mn]
    by_cases c2 : 2400 < a
    · rw [if_pos c2]
    · rw [if_neg c2]
      congr 1
      omega
theorem vf_of (l : List S46) (h6 : l.length ≤ 6) (h : ∀ j, j < l.length → FuelOk (l.getD j z46)) (d e : Int) (hd : 0 ≤ d ∧ d ≤ 120) (he : 0 ≤ e ∧ e ≤ 2401) : vfB l d e = true := by
  simp only [vfB, Bool.and_eq_true, decide_eq_true_eq, List.all_eq_true]
  refine ⟨⟨h6, fun x hx => ?_⟩, hd, he⟩
  obtain ⟨j, hj, e_⟩ := List.getElem_of_mem hx
  have := h j hj
  rw [getD_at _ _ _ hj, e_] at this
  unfold FuelOk at this
  omega
theorem gok_of (l : List S46) (h : ∀ j, j < l.length → FuelOk (l.getD j z46)) : GOk cst l := fun x hx => by
  obtain ⟨j, hj, e_⟩ := List.getElem_of_mem hx
  have := h j hj
  rw [getD_at _ _ _ hj, e_] at this
  refine ⟨this, ?_⟩
  unfold FuelOk at this
  unfold cst
  omega
theorem code_both (l : List S46) (hl : smL sm46 l) (d lim : Int) : ∃ c : Int, Ev (fun k => spec_l16Query.f k l d lim) c ∧ Ev (fun k => impl_mixCode.f k l d lim) c ∧ (c = 0 → l.length ≤ 6 ∧ (∀ j, j < l.length → FuelOk (l.getD j z46)) ∧ (0 ≤ d ∧ d ≤ 120) ∧ 0 ≤ lim) := by
  obtain ⟨b, h1, h2, h3⟩ := fuels_both l hl
  simp only [spec_l16Query.f, impl_mixCode.f, spec_l16Demand.f, spec_in_eq, impl_within_eq, Option.bind_some, decide_eq_true_eq]
  cases b with
  | false => exact ⟨1, Ev.bind h1 (Ev.neg (by decide) (Ev.now _)), Ev.bind h2 (Ev.neg (by decide) (Ev.now _)), fun h => absurd h (by decide)⟩
  | true =>
    by_cases c : 0 ≤ d ∧ d ≤ 120
    · by_cases c2 : lim < 0
      · exact ⟨2, Ev.bind h1 (Ev.pos rfl (Ev.pos c (Ev.pos c2 (Ev.now _)))), Ev.bind h2 (Ev.pos rfl (Ev.pos c (Ev.pos c2 (Ev.now _)))), fun h => absurd h (by decide)⟩
      · exact ⟨0, Ev.bind h1 (Ev.pos rfl (Ev.pos c (Ev.neg c2 (Ev.now _)))), Ev.bind h2 (Ev.pos rfl (Ev.pos c (Ev.neg c2 (Ev.now _)))), fun _ => ⟨(h3 rfl).1, (h3 rfl).2, c, by omega⟩⟩
    · exact ⟨2, Ev.bind h1 (Ev.pos rfl (Ev.neg c (Ev.now _))), Ev.bind h2 (Ev.pos rfl (Ev.neg c (Ev.now _))), fun h => absurd h (by decide)⟩
end Go.Proofs.Ytnhkamfccoppbaa.QPriceOfLimit
