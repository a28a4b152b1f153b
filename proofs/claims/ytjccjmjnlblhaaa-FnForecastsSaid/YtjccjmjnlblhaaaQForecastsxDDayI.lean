/- DayI: the temperatures of a day, by the program alone. Conditions: none. -/
import Derived.Test.YtjccjmjnlblhaaaQForecastsx3
import Derived.Test.YtjccjmjnlblhaaaQForecastsx5
import Derived.Test.YtjccjmjnlblhaaaQForecastsxL
import Derived.Test.YtjccjmjnlblhaaaQForecastsxDRanges
namespace Go.Proofs.Ytjccjmjnlblhaaa.QForecasts
open Go.RowKit Go.Proofs.YtjccjmjnlblhaaaW.PrintWords Go.Proofs.Ytjccjmjnlblhaaa.QOpen Go.Proofs.Ytjccjmjnlblhaaa.QEv
set_option linter.unusedVariables false
set_option linter.unusedSimpArgs false
def DayOk (o : List Int) : Prop := o.length = 24 ∧ ∀ j, j < 24 → -4000 ≤ o.getD j 0 ∧ o.getD j 0 ≤ 4500
theorem day_true (o : List Int) (ho : DayOk o) : impl_outdoorsOk.f o = some true := by
  have hl := ho.1
  have hi : impl_allWithin.f o (-4000) 4500 = some (o.all fun n => decide (-4000 ≤ n ∧ n ≤ 4500)) := by
    simp only [impl_allWithin.f]
    rw [if_pos (by omega)]
  simp only [impl_outdoorsOk.f, hi, Option.bind_some]
  rw [if_pos (by omega)]
  congr 1
  refine List.all_eq_true.2 fun x hx => ?_
  obtain ⟨j, hj, e⟩ := List.getElem_of_mem hx
  have h := ho.2 j (by omega)
  rw [getD_at o j 0 hj, e] at h
  exact decide_eq_true h
end Go.Proofs.Ytjccjmjnlblhaaa.QForecasts
