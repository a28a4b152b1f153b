/- The plain laws of the laws' own helpers: sizes, copies, comparisons, marks. Conditions: those that each states. -/
import Derived.Test.YtjccjmjnlblhaaaQForecastsxO
import Derived.Test.YtjccjmjnlblhaaaQEv
namespace Go.Proofs.Ytjccjmjnlblhaaa.QForecasts
open Go.RowKit Go.Proofs.YtjccjmjnlblhaaaW.PrintWords Go.Proofs.Ytjccjmjnlblhaaa.QOpen Go.Proofs.Ytjccjmjnlblhaaa.QEv
set_option linter.unusedVariables false
set_option linter.unusedSimpArgs false
end Go.Proofs.Ytjccjmjnlblhaaa.QForecasts
