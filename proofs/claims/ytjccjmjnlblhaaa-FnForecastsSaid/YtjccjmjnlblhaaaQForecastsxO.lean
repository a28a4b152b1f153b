/- The structs of the group's laws: what is well formed, and that what reads as data is. Conditions: none. -/
import Derived.Test.YtjccjmjnlblhaaaQForecastsx0
import Derived.Test.YtjccjmjnlblhaaaQOpen
import Derived.KernelRfl
namespace Go.Proofs.Ytjccjmjnlblhaaa.QForecasts
open Go.RowKit Go.ChangeShapes Go.WideShapes Go.Deep Go.Proofs.YtjccjmjnlblhaaaW.PrintWords Go.Proofs.Ytjccjmjnlblhaaa.QOpen
set_option linter.unusedVariables false
end Go.Proofs.Ytjccjmjnlblhaaa.QForecasts
