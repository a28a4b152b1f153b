/- The structs of the group's laws: what is well formed, and that what reads as data is. Conditions: none. -/
import Derived.Test.YtglhbjmagfchiaaQSharesx0
import Derived.Test.YtglhbjmagfchiaaQOpen
import Derived.KernelRfl
namespace Go.Proofs.Ytglhbjmagfchiaa.QShares
open Go.RowKit Go.ChangeShapes Go.WideShapes Go.Deep Go.Proofs.YtglhbjmagfchiaaW.PrintWords Go.Proofs.Ytglhbjmagfchiaa.QOpen
set_option linter.unusedVariables false
end Go.Proofs.Ytglhbjmagfchiaa.QShares
