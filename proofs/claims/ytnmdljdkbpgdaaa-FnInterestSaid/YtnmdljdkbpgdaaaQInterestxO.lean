/- The structs of the group's laws: what is well formed, and that what reads as data is. Conditions: none. -/
import Derived.Test.YtnmdljdkbpgdaaaQInterestx0
import Derived.Test.YtnmdljdkbpgdaaaQOpen
import Derived.KernelRfl
namespace Go.Proofs.Ytnmdljdkbpgdaaa.QInterest
open Go.RowKit Go.ChangeShapes Go.WideShapes Go.Deep Go.Proofs.YtnmdljdkbpgdaaaW.PrintWords Go.Proofs.Ytnmdljdkbpgdaaa.QOpen
set_option linter.unusedVariables false
end Go.Proofs.Ytnmdljdkbpgdaaa.QInterest
