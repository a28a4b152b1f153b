/- The structs of the group's laws: what is well formed, and that what reads as data is. Conditions: none. -/
import Derived.Test.YtionpndhcijmcaaQGangsx0
import Derived.Test.YtionpndhcijmcaaQOpen
import Derived.KernelRfl
namespace Go.Proofs.Ytionpndhcijmcaa.QGangs
open Go.RowKit Go.ChangeShapes Go.WideShapes Go.Deep Go.Proofs.YtionpndhcijmcaaW.PrintWords Go.Proofs.Ytionpndhcijmcaa.QOpen
set_option linter.unusedVariables false
end Go.Proofs.Ytionpndhcijmcaa.QGangs
