/- The plain laws of the laws' own helpers: sizes, copies, comparisons, marks. Conditions: those that each states. -/
import Derived.Test.YtionpndhcijmcaaQGangsxO
import Derived.Test.YtionpndhcijmcaaQEv
namespace Go.Proofs.Ytionpndhcijmcaa.QGangs
open Go.RowKit Go.Proofs.YtionpndhcijmcaaW.PrintWords Go.Proofs.Ytionpndhcijmcaa.QOpen Go.Proofs.Ytionpndhcijmcaa.QEv
set_option linter.unusedVariables false
set_option linter.unusedSimpArgs false
end Go.Proofs.Ytionpndhcijmcaa.QGangs
