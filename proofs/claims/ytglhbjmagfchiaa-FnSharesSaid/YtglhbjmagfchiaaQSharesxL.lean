/- The plain laws of the laws' own helpers: sizes, copies, comparisons, marks. Conditions: those that each states. -/
import Derived.Test.YtglhbjmagfchiaaQSharesxO
import Derived.Test.YtglhbjmagfchiaaQEv
namespace Go.Proofs.Ytglhbjmagfchiaa.QShares
open Go.RowKit Go.Proofs.YtglhbjmagfchiaaW.PrintWords Go.Proofs.Ytglhbjmagfchiaa.QOpen Go.Proofs.Ytglhbjmagfchiaa.QEv
set_option linter.unusedVariables false
set_option linter.unusedSimpArgs false
end Go.Proofs.Ytglhbjmagfchiaa.QShares
