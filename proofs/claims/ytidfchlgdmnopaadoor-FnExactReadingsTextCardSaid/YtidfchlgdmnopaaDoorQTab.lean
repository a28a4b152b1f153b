/- The listed tables: the door's own heap meets the condition, and the condition gives the table of powers. Conditions: none. -/
import Derived.Test.YtidfchlgdmnopaaDoorRows
import Derived.Test.YtidfchlgdmnopaaDoorQShelf
import Derived.ProofKit
import Derived.LaidMore
import Derived.OpenShut
import Derived.Stop.Joined
import Derived.Stop.LaidErr
import Derived.MakeChecks
import Derived.KernelRfl
namespace Go.Proofs.YtidfchlgdmnopaaDoor.QTab
open Go.ChangeShapes Go.WideShapes Go.ChangeAt Go.WideMaps Go.WideElems Go.RowKit
def LAID : List (String × DataW Unit) := Rows.fnExactUnitTextRow.laid
theorem gPow : Tryd.prog.globalNamed "internal/strconv.uint64pow10" = some 0 := by kernel_rfl
theorem tPow : (Tryd.prog.globals[0]?).map (·.type) = some 167 := by kernel_rfl
theorem dPow : Rows.laid_internal_strconv_uint64pow10 = (Lib.tabData .u64 Lib.pow10Tab : DataW Unit) := by rfl
/-- The door's own heap meets the condition: closed facts. -/
theorem door_met (os : Os) (args : Array Value) : laidMetH Tryd.prog LAID ((World.doorLaid Tryd.prog 400 os).forCall (fun _ _ => 0) ⟨#[], args, []⟩).memory :=
  laidMetH_of_parts3 (fuel := 8) (laidMet_of_run' 8 (by kernel_rfl) (by kernel_rfl)) (by kernel_rfl) (by kernel_rfl)
theorem tabOf {W : World} (h : laidMetH Tryd.prog LAID W) : Tryd.TabQ W := by
  rw [MakeChecks.laidMetH_plain _ _ _ (by kernel_rfl)] at h
  have h2 : laidMet Tryd.prog [("internal/strconv.uint64pow10", Rows.laid_internal_strconv_uint64pow10)] W := laidMet.tail (laidMet.tail (show laidMet Tryd.prog (_ :: _ :: _) W from h))
  rw [dPow] at h2
  exact Lib.tabIs_of_head gPow tPow Tryd.underlying167 Tryd.underlying157 (by kernel_rfl) (by kernel_rfl) h2
end Go.Proofs.YtidfchlgdmnopaaDoor.QTab
