/- JoinText: joined texts as lists of bytes. -/
import Derived.Test.YtidfchlgdmnopaaDoorQReadingsTextxL
import Derived.Test.YtidfchlgdmnopaaDoorQReadingsTextxDDec
import Derived.Test.YtidfchlgdmnopaaDoorQReadingsTextxDRanges
namespace Go.Proofs.YtidfchlgdmnopaaDoor.QReadingsText
open Go.RowKit Go.Proofs.YtidfchlgdmnopaaDoorW.PrintWords Go.Proofs.YtidfchlgdmnopaaDoor.QOpen Go.Proofs.YtidfchlgdmnopaaDoor.QEv
set_option linter.unusedVariables false
set_option linter.unusedSimpArgs false
theorem joinSnoc (x y : List UInt8) (r : List (List UInt8)) (sep : List UInt8) : Go.Lib.join (x :: r ++ [y]) sep = Go.Lib.join (x :: r) sep ++ sep ++ y := by
  rw [List.cons_append, Go.Lib.join_cons, Go.Lib.join_cons]
  unfold Go.Lib.joinTail
  simp [List.append_assoc]
def txt (l : List UInt8) : ByteArray := ⟨l.toArray⟩
theorem txt_app (x y : List UInt8) : txt x ++ txt y = txt (x ++ y) := by
  apply ByteArray.ext
  simp [txt, ByteArray.data_append]
theorem txt_size (x : List UInt8) : (txt x).size = x.length := rfl
theorem rd_nat (l : List Int) (i : Nat) (h : i < l.length) : rd l (i : Int) = l[i] := getD_at l i 0 h
theorem joinDec (l : List Int) : (l.map decOf).map (·.data.toList) = l.map Go.Lib.itoa := by
  rw [List.map_map]
  rfl
end Go.Proofs.YtidfchlgdmnopaaDoor.QReadingsText
