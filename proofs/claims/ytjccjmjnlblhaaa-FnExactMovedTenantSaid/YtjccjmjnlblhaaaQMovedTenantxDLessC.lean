/- LessC: what strings.Compare tells. Conditions: none. -/
import Derived.Lib.Bytealg
import Derived.Test.YtjccjmjnlblhaaaQMovedTenantx6
import Derived.Test.YtjccjmjnlblhaaaQMovedTenantxL
import Derived.Test.YtjccjmjnlblhaaaQMovedTenantxDLess
namespace Go.Proofs.Ytjccjmjnlblhaaa.QMovedTenant
open Go.RowKit Go.Proofs.YtjccjmjnlblhaaaW.PrintWords Go.Proofs.Ytjccjmjnlblhaaa.QOpen Go.Proofs.Ytjccjmjnlblhaaa.QEv
set_option linter.unusedVariables false
set_option linter.unusedSimpArgs false
theorem comp_lists : ∀ a b : List UInt8, Go.Lib.compareBytes a b = if Op.bytesLess a b = true then -1 else if Op.bytesLess b a = true then 1 else 0 := by
  intro a
  induction a with
  | nil =>
    intro b
    cases b with
    | nil => simp [Go.Lib.compareBytes, Op.bytesLess]
    | cons y b => simp [Go.Lib.compareBytes, Op.bytesLess]
  | cons x a ih =>
    intro b
    cases b with
    | nil => simp [Go.Lib.compareBytes, Op.bytesLess]
    | cons y b =>
      simp only [Go.Lib.compareBytes, Op.bytesLess, ih b]
      by_cases h1 : x < y
      · simp [h1]
      · by_cases h2 : y < x
        · have e : ¬ x = y := fun e => by subst e; exact UInt8.lt_irrefl _ h2
          simp [h1, h2, e]
        · have e : x = y := UInt8.le_antisymm (UInt8.not_lt.1 h2) (UInt8.not_lt.1 h1)
          subst e
          simp [UInt8.lt_irrefl]
theorem comp_eq (a b : ByteArray) : strings_Compare.f a b = some (if Op.bytesLess a.toList b.toList = true then -1 else if Op.bytesLess b.toList a.toList = true then 1 else 0) := by
  simp only [strings_Compare.f, bytealg_CompareString.f, Option.bind_some, comp_lists, ByteArray.toList_eq]
end Go.Proofs.Ytjccjmjnlblhaaa.QMovedTenant
