/-
  No cell of these rows narrows 'for every input' (looked for: loops, veiled, ifaces, maps, wideKeys, modest, calm, conditions, laid).
  DERIVED. THE GIVEN ROWS OF THIS SEAT. 12 by the template 'for every input the law returns true; each argument reads behind the call as it read before'; 0 by the template 'total and deterministic' (their statements: YtamiipnoeffjkaaTotals.lean).
  GIVEN WITH THE SEED: the statements are not yours to turn. If you find one false, say at which input.
  Laid BY PROGRAM, IN A SANDBOX (cutbox-rows.mjs): the forced cells as the released guide's own fill.sh prints them over the translation 6ff3395ca3cebfc0… (all of the seat's roots in one cut). By AI agents, Wed Nov 11 2026. No macro, syntax, notation, axiom, sorry.
-/
import Derived.Test.YtamiipnoeffjkaaChecked
import GoSem.Claim
import GoSem.ClaimJoined
import GoSem.ClaimMapViews
import Derived.JoinedTies
import Derived.KernelRfl
namespace Go.Proofs.Ytamiipnoeffjkaa
/- THE CELL 'sum', in the pinned program and in every row, IS THE sha256 OF THE DUMP (.gsa) THAT YtamiipnoeffjkaaProg.lean LOADS. Nothing in Lean hashes anything: it is a label: what it is worth is what the hold of that sum in a sandbox is worth. -/
noncomputable def Try.pinned : Pinned := { name := "ytamiipnoeffjkaa", sum := "6ff3395ca3cebfc0ad48dd6593e29219721fe97b9ad5bd0e0776652ed2ecc671", checked := Try.checked }
namespace Rows
def none {H : Type} : Left H := { results := [], args := [] }

/-- 'laws.FnExactZoneBounds': WHATEVER THE INPUT: true; the input reads as it did. -/
def fnExactZoneBoundsSpec : ChangeSpec := { name := "fnExactZoneBounds", fn := fun _ => fun
  | [d] => { results := [.lit (.bool true)], args := [d] }
  | _ => none }
def fnExactZoneBoundsRow : OpenClaim := { program := "ytamiipnoeffjkaa", sum := "6ff3395ca3cebfc0ad48dd6593e29219721fe97b9ad5bd0e0776652ed2ecc671", func := "loop.example/g01011/laws.FnExactZoneBounds", spec := "fnExactZoneBounds", apart := false }
def FnExactZoneBoundsSaid : Prop := fnExactZoneBoundsRow.holds Try.pinned (OpenSpec.ofChange fnExactZoneBoundsSpec)

/-- ITS FALSE NEIGHBOUR: 'it returns false'. Refute it at one input. -/
def fnExactZoneBoundsWrong : ChangeSpec := { name := "fnExactZoneBounds", fn := fun _ => fun
  | [d] => { results := [.lit (.bool false)], args := [d] }
  | _ => none }
def FnExactZoneBoundsWrongFalsely : Prop := fnExactZoneBoundsRow.holds Try.pinned (OpenSpec.ofChange fnExactZoneBoundsWrong)

/-- 'laws.FnExactUncoveredHours': WHATEVER THE INPUT: true; the input reads as it did. -/
def fnExactUncoveredHoursSpec : ChangeSpec := { name := "fnExactUncoveredHours", fn := fun _ => fun
  | [d1, d2, d3] => { results := [.lit (.bool true)], args := [d1, d2, d3] }
  | _ => none }
def fnExactUncoveredHoursRow : OpenClaim := { program := "ytamiipnoeffjkaa", sum := "6ff3395ca3cebfc0ad48dd6593e29219721fe97b9ad5bd0e0776652ed2ecc671", func := "loop.example/g01011/laws.FnExactUncoveredHours", spec := "fnExactUncoveredHours", apart := false }
def FnExactUncoveredHoursSaid : Prop := fnExactUncoveredHoursRow.holds Try.pinned (OpenSpec.ofChange fnExactUncoveredHoursSpec)

/-- ITS FALSE NEIGHBOUR: 'it returns false'. Refute it at one input. -/
def fnExactUncoveredHoursWrong : ChangeSpec := { name := "fnExactUncoveredHours", fn := fun _ => fun
  | [d1, d2, d3] => { results := [.lit (.bool false)], args := [d1, d2, d3] }
  | _ => none }
def FnExactUncoveredHoursWrongFalsely : Prop := fnExactUncoveredHoursRow.holds Try.pinned (OpenSpec.ofChange fnExactUncoveredHoursWrong)

/-- 'laws.FnExactRestProblems': WHATEVER THE INPUT: true; the input reads as it did. -/
def fnExactRestProblemsSpec : ChangeSpec := { name := "fnExactRestProblems", fn := fun _ => fun
  | [d1, d2] => { results := [.lit (.bool true)], args := [d1, d2] }
  | _ => none }
def fnExactRestProblemsRow : OpenClaim := { program := "ytamiipnoeffjkaa", sum := "6ff3395ca3cebfc0ad48dd6593e29219721fe97b9ad5bd0e0776652ed2ecc671", func := "loop.example/g01011/laws.FnExactRestProblems", spec := "fnExactRestProblems", apart := false }
def FnExactRestProblemsSaid : Prop := fnExactRestProblemsRow.holds Try.pinned (OpenSpec.ofChange fnExactRestProblemsSpec)

/-- ITS FALSE NEIGHBOUR: 'it returns false'. Refute it at one input. -/
def fnExactRestProblemsWrong : ChangeSpec := { name := "fnExactRestProblems", fn := fun _ => fun
  | [d1, d2] => { results := [.lit (.bool false)], args := [d1, d2] }
  | _ => none }
def FnExactRestProblemsWrongFalsely : Prop := fnExactRestProblemsRow.holds Try.pinned (OpenSpec.ofChange fnExactRestProblemsWrong)

/-- 'laws.FnExactEstimatedUnits': WHATEVER THE INPUT: true; the input reads as it did. -/
def fnExactEstimatedUnitsSpec : ChangeSpec := { name := "fnExactEstimatedUnits", fn := fun _ => fun
  | [d1, d2] => { results := [.lit (.bool true)], args := [d1, d2] }
  | _ => none }
def fnExactEstimatedUnitsRow : OpenClaim := { program := "ytamiipnoeffjkaa", sum := "6ff3395ca3cebfc0ad48dd6593e29219721fe97b9ad5bd0e0776652ed2ecc671", func := "loop.example/g01011/laws.FnExactEstimatedUnits", spec := "fnExactEstimatedUnits", unfollowed := true, recurses := true, apart := false }
def FnExactEstimatedUnitsSaid : Prop := fnExactEstimatedUnitsRow.holds Try.pinned (OpenSpec.ofChange fnExactEstimatedUnitsSpec)

/-- ITS FALSE NEIGHBOUR: 'it returns false'. Refute it at one input. -/
def fnExactEstimatedUnitsWrong : ChangeSpec := { name := "fnExactEstimatedUnits", fn := fun _ => fun
  | [d1, d2] => { results := [.lit (.bool false)], args := [d1, d2] }
  | _ => none }
def FnExactEstimatedUnitsWrongFalsely : Prop := fnExactEstimatedUnitsRow.holds Try.pinned (OpenSpec.ofChange fnExactEstimatedUnitsWrong)

/-- 'laws.FnExactAddReading': WHATEVER THE INPUT: true; the input reads as it did. -/
def fnExactAddReadingSpec : ChangeSpec := { name := "fnExactAddReading", fn := fun _ => fun
  | [d1, d2] => { results := [.lit (.bool true)], args := [d1, d2] }
  | _ => none }
def fnExactAddReadingRow : OpenClaim := { program := "ytamiipnoeffjkaa", sum := "6ff3395ca3cebfc0ad48dd6593e29219721fe97b9ad5bd0e0776652ed2ecc671", func := "loop.example/g01011/laws.FnExactAddReading", spec := "fnExactAddReading", inPlace := ["slices.overlaps[loop.example/g01011/impl.Reading]"], unfollowed := true, recurses := true, apart := false }
def FnExactAddReadingSaid : Prop := fnExactAddReadingRow.holds Try.pinned (OpenSpec.ofChange fnExactAddReadingSpec)

/-- ITS FALSE NEIGHBOUR: 'it returns false'. Refute it at one input. -/
def fnExactAddReadingWrong : ChangeSpec := { name := "fnExactAddReading", fn := fun _ => fun
  | [d1, d2] => { results := [.lit (.bool false)], args := [d1, d2] }
  | _ => none }
def FnExactAddReadingWrongFalsely : Prop := fnExactAddReadingRow.holds Try.pinned (OpenSpec.ofChange fnExactAddReadingWrong)

/-- 'laws.FnExactOutdoorFor': WHATEVER THE INPUT: true; the input reads as it did. -/
def fnExactOutdoorForSpec : ChangeSpec := { name := "fnExactOutdoorFor", fn := fun _ => fun
  | [d1, d2, d3] => { results := [.lit (.bool true)], args := [d1, d2, d3] }
  | _ => none }
def fnExactOutdoorForRow : OpenClaim := { program := "ytamiipnoeffjkaa", sum := "6ff3395ca3cebfc0ad48dd6593e29219721fe97b9ad5bd0e0776652ed2ecc671", func := "loop.example/g01011/laws.FnExactOutdoorFor", spec := "fnExactOutdoorFor", unfollowed := true, recurses := true, apart := false }
def FnExactOutdoorForSaid : Prop := fnExactOutdoorForRow.holds Try.pinned (OpenSpec.ofChange fnExactOutdoorForSpec)

/-- ITS FALSE NEIGHBOUR: 'it returns false'. Refute it at one input. -/
def fnExactOutdoorForWrong : ChangeSpec := { name := "fnExactOutdoorFor", fn := fun _ => fun
  | [d1, d2, d3] => { results := [.lit (.bool false)], args := [d1, d2, d3] }
  | _ => none }
def FnExactOutdoorForWrongFalsely : Prop := fnExactOutdoorForRow.holds Try.pinned (OpenSpec.ofChange fnExactOutdoorForWrong)

/-- 'laws.FnExactHeatOf': WHATEVER THE INPUT: true; the input reads as it did. -/
def fnExactHeatOfSpec : ChangeSpec := { name := "fnExactHeatOf", fn := fun _ => fun
  | [d1, d2] => { results := [.lit (.bool true)], args := [d1, d2] }
  | _ => none }
def fnExactHeatOfRow : OpenClaim := { program := "ytamiipnoeffjkaa", sum := "6ff3395ca3cebfc0ad48dd6593e29219721fe97b9ad5bd0e0776652ed2ecc671", func := "loop.example/g01011/laws.FnExactHeatOf", spec := "fnExactHeatOf", unfollowed := true, recurses := true, apart := false }
def FnExactHeatOfSaid : Prop := fnExactHeatOfRow.holds Try.pinned (OpenSpec.ofChange fnExactHeatOfSpec)

/-- ITS FALSE NEIGHBOUR: 'it returns false'. Refute it at one input. -/
def fnExactHeatOfWrong : ChangeSpec := { name := "fnExactHeatOf", fn := fun _ => fun
  | [d1, d2] => { results := [.lit (.bool false)], args := [d1, d2] }
  | _ => none }
def FnExactHeatOfWrongFalsely : Prop := fnExactHeatOfRow.holds Try.pinned (OpenSpec.ofChange fnExactHeatOfWrong)

/-- 'laws.FnExactNodeLoads': WHATEVER THE INPUT: true; the input reads as it did. -/
def fnExactNodeLoadsSpec : ChangeSpec := { name := "fnExactNodeLoads", fn := fun _ => fun
  | [d1, d2, d3, d4] => { results := [.lit (.bool true)], args := [d1, d2, d3, d4] }
  | _ => none }
def fnExactNodeLoadsRow : OpenClaim := { program := "ytamiipnoeffjkaa", sum := "6ff3395ca3cebfc0ad48dd6593e29219721fe97b9ad5bd0e0776652ed2ecc671", func := "loop.example/g01011/laws.FnExactNodeLoads", spec := "fnExactNodeLoads", unfollowed := true, recurses := true, apart := false }
def FnExactNodeLoadsSaid : Prop := fnExactNodeLoadsRow.holds Try.pinned (OpenSpec.ofChange fnExactNodeLoadsSpec)

/-- ITS FALSE NEIGHBOUR: 'it returns false'. Refute it at one input. -/
def fnExactNodeLoadsWrong : ChangeSpec := { name := "fnExactNodeLoads", fn := fun _ => fun
  | [d1, d2, d3, d4] => { results := [.lit (.bool false)], args := [d1, d2, d3, d4] }
  | _ => none }
def FnExactNodeLoadsWrongFalsely : Prop := fnExactNodeLoadsRow.holds Try.pinned (OpenSpec.ofChange fnExactNodeLoadsWrong)

/-- 'laws.FnExactPeakHour': WHATEVER THE INPUT: true; the input reads as it did. -/
def fnExactPeakHourSpec : ChangeSpec := { name := "fnExactPeakHour", fn := fun _ => fun
  | [d1, d2] => { results := [.lit (.bool true)], args := [d1, d2] }
  | _ => none }
def fnExactPeakHourRow : OpenClaim := { program := "ytamiipnoeffjkaa", sum := "6ff3395ca3cebfc0ad48dd6593e29219721fe97b9ad5bd0e0776652ed2ecc671", func := "loop.example/g01011/laws.FnExactPeakHour", spec := "fnExactPeakHour", unfollowed := true, recurses := true, apart := false }
def FnExactPeakHourSaid : Prop := fnExactPeakHourRow.holds Try.pinned (OpenSpec.ofChange fnExactPeakHourSpec)

/-- ITS FALSE NEIGHBOUR: 'it returns false'. Refute it at one input. -/
def fnExactPeakHourWrong : ChangeSpec := { name := "fnExactPeakHour", fn := fun _ => fun
  | [d1, d2] => { results := [.lit (.bool false)], args := [d1, d2] }
  | _ => none }
def FnExactPeakHourWrongFalsely : Prop := fnExactPeakHourRow.holds Try.pinned (OpenSpec.ofChange fnExactPeakHourWrong)

/-- 'laws.FnExactForecastOf': WHATEVER THE INPUT: true; the input reads as it did. -/
def fnExactForecastOfSpec : ChangeSpec := { name := "fnExactForecastOf", fn := fun _ => fun
  | [d1, d2] => { results := [.lit (.bool true)], args := [d1, d2] }
  | _ => none }
def fnExactForecastOfRow : OpenClaim := { program := "ytamiipnoeffjkaa", sum := "6ff3395ca3cebfc0ad48dd6593e29219721fe97b9ad5bd0e0776652ed2ecc671", func := "loop.example/g01011/laws.FnExactForecastOf", spec := "fnExactForecastOf", unfollowed := true, recurses := true, apart := false }
def FnExactForecastOfSaid : Prop := fnExactForecastOfRow.holds Try.pinned (OpenSpec.ofChange fnExactForecastOfSpec)

/-- ITS FALSE NEIGHBOUR: 'it returns false'. Refute it at one input. -/
def fnExactForecastOfWrong : ChangeSpec := { name := "fnExactForecastOf", fn := fun _ => fun
  | [d1, d2] => { results := [.lit (.bool false)], args := [d1, d2] }
  | _ => none }
def FnExactForecastOfWrongFalsely : Prop := fnExactForecastOfRow.holds Try.pinned (OpenSpec.ofChange fnExactForecastOfWrong)

/-- 'laws.FnForecasts': WHATEVER THE INPUT: true; the input reads as it did. -/
def fnForecastsSpec : ChangeSpec := { name := "fnForecasts", fn := fun _ => fun
  | [d1, d2] => { results := [.lit (.bool true)], args := [d1, d2] }
  | _ => none }
def fnForecastsRow : OpenClaim := { program := "ytamiipnoeffjkaa", sum := "6ff3395ca3cebfc0ad48dd6593e29219721fe97b9ad5bd0e0776652ed2ecc671", func := "loop.example/g01011/laws.FnForecasts", spec := "fnForecasts", unfollowed := true, recurses := true, apart := false }
def FnForecastsSaid : Prop := fnForecastsRow.holds Try.pinned (OpenSpec.ofChange fnForecastsSpec)

/-- ITS FALSE NEIGHBOUR: 'it returns false'. Refute it at one input. -/
def fnForecastsWrong : ChangeSpec := { name := "fnForecasts", fn := fun _ => fun
  | [d1, d2] => { results := [.lit (.bool false)], args := [d1, d2] }
  | _ => none }
def FnForecastsWrongFalsely : Prop := fnForecastsRow.holds Try.pinned (OpenSpec.ofChange fnForecastsWrong)

/-- 'laws.FnExactHeadsOf': WHATEVER THE INPUT: true; the input reads as it did. -/
def fnExactHeadsOfSpec : ChangeSpec := { name := "fnExactHeadsOf", fn := fun _ => fun
  | [d] => { results := [.lit (.bool true)], args := [d] }
  | _ => none }
def fnExactHeadsOfRow : OpenClaim := { program := "ytamiipnoeffjkaa", sum := "6ff3395ca3cebfc0ad48dd6593e29219721fe97b9ad5bd0e0776652ed2ecc671", func := "loop.example/g01011/laws.FnExactHeadsOf", spec := "fnExactHeadsOf", unfollowed := true, recurses := true, apart := false }
def FnExactHeadsOfSaid : Prop := fnExactHeadsOfRow.holds Try.pinned (OpenSpec.ofChange fnExactHeadsOfSpec)

/-- ITS FALSE NEIGHBOUR: 'it returns false'. Refute it at one input. -/
def fnExactHeadsOfWrong : ChangeSpec := { name := "fnExactHeadsOf", fn := fun _ => fun
  | [d] => { results := [.lit (.bool false)], args := [d] }
  | _ => none }
def FnExactHeadsOfWrongFalsely : Prop := fnExactHeadsOfRow.holds Try.pinned (OpenSpec.ofChange fnExactHeadsOfWrong)

/- THE SECOND FORM. 'bulk': how many values and letters a reading holds, each counted each time it is reached (what is shared counts as often as it is met; a slice's spare places count too). A statement '..UptoSaid' is the law's where the arguments, and the package variables that the reading takes, are together of bulk at most 1048576: NARROWER than '..Said'. Prove '..Said' where nothing that the law and all that it calls make is longer than what came in: it says more and counts as full. Else prove '..UptoSaid'. A law counts once. -/
mutual
def uptoBulk {H : Type} : DataW H → Nat
  | .lit (.string bytes) => bytes.length + 1
  | .lit _ => 1
  | .nil => 1
  | .ptr d => uptoBulk d + 1
  | .slice elems spare => uptoBulkAll elems + uptoBulkAll spare + 1
  | .agg parts => uptoBulkAll parts + 1
  | .iface _ d => uptoBulk d + 1
  | .map entries => uptoBulkEntries entries + 1
  | .held _ => 1
def uptoBulkAll {H : Type} : List (DataW H) → Nat
  | [] => 0
  | d :: r => uptoBulk d + uptoBulkAll r
def uptoBulkEntries {H : Type} : List (Lit × DataW H) → Nat
  | [] => 0
  | x :: r => uptoBulkEntry x + uptoBulkEntries r
def uptoBulkEntry {H : Type} : Lit × DataW H → Nat
  | (.string bytes, d) => bytes.length + uptoBulk d + 1
  | (_, d) => uptoBulk d + 1
 end
def uptoSmall : (H : Type) → List (DataW H) → Bool := fun _ ds => decide (uptoBulkAll ds ≤ 1048576)
def OpenSpec.upto (s : _root_.Go.ChangeSpec) : _root_.Go.OpenSpec := { _root_.Go.OpenSpec.ofChange s with cond := some uptoSmall }

/-- 'laws.FnExactZoneBounds', WHERE WHAT IT READS IS OF BULK AT MOST 1048576: true; the input reads as it did. -/
def fnExactZoneBoundsUptoRow : OpenClaim := { program := "ytamiipnoeffjkaa", sum := "6ff3395ca3cebfc0ad48dd6593e29219721fe97b9ad5bd0e0776652ed2ecc671", func := "loop.example/g01011/laws.FnExactZoneBounds", spec := "fnExactZoneBounds", apart := false, narrowed := true }
def FnExactZoneBoundsUptoSaid : Prop := fnExactZoneBoundsUptoRow.holds Try.pinned (OpenSpec.upto fnExactZoneBoundsSpec)

/-- 'laws.FnExactUncoveredHours', WHERE WHAT IT READS IS OF BULK AT MOST 1048576: true; the input reads as it did. -/
def fnExactUncoveredHoursUptoRow : OpenClaim := { program := "ytamiipnoeffjkaa", sum := "6ff3395ca3cebfc0ad48dd6593e29219721fe97b9ad5bd0e0776652ed2ecc671", func := "loop.example/g01011/laws.FnExactUncoveredHours", spec := "fnExactUncoveredHours", apart := false, narrowed := true }
def FnExactUncoveredHoursUptoSaid : Prop := fnExactUncoveredHoursUptoRow.holds Try.pinned (OpenSpec.upto fnExactUncoveredHoursSpec)

/-- 'laws.FnExactRestProblems', WHERE WHAT IT READS IS OF BULK AT MOST 1048576: true; the input reads as it did. -/
def fnExactRestProblemsUptoRow : OpenClaim := { program := "ytamiipnoeffjkaa", sum := "6ff3395ca3cebfc0ad48dd6593e29219721fe97b9ad5bd0e0776652ed2ecc671", func := "loop.example/g01011/laws.FnExactRestProblems", spec := "fnExactRestProblems", apart := false, narrowed := true }
def FnExactRestProblemsUptoSaid : Prop := fnExactRestProblemsUptoRow.holds Try.pinned (OpenSpec.upto fnExactRestProblemsSpec)

/-- 'laws.FnExactEstimatedUnits', WHERE WHAT IT READS IS OF BULK AT MOST 1048576: true; the input reads as it did. -/
def fnExactEstimatedUnitsUptoRow : OpenClaim := { program := "ytamiipnoeffjkaa", sum := "6ff3395ca3cebfc0ad48dd6593e29219721fe97b9ad5bd0e0776652ed2ecc671", func := "loop.example/g01011/laws.FnExactEstimatedUnits", spec := "fnExactEstimatedUnits", unfollowed := true, recurses := true, apart := false, narrowed := true }
def FnExactEstimatedUnitsUptoSaid : Prop := fnExactEstimatedUnitsUptoRow.holds Try.pinned (OpenSpec.upto fnExactEstimatedUnitsSpec)

/-- 'laws.FnExactAddReading', WHERE WHAT IT READS IS OF BULK AT MOST 1048576: true; the input reads as it did. -/
def fnExactAddReadingUptoRow : OpenClaim := { program := "ytamiipnoeffjkaa", sum := "6ff3395ca3cebfc0ad48dd6593e29219721fe97b9ad5bd0e0776652ed2ecc671", func := "loop.example/g01011/laws.FnExactAddReading", spec := "fnExactAddReading", inPlace := ["slices.overlaps[loop.example/g01011/impl.Reading]"], unfollowed := true, recurses := true, apart := false, narrowed := true }
def FnExactAddReadingUptoSaid : Prop := fnExactAddReadingUptoRow.holds Try.pinned (OpenSpec.upto fnExactAddReadingSpec)

/-- 'laws.FnExactOutdoorFor', WHERE WHAT IT READS IS OF BULK AT MOST 1048576: true; the input reads as it did. -/
def fnExactOutdoorForUptoRow : OpenClaim := { program := "ytamiipnoeffjkaa", sum := "6ff3395ca3cebfc0ad48dd6593e29219721fe97b9ad5bd0e0776652ed2ecc671", func := "loop.example/g01011/laws.FnExactOutdoorFor", spec := "fnExactOutdoorFor", unfollowed := true, recurses := true, apart := false, narrowed := true }
def FnExactOutdoorForUptoSaid : Prop := fnExactOutdoorForUptoRow.holds Try.pinned (OpenSpec.upto fnExactOutdoorForSpec)

/-- 'laws.FnExactHeatOf', WHERE WHAT IT READS IS OF BULK AT MOST 1048576: true; the input reads as it did. -/
def fnExactHeatOfUptoRow : OpenClaim := { program := "ytamiipnoeffjkaa", sum := "6ff3395ca3cebfc0ad48dd6593e29219721fe97b9ad5bd0e0776652ed2ecc671", func := "loop.example/g01011/laws.FnExactHeatOf", spec := "fnExactHeatOf", unfollowed := true, recurses := true, apart := false, narrowed := true }
def FnExactHeatOfUptoSaid : Prop := fnExactHeatOfUptoRow.holds Try.pinned (OpenSpec.upto fnExactHeatOfSpec)

/-- 'laws.FnExactNodeLoads', WHERE WHAT IT READS IS OF BULK AT MOST 1048576: true; the input reads as it did. -/
def fnExactNodeLoadsUptoRow : OpenClaim := { program := "ytamiipnoeffjkaa", sum := "6ff3395ca3cebfc0ad48dd6593e29219721fe97b9ad5bd0e0776652ed2ecc671", func := "loop.example/g01011/laws.FnExactNodeLoads", spec := "fnExactNodeLoads", unfollowed := true, recurses := true, apart := false, narrowed := true }
def FnExactNodeLoadsUptoSaid : Prop := fnExactNodeLoadsUptoRow.holds Try.pinned (OpenSpec.upto fnExactNodeLoadsSpec)

/-- 'laws.FnExactPeakHour', WHERE WHAT IT READS IS OF BULK AT MOST 1048576: true; the input reads as it did. -/
def fnExactPeakHourUptoRow : OpenClaim := { program := "ytamiipnoeffjkaa", sum := "6ff3395ca3cebfc0ad48dd6593e29219721fe97b9ad5bd0e0776652ed2ecc671", func := "loop.example/g01011/laws.FnExactPeakHour", spec := "fnExactPeakHour", unfollowed := true, recurses := true, apart := false, narrowed := true }
def FnExactPeakHourUptoSaid : Prop := fnExactPeakHourUptoRow.holds Try.pinned (OpenSpec.upto fnExactPeakHourSpec)

/-- 'laws.FnExactForecastOf', WHERE WHAT IT READS IS OF BULK AT MOST 1048576: true; the input reads as it did. -/
def fnExactForecastOfUptoRow : OpenClaim := { program := "ytamiipnoeffjkaa", sum := "6ff3395ca3cebfc0ad48dd6593e29219721fe97b9ad5bd0e0776652ed2ecc671", func := "loop.example/g01011/laws.FnExactForecastOf", spec := "fnExactForecastOf", unfollowed := true, recurses := true, apart := false, narrowed := true }
def FnExactForecastOfUptoSaid : Prop := fnExactForecastOfUptoRow.holds Try.pinned (OpenSpec.upto fnExactForecastOfSpec)

/-- 'laws.FnForecasts', WHERE WHAT IT READS IS OF BULK AT MOST 1048576: true; the input reads as it did. -/
def fnForecastsUptoRow : OpenClaim := { program := "ytamiipnoeffjkaa", sum := "6ff3395ca3cebfc0ad48dd6593e29219721fe97b9ad5bd0e0776652ed2ecc671", func := "loop.example/g01011/laws.FnForecasts", spec := "fnForecasts", unfollowed := true, recurses := true, apart := false, narrowed := true }
def FnForecastsUptoSaid : Prop := fnForecastsUptoRow.holds Try.pinned (OpenSpec.upto fnForecastsSpec)

/-- 'laws.FnExactHeadsOf', WHERE WHAT IT READS IS OF BULK AT MOST 1048576: true; the input reads as it did. -/
def fnExactHeadsOfUptoRow : OpenClaim := { program := "ytamiipnoeffjkaa", sum := "6ff3395ca3cebfc0ad48dd6593e29219721fe97b9ad5bd0e0776652ed2ecc671", func := "loop.example/g01011/laws.FnExactHeadsOf", spec := "fnExactHeadsOf", unfollowed := true, recurses := true, apart := false, narrowed := true }
def FnExactHeadsOfUptoSaid : Prop := fnExactHeadsOfUptoRow.holds Try.pinned (OpenSpec.upto fnExactHeadsOfSpec)

end Rows
end Go.Proofs.Ytamiipnoeffjkaa
