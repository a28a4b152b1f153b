/-
  No cell of these rows narrows 'for every input' (looked for: loops, veiled, ifaces, maps, wideKeys, modest, calm, conditions, laid).
  DERIVED. THE GIVEN ROWS OF THIS SEAT. 12 by the template 'for every input the law returns true; each argument reads behind the call as it read before'; 0 by the template 'total and deterministic' (their statements: YtionpndhcijmcaaTotals.lean).
  GIVEN WITH THE SEED: the statements are not yours to turn. If you find one false, say at which input.
  Laid BY PROGRAM, IN A SANDBOX (cutbox-rows.mjs): the forced cells as the released guide's own fill.sh prints them over the translation 749a2ea82d8a371b… (all of the seat's roots in one cut). By AI agents, Wed Nov 11 2026. No macro, syntax, notation, axiom, sorry.
-/
import Derived.Test.YtionpndhcijmcaaChecked
import GoSem.Claim
import GoSem.ClaimJoined
import GoSem.ClaimMapViews
import Derived.JoinedTies
import Derived.KernelRfl
namespace Go.Proofs.Ytionpndhcijmcaa
/- THE CELL 'sum', in the pinned program and in every row, IS THE sha256 OF THE DUMP (.gsa) THAT YtionpndhcijmcaaProg.lean LOADS. Nothing in Lean hashes anything: it is a label: what it is worth is what the hold of that sum in a sandbox is worth. -/
noncomputable def Try.pinned : Pinned := { name := "ytionpndhcijmcaa", sum := "749a2ea82d8a371b760cf26b1e034126d0c800383b73c6ca58619c1d98dc45e3", checked := Try.checked }
namespace Rows
def none {H : Type} : Left H := { results := [], args := [] }

/-- 'laws.FnExactGangHeat': WHATEVER THE INPUT: true; the input reads as it did. -/
def fnExactGangHeatSpec : ChangeSpec := { name := "fnExactGangHeat", fn := fun _ => fun
  | [d1, d2, d3] => { results := [.lit (.bool true)], args := [d1, d2, d3] }
  | _ => none }
def fnExactGangHeatRow : OpenClaim := { program := "ytionpndhcijmcaa", sum := "749a2ea82d8a371b760cf26b1e034126d0c800383b73c6ca58619c1d98dc45e3", func := "loop.example/g01011/laws.FnExactGangHeat", spec := "fnExactGangHeat", apart := false }
def FnExactGangHeatSaid : Prop := fnExactGangHeatRow.holds Try.pinned (OpenSpec.ofChange fnExactGangHeatSpec)

/-- ITS FALSE NEIGHBOUR: 'it returns false'. Refute it at one input. -/
def fnExactGangHeatWrong : ChangeSpec := { name := "fnExactGangHeat", fn := fun _ => fun
  | [d1, d2, d3] => { results := [.lit (.bool false)], args := [d1, d2, d3] }
  | _ => none }
def FnExactGangHeatWrongFalsely : Prop := fnExactGangHeatRow.holds Try.pinned (OpenSpec.ofChange fnExactGangHeatWrong)

/-- 'laws.FnExactLatestEnd': WHATEVER THE INPUT: true; the input reads as it did. -/
def fnExactLatestEndSpec : ChangeSpec := { name := "fnExactLatestEnd", fn := fun _ => fun
  | [d1, d2, d3] => { results := [.lit (.bool true)], args := [d1, d2, d3] }
  | _ => none }
def fnExactLatestEndRow : OpenClaim := { program := "ytionpndhcijmcaa", sum := "749a2ea82d8a371b760cf26b1e034126d0c800383b73c6ca58619c1d98dc45e3", func := "loop.example/g01011/laws.FnExactLatestEnd", spec := "fnExactLatestEnd", apart := false }
def FnExactLatestEndSaid : Prop := fnExactLatestEndRow.holds Try.pinned (OpenSpec.ofChange fnExactLatestEndSpec)

/-- ITS FALSE NEIGHBOUR: 'it returns false'. Refute it at one input. -/
def fnExactLatestEndWrong : ChangeSpec := { name := "fnExactLatestEnd", fn := fun _ => fun
  | [d1, d2, d3] => { results := [.lit (.bool false)], args := [d1, d2, d3] }
  | _ => none }
def FnExactLatestEndWrongFalsely : Prop := fnExactLatestEndRow.holds Try.pinned (OpenSpec.ofChange fnExactLatestEndWrong)

/-- 'laws.FnExactUnservedHeat': WHATEVER THE INPUT: true; the input reads as it did. -/
def fnExactUnservedHeatSpec : ChangeSpec := { name := "fnExactUnservedHeat", fn := fun _ => fun
  | [d1, d2] => { results := [.lit (.bool true)], args := [d1, d2] }
  | _ => none }
def fnExactUnservedHeatRow : OpenClaim := { program := "ytionpndhcijmcaa", sum := "749a2ea82d8a371b760cf26b1e034126d0c800383b73c6ca58619c1d98dc45e3", func := "loop.example/g01011/laws.FnExactUnservedHeat", spec := "fnExactUnservedHeat", apart := false }
def FnExactUnservedHeatSaid : Prop := fnExactUnservedHeatRow.holds Try.pinned (OpenSpec.ofChange fnExactUnservedHeatSpec)

/-- ITS FALSE NEIGHBOUR: 'it returns false'. Refute it at one input. -/
def fnExactUnservedHeatWrong : ChangeSpec := { name := "fnExactUnservedHeat", fn := fun _ => fun
  | [d1, d2] => { results := [.lit (.bool false)], args := [d1, d2] }
  | _ => none }
def FnExactUnservedHeatWrongFalsely : Prop := fnExactUnservedHeatRow.holds Try.pinned (OpenSpec.ofChange fnExactUnservedHeatWrong)

/-- 'laws.FnExactGangEnds': WHATEVER THE INPUT: true; the input reads as it did. -/
def fnExactGangEndsSpec : ChangeSpec := { name := "fnExactGangEnds", fn := fun _ => fun
  | [d1, d2, d3] => { results := [.lit (.bool true)], args := [d1, d2, d3] }
  | _ => none }
def fnExactGangEndsRow : OpenClaim := { program := "ytionpndhcijmcaa", sum := "749a2ea82d8a371b760cf26b1e034126d0c800383b73c6ca58619c1d98dc45e3", func := "loop.example/g01011/laws.FnExactGangEnds", spec := "fnExactGangEnds", apart := false }
def FnExactGangEndsSaid : Prop := fnExactGangEndsRow.holds Try.pinned (OpenSpec.ofChange fnExactGangEndsSpec)

/-- ITS FALSE NEIGHBOUR: 'it returns false'. Refute it at one input. -/
def fnExactGangEndsWrong : ChangeSpec := { name := "fnExactGangEnds", fn := fun _ => fun
  | [d1, d2, d3] => { results := [.lit (.bool false)], args := [d1, d2, d3] }
  | _ => none }
def FnExactGangEndsWrongFalsely : Prop := fnExactGangEndsRow.holds Try.pinned (OpenSpec.ofChange fnExactGangEndsWrong)

/-- 'laws.FnExactFewestGangs': WHATEVER THE INPUT: true; the input reads as it did. -/
def fnExactFewestGangsSpec : ChangeSpec := { name := "fnExactFewestGangs", fn := fun _ => fun
  | [d1, d2, d3] => { results := [.lit (.bool true)], args := [d1, d2, d3] }
  | _ => none }
def fnExactFewestGangsRow : OpenClaim := { program := "ytionpndhcijmcaa", sum := "749a2ea82d8a371b760cf26b1e034126d0c800383b73c6ca58619c1d98dc45e3", func := "loop.example/g01011/laws.FnExactFewestGangs", spec := "fnExactFewestGangs", unfollowed := true, recurses := true, apart := false }
def FnExactFewestGangsSaid : Prop := fnExactFewestGangsRow.holds Try.pinned (OpenSpec.ofChange fnExactFewestGangsSpec)

/-- ITS FALSE NEIGHBOUR: 'it returns false'. Refute it at one input. -/
def fnExactFewestGangsWrong : ChangeSpec := { name := "fnExactFewestGangs", fn := fun _ => fun
  | [d1, d2, d3] => { results := [.lit (.bool false)], args := [d1, d2, d3] }
  | _ => none }
def FnExactFewestGangsWrongFalsely : Prop := fnExactFewestGangsRow.holds Try.pinned (OpenSpec.ofChange fnExactFewestGangsWrong)

/-- 'laws.FnExactEndTimes': WHATEVER THE INPUT: true; the input reads as it did. -/
def fnExactEndTimesSpec : ChangeSpec := { name := "fnExactEndTimes", fn := fun _ => fun
  | [d1, d2] => { results := [.lit (.bool true)], args := [d1, d2] }
  | _ => none }
def fnExactEndTimesRow : OpenClaim := { program := "ytionpndhcijmcaa", sum := "749a2ea82d8a371b760cf26b1e034126d0c800383b73c6ca58619c1d98dc45e3", func := "loop.example/g01011/laws.FnExactEndTimes", spec := "fnExactEndTimes", apart := false }
def FnExactEndTimesSaid : Prop := fnExactEndTimesRow.holds Try.pinned (OpenSpec.ofChange fnExactEndTimesSpec)

/-- ITS FALSE NEIGHBOUR: 'it returns false'. Refute it at one input. -/
def fnExactEndTimesWrong : ChangeSpec := { name := "fnExactEndTimes", fn := fun _ => fun
  | [d1, d2] => { results := [.lit (.bool false)], args := [d1, d2] }
  | _ => none }
def FnExactEndTimesWrongFalsely : Prop := fnExactEndTimesRow.holds Try.pinned (OpenSpec.ofChange fnExactEndTimesWrong)

/-- 'laws.FnExactDoneBy': WHATEVER THE INPUT: true; the input reads as it did. -/
def fnExactDoneBySpec : ChangeSpec := { name := "fnExactDoneBy", fn := fun _ => fun
  | [d1, d2, d3, d4] => { results := [.lit (.bool true)], args := [d1, d2, d3, d4] }
  | _ => none }
def fnExactDoneByRow : OpenClaim := { program := "ytionpndhcijmcaa", sum := "749a2ea82d8a371b760cf26b1e034126d0c800383b73c6ca58619c1d98dc45e3", func := "loop.example/g01011/laws.FnExactDoneBy", spec := "fnExactDoneBy", apart := false }
def FnExactDoneBySaid : Prop := fnExactDoneByRow.holds Try.pinned (OpenSpec.ofChange fnExactDoneBySpec)

/-- ITS FALSE NEIGHBOUR: 'it returns false'. Refute it at one input. -/
def fnExactDoneByWrong : ChangeSpec := { name := "fnExactDoneBy", fn := fun _ => fun
  | [d1, d2, d3, d4] => { results := [.lit (.bool false)], args := [d1, d2, d3, d4] }
  | _ => none }
def FnExactDoneByWrongFalsely : Prop := fnExactDoneByRow.holds Try.pinned (OpenSpec.ofChange fnExactDoneByWrong)

/-- 'laws.FnGangs': WHATEVER THE INPUT: true; the input reads as it did. -/
def fnGangsSpec : ChangeSpec := { name := "fnGangs", fn := fun _ => fun
  | [d1, d2] => { results := [.lit (.bool true)], args := [d1, d2] }
  | _ => none }
def fnGangsRow : OpenClaim := { program := "ytionpndhcijmcaa", sum := "749a2ea82d8a371b760cf26b1e034126d0c800383b73c6ca58619c1d98dc45e3", func := "loop.example/g01011/laws.FnGangs", spec := "fnGangs", unfollowed := true, recurses := true, apart := false }
def FnGangsSaid : Prop := fnGangsRow.holds Try.pinned (OpenSpec.ofChange fnGangsSpec)

/-- ITS FALSE NEIGHBOUR: 'it returns false'. Refute it at one input. -/
def fnGangsWrong : ChangeSpec := { name := "fnGangs", fn := fun _ => fun
  | [d1, d2] => { results := [.lit (.bool false)], args := [d1, d2] }
  | _ => none }
def FnGangsWrongFalsely : Prop := fnGangsRow.holds Try.pinned (OpenSpec.ofChange fnGangsWrong)

/-- 'laws.FnExactFixedShares': WHATEVER THE INPUT: true; the input reads as it did. -/
def fnExactFixedSharesSpec : ChangeSpec := { name := "fnExactFixedShares", fn := fun _ => fun
  | [d1, d2] => { results := [.lit (.bool true)], args := [d1, d2] }
  | _ => none }
def fnExactFixedSharesRow : OpenClaim := { program := "ytionpndhcijmcaa", sum := "749a2ea82d8a371b760cf26b1e034126d0c800383b73c6ca58619c1d98dc45e3", func := "loop.example/g01011/laws.FnExactFixedShares", spec := "fnExactFixedShares", unfollowed := true, recurses := true, apart := false }
def FnExactFixedSharesSaid : Prop := fnExactFixedSharesRow.holds Try.pinned (OpenSpec.ofChange fnExactFixedSharesSpec)

/-- ITS FALSE NEIGHBOUR: 'it returns false'. Refute it at one input. -/
def fnExactFixedSharesWrong : ChangeSpec := { name := "fnExactFixedShares", fn := fun _ => fun
  | [d1, d2] => { results := [.lit (.bool false)], args := [d1, d2] }
  | _ => none }
def FnExactFixedSharesWrongFalsely : Prop := fnExactFixedSharesRow.holds Try.pinned (OpenSpec.ofChange fnExactFixedSharesWrong)

/-- 'laws.FnExactUsedShares': WHATEVER THE INPUT: true; the input reads as it did. -/
def fnExactUsedSharesSpec : ChangeSpec := { name := "fnExactUsedShares", fn := fun _ => fun
  | [d1, d2] => { results := [.lit (.bool true)], args := [d1, d2] }
  | _ => none }
def fnExactUsedSharesRow : OpenClaim := { program := "ytionpndhcijmcaa", sum := "749a2ea82d8a371b760cf26b1e034126d0c800383b73c6ca58619c1d98dc45e3", func := "loop.example/g01011/laws.FnExactUsedShares", spec := "fnExactUsedShares", unfollowed := true, recurses := true, apart := false }
def FnExactUsedSharesSaid : Prop := fnExactUsedSharesRow.holds Try.pinned (OpenSpec.ofChange fnExactUsedSharesSpec)

/-- ITS FALSE NEIGHBOUR: 'it returns false'. Refute it at one input. -/
def fnExactUsedSharesWrong : ChangeSpec := { name := "fnExactUsedShares", fn := fun _ => fun
  | [d1, d2] => { results := [.lit (.bool false)], args := [d1, d2] }
  | _ => none }
def FnExactUsedSharesWrongFalsely : Prop := fnExactUsedSharesRow.holds Try.pinned (OpenSpec.ofChange fnExactUsedSharesWrong)

/-- 'laws.FnExactLargestShare': WHATEVER THE INPUT: true; the input reads as it did. -/
def fnExactLargestShareSpec : ChangeSpec := { name := "fnExactLargestShare", fn := fun _ => fun
  | [d1, d2, d3] => { results := [.lit (.bool true)], args := [d1, d2, d3] }
  | _ => none }
def fnExactLargestShareRow : OpenClaim := { program := "ytionpndhcijmcaa", sum := "749a2ea82d8a371b760cf26b1e034126d0c800383b73c6ca58619c1d98dc45e3", func := "loop.example/g01011/laws.FnExactLargestShare", spec := "fnExactLargestShare", apart := false }
def FnExactLargestShareSaid : Prop := fnExactLargestShareRow.holds Try.pinned (OpenSpec.ofChange fnExactLargestShareSpec)

/-- ITS FALSE NEIGHBOUR: 'it returns false'. Refute it at one input. -/
def fnExactLargestShareWrong : ChangeSpec := { name := "fnExactLargestShare", fn := fun _ => fun
  | [d1, d2, d3] => { results := [.lit (.bool false)], args := [d1, d2, d3] }
  | _ => none }
def FnExactLargestShareWrongFalsely : Prop := fnExactLargestShareRow.holds Try.pinned (OpenSpec.ofChange fnExactLargestShareWrong)

/-- 'laws.FnExactHeatBill': WHATEVER THE INPUT: true; the input reads as it did. -/
def fnExactHeatBillSpec : ChangeSpec := { name := "fnExactHeatBill", fn := fun _ => fun
  | [d1, d2, d3] => { results := [.lit (.bool true)], args := [d1, d2, d3] }
  | _ => none }
def fnExactHeatBillRow : OpenClaim := { program := "ytionpndhcijmcaa", sum := "749a2ea82d8a371b760cf26b1e034126d0c800383b73c6ca58619c1d98dc45e3", func := "loop.example/g01011/laws.FnExactHeatBill", spec := "fnExactHeatBill", apart := false }
def FnExactHeatBillSaid : Prop := fnExactHeatBillRow.holds Try.pinned (OpenSpec.ofChange fnExactHeatBillSpec)

/-- ITS FALSE NEIGHBOUR: 'it returns false'. Refute it at one input. -/
def fnExactHeatBillWrong : ChangeSpec := { name := "fnExactHeatBill", fn := fun _ => fun
  | [d1, d2, d3] => { results := [.lit (.bool false)], args := [d1, d2, d3] }
  | _ => none }
def FnExactHeatBillWrongFalsely : Prop := fnExactHeatBillRow.holds Try.pinned (OpenSpec.ofChange fnExactHeatBillWrong)

/- THE SECOND FORM. 'bulk': how many values and letters a reading holds, each counted each time it is reached (what is shared counts as often as it is met; a slice's spare places count too). A statement '..UptoSaid' is the law's where the arguments, and the package variables that the reading takes, are together of bulk at most 1048576: NARROWER than '..Said'. Prove '..Said' where nothing that the law and all that it calls make is longer than what came in: it says more and counts as full. Else prove '..UptoSaid'. A law counts once. -/
mutual
def uptoBulk {H : Type} : DataW H → Nat
  | .lit (.string bytes) => bytes.length + 1
  | .lit _ => 1
  | .nil => 1
  | .ptr d => uptoBulk d + 1
  | .slice elems spare => uptoBulkAll elems + uptoBulkAll spare + 1
  | .agg parts => uptoBulkAll parts + 1
  | .iface _ d => uptoBulk d + 1
  | .map entries => uptoBulkEntries entries + 1
  | .held _ => 1
def uptoBulkAll {H : Type} : List (DataW H) → Nat
  | [] => 0
  | d :: r => uptoBulk d + uptoBulkAll r
def uptoBulkEntries {H : Type} : List (Lit × DataW H) → Nat
  | [] => 0
  | x :: r => uptoBulkEntry x + uptoBulkEntries r
def uptoBulkEntry {H : Type} : Lit × DataW H → Nat
  | (.string bytes, d) => bytes.length + uptoBulk d + 1
  | (_, d) => uptoBulk d + 1
 end
def uptoSmall : (H : Type) → List (DataW H) → Bool := fun _ ds => decide (uptoBulkAll ds ≤ 1048576)
def OpenSpec.upto (s : _root_.Go.ChangeSpec) : _root_.Go.OpenSpec := { _root_.Go.OpenSpec.ofChange s with cond := some uptoSmall }

/-- 'laws.FnExactGangHeat', WHERE WHAT IT READS IS OF BULK AT MOST 1048576: true; the input reads as it did. -/
def fnExactGangHeatUptoRow : OpenClaim := { program := "ytionpndhcijmcaa", sum := "749a2ea82d8a371b760cf26b1e034126d0c800383b73c6ca58619c1d98dc45e3", func := "loop.example/g01011/laws.FnExactGangHeat", spec := "fnExactGangHeat", apart := false, narrowed := true }
def FnExactGangHeatUptoSaid : Prop := fnExactGangHeatUptoRow.holds Try.pinned (OpenSpec.upto fnExactGangHeatSpec)

/-- 'laws.FnExactLatestEnd', WHERE WHAT IT READS IS OF BULK AT MOST 1048576: true; the input reads as it did. -/
def fnExactLatestEndUptoRow : OpenClaim := { program := "ytionpndhcijmcaa", sum := "749a2ea82d8a371b760cf26b1e034126d0c800383b73c6ca58619c1d98dc45e3", func := "loop.example/g01011/laws.FnExactLatestEnd", spec := "fnExactLatestEnd", apart := false, narrowed := true }
def FnExactLatestEndUptoSaid : Prop := fnExactLatestEndUptoRow.holds Try.pinned (OpenSpec.upto fnExactLatestEndSpec)

/-- 'laws.FnExactUnservedHeat', WHERE WHAT IT READS IS OF BULK AT MOST 1048576: true; the input reads as it did. -/
def fnExactUnservedHeatUptoRow : OpenClaim := { program := "ytionpndhcijmcaa", sum := "749a2ea82d8a371b760cf26b1e034126d0c800383b73c6ca58619c1d98dc45e3", func := "loop.example/g01011/laws.FnExactUnservedHeat", spec := "fnExactUnservedHeat", apart := false, narrowed := true }
def FnExactUnservedHeatUptoSaid : Prop := fnExactUnservedHeatUptoRow.holds Try.pinned (OpenSpec.upto fnExactUnservedHeatSpec)

/-- 'laws.FnExactGangEnds', WHERE WHAT IT READS IS OF BULK AT MOST 1048576: true; the input reads as it did. -/
def fnExactGangEndsUptoRow : OpenClaim := { program := "ytionpndhcijmcaa", sum := "749a2ea82d8a371b760cf26b1e034126d0c800383b73c6ca58619c1d98dc45e3", func := "loop.example/g01011/laws.FnExactGangEnds", spec := "fnExactGangEnds", apart := false, narrowed := true }
def FnExactGangEndsUptoSaid : Prop := fnExactGangEndsUptoRow.holds Try.pinned (OpenSpec.upto fnExactGangEndsSpec)

/-- 'laws.FnExactFewestGangs', WHERE WHAT IT READS IS OF BULK AT MOST 1048576: true; the input reads as it did. -/
def fnExactFewestGangsUptoRow : OpenClaim := { program := "ytionpndhcijmcaa", sum := "749a2ea82d8a371b760cf26b1e034126d0c800383b73c6ca58619c1d98dc45e3", func := "loop.example/g01011/laws.FnExactFewestGangs", spec := "fnExactFewestGangs", unfollowed := true, recurses := true, apart := false, narrowed := true }
def FnExactFewestGangsUptoSaid : Prop := fnExactFewestGangsUptoRow.holds Try.pinned (OpenSpec.upto fnExactFewestGangsSpec)

/-- 'laws.FnExactEndTimes', WHERE WHAT IT READS IS OF BULK AT MOST 1048576: true; the input reads as it did. -/
def fnExactEndTimesUptoRow : OpenClaim := { program := "ytionpndhcijmcaa", sum := "749a2ea82d8a371b760cf26b1e034126d0c800383b73c6ca58619c1d98dc45e3", func := "loop.example/g01011/laws.FnExactEndTimes", spec := "fnExactEndTimes", apart := false, narrowed := true }
def FnExactEndTimesUptoSaid : Prop := fnExactEndTimesUptoRow.holds Try.pinned (OpenSpec.upto fnExactEndTimesSpec)

/-- 'laws.FnExactDoneBy', WHERE WHAT IT READS IS OF BULK AT MOST 1048576: true; the input reads as it did. -/
def fnExactDoneByUptoRow : OpenClaim := { program := "ytionpndhcijmcaa", sum := "749a2ea82d8a371b760cf26b1e034126d0c800383b73c6ca58619c1d98dc45e3", func := "loop.example/g01011/laws.FnExactDoneBy", spec := "fnExactDoneBy", apart := false, narrowed := true }
def FnExactDoneByUptoSaid : Prop := fnExactDoneByUptoRow.holds Try.pinned (OpenSpec.upto fnExactDoneBySpec)

/-- 'laws.FnGangs', WHERE WHAT IT READS IS OF BULK AT MOST 1048576: true; the input reads as it did. -/
def fnGangsUptoRow : OpenClaim := { program := "ytionpndhcijmcaa", sum := "749a2ea82d8a371b760cf26b1e034126d0c800383b73c6ca58619c1d98dc45e3", func := "loop.example/g01011/laws.FnGangs", spec := "fnGangs", unfollowed := true, recurses := true, apart := false, narrowed := true }
def FnGangsUptoSaid : Prop := fnGangsUptoRow.holds Try.pinned (OpenSpec.upto fnGangsSpec)

/-- 'laws.FnExactFixedShares', WHERE WHAT IT READS IS OF BULK AT MOST 1048576: true; the input reads as it did. -/
def fnExactFixedSharesUptoRow : OpenClaim := { program := "ytionpndhcijmcaa", sum := "749a2ea82d8a371b760cf26b1e034126d0c800383b73c6ca58619c1d98dc45e3", func := "loop.example/g01011/laws.FnExactFixedShares", spec := "fnExactFixedShares", unfollowed := true, recurses := true, apart := false, narrowed := true }
def FnExactFixedSharesUptoSaid : Prop := fnExactFixedSharesUptoRow.holds Try.pinned (OpenSpec.upto fnExactFixedSharesSpec)

/-- 'laws.FnExactUsedShares', WHERE WHAT IT READS IS OF BULK AT MOST 1048576: true; the input reads as it did. -/
def fnExactUsedSharesUptoRow : OpenClaim := { program := "ytionpndhcijmcaa", sum := "749a2ea82d8a371b760cf26b1e034126d0c800383b73c6ca58619c1d98dc45e3", func := "loop.example/g01011/laws.FnExactUsedShares", spec := "fnExactUsedShares", unfollowed := true, recurses := true, apart := false, narrowed := true }
def FnExactUsedSharesUptoSaid : Prop := fnExactUsedSharesUptoRow.holds Try.pinned (OpenSpec.upto fnExactUsedSharesSpec)

/-- 'laws.FnExactLargestShare', WHERE WHAT IT READS IS OF BULK AT MOST 1048576: true; the input reads as it did. -/
def fnExactLargestShareUptoRow : OpenClaim := { program := "ytionpndhcijmcaa", sum := "749a2ea82d8a371b760cf26b1e034126d0c800383b73c6ca58619c1d98dc45e3", func := "loop.example/g01011/laws.FnExactLargestShare", spec := "fnExactLargestShare", apart := false, narrowed := true }
def FnExactLargestShareUptoSaid : Prop := fnExactLargestShareUptoRow.holds Try.pinned (OpenSpec.upto fnExactLargestShareSpec)

/-- 'laws.FnExactHeatBill', WHERE WHAT IT READS IS OF BULK AT MOST 1048576: true; the input reads as it did. -/
def fnExactHeatBillUptoRow : OpenClaim := { program := "ytionpndhcijmcaa", sum := "749a2ea82d8a371b760cf26b1e034126d0c800383b73c6ca58619c1d98dc45e3", func := "loop.example/g01011/laws.FnExactHeatBill", spec := "fnExactHeatBill", apart := false, narrowed := true }
def FnExactHeatBillUptoSaid : Prop := fnExactHeatBillUptoRow.holds Try.pinned (OpenSpec.upto fnExactHeatBillSpec)

end Rows
end Go.Proofs.Ytionpndhcijmcaa
