/-
  No cell of these rows narrows 'for every input' (looked for: loops, veiled, ifaces, maps, wideKeys, modest, calm, conditions, laid).
  DERIVED. THE GIVEN ROWS OF THIS SEAT. 11 by the template 'for every input the law returns true; each argument reads behind the call as it read before'; 0 by the template 'total and deterministic' (their statements: YtglhbjmagfchiaaTotals.lean).
  GIVEN WITH THE SEED: the statements are not yours to turn. If you find one false, say at which input.
  Laid BY PROGRAM, IN A SANDBOX (cutbox-rows.mjs): the forced cells as the released guide's own fill.sh prints them over the translation b384ac0ddf333a8b… (all of the seat's roots in one cut). By AI agents, Wed Nov 11 2026. No macro, syntax, notation, axiom, sorry.
-/
import Derived.Test.YtglhbjmagfchiaaChecked
import GoSem.Claim
import GoSem.ClaimJoined
import GoSem.ClaimMapViews
import Derived.JoinedTies
import Derived.KernelRfl
namespace Go.Proofs.Ytglhbjmagfchiaa
/- THE CELL 'sum', in the pinned program and in every row, IS THE sha256 OF THE DUMP (.gsa) THAT YtglhbjmagfchiaaProg.lean LOADS. Nothing in Lean hashes anything: it is a label: what it is worth is what the hold of that sum in a sandbox is worth. -/
noncomputable def Try.pinned : Pinned := { name := "ytglhbjmagfchiaa", sum := "b384ac0ddf333a8b49da1fc853b7db0cd0e7012470bcd6028aa4f990756bd26b", checked := Try.checked }
namespace Rows
def none {H : Type} : Left H := { results := [], args := [] }

/-- 'laws.FnExactWorstZone': WHATEVER THE INPUT: true; the input reads as it did. -/
def fnExactWorstZoneSpec : ChangeSpec := { name := "fnExactWorstZone", fn := fun _ => fun
  | [d] => { results := [.lit (.bool true)], args := [d] }
  | _ => none }
def fnExactWorstZoneRow : OpenClaim := { program := "ytglhbjmagfchiaa", sum := "b384ac0ddf333a8b49da1fc853b7db0cd0e7012470bcd6028aa4f990756bd26b", func := "loop.example/g01011/laws.FnExactWorstZone", spec := "fnExactWorstZone", plainKeys := false, apart := false }
def FnExactWorstZoneSaid : Prop := fnExactWorstZoneRow.holds Try.pinned (OpenSpec.ofChange fnExactWorstZoneSpec)

/-- ITS FALSE NEIGHBOUR: 'it returns false'. Refute it at one input. -/
def fnExactWorstZoneWrong : ChangeSpec := { name := "fnExactWorstZone", fn := fun _ => fun
  | [d] => { results := [.lit (.bool false)], args := [d] }
  | _ => none }
def FnExactWorstZoneWrongFalsely : Prop := fnExactWorstZoneRow.holds Try.pinned (OpenSpec.ofChange fnExactWorstZoneWrong)

/-- 'laws.FnExactBestScale': WHATEVER THE INPUT: true; the input reads as it did. -/
def fnExactBestScaleSpec : ChangeSpec := { name := "fnExactBestScale", fn := fun _ => fun
  | [d1, d2] => { results := [.lit (.bool true)], args := [d1, d2] }
  | _ => none }
def fnExactBestScaleRow : OpenClaim := { program := "ytglhbjmagfchiaa", sum := "b384ac0ddf333a8b49da1fc853b7db0cd0e7012470bcd6028aa4f990756bd26b", func := "loop.example/g01011/laws.FnExactBestScale", spec := "fnExactBestScale", unfollowed := true, recurses := true, plainKeys := false, apart := false }
def FnExactBestScaleSaid : Prop := fnExactBestScaleRow.holds Try.pinned (OpenSpec.ofChange fnExactBestScaleSpec)

/-- ITS FALSE NEIGHBOUR: 'it returns false'. Refute it at one input. -/
def fnExactBestScaleWrong : ChangeSpec := { name := "fnExactBestScale", fn := fun _ => fun
  | [d1, d2] => { results := [.lit (.bool false)], args := [d1, d2] }
  | _ => none }
def FnExactBestScaleWrongFalsely : Prop := fnExactBestScaleRow.holds Try.pinned (OpenSpec.ofChange fnExactBestScaleWrong)

/-- 'laws.FnExactValidHistory': WHATEVER THE INPUT: true; the input reads as it did. -/
def fnExactValidHistorySpec : ChangeSpec := { name := "fnExactValidHistory", fn := fun _ => fun
  | [d] => { results := [.lit (.bool true)], args := [d] }
  | _ => none }
def fnExactValidHistoryRow : OpenClaim := { program := "ytglhbjmagfchiaa", sum := "b384ac0ddf333a8b49da1fc853b7db0cd0e7012470bcd6028aa4f990756bd26b", func := "loop.example/g01011/laws.FnExactValidHistory", spec := "fnExactValidHistory", plainKeys := false, apart := false }
def FnExactValidHistorySaid : Prop := fnExactValidHistoryRow.holds Try.pinned (OpenSpec.ofChange fnExactValidHistorySpec)

/-- ITS FALSE NEIGHBOUR: 'it returns false'. Refute it at one input. -/
def fnExactValidHistoryWrong : ChangeSpec := { name := "fnExactValidHistory", fn := fun _ => fun
  | [d] => { results := [.lit (.bool false)], args := [d] }
  | _ => none }
def FnExactValidHistoryWrongFalsely : Prop := fnExactValidHistoryRow.holds Try.pinned (OpenSpec.ofChange fnExactValidHistoryWrong)

/-- 'laws.FnExactInterestOf': WHATEVER THE INPUT: true; the input reads as it did. -/
def fnExactInterestOfSpec : ChangeSpec := { name := "fnExactInterestOf", fn := fun _ => fun
  | [d1, d2, d3, d4, d5] => { results := [.lit (.bool true)], args := [d1, d2, d3, d4, d5] }
  | _ => none }
def fnExactInterestOfRow : OpenClaim := { program := "ytglhbjmagfchiaa", sum := "b384ac0ddf333a8b49da1fc853b7db0cd0e7012470bcd6028aa4f990756bd26b", func := "loop.example/g01011/laws.FnExactInterestOf", spec := "fnExactInterestOf", unfollowed := true, recurses := true, plainKeys := false, apart := false }
def FnExactInterestOfSaid : Prop := fnExactInterestOfRow.holds Try.pinned (OpenSpec.ofChange fnExactInterestOfSpec)

/-- ITS FALSE NEIGHBOUR: 'it returns false'. Refute it at one input. -/
def fnExactInterestOfWrong : ChangeSpec := { name := "fnExactInterestOf", fn := fun _ => fun
  | [d1, d2, d3, d4, d5] => { results := [.lit (.bool false)], args := [d1, d2, d3, d4, d5] }
  | _ => none }
def FnExactInterestOfWrongFalsely : Prop := fnExactInterestOfRow.holds Try.pinned (OpenSpec.ofChange fnExactInterestOfWrong)

/-- 'laws.FnExactDiffStates': WHATEVER THE INPUT: true; the input reads as it did. -/
def fnExactDiffStatesSpec : ChangeSpec := { name := "fnExactDiffStates", fn := fun _ => fun
  | [d1, d2] => { results := [.lit (.bool true)], args := [d1, d2] }
  | _ => none }
def fnExactDiffStatesRow : OpenClaim := { program := "ytglhbjmagfchiaa", sum := "b384ac0ddf333a8b49da1fc853b7db0cd0e7012470bcd6028aa4f990756bd26b", func := "loop.example/g01011/laws.FnExactDiffStates", spec := "fnExactDiffStates", plainKeys := false, apart := false }
def FnExactDiffStatesSaid : Prop := fnExactDiffStatesRow.holds Try.pinned (OpenSpec.ofChange fnExactDiffStatesSpec)

/-- ITS FALSE NEIGHBOUR: 'it returns false'. Refute it at one input. -/
def fnExactDiffStatesWrong : ChangeSpec := { name := "fnExactDiffStates", fn := fun _ => fun
  | [d1, d2] => { results := [.lit (.bool false)], args := [d1, d2] }
  | _ => none }
def FnExactDiffStatesWrongFalsely : Prop := fnExactDiffStatesRow.holds Try.pinned (OpenSpec.ofChange fnExactDiffStatesWrong)

/-- 'laws.FnExactStatementOf': WHATEVER THE INPUT: true; the input reads as it did. -/
def fnExactStatementOfSpec : ChangeSpec := { name := "fnExactStatementOf", fn := fun _ => fun
  | [d1, d2, d3, d4] => { results := [.lit (.bool true)], args := [d1, d2, d3, d4] }
  | _ => none }
def fnExactStatementOfRow : OpenClaim := { program := "ytglhbjmagfchiaa", sum := "b384ac0ddf333a8b49da1fc853b7db0cd0e7012470bcd6028aa4f990756bd26b", func := "loop.example/g01011/laws.FnExactStatementOf", spec := "fnExactStatementOf", unfollowed := true, recurses := true, plainKeys := false, apart := false }
def FnExactStatementOfSaid : Prop := fnExactStatementOfRow.holds Try.pinned (OpenSpec.ofChange fnExactStatementOfSpec)

/-- ITS FALSE NEIGHBOUR: 'it returns false'. Refute it at one input. -/
def fnExactStatementOfWrong : ChangeSpec := { name := "fnExactStatementOf", fn := fun _ => fun
  | [d1, d2, d3, d4] => { results := [.lit (.bool false)], args := [d1, d2, d3, d4] }
  | _ => none }
def FnExactStatementOfWrongFalsely : Prop := fnExactStatementOfRow.holds Try.pinned (OpenSpec.ofChange fnExactStatementOfWrong)

/-- 'laws.FnExactDayLoads': WHATEVER THE INPUT: true; the input reads as it did. -/
def fnExactDayLoadsSpec : ChangeSpec := { name := "fnExactDayLoads", fn := fun _ => fun
  | [d1, d2] => { results := [.lit (.bool true)], args := [d1, d2] }
  | _ => none }
def fnExactDayLoadsRow : OpenClaim := { program := "ytglhbjmagfchiaa", sum := "b384ac0ddf333a8b49da1fc853b7db0cd0e7012470bcd6028aa4f990756bd26b", func := "loop.example/g01011/laws.FnExactDayLoads", spec := "fnExactDayLoads", unfollowed := true, recurses := true, plainKeys := false, apart := false }
def FnExactDayLoadsSaid : Prop := fnExactDayLoadsRow.holds Try.pinned (OpenSpec.ofChange fnExactDayLoadsSpec)

/-- ITS FALSE NEIGHBOUR: 'it returns false'. Refute it at one input. -/
def fnExactDayLoadsWrong : ChangeSpec := { name := "fnExactDayLoads", fn := fun _ => fun
  | [d1, d2] => { results := [.lit (.bool false)], args := [d1, d2] }
  | _ => none }
def FnExactDayLoadsWrongFalsely : Prop := fnExactDayLoadsRow.holds Try.pinned (OpenSpec.ofChange fnExactDayLoadsWrong)

/-- 'laws.FnExactStartBound': WHATEVER THE INPUT: true; the input reads as it did. -/
def fnExactStartBoundSpec : ChangeSpec := { name := "fnExactStartBound", fn := fun _ => fun
  | [d1, d2] => { results := [.lit (.bool true)], args := [d1, d2] }
  | _ => none }
def fnExactStartBoundRow : OpenClaim := { program := "ytglhbjmagfchiaa", sum := "b384ac0ddf333a8b49da1fc853b7db0cd0e7012470bcd6028aa4f990756bd26b", func := "loop.example/g01011/laws.FnExactStartBound", spec := "fnExactStartBound", unfollowed := true, recurses := true, plainKeys := false, apart := false }
def FnExactStartBoundSaid : Prop := fnExactStartBoundRow.holds Try.pinned (OpenSpec.ofChange fnExactStartBoundSpec)

/-- ITS FALSE NEIGHBOUR: 'it returns false'. Refute it at one input. -/
def fnExactStartBoundWrong : ChangeSpec := { name := "fnExactStartBound", fn := fun _ => fun
  | [d1, d2] => { results := [.lit (.bool false)], args := [d1, d2] }
  | _ => none }
def FnExactStartBoundWrongFalsely : Prop := fnExactStartBoundRow.holds Try.pinned (OpenSpec.ofChange fnExactStartBoundWrong)

/-- 'laws.FnExactWorkersAt': WHATEVER THE INPUT: true; the input reads as it did. -/
def fnExactWorkersAtSpec : ChangeSpec := { name := "fnExactWorkersAt", fn := fun _ => fun
  | [d1, d2] => { results := [.lit (.bool true)], args := [d1, d2] }
  | _ => none }
def fnExactWorkersAtRow : OpenClaim := { program := "ytglhbjmagfchiaa", sum := "b384ac0ddf333a8b49da1fc853b7db0cd0e7012470bcd6028aa4f990756bd26b", func := "loop.example/g01011/laws.FnExactWorkersAt", spec := "fnExactWorkersAt", plainKeys := false, apart := false }
def FnExactWorkersAtSaid : Prop := fnExactWorkersAtRow.holds Try.pinned (OpenSpec.ofChange fnExactWorkersAtSpec)

/-- ITS FALSE NEIGHBOUR: 'it returns false'. Refute it at one input. -/
def fnExactWorkersAtWrong : ChangeSpec := { name := "fnExactWorkersAt", fn := fun _ => fun
  | [d1, d2] => { results := [.lit (.bool false)], args := [d1, d2] }
  | _ => none }
def FnExactWorkersAtWrongFalsely : Prop := fnExactWorkersAtRow.holds Try.pinned (OpenSpec.ofChange fnExactWorkersAtWrong)

/-- 'laws.FnExactPriceOfLimit': WHATEVER THE INPUT: true; the input reads as it did. -/
def fnExactPriceOfLimitSpec : ChangeSpec := { name := "fnExactPriceOfLimit", fn := fun _ => fun
  | [d1, d2, d3] => { results := [.lit (.bool true)], args := [d1, d2, d3] }
  | _ => none }
def fnExactPriceOfLimitRow : OpenClaim := { program := "ytglhbjmagfchiaa", sum := "b384ac0ddf333a8b49da1fc853b7db0cd0e7012470bcd6028aa4f990756bd26b", func := "loop.example/g01011/laws.FnExactPriceOfLimit", spec := "fnExactPriceOfLimit", unfollowed := true, recurses := true, plainKeys := false, apart := false }
def FnExactPriceOfLimitSaid : Prop := fnExactPriceOfLimitRow.holds Try.pinned (OpenSpec.ofChange fnExactPriceOfLimitSpec)

/-- ITS FALSE NEIGHBOUR: 'it returns false'. Refute it at one input. -/
def fnExactPriceOfLimitWrong : ChangeSpec := { name := "fnExactPriceOfLimit", fn := fun _ => fun
  | [d1, d2, d3] => { results := [.lit (.bool false)], args := [d1, d2, d3] }
  | _ => none }
def FnExactPriceOfLimitWrongFalsely : Prop := fnExactPriceOfLimitRow.holds Try.pinned (OpenSpec.ofChange fnExactPriceOfLimitWrong)

/-- 'laws.FnShares': WHATEVER THE INPUT: true; the input reads as it did. -/
def fnSharesSpec : ChangeSpec := { name := "fnShares", fn := fun _ => fun
  | [d1, d2] => { results := [.lit (.bool true)], args := [d1, d2] }
  | _ => none }
def fnSharesRow : OpenClaim := { program := "ytglhbjmagfchiaa", sum := "b384ac0ddf333a8b49da1fc853b7db0cd0e7012470bcd6028aa4f990756bd26b", func := "loop.example/g01011/laws.FnShares", spec := "fnShares", unfollowed := true, recurses := true, plainKeys := false, apart := false }
def FnSharesSaid : Prop := fnSharesRow.holds Try.pinned (OpenSpec.ofChange fnSharesSpec)

/-- ITS FALSE NEIGHBOUR: 'it returns false'. Refute it at one input. -/
def fnSharesWrong : ChangeSpec := { name := "fnShares", fn := fun _ => fun
  | [d1, d2] => { results := [.lit (.bool false)], args := [d1, d2] }
  | _ => none }
def FnSharesWrongFalsely : Prop := fnSharesRow.holds Try.pinned (OpenSpec.ofChange fnSharesWrong)

/- THE SECOND FORM. 'bulk': how many values and letters a reading holds, each counted each time it is reached (what is shared counts as often as it is met; a slice's spare places count too). A statement '..UptoSaid' is the law's where the arguments, and the package variables that the reading takes, are together of bulk at most 1048576: NARROWER than '..Said'. Prove '..Said' where nothing that the law and all that it calls make is longer than what came in: it says more and counts as full. Else prove '..UptoSaid'. A law counts once. -/
mutual
def uptoBulk {H : Type} : DataW H → Nat
  | .lit (.string bytes) => bytes.length + 1
  | .lit _ => 1
  | .nil => 1
  | .ptr d => uptoBulk d + 1
  | .slice elems spare => uptoBulkAll elems + uptoBulkAll spare + 1
  | .agg parts => uptoBulkAll parts + 1
  | .iface _ d => uptoBulk d + 1
  | .map entries => uptoBulkEntries entries + 1
  | .held _ => 1
def uptoBulkAll {H : Type} : List (DataW H) → Nat
  | [] => 0
  | d :: r => uptoBulk d + uptoBulkAll r
def uptoBulkEntries {H : Type} : List (Lit × DataW H) → Nat
  | [] => 0
  | x :: r => uptoBulkEntry x + uptoBulkEntries r
def uptoBulkEntry {H : Type} : Lit × DataW H → Nat
  | (.string bytes, d) => bytes.length + uptoBulk d + 1
  | (_, d) => uptoBulk d + 1
 end
def uptoSmall : (H : Type) → List (DataW H) → Bool := fun _ ds => decide (uptoBulkAll ds ≤ 1048576)
def OpenSpec.upto (s : _root_.Go.ChangeSpec) : _root_.Go.OpenSpec := { _root_.Go.OpenSpec.ofChange s with cond := some uptoSmall }

/-- 'laws.FnExactWorstZone', WHERE WHAT IT READS IS OF BULK AT MOST 1048576: true; the input reads as it did. -/
def fnExactWorstZoneUptoRow : OpenClaim := { program := "ytglhbjmagfchiaa", sum := "b384ac0ddf333a8b49da1fc853b7db0cd0e7012470bcd6028aa4f990756bd26b", func := "loop.example/g01011/laws.FnExactWorstZone", spec := "fnExactWorstZone", plainKeys := false, apart := false, narrowed := true }
def FnExactWorstZoneUptoSaid : Prop := fnExactWorstZoneUptoRow.holds Try.pinned (OpenSpec.upto fnExactWorstZoneSpec)

/-- 'laws.FnExactBestScale', WHERE WHAT IT READS IS OF BULK AT MOST 1048576: true; the input reads as it did. -/
def fnExactBestScaleUptoRow : OpenClaim := { program := "ytglhbjmagfchiaa", sum := "b384ac0ddf333a8b49da1fc853b7db0cd0e7012470bcd6028aa4f990756bd26b", func := "loop.example/g01011/laws.FnExactBestScale", spec := "fnExactBestScale", unfollowed := true, recurses := true, plainKeys := false, apart := false, narrowed := true }
def FnExactBestScaleUptoSaid : Prop := fnExactBestScaleUptoRow.holds Try.pinned (OpenSpec.upto fnExactBestScaleSpec)

/-- 'laws.FnExactValidHistory', WHERE WHAT IT READS IS OF BULK AT MOST 1048576: true; the input reads as it did. -/
def fnExactValidHistoryUptoRow : OpenClaim := { program := "ytglhbjmagfchiaa", sum := "b384ac0ddf333a8b49da1fc853b7db0cd0e7012470bcd6028aa4f990756bd26b", func := "loop.example/g01011/laws.FnExactValidHistory", spec := "fnExactValidHistory", plainKeys := false, apart := false, narrowed := true }
def FnExactValidHistoryUptoSaid : Prop := fnExactValidHistoryUptoRow.holds Try.pinned (OpenSpec.upto fnExactValidHistorySpec)

/-- 'laws.FnExactInterestOf', WHERE WHAT IT READS IS OF BULK AT MOST 1048576: true; the input reads as it did. -/
def fnExactInterestOfUptoRow : OpenClaim := { program := "ytglhbjmagfchiaa", sum := "b384ac0ddf333a8b49da1fc853b7db0cd0e7012470bcd6028aa4f990756bd26b", func := "loop.example/g01011/laws.FnExactInterestOf", spec := "fnExactInterestOf", unfollowed := true, recurses := true, plainKeys := false, apart := false, narrowed := true }
def FnExactInterestOfUptoSaid : Prop := fnExactInterestOfUptoRow.holds Try.pinned (OpenSpec.upto fnExactInterestOfSpec)

/-- 'laws.FnExactDiffStates', WHERE WHAT IT READS IS OF BULK AT MOST 1048576: true; the input reads as it did. -/
def fnExactDiffStatesUptoRow : OpenClaim := { program := "ytglhbjmagfchiaa", sum := "b384ac0ddf333a8b49da1fc853b7db0cd0e7012470bcd6028aa4f990756bd26b", func := "loop.example/g01011/laws.FnExactDiffStates", spec := "fnExactDiffStates", plainKeys := false, apart := false, narrowed := true }
def FnExactDiffStatesUptoSaid : Prop := fnExactDiffStatesUptoRow.holds Try.pinned (OpenSpec.upto fnExactDiffStatesSpec)

/-- 'laws.FnExactStatementOf', WHERE WHAT IT READS IS OF BULK AT MOST 1048576: true; the input reads as it did. -/
def fnExactStatementOfUptoRow : OpenClaim := { program := "ytglhbjmagfchiaa", sum := "b384ac0ddf333a8b49da1fc853b7db0cd0e7012470bcd6028aa4f990756bd26b", func := "loop.example/g01011/laws.FnExactStatementOf", spec := "fnExactStatementOf", unfollowed := true, recurses := true, plainKeys := false, apart := false, narrowed := true }
def FnExactStatementOfUptoSaid : Prop := fnExactStatementOfUptoRow.holds Try.pinned (OpenSpec.upto fnExactStatementOfSpec)

/-- 'laws.FnExactDayLoads', WHERE WHAT IT READS IS OF BULK AT MOST 1048576: true; the input reads as it did. -/
def fnExactDayLoadsUptoRow : OpenClaim := { program := "ytglhbjmagfchiaa", sum := "b384ac0ddf333a8b49da1fc853b7db0cd0e7012470bcd6028aa4f990756bd26b", func := "loop.example/g01011/laws.FnExactDayLoads", spec := "fnExactDayLoads", unfollowed := true, recurses := true, plainKeys := false, apart := false, narrowed := true }
def FnExactDayLoadsUptoSaid : Prop := fnExactDayLoadsUptoRow.holds Try.pinned (OpenSpec.upto fnExactDayLoadsSpec)

/-- 'laws.FnExactStartBound', WHERE WHAT IT READS IS OF BULK AT MOST 1048576: true; the input reads as it did. -/
def fnExactStartBoundUptoRow : OpenClaim := { program := "ytglhbjmagfchiaa", sum := "b384ac0ddf333a8b49da1fc853b7db0cd0e7012470bcd6028aa4f990756bd26b", func := "loop.example/g01011/laws.FnExactStartBound", spec := "fnExactStartBound", unfollowed := true, recurses := true, plainKeys := false, apart := false, narrowed := true }
def FnExactStartBoundUptoSaid : Prop := fnExactStartBoundUptoRow.holds Try.pinned (OpenSpec.upto fnExactStartBoundSpec)

/-- 'laws.FnExactWorkersAt', WHERE WHAT IT READS IS OF BULK AT MOST 1048576: true; the input reads as it did. -/
def fnExactWorkersAtUptoRow : OpenClaim := { program := "ytglhbjmagfchiaa", sum := "b384ac0ddf333a8b49da1fc853b7db0cd0e7012470bcd6028aa4f990756bd26b", func := "loop.example/g01011/laws.FnExactWorkersAt", spec := "fnExactWorkersAt", plainKeys := false, apart := false, narrowed := true }
def FnExactWorkersAtUptoSaid : Prop := fnExactWorkersAtUptoRow.holds Try.pinned (OpenSpec.upto fnExactWorkersAtSpec)

/-- 'laws.FnExactPriceOfLimit', WHERE WHAT IT READS IS OF BULK AT MOST 1048576: true; the input reads as it did. -/
def fnExactPriceOfLimitUptoRow : OpenClaim := { program := "ytglhbjmagfchiaa", sum := "b384ac0ddf333a8b49da1fc853b7db0cd0e7012470bcd6028aa4f990756bd26b", func := "loop.example/g01011/laws.FnExactPriceOfLimit", spec := "fnExactPriceOfLimit", unfollowed := true, recurses := true, plainKeys := false, apart := false, narrowed := true }
def FnExactPriceOfLimitUptoSaid : Prop := fnExactPriceOfLimitUptoRow.holds Try.pinned (OpenSpec.upto fnExactPriceOfLimitSpec)

/-- 'laws.FnShares', WHERE WHAT IT READS IS OF BULK AT MOST 1048576: true; the input reads as it did. -/
def fnSharesUptoRow : OpenClaim := { program := "ytglhbjmagfchiaa", sum := "b384ac0ddf333a8b49da1fc853b7db0cd0e7012470bcd6028aa4f990756bd26b", func := "loop.example/g01011/laws.FnShares", spec := "fnShares", unfollowed := true, recurses := true, plainKeys := false, apart := false, narrowed := true }
def FnSharesUptoSaid : Prop := fnSharesUptoRow.holds Try.pinned (OpenSpec.upto fnSharesSpec)

end Rows
end Go.Proofs.Ytglhbjmagfchiaa
