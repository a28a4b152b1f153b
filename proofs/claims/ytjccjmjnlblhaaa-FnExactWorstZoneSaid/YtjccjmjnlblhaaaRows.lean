/-
  No cell of these rows narrows 'for every input' (looked for: loops, veiled, ifaces, maps, wideKeys, modest, calm, conditions, laid).
  DERIVED. THE GIVEN ROWS OF THIS SEAT. 9 by the template 'for every input the law returns true; each argument reads behind the call as it read before'; 0 by the template 'total and deterministic' (their statements: YtjccjmjnlblhaaaTotals.lean).
  GIVEN WITH THE SEED: the statements are not yours to turn. If you find one false, say at which input.
  Laid BY PROGRAM, IN A SANDBOX (cutbox-rows.mjs): the forced cells as the released guide's own fill.sh prints them over the translation 980d52a513c0d890… (all of the seat's roots in one cut). By AI agents, Wed Nov 11 2026. No macro, syntax, notation, axiom, sorry.
-/
import Derived.Test.YtjccjmjnlblhaaaChecked
import GoSem.Claim
import GoSem.ClaimJoined
import GoSem.ClaimMapViews
import Derived.JoinedTies
import Derived.KernelRfl
namespace Go.Proofs.Ytjccjmjnlblhaaa
/- THE CELL 'sum', in the pinned program and in every row, IS THE sha256 OF THE DUMP (.gsa) THAT YtjccjmjnlblhaaaProg.lean LOADS. Nothing in Lean hashes anything: it is a label: what it is worth is what the hold of that sum in a sandbox is worth. -/
noncomputable def Try.pinned : Pinned := { name := "ytjccjmjnlblhaaa", sum := "980d52a513c0d8908f02054e471e2e7d4a15317fec6c08fb2004010ab2b7bca4", checked := Try.checked }
namespace Rows
def none {H : Type} : Left H := { results := [], args := [] }

/-- 'laws.FnExactAddReading': WHATEVER THE INPUT: true; the input reads as it did. -/
def fnExactAddReadingSpec : ChangeSpec := { name := "fnExactAddReading", fn := fun _ => fun
  | [d1, d2] => { results := [.lit (.bool true)], args := [d1, d2] }
  | _ => none }
def fnExactAddReadingRow : OpenClaim := { program := "ytjccjmjnlblhaaa", sum := "980d52a513c0d8908f02054e471e2e7d4a15317fec6c08fb2004010ab2b7bca4", func := "loop.example/g01011/laws.FnExactAddReading", spec := "fnExactAddReading", inPlace := ["slices.overlaps[loop.example/g01011/impl.Reading]"], unfollowed := true, recurses := true, apart := false }
def FnExactAddReadingSaid : Prop := fnExactAddReadingRow.holds Try.pinned (OpenSpec.ofChange fnExactAddReadingSpec)

/-- ITS FALSE NEIGHBOUR: 'it returns false'. Refute it at one input. -/
def fnExactAddReadingWrong : ChangeSpec := { name := "fnExactAddReading", fn := fun _ => fun
  | [d1, d2] => { results := [.lit (.bool false)], args := [d1, d2] }
  | _ => none }
def FnExactAddReadingWrongFalsely : Prop := fnExactAddReadingRow.holds Try.pinned (OpenSpec.ofChange fnExactAddReadingWrong)

/-- 'laws.FnExactAddDuty': WHATEVER THE INPUT: true; the input reads as it did. -/
def fnExactAddDutySpec : ChangeSpec := { name := "fnExactAddDuty", fn := fun _ => fun
  | [d1, d2] => { results := [.lit (.bool true)], args := [d1, d2] }
  | _ => none }
def fnExactAddDutyRow : OpenClaim := { program := "ytjccjmjnlblhaaa", sum := "980d52a513c0d8908f02054e471e2e7d4a15317fec6c08fb2004010ab2b7bca4", func := "loop.example/g01011/laws.FnExactAddDuty", spec := "fnExactAddDuty", inPlace := ["slices.overlaps[loop.example/g01011/impl.Duty]"], unfollowed := true, recurses := true, apart := false }
def FnExactAddDutySaid : Prop := fnExactAddDutyRow.holds Try.pinned (OpenSpec.ofChange fnExactAddDutySpec)

/-- ITS FALSE NEIGHBOUR: 'it returns false'. Refute it at one input. -/
def fnExactAddDutyWrong : ChangeSpec := { name := "fnExactAddDuty", fn := fun _ => fun
  | [d1, d2] => { results := [.lit (.bool false)], args := [d1, d2] }
  | _ => none }
def FnExactAddDutyWrongFalsely : Prop := fnExactAddDutyRow.holds Try.pinned (OpenSpec.ofChange fnExactAddDutyWrong)

/-- 'laws.FnExactMovedTenant': WHATEVER THE INPUT: true; the input reads as it did. -/
def fnExactMovedTenantSpec : ChangeSpec := { name := "fnExactMovedTenant", fn := fun _ => fun
  | [d1, d2, d3, d4] => { results := [.lit (.bool true)], args := [d1, d2, d3, d4] }
  | _ => none }
def fnExactMovedTenantRow : OpenClaim := { program := "ytjccjmjnlblhaaa", sum := "980d52a513c0d8908f02054e471e2e7d4a15317fec6c08fb2004010ab2b7bca4", func := "loop.example/g01011/laws.FnExactMovedTenant", spec := "fnExactMovedTenant", inPlace := ["internal/bytealg.abigen_runtime_cmpstring", "slices.overlaps[loop.example/g01011/impl.Tenant]"], unfollowed := true, recurses := true, apart := false }
def FnExactMovedTenantSaid : Prop := fnExactMovedTenantRow.holds Try.pinned (OpenSpec.ofChange fnExactMovedTenantSpec)

/-- ITS FALSE NEIGHBOUR: 'it returns false'. Refute it at one input. -/
def fnExactMovedTenantWrong : ChangeSpec := { name := "fnExactMovedTenant", fn := fun _ => fun
  | [d1, d2, d3, d4] => { results := [.lit (.bool false)], args := [d1, d2, d3, d4] }
  | _ => none }
def FnExactMovedTenantWrongFalsely : Prop := fnExactMovedTenantRow.holds Try.pinned (OpenSpec.ofChange fnExactMovedTenantWrong)

/-- 'laws.FnExactMeritOrder': WHATEVER THE INPUT: true; the input reads as it did. -/
def fnExactMeritOrderSpec : ChangeSpec := { name := "fnExactMeritOrder", fn := fun _ => fun
  | [d] => { results := [.lit (.bool true)], args := [d] }
  | _ => none }
def fnExactMeritOrderRow : OpenClaim := { program := "ytjccjmjnlblhaaa", sum := "980d52a513c0d8908f02054e471e2e7d4a15317fec6c08fb2004010ab2b7bca4", func := "loop.example/g01011/laws.FnExactMeritOrder", spec := "fnExactMeritOrder", unfollowed := true, recurses := true, apart := false }
def FnExactMeritOrderSaid : Prop := fnExactMeritOrderRow.holds Try.pinned (OpenSpec.ofChange fnExactMeritOrderSpec)

/-- ITS FALSE NEIGHBOUR: 'it returns false'. Refute it at one input. -/
def fnExactMeritOrderWrong : ChangeSpec := { name := "fnExactMeritOrder", fn := fun _ => fun
  | [d] => { results := [.lit (.bool false)], args := [d] }
  | _ => none }
def FnExactMeritOrderWrongFalsely : Prop := fnExactMeritOrderRow.holds Try.pinned (OpenSpec.ofChange fnExactMeritOrderWrong)

/-- 'laws.FnExactHourBound': WHATEVER THE INPUT: true; the input reads as it did. -/
def fnExactHourBoundSpec : ChangeSpec := { name := "fnExactHourBound", fn := fun _ => fun
  | [d1, d2] => { results := [.lit (.bool true)], args := [d1, d2] }
  | _ => none }
def fnExactHourBoundRow : OpenClaim := { program := "ytjccjmjnlblhaaa", sum := "980d52a513c0d8908f02054e471e2e7d4a15317fec6c08fb2004010ab2b7bca4", func := "loop.example/g01011/laws.FnExactHourBound", spec := "fnExactHourBound", unfollowed := true, recurses := true, apart := false }
def FnExactHourBoundSaid : Prop := fnExactHourBoundRow.holds Try.pinned (OpenSpec.ofChange fnExactHourBoundSpec)

/-- ITS FALSE NEIGHBOUR: 'it returns false'. Refute it at one input. -/
def fnExactHourBoundWrong : ChangeSpec := { name := "fnExactHourBound", fn := fun _ => fun
  | [d1, d2] => { results := [.lit (.bool false)], args := [d1, d2] }
  | _ => none }
def FnExactHourBoundWrongFalsely : Prop := fnExactHourBoundRow.holds Try.pinned (OpenSpec.ofChange fnExactHourBoundWrong)

/-- 'laws.FnExactRestProblems': WHATEVER THE INPUT: true; the input reads as it did. -/
def fnExactRestProblemsSpec : ChangeSpec := { name := "fnExactRestProblems", fn := fun _ => fun
  | [d1, d2] => { results := [.lit (.bool true)], args := [d1, d2] }
  | _ => none }
def fnExactRestProblemsRow : OpenClaim := { program := "ytjccjmjnlblhaaa", sum := "980d52a513c0d8908f02054e471e2e7d4a15317fec6c08fb2004010ab2b7bca4", func := "loop.example/g01011/laws.FnExactRestProblems", spec := "fnExactRestProblems", apart := false }
def FnExactRestProblemsSaid : Prop := fnExactRestProblemsRow.holds Try.pinned (OpenSpec.ofChange fnExactRestProblemsSpec)

/-- ITS FALSE NEIGHBOUR: 'it returns false'. Refute it at one input. -/
def fnExactRestProblemsWrong : ChangeSpec := { name := "fnExactRestProblems", fn := fun _ => fun
  | [d1, d2] => { results := [.lit (.bool false)], args := [d1, d2] }
  | _ => none }
def FnExactRestProblemsWrongFalsely : Prop := fnExactRestProblemsRow.holds Try.pinned (OpenSpec.ofChange fnExactRestProblemsWrong)

/-- 'laws.FnForecasts': WHATEVER THE INPUT: true; the input reads as it did. -/
def fnForecastsSpec : ChangeSpec := { name := "fnForecasts", fn := fun _ => fun
  | [d1, d2] => { results := [.lit (.bool true)], args := [d1, d2] }
  | _ => none }
def fnForecastsRow : OpenClaim := { program := "ytjccjmjnlblhaaa", sum := "980d52a513c0d8908f02054e471e2e7d4a15317fec6c08fb2004010ab2b7bca4", func := "loop.example/g01011/laws.FnForecasts", spec := "fnForecasts", unfollowed := true, recurses := true, apart := false }
def FnForecastsSaid : Prop := fnForecastsRow.holds Try.pinned (OpenSpec.ofChange fnForecastsSpec)

/-- ITS FALSE NEIGHBOUR: 'it returns false'. Refute it at one input. -/
def fnForecastsWrong : ChangeSpec := { name := "fnForecasts", fn := fun _ => fun
  | [d1, d2] => { results := [.lit (.bool false)], args := [d1, d2] }
  | _ => none }
def FnForecastsWrongFalsely : Prop := fnForecastsRow.holds Try.pinned (OpenSpec.ofChange fnForecastsWrong)

/-- 'laws.FnExactWorstZone': WHATEVER THE INPUT: true; the input reads as it did. -/
def fnExactWorstZoneSpec : ChangeSpec := { name := "fnExactWorstZone", fn := fun _ => fun
  | [d] => { results := [.lit (.bool true)], args := [d] }
  | _ => none }
def fnExactWorstZoneRow : OpenClaim := { program := "ytjccjmjnlblhaaa", sum := "980d52a513c0d8908f02054e471e2e7d4a15317fec6c08fb2004010ab2b7bca4", func := "loop.example/g01011/laws.FnExactWorstZone", spec := "fnExactWorstZone", apart := false }
def FnExactWorstZoneSaid : Prop := fnExactWorstZoneRow.holds Try.pinned (OpenSpec.ofChange fnExactWorstZoneSpec)

/-- ITS FALSE NEIGHBOUR: 'it returns false'. Refute it at one input. -/
def fnExactWorstZoneWrong : ChangeSpec := { name := "fnExactWorstZone", fn := fun _ => fun
  | [d] => { results := [.lit (.bool false)], args := [d] }
  | _ => none }
def FnExactWorstZoneWrongFalsely : Prop := fnExactWorstZoneRow.holds Try.pinned (OpenSpec.ofChange fnExactWorstZoneWrong)

/-- 'laws.FnExactZoneBounds': WHATEVER THE INPUT: true; the input reads as it did. -/
def fnExactZoneBoundsSpec : ChangeSpec := { name := "fnExactZoneBounds", fn := fun _ => fun
  | [d] => { results := [.lit (.bool true)], args := [d] }
  | _ => none }
def fnExactZoneBoundsRow : OpenClaim := { program := "ytjccjmjnlblhaaa", sum := "980d52a513c0d8908f02054e471e2e7d4a15317fec6c08fb2004010ab2b7bca4", func := "loop.example/g01011/laws.FnExactZoneBounds", spec := "fnExactZoneBounds", apart := false }
def FnExactZoneBoundsSaid : Prop := fnExactZoneBoundsRow.holds Try.pinned (OpenSpec.ofChange fnExactZoneBoundsSpec)

/-- ITS FALSE NEIGHBOUR: 'it returns false'. Refute it at one input. -/
def fnExactZoneBoundsWrong : ChangeSpec := { name := "fnExactZoneBounds", fn := fun _ => fun
  | [d] => { results := [.lit (.bool false)], args := [d] }
  | _ => none }
def FnExactZoneBoundsWrongFalsely : Prop := fnExactZoneBoundsRow.holds Try.pinned (OpenSpec.ofChange fnExactZoneBoundsWrong)

/- THE SECOND FORM. 'bulk': how many values and letters a reading holds, each counted each time it is reached (what is shared counts as often as it is met; a slice's spare places count too). A statement '..UptoSaid' is the law's where the arguments, and the package variables that the reading takes, are together of bulk at most 1048576: NARROWER than '..Said'. Prove '..Said' where nothing that the law and all that it calls make is longer than what came in: it says more and counts as full. Else prove '..UptoSaid'. A law counts once. -/
mutual
def uptoBulk {H : Type} : DataW H → Nat
  | .lit (.string bytes) => bytes.length + 1
  | .lit _ => 1
  | .nil => 1
  | .ptr d => uptoBulk d + 1
  | .slice elems spare => uptoBulkAll elems + uptoBulkAll spare + 1
  | .agg parts => uptoBulkAll parts + 1
  | .iface _ d => uptoBulk d + 1
  | .map entries => uptoBulkEntries entries + 1
  | .held _ => 1
def uptoBulkAll {H : Type} : List (DataW H) → Nat
  | [] => 0
  | d :: r => uptoBulk d + uptoBulkAll r
def uptoBulkEntries {H : Type} : List (Lit × DataW H) → Nat
  | [] => 0
  | x :: r => uptoBulkEntry x + uptoBulkEntries r
def uptoBulkEntry {H : Type} : Lit × DataW H → Nat
  | (.string bytes, d) => bytes.length + uptoBulk d + 1
  | (_, d) => uptoBulk d + 1
 end
def uptoSmall : (H : Type) → List (DataW H) → Bool := fun _ ds => decide (uptoBulkAll ds ≤ 1048576)
def OpenSpec.upto (s : _root_.Go.ChangeSpec) : _root_.Go.OpenSpec := { _root_.Go.OpenSpec.ofChange s with cond := some uptoSmall }

/-- 'laws.FnExactAddReading', WHERE WHAT IT READS IS OF BULK AT MOST 1048576: true; the input reads as it did. -/
def fnExactAddReadingUptoRow : OpenClaim := { program := "ytjccjmjnlblhaaa", sum := "980d52a513c0d8908f02054e471e2e7d4a15317fec6c08fb2004010ab2b7bca4", func := "loop.example/g01011/laws.FnExactAddReading", spec := "fnExactAddReading", inPlace := ["slices.overlaps[loop.example/g01011/impl.Reading]"], unfollowed := true, recurses := true, apart := false, narrowed := true }
def FnExactAddReadingUptoSaid : Prop := fnExactAddReadingUptoRow.holds Try.pinned (OpenSpec.upto fnExactAddReadingSpec)

/-- 'laws.FnExactAddDuty', WHERE WHAT IT READS IS OF BULK AT MOST 1048576: true; the input reads as it did. -/
def fnExactAddDutyUptoRow : OpenClaim := { program := "ytjccjmjnlblhaaa", sum := "980d52a513c0d8908f02054e471e2e7d4a15317fec6c08fb2004010ab2b7bca4", func := "loop.example/g01011/laws.FnExactAddDuty", spec := "fnExactAddDuty", inPlace := ["slices.overlaps[loop.example/g01011/impl.Duty]"], unfollowed := true, recurses := true, apart := false, narrowed := true }
def FnExactAddDutyUptoSaid : Prop := fnExactAddDutyUptoRow.holds Try.pinned (OpenSpec.upto fnExactAddDutySpec)

/-- 'laws.FnExactMovedTenant', WHERE WHAT IT READS IS OF BULK AT MOST 1048576: true; the input reads as it did. -/
def fnExactMovedTenantUptoRow : OpenClaim := { program := "ytjccjmjnlblhaaa", sum := "980d52a513c0d8908f02054e471e2e7d4a15317fec6c08fb2004010ab2b7bca4", func := "loop.example/g01011/laws.FnExactMovedTenant", spec := "fnExactMovedTenant", inPlace := ["internal/bytealg.abigen_runtime_cmpstring", "slices.overlaps[loop.example/g01011/impl.Tenant]"], unfollowed := true, recurses := true, apart := false, narrowed := true }
def FnExactMovedTenantUptoSaid : Prop := fnExactMovedTenantUptoRow.holds Try.pinned (OpenSpec.upto fnExactMovedTenantSpec)

/-- 'laws.FnExactMeritOrder', WHERE WHAT IT READS IS OF BULK AT MOST 1048576: true; the input reads as it did. -/
def fnExactMeritOrderUptoRow : OpenClaim := { program := "ytjccjmjnlblhaaa", sum := "980d52a513c0d8908f02054e471e2e7d4a15317fec6c08fb2004010ab2b7bca4", func := "loop.example/g01011/laws.FnExactMeritOrder", spec := "fnExactMeritOrder", unfollowed := true, recurses := true, apart := false, narrowed := true }
def FnExactMeritOrderUptoSaid : Prop := fnExactMeritOrderUptoRow.holds Try.pinned (OpenSpec.upto fnExactMeritOrderSpec)

/-- 'laws.FnExactHourBound', WHERE WHAT IT READS IS OF BULK AT MOST 1048576: true; the input reads as it did. -/
def fnExactHourBoundUptoRow : OpenClaim := { program := "ytjccjmjnlblhaaa", sum := "980d52a513c0d8908f02054e471e2e7d4a15317fec6c08fb2004010ab2b7bca4", func := "loop.example/g01011/laws.FnExactHourBound", spec := "fnExactHourBound", unfollowed := true, recurses := true, apart := false, narrowed := true }
def FnExactHourBoundUptoSaid : Prop := fnExactHourBoundUptoRow.holds Try.pinned (OpenSpec.upto fnExactHourBoundSpec)

/-- 'laws.FnExactRestProblems', WHERE WHAT IT READS IS OF BULK AT MOST 1048576: true; the input reads as it did. -/
def fnExactRestProblemsUptoRow : OpenClaim := { program := "ytjccjmjnlblhaaa", sum := "980d52a513c0d8908f02054e471e2e7d4a15317fec6c08fb2004010ab2b7bca4", func := "loop.example/g01011/laws.FnExactRestProblems", spec := "fnExactRestProblems", apart := false, narrowed := true }
def FnExactRestProblemsUptoSaid : Prop := fnExactRestProblemsUptoRow.holds Try.pinned (OpenSpec.upto fnExactRestProblemsSpec)

/-- 'laws.FnForecasts', WHERE WHAT IT READS IS OF BULK AT MOST 1048576: true; the input reads as it did. -/
def fnForecastsUptoRow : OpenClaim := { program := "ytjccjmjnlblhaaa", sum := "980d52a513c0d8908f02054e471e2e7d4a15317fec6c08fb2004010ab2b7bca4", func := "loop.example/g01011/laws.FnForecasts", spec := "fnForecasts", unfollowed := true, recurses := true, apart := false, narrowed := true }
def FnForecastsUptoSaid : Prop := fnForecastsUptoRow.holds Try.pinned (OpenSpec.upto fnForecastsSpec)

/-- 'laws.FnExactWorstZone', WHERE WHAT IT READS IS OF BULK AT MOST 1048576: true; the input reads as it did. -/
def fnExactWorstZoneUptoRow : OpenClaim := { program := "ytjccjmjnlblhaaa", sum := "980d52a513c0d8908f02054e471e2e7d4a15317fec6c08fb2004010ab2b7bca4", func := "loop.example/g01011/laws.FnExactWorstZone", spec := "fnExactWorstZone", apart := false, narrowed := true }
def FnExactWorstZoneUptoSaid : Prop := fnExactWorstZoneUptoRow.holds Try.pinned (OpenSpec.upto fnExactWorstZoneSpec)

/-- 'laws.FnExactZoneBounds', WHERE WHAT IT READS IS OF BULK AT MOST 1048576: true; the input reads as it did. -/
def fnExactZoneBoundsUptoRow : OpenClaim := { program := "ytjccjmjnlblhaaa", sum := "980d52a513c0d8908f02054e471e2e7d4a15317fec6c08fb2004010ab2b7bca4", func := "loop.example/g01011/laws.FnExactZoneBounds", spec := "fnExactZoneBounds", apart := false, narrowed := true }
def FnExactZoneBoundsUptoSaid : Prop := fnExactZoneBoundsUptoRow.holds Try.pinned (OpenSpec.upto fnExactZoneBoundsSpec)

end Rows
end Go.Proofs.Ytjccjmjnlblhaaa
