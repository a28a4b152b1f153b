/-
  No cell of these rows narrows 'for every input' (looked for: loops, veiled, ifaces, maps, wideKeys, modest, calm, conditions, laid).
  DERIVED. THE GIVEN ROWS OF THIS SEAT. 12 by the template 'for every input the law returns true; each argument reads behind the call as it read before'; 0 by the template 'total and deterministic' (their statements: YtnmdljdkbpgdaaaTotals.lean).
  GIVEN WITH THE SEED: the statements are not yours to turn. If you find one false, say at which input.
  Laid BY PROGRAM, IN A SANDBOX (cutbox-rows.mjs): the forced cells as the released guide's own fill.sh prints them over the translation a7b79c8e1c3d067e… (all of the seat's roots in one cut). By AI agents, Wed Nov 11 2026. No macro, syntax, notation, axiom, sorry.
-/
import Derived.Test.YtnmdljdkbpgdaaaChecked
import GoSem.Claim
import GoSem.ClaimJoined
import GoSem.ClaimMapViews
import Derived.JoinedTies
import Derived.KernelRfl
namespace Go.Proofs.Ytnmdljdkbpgdaaa
/- THE CELL 'sum', in the pinned program and in every row, IS THE sha256 OF THE DUMP (.gsa) THAT YtnmdljdkbpgdaaaProg.lean LOADS. Nothing in Lean hashes anything: it is a label: what it is worth is what the hold of that sum in a sandbox is worth. -/
noncomputable def Try.pinned : Pinned := { name := "ytnmdljdkbpgdaaa", sum := "a7b79c8e1c3d067ea02dc06f0b3ba974cf6008b3e5b47a8ccd0c35d4a51e6471", checked := Try.checked }
namespace Rows
def none {H : Type} : Left H := { results := [], args := [] }

/-- 'laws.FnExactCleanestMix': WHATEVER THE INPUT: true; the input reads as it did. -/
def fnExactCleanestMixSpec : ChangeSpec := { name := "fnExactCleanestMix", fn := fun _ => fun
  | [d1, d2] => { results := [.lit (.bool true)], args := [d1, d2] }
  | _ => none }
def fnExactCleanestMixRow : OpenClaim := { program := "ytnmdljdkbpgdaaa", sum := "a7b79c8e1c3d067ea02dc06f0b3ba974cf6008b3e5b47a8ccd0c35d4a51e6471", func := "loop.example/g01011/laws.FnExactCleanestMix", spec := "fnExactCleanestMix", unfollowed := true, recurses := true, plainKeys := false, apart := false }
def FnExactCleanestMixSaid : Prop := fnExactCleanestMixRow.holds Try.pinned (OpenSpec.ofChange fnExactCleanestMixSpec)

/-- ITS FALSE NEIGHBOUR: 'it returns false'. Refute it at one input. -/
def fnExactCleanestMixWrong : ChangeSpec := { name := "fnExactCleanestMix", fn := fun _ => fun
  | [d1, d2] => { results := [.lit (.bool false)], args := [d1, d2] }
  | _ => none }
def FnExactCleanestMixWrongFalsely : Prop := fnExactCleanestMixRow.holds Try.pinned (OpenSpec.ofChange fnExactCleanestMixWrong)

/-- 'laws.FnExactCheapestMix': WHATEVER THE INPUT: true; the input reads as it did. -/
def fnExactCheapestMixSpec : ChangeSpec := { name := "fnExactCheapestMix", fn := fun _ => fun
  | [d1, d2, d3] => { results := [.lit (.bool true)], args := [d1, d2, d3] }
  | _ => none }
def fnExactCheapestMixRow : OpenClaim := { program := "ytnmdljdkbpgdaaa", sum := "a7b79c8e1c3d067ea02dc06f0b3ba974cf6008b3e5b47a8ccd0c35d4a51e6471", func := "loop.example/g01011/laws.FnExactCheapestMix", spec := "fnExactCheapestMix", unfollowed := true, recurses := true, plainKeys := false, apart := false }
def FnExactCheapestMixSaid : Prop := fnExactCheapestMixRow.holds Try.pinned (OpenSpec.ofChange fnExactCheapestMixSpec)

/-- ITS FALSE NEIGHBOUR: 'it returns false'. Refute it at one input. -/
def fnExactCheapestMixWrong : ChangeSpec := { name := "fnExactCheapestMix", fn := fun _ => fun
  | [d1, d2, d3] => { results := [.lit (.bool false)], args := [d1, d2, d3] }
  | _ => none }
def FnExactCheapestMixWrongFalsely : Prop := fnExactCheapestMixRow.holds Try.pinned (OpenSpec.ofChange fnExactCheapestMixWrong)

/-- 'laws.FnExactCommonAncestor': WHATEVER THE INPUT: true; the input reads as it did. -/
def fnExactCommonAncestorSpec : ChangeSpec := { name := "fnExactCommonAncestor", fn := fun _ => fun
  | [d1, d2, d3] => { results := [.lit (.bool true)], args := [d1, d2, d3] }
  | _ => none }
def fnExactCommonAncestorRow : OpenClaim := { program := "ytnmdljdkbpgdaaa", sum := "a7b79c8e1c3d067ea02dc06f0b3ba974cf6008b3e5b47a8ccd0c35d4a51e6471", func := "loop.example/g01011/laws.FnExactCommonAncestor", spec := "fnExactCommonAncestor", unfollowed := true, recurses := true, plainKeys := false, apart := false }
def FnExactCommonAncestorSaid : Prop := fnExactCommonAncestorRow.holds Try.pinned (OpenSpec.ofChange fnExactCommonAncestorSpec)

/-- ITS FALSE NEIGHBOUR: 'it returns false'. Refute it at one input. -/
def fnExactCommonAncestorWrong : ChangeSpec := { name := "fnExactCommonAncestor", fn := fun _ => fun
  | [d1, d2, d3] => { results := [.lit (.bool false)], args := [d1, d2, d3] }
  | _ => none }
def FnExactCommonAncestorWrongFalsely : Prop := fnExactCommonAncestorRow.holds Try.pinned (OpenSpec.ofChange fnExactCommonAncestorWrong)

/-- 'laws.FnExactAncestorsOf': WHATEVER THE INPUT: true; the input reads as it did. -/
def fnExactAncestorsOfSpec : ChangeSpec := { name := "fnExactAncestorsOf", fn := fun _ => fun
  | [d1, d2] => { results := [.lit (.bool true)], args := [d1, d2] }
  | _ => none }
def fnExactAncestorsOfRow : OpenClaim := { program := "ytnmdljdkbpgdaaa", sum := "a7b79c8e1c3d067ea02dc06f0b3ba974cf6008b3e5b47a8ccd0c35d4a51e6471", func := "loop.example/g01011/laws.FnExactAncestorsOf", spec := "fnExactAncestorsOf", unfollowed := true, recurses := true, plainKeys := false, apart := false }
def FnExactAncestorsOfSaid : Prop := fnExactAncestorsOfRow.holds Try.pinned (OpenSpec.ofChange fnExactAncestorsOfSpec)

/-- ITS FALSE NEIGHBOUR: 'it returns false'. Refute it at one input. -/
def fnExactAncestorsOfWrong : ChangeSpec := { name := "fnExactAncestorsOf", fn := fun _ => fun
  | [d1, d2] => { results := [.lit (.bool false)], args := [d1, d2] }
  | _ => none }
def FnExactAncestorsOfWrongFalsely : Prop := fnExactAncestorsOfRow.holds Try.pinned (OpenSpec.ofChange fnExactAncestorsOfWrong)

/-- 'laws.FnExactMergePostings': WHATEVER THE INPUT: true; the input reads as it did. -/
def fnExactMergePostingsSpec : ChangeSpec := { name := "fnExactMergePostings", fn := fun _ => fun
  | [d1, d2] => { results := [.lit (.bool true)], args := [d1, d2] }
  | _ => none }
def fnExactMergePostingsRow : OpenClaim := { program := "ytnmdljdkbpgdaaa", sum := "a7b79c8e1c3d067ea02dc06f0b3ba974cf6008b3e5b47a8ccd0c35d4a51e6471", func := "loop.example/g01011/laws.FnExactMergePostings", spec := "fnExactMergePostings", inPlace := ["slices.overlaps[loop.example/g01011/impl.Posting]"], plainKeys := false, apart := false }
def FnExactMergePostingsSaid : Prop := fnExactMergePostingsRow.holds Try.pinned (OpenSpec.ofChange fnExactMergePostingsSpec)

/-- ITS FALSE NEIGHBOUR: 'it returns false'. Refute it at one input. -/
def fnExactMergePostingsWrong : ChangeSpec := { name := "fnExactMergePostings", fn := fun _ => fun
  | [d1, d2] => { results := [.lit (.bool false)], args := [d1, d2] }
  | _ => none }
def FnExactMergePostingsWrongFalsely : Prop := fnExactMergePostingsRow.holds Try.pinned (OpenSpec.ofChange fnExactMergePostingsWrong)

/-- 'laws.FnExactTransferMoney': WHATEVER THE INPUT: true; the input reads as it did. -/
def fnExactTransferMoneySpec : ChangeSpec := { name := "fnExactTransferMoney", fn := fun _ => fun
  | [d1, d2, d3, d4, d5] => { results := [.lit (.bool true)], args := [d1, d2, d3, d4, d5] }
  | _ => none }
def fnExactTransferMoneyRow : OpenClaim := { program := "ytnmdljdkbpgdaaa", sum := "a7b79c8e1c3d067ea02dc06f0b3ba974cf6008b3e5b47a8ccd0c35d4a51e6471", func := "loop.example/g01011/laws.FnExactTransferMoney", spec := "fnExactTransferMoney", inPlace := ["slices.overlaps[loop.example/g01011/impl.Posting]"], plainKeys := false, apart := false }
def FnExactTransferMoneySaid : Prop := fnExactTransferMoneyRow.holds Try.pinned (OpenSpec.ofChange fnExactTransferMoneySpec)

/-- ITS FALSE NEIGHBOUR: 'it returns false'. Refute it at one input. -/
def fnExactTransferMoneyWrong : ChangeSpec := { name := "fnExactTransferMoney", fn := fun _ => fun
  | [d1, d2, d3, d4, d5] => { results := [.lit (.bool false)], args := [d1, d2, d3, d4, d5] }
  | _ => none }
def FnExactTransferMoneyWrongFalsely : Prop := fnExactTransferMoneyRow.holds Try.pinned (OpenSpec.ofChange fnExactTransferMoneyWrong)

/-- 'laws.FnExactCancelPosting': WHATEVER THE INPUT: true; the input reads as it did. -/
def fnExactCancelPostingSpec : ChangeSpec := { name := "fnExactCancelPosting", fn := fun _ => fun
  | [d1, d2, d3] => { results := [.lit (.bool true)], args := [d1, d2, d3] }
  | _ => none }
def fnExactCancelPostingRow : OpenClaim := { program := "ytnmdljdkbpgdaaa", sum := "a7b79c8e1c3d067ea02dc06f0b3ba974cf6008b3e5b47a8ccd0c35d4a51e6471", func := "loop.example/g01011/laws.FnExactCancelPosting", spec := "fnExactCancelPosting", inPlace := ["slices.overlaps[loop.example/g01011/impl.Posting]"], plainKeys := false, apart := false }
def FnExactCancelPostingSaid : Prop := fnExactCancelPostingRow.holds Try.pinned (OpenSpec.ofChange fnExactCancelPostingSpec)

/-- ITS FALSE NEIGHBOUR: 'it returns false'. Refute it at one input. -/
def fnExactCancelPostingWrong : ChangeSpec := { name := "fnExactCancelPosting", fn := fun _ => fun
  | [d1, d2, d3] => { results := [.lit (.bool false)], args := [d1, d2, d3] }
  | _ => none }
def FnExactCancelPostingWrongFalsely : Prop := fnExactCancelPostingRow.holds Try.pinned (OpenSpec.ofChange fnExactCancelPostingWrong)

/-- 'laws.FnInterest': WHATEVER THE INPUT: true; the input reads as it did. -/
def fnInterestSpec : ChangeSpec := { name := "fnInterest", fn := fun _ => fun
  | [d1, d2] => { results := [.lit (.bool true)], args := [d1, d2] }
  | _ => none }
def fnInterestRow : OpenClaim := { program := "ytnmdljdkbpgdaaa", sum := "a7b79c8e1c3d067ea02dc06f0b3ba974cf6008b3e5b47a8ccd0c35d4a51e6471", func := "loop.example/g01011/laws.FnInterest", spec := "fnInterest", inPlace := ["slices.overlaps[loop.example/g01011/impl.Posting]"], unfollowed := true, recurses := true, plainKeys := false, apart := false }
def FnInterestSaid : Prop := fnInterestRow.holds Try.pinned (OpenSpec.ofChange fnInterestSpec)

/-- ITS FALSE NEIGHBOUR: 'it returns false'. Refute it at one input. -/
def fnInterestWrong : ChangeSpec := { name := "fnInterest", fn := fun _ => fun
  | [d1, d2] => { results := [.lit (.bool false)], args := [d1, d2] }
  | _ => none }
def FnInterestWrongFalsely : Prop := fnInterestRow.holds Try.pinned (OpenSpec.ofChange fnInterestWrong)

/-- 'laws.FnExactHoursOf': WHATEVER THE INPUT: true; the input reads as it did. -/
def fnExactHoursOfSpec : ChangeSpec := { name := "fnExactHoursOf", fn := fun _ => fun
  | [d1, d2] => { results := [.lit (.bool true)], args := [d1, d2] }
  | _ => none }
def fnExactHoursOfRow : OpenClaim := { program := "ytnmdljdkbpgdaaa", sum := "a7b79c8e1c3d067ea02dc06f0b3ba974cf6008b3e5b47a8ccd0c35d4a51e6471", func := "loop.example/g01011/laws.FnExactHoursOf", spec := "fnExactHoursOf", unfollowed := true, recurses := true, plainKeys := false, apart := false }
def FnExactHoursOfSaid : Prop := fnExactHoursOfRow.holds Try.pinned (OpenSpec.ofChange fnExactHoursOfSpec)

/-- ITS FALSE NEIGHBOUR: 'it returns false'. Refute it at one input. -/
def fnExactHoursOfWrong : ChangeSpec := { name := "fnExactHoursOf", fn := fun _ => fun
  | [d1, d2] => { results := [.lit (.bool false)], args := [d1, d2] }
  | _ => none }
def FnExactHoursOfWrongFalsely : Prop := fnExactHoursOfRow.holds Try.pinned (OpenSpec.ofChange fnExactHoursOfWrong)

/-- 'laws.FnExactStartsOf': WHATEVER THE INPUT: true; the input reads as it did. -/
def fnExactStartsOfSpec : ChangeSpec := { name := "fnExactStartsOf", fn := fun _ => fun
  | [d1, d2] => { results := [.lit (.bool true)], args := [d1, d2] }
  | _ => none }
def fnExactStartsOfRow : OpenClaim := { program := "ytnmdljdkbpgdaaa", sum := "a7b79c8e1c3d067ea02dc06f0b3ba974cf6008b3e5b47a8ccd0c35d4a51e6471", func := "loop.example/g01011/laws.FnExactStartsOf", spec := "fnExactStartsOf", unfollowed := true, recurses := true, plainKeys := false, apart := false }
def FnExactStartsOfSaid : Prop := fnExactStartsOfRow.holds Try.pinned (OpenSpec.ofChange fnExactStartsOfSpec)

/-- ITS FALSE NEIGHBOUR: 'it returns false'. Refute it at one input. -/
def fnExactStartsOfWrong : ChangeSpec := { name := "fnExactStartsOf", fn := fun _ => fun
  | [d1, d2] => { results := [.lit (.bool false)], args := [d1, d2] }
  | _ => none }
def FnExactStartsOfWrongFalsely : Prop := fnExactStartsOfRow.holds Try.pinned (OpenSpec.ofChange fnExactStartsOfWrong)

/-- 'laws.FnExactCommitState': WHATEVER THE INPUT: true; the input reads as it did. -/
def fnExactCommitStateSpec : ChangeSpec := { name := "fnExactCommitState", fn := fun _ => fun
  | [d1, d2, d3, d4] => { results := [.lit (.bool true)], args := [d1, d2, d3, d4] }
  | _ => none }
def fnExactCommitStateRow : OpenClaim := { program := "ytnmdljdkbpgdaaa", sum := "a7b79c8e1c3d067ea02dc06f0b3ba974cf6008b3e5b47a8ccd0c35d4a51e6471", func := "loop.example/g01011/laws.FnExactCommitState", spec := "fnExactCommitState", plainKeys := false, apart := false }
def FnExactCommitStateSaid : Prop := fnExactCommitStateRow.holds Try.pinned (OpenSpec.ofChange fnExactCommitStateSpec)

/-- ITS FALSE NEIGHBOUR: 'it returns false'. Refute it at one input. -/
def fnExactCommitStateWrong : ChangeSpec := { name := "fnExactCommitState", fn := fun _ => fun
  | [d1, d2, d3, d4] => { results := [.lit (.bool false)], args := [d1, d2, d3, d4] }
  | _ => none }
def FnExactCommitStateWrongFalsely : Prop := fnExactCommitStateRow.holds Try.pinned (OpenSpec.ofChange fnExactCommitStateWrong)

/-- 'laws.FnExactMarginalUnit': WHATEVER THE INPUT: true; the input reads as it did. -/
def fnExactMarginalUnitSpec : ChangeSpec := { name := "fnExactMarginalUnit", fn := fun _ => fun
  | [d1, d2] => { results := [.lit (.bool true)], args := [d1, d2] }
  | _ => none }
def fnExactMarginalUnitRow : OpenClaim := { program := "ytnmdljdkbpgdaaa", sum := "a7b79c8e1c3d067ea02dc06f0b3ba974cf6008b3e5b47a8ccd0c35d4a51e6471", func := "loop.example/g01011/laws.FnExactMarginalUnit", spec := "fnExactMarginalUnit", unfollowed := true, recurses := true, plainKeys := false, apart := false }
def FnExactMarginalUnitSaid : Prop := fnExactMarginalUnitRow.holds Try.pinned (OpenSpec.ofChange fnExactMarginalUnitSpec)

/-- ITS FALSE NEIGHBOUR: 'it returns false'. Refute it at one input. -/
def fnExactMarginalUnitWrong : ChangeSpec := { name := "fnExactMarginalUnit", fn := fun _ => fun
  | [d1, d2] => { results := [.lit (.bool false)], args := [d1, d2] }
  | _ => none }
def FnExactMarginalUnitWrongFalsely : Prop := fnExactMarginalUnitRow.holds Try.pinned (OpenSpec.ofChange fnExactMarginalUnitWrong)

/- THE SECOND FORM. 'bulk': how many values and letters a reading holds, each counted each time it is reached (what is shared counts as often as it is met; a slice's spare places count too). A statement '..UptoSaid' is the law's where the arguments, and the package variables that the reading takes, are together of bulk at most 1048576: NARROWER than '..Said'. Prove '..Said' where nothing that the law and all that it calls make is longer than what came in: it says more and counts as full. Else prove '..UptoSaid'. A law counts once. -/
mutual
def uptoBulk {H : Type} : DataW H → Nat
  | .lit (.string bytes) => bytes.length + 1
  | .lit _ => 1
  | .nil => 1
  | .ptr d => uptoBulk d + 1
  | .slice elems spare => uptoBulkAll elems + uptoBulkAll spare + 1
  | .agg parts => uptoBulkAll parts + 1
  | .iface _ d => uptoBulk d + 1
  | .map entries => uptoBulkEntries entries + 1
  | .held _ => 1
def uptoBulkAll {H : Type} : List (DataW H) → Nat
  | [] => 0
  | d :: r => uptoBulk d + uptoBulkAll r
def uptoBulkEntries {H : Type} : List (Lit × DataW H) → Nat
  | [] => 0
  | x :: r => uptoBulkEntry x + uptoBulkEntries r
def uptoBulkEntry {H : Type} : Lit × DataW H → Nat
  | (.string bytes, d) => bytes.length + uptoBulk d + 1
  | (_, d) => uptoBulk d + 1
 end
def uptoSmall : (H : Type) → List (DataW H) → Bool := fun _ ds => decide (uptoBulkAll ds ≤ 1048576)
def OpenSpec.upto (s : _root_.Go.ChangeSpec) : _root_.Go.OpenSpec := { _root_.Go.OpenSpec.ofChange s with cond := some uptoSmall }

/-- 'laws.FnExactCleanestMix', WHERE WHAT IT READS IS OF BULK AT MOST 1048576: true; the input reads as it did. -/
def fnExactCleanestMixUptoRow : OpenClaim := { program := "ytnmdljdkbpgdaaa", sum := "a7b79c8e1c3d067ea02dc06f0b3ba974cf6008b3e5b47a8ccd0c35d4a51e6471", func := "loop.example/g01011/laws.FnExactCleanestMix", spec := "fnExactCleanestMix", unfollowed := true, recurses := true, plainKeys := false, apart := false, narrowed := true }
def FnExactCleanestMixUptoSaid : Prop := fnExactCleanestMixUptoRow.holds Try.pinned (OpenSpec.upto fnExactCleanestMixSpec)

/-- 'laws.FnExactCheapestMix', WHERE WHAT IT READS IS OF BULK AT MOST 1048576: true; the input reads as it did. -/
def fnExactCheapestMixUptoRow : OpenClaim := { program := "ytnmdljdkbpgdaaa", sum := "a7b79c8e1c3d067ea02dc06f0b3ba974cf6008b3e5b47a8ccd0c35d4a51e6471", func := "loop.example/g01011/laws.FnExactCheapestMix", spec := "fnExactCheapestMix", unfollowed := true, recurses := true, plainKeys := false, apart := false, narrowed := true }
def FnExactCheapestMixUptoSaid : Prop := fnExactCheapestMixUptoRow.holds Try.pinned (OpenSpec.upto fnExactCheapestMixSpec)

/-- 'laws.FnExactCommonAncestor', WHERE WHAT IT READS IS OF BULK AT MOST 1048576: true; the input reads as it did. -/
def fnExactCommonAncestorUptoRow : OpenClaim := { program := "ytnmdljdkbpgdaaa", sum := "a7b79c8e1c3d067ea02dc06f0b3ba974cf6008b3e5b47a8ccd0c35d4a51e6471", func := "loop.example/g01011/laws.FnExactCommonAncestor", spec := "fnExactCommonAncestor", unfollowed := true, recurses := true, plainKeys := false, apart := false, narrowed := true }
def FnExactCommonAncestorUptoSaid : Prop := fnExactCommonAncestorUptoRow.holds Try.pinned (OpenSpec.upto fnExactCommonAncestorSpec)

/-- 'laws.FnExactAncestorsOf', WHERE WHAT IT READS IS OF BULK AT MOST 1048576: true; the input reads as it did. -/
def fnExactAncestorsOfUptoRow : OpenClaim := { program := "ytnmdljdkbpgdaaa", sum := "a7b79c8e1c3d067ea02dc06f0b3ba974cf6008b3e5b47a8ccd0c35d4a51e6471", func := "loop.example/g01011/laws.FnExactAncestorsOf", spec := "fnExactAncestorsOf", unfollowed := true, recurses := true, plainKeys := false, apart := false, narrowed := true }
def FnExactAncestorsOfUptoSaid : Prop := fnExactAncestorsOfUptoRow.holds Try.pinned (OpenSpec.upto fnExactAncestorsOfSpec)

/-- 'laws.FnExactMergePostings', WHERE WHAT IT READS IS OF BULK AT MOST 1048576: true; the input reads as it did. -/
def fnExactMergePostingsUptoRow : OpenClaim := { program := "ytnmdljdkbpgdaaa", sum := "a7b79c8e1c3d067ea02dc06f0b3ba974cf6008b3e5b47a8ccd0c35d4a51e6471", func := "loop.example/g01011/laws.FnExactMergePostings", spec := "fnExactMergePostings", inPlace := ["slices.overlaps[loop.example/g01011/impl.Posting]"], plainKeys := false, apart := false, narrowed := true }
def FnExactMergePostingsUptoSaid : Prop := fnExactMergePostingsUptoRow.holds Try.pinned (OpenSpec.upto fnExactMergePostingsSpec)

/-- 'laws.FnExactTransferMoney', WHERE WHAT IT READS IS OF BULK AT MOST 1048576: true; the input reads as it did. -/
def fnExactTransferMoneyUptoRow : OpenClaim := { program := "ytnmdljdkbpgdaaa", sum := "a7b79c8e1c3d067ea02dc06f0b3ba974cf6008b3e5b47a8ccd0c35d4a51e6471", func := "loop.example/g01011/laws.FnExactTransferMoney", spec := "fnExactTransferMoney", inPlace := ["slices.overlaps[loop.example/g01011/impl.Posting]"], plainKeys := false, apart := false, narrowed := true }
def FnExactTransferMoneyUptoSaid : Prop := fnExactTransferMoneyUptoRow.holds Try.pinned (OpenSpec.upto fnExactTransferMoneySpec)

/-- 'laws.FnExactCancelPosting', WHERE WHAT IT READS IS OF BULK AT MOST 1048576: true; the input reads as it did. -/
def fnExactCancelPostingUptoRow : OpenClaim := { program := "ytnmdljdkbpgdaaa", sum := "a7b79c8e1c3d067ea02dc06f0b3ba974cf6008b3e5b47a8ccd0c35d4a51e6471", func := "loop.example/g01011/laws.FnExactCancelPosting", spec := "fnExactCancelPosting", inPlace := ["slices.overlaps[loop.example/g01011/impl.Posting]"], plainKeys := false, apart := false, narrowed := true }
def FnExactCancelPostingUptoSaid : Prop := fnExactCancelPostingUptoRow.holds Try.pinned (OpenSpec.upto fnExactCancelPostingSpec)

/-- 'laws.FnInterest', WHERE WHAT IT READS IS OF BULK AT MOST 1048576: true; the input reads as it did. -/
def fnInterestUptoRow : OpenClaim := { program := "ytnmdljdkbpgdaaa", sum := "a7b79c8e1c3d067ea02dc06f0b3ba974cf6008b3e5b47a8ccd0c35d4a51e6471", func := "loop.example/g01011/laws.FnInterest", spec := "fnInterest", inPlace := ["slices.overlaps[loop.example/g01011/impl.Posting]"], unfollowed := true, recurses := true, plainKeys := false, apart := false, narrowed := true }
def FnInterestUptoSaid : Prop := fnInterestUptoRow.holds Try.pinned (OpenSpec.upto fnInterestSpec)

/-- 'laws.FnExactHoursOf', WHERE WHAT IT READS IS OF BULK AT MOST 1048576: true; the input reads as it did. -/
def fnExactHoursOfUptoRow : OpenClaim := { program := "ytnmdljdkbpgdaaa", sum := "a7b79c8e1c3d067ea02dc06f0b3ba974cf6008b3e5b47a8ccd0c35d4a51e6471", func := "loop.example/g01011/laws.FnExactHoursOf", spec := "fnExactHoursOf", unfollowed := true, recurses := true, plainKeys := false, apart := false, narrowed := true }
def FnExactHoursOfUptoSaid : Prop := fnExactHoursOfUptoRow.holds Try.pinned (OpenSpec.upto fnExactHoursOfSpec)

/-- 'laws.FnExactStartsOf', WHERE WHAT IT READS IS OF BULK AT MOST 1048576: true; the input reads as it did. -/
def fnExactStartsOfUptoRow : OpenClaim := { program := "ytnmdljdkbpgdaaa", sum := "a7b79c8e1c3d067ea02dc06f0b3ba974cf6008b3e5b47a8ccd0c35d4a51e6471", func := "loop.example/g01011/laws.FnExactStartsOf", spec := "fnExactStartsOf", unfollowed := true, recurses := true, plainKeys := false, apart := false, narrowed := true }
def FnExactStartsOfUptoSaid : Prop := fnExactStartsOfUptoRow.holds Try.pinned (OpenSpec.upto fnExactStartsOfSpec)

/-- 'laws.FnExactCommitState', WHERE WHAT IT READS IS OF BULK AT MOST 1048576: true; the input reads as it did. -/
def fnExactCommitStateUptoRow : OpenClaim := { program := "ytnmdljdkbpgdaaa", sum := "a7b79c8e1c3d067ea02dc06f0b3ba974cf6008b3e5b47a8ccd0c35d4a51e6471", func := "loop.example/g01011/laws.FnExactCommitState", spec := "fnExactCommitState", plainKeys := false, apart := false, narrowed := true }
def FnExactCommitStateUptoSaid : Prop := fnExactCommitStateUptoRow.holds Try.pinned (OpenSpec.upto fnExactCommitStateSpec)

/-- 'laws.FnExactMarginalUnit', WHERE WHAT IT READS IS OF BULK AT MOST 1048576: true; the input reads as it did. -/
def fnExactMarginalUnitUptoRow : OpenClaim := { program := "ytnmdljdkbpgdaaa", sum := "a7b79c8e1c3d067ea02dc06f0b3ba974cf6008b3e5b47a8ccd0c35d4a51e6471", func := "loop.example/g01011/laws.FnExactMarginalUnit", spec := "fnExactMarginalUnit", unfollowed := true, recurses := true, plainKeys := false, apart := false, narrowed := true }
def FnExactMarginalUnitUptoSaid : Prop := fnExactMarginalUnitUptoRow.holds Try.pinned (OpenSpec.upto fnExactMarginalUnitSpec)

end Rows
end Go.Proofs.Ytnmdljdkbpgdaaa
