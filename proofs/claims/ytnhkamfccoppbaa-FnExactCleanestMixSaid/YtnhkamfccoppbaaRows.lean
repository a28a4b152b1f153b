/-
  No cell of these rows narrows 'for every input' (looked for: loops, veiled, ifaces, maps, wideKeys, modest, calm, conditions, laid).
  DERIVED. THE GIVEN ROWS OF THIS SEAT. 3 by the template 'for every input the law returns true; each argument reads behind the call as it read before'; 0 by the template 'total and deterministic' (their statements: YtnhkamfccoppbaaTotals.lean).
  GIVEN WITH THE SEED: the statements are not yours to turn. If you find one false, say at which input.
  Laid BY PROGRAM, IN A SANDBOX (cutbox-rows.mjs): the forced cells as the released guide's own fill.sh prints them over the translation 9b45c52cf0d73ce4… (all of the seat's roots in one cut). By AI agents, Wed Nov 11 2026. No macro, syntax, notation, axiom, sorry.
-/
import Derived.Test.YtnhkamfccoppbaaChecked
import GoSem.Claim
import GoSem.ClaimJoined
import GoSem.ClaimMapViews
import Derived.JoinedTies
import Derived.KernelRfl
namespace Go.Proofs.Ytnhkamfccoppbaa
/- THE CELL 'sum', in the pinned program and in every row, IS THE sha256 OF THE DUMP (.gsa) THAT YtnhkamfccoppbaaProg.lean LOADS. Nothing in Lean hashes anything: it is a label: what it is worth is what the hold of that sum in a sandbox is worth. -/
noncomputable def Try.pinned : Pinned := { name := "ytnhkamfccoppbaa", sum := "9b45c52cf0d73ce41b83b379290c03354b9cfcb26cd5eed0ec1f90be4510d13e", checked := Try.checked }
namespace Rows
def none {H : Type} : Left H := { results := [], args := [] }

/-- 'laws.FnExactPriceOfLimit': WHATEVER THE INPUT: true; the input reads as it did. -/
def fnExactPriceOfLimitSpec : ChangeSpec := { name := "fnExactPriceOfLimit", fn := fun _ => fun
  | [d1, d2, d3] => { results := [.lit (.bool true)], args := [d1, d2, d3] }
  | _ => none }
def fnExactPriceOfLimitRow : OpenClaim := { program := "ytnhkamfccoppbaa", sum := "9b45c52cf0d73ce41b83b379290c03354b9cfcb26cd5eed0ec1f90be4510d13e", func := "loop.example/g01011/laws.FnExactPriceOfLimit", spec := "fnExactPriceOfLimit", unfollowed := true, recurses := true, plainKeys := false, apart := false }
def FnExactPriceOfLimitSaid : Prop := fnExactPriceOfLimitRow.holds Try.pinned (OpenSpec.ofChange fnExactPriceOfLimitSpec)

/-- ITS FALSE NEIGHBOUR: 'it returns false'. Refute it at one input. -/
def fnExactPriceOfLimitWrong : ChangeSpec := { name := "fnExactPriceOfLimit", fn := fun _ => fun
  | [d1, d2, d3] => { results := [.lit (.bool false)], args := [d1, d2, d3] }
  | _ => none }
def FnExactPriceOfLimitWrongFalsely : Prop := fnExactPriceOfLimitRow.holds Try.pinned (OpenSpec.ofChange fnExactPriceOfLimitWrong)

/-- 'laws.FnExactCleanestMix': WHATEVER THE INPUT: true; the input reads as it did. -/
def fnExactCleanestMixSpec : ChangeSpec := { name := "fnExactCleanestMix", fn := fun _ => fun
  | [d1, d2] => { results := [.lit (.bool true)], args := [d1, d2] }
  | _ => none }
def fnExactCleanestMixRow : OpenClaim := { program := "ytnhkamfccoppbaa", sum := "9b45c52cf0d73ce41b83b379290c03354b9cfcb26cd5eed0ec1f90be4510d13e", func := "loop.example/g01011/laws.FnExactCleanestMix", spec := "fnExactCleanestMix", unfollowed := true, recurses := true, plainKeys := false, apart := false }
def FnExactCleanestMixSaid : Prop := fnExactCleanestMixRow.holds Try.pinned (OpenSpec.ofChange fnExactCleanestMixSpec)

/-- ITS FALSE NEIGHBOUR: 'it returns false'. Refute it at one input. -/
def fnExactCleanestMixWrong : ChangeSpec := { name := "fnExactCleanestMix", fn := fun _ => fun
  | [d1, d2] => { results := [.lit (.bool false)], args := [d1, d2] }
  | _ => none }
def FnExactCleanestMixWrongFalsely : Prop := fnExactCleanestMixRow.holds Try.pinned (OpenSpec.ofChange fnExactCleanestMixWrong)

/-- 'laws.FnExactCheapestMix': WHATEVER THE INPUT: true; the input reads as it did. -/
def fnExactCheapestMixSpec : ChangeSpec := { name := "fnExactCheapestMix", fn := fun _ => fun
  | [d1, d2, d3] => { results := [.lit (.bool true)], args := [d1, d2, d3] }
  | _ => none }
def fnExactCheapestMixRow : OpenClaim := { program := "ytnhkamfccoppbaa", sum := "9b45c52cf0d73ce41b83b379290c03354b9cfcb26cd5eed0ec1f90be4510d13e", func := "loop.example/g01011/laws.FnExactCheapestMix", spec := "fnExactCheapestMix", unfollowed := true, recurses := true, plainKeys := false, apart := false }
def FnExactCheapestMixSaid : Prop := fnExactCheapestMixRow.holds Try.pinned (OpenSpec.ofChange fnExactCheapestMixSpec)

/-- ITS FALSE NEIGHBOUR: 'it returns false'. Refute it at one input. -/
def fnExactCheapestMixWrong : ChangeSpec := { name := "fnExactCheapestMix", fn := fun _ => fun
  | [d1, d2, d3] => { results := [.lit (.bool false)], args := [d1, d2, d3] }
  | _ => none }
def FnExactCheapestMixWrongFalsely : Prop := fnExactCheapestMixRow.holds Try.pinned (OpenSpec.ofChange fnExactCheapestMixWrong)

/- THE SECOND FORM. 'bulk': how many values and letters a reading holds, each counted each time it is reached (what is shared counts as often as it is met; a slice's spare places count too). A statement '..UptoSaid' is the law's where the arguments, and the package variables that the reading takes, are together of bulk at most 1048576: NARROWER than '..Said'. Prove '..Said' where nothing that the law and all that it calls make is longer than what came in: it says more and counts as full. Else prove '..UptoSaid'. A law counts once. -/
mutual
def uptoBulk {H : Type} : DataW H → Nat
  | .lit (.string bytes) => bytes.length + 1
  | .lit _ => 1
  | .nil => 1
  | .ptr d => uptoBulk d + 1
  | .slice elems spare => uptoBulkAll elems + uptoBulkAll spare + 1
  | .agg parts => uptoBulkAll parts + 1
  | .iface _ d => uptoBulk d + 1
  | .map entries => uptoBulkEntries entries + 1
  | .held _ => 1
def uptoBulkAll {H : Type} : List (DataW H) → Nat
  | [] => 0
  | d :: r => uptoBulk d + uptoBulkAll r
def uptoBulkEntries {H : Type} : List (Lit × DataW H) → Nat
  | [] => 0
  | x :: r => uptoBulkEntry x + uptoBulkEntries r
def uptoBulkEntry {H : Type} : Lit × DataW H → Nat
  | (.string bytes, d) => bytes.length + uptoBulk d + 1
  | (_, d) => uptoBulk d + 1
 end
def uptoSmall : (H : Type) → List (DataW H) → Bool := fun _ ds => decide (uptoBulkAll ds ≤ 1048576)
def OpenSpec.upto (s : _root_.Go.ChangeSpec) : _root_.Go.OpenSpec := { _root_.Go.OpenSpec.ofChange s with cond := some uptoSmall }

/-- 'laws.FnExactPriceOfLimit', WHERE WHAT IT READS IS OF BULK AT MOST 1048576: true; the input reads as it did. -/
def fnExactPriceOfLimitUptoRow : OpenClaim := { program := "ytnhkamfccoppbaa", sum := "9b45c52cf0d73ce41b83b379290c03354b9cfcb26cd5eed0ec1f90be4510d13e", func := "loop.example/g01011/laws.FnExactPriceOfLimit", spec := "fnExactPriceOfLimit", unfollowed := true, recurses := true, plainKeys := false, apart := false, narrowed := true }
def FnExactPriceOfLimitUptoSaid : Prop := fnExactPriceOfLimitUptoRow.holds Try.pinned (OpenSpec.upto fnExactPriceOfLimitSpec)

/-- 'laws.FnExactCleanestMix', WHERE WHAT IT READS IS OF BULK AT MOST 1048576: true; the input reads as it did. -/
def fnExactCleanestMixUptoRow : OpenClaim := { program := "ytnhkamfccoppbaa", sum := "9b45c52cf0d73ce41b83b379290c03354b9cfcb26cd5eed0ec1f90be4510d13e", func := "loop.example/g01011/laws.FnExactCleanestMix", spec := "fnExactCleanestMix", unfollowed := true, recurses := true, plainKeys := false, apart := false, narrowed := true }
def FnExactCleanestMixUptoSaid : Prop := fnExactCleanestMixUptoRow.holds Try.pinned (OpenSpec.upto fnExactCleanestMixSpec)

/-- 'laws.FnExactCheapestMix', WHERE WHAT IT READS IS OF BULK AT MOST 1048576: true; the input reads as it did. -/
def fnExactCheapestMixUptoRow : OpenClaim := { program := "ytnhkamfccoppbaa", sum := "9b45c52cf0d73ce41b83b379290c03354b9cfcb26cd5eed0ec1f90be4510d13e", func := "loop.example/g01011/laws.FnExactCheapestMix", spec := "fnExactCheapestMix", unfollowed := true, recurses := true, plainKeys := false, apart := false, narrowed := true }
def FnExactCheapestMixUptoSaid : Prop := fnExactCheapestMixUptoRow.holds Try.pinned (OpenSpec.upto fnExactCheapestMixSpec)

end Rows
end Go.Proofs.Ytnhkamfccoppbaa
