/-
  NARROWER THAN 'FOR EVERY INPUT', by the rows' own cells (each row's printed sentence says how): FnExactUnitText: laid · FnExactVersionText: laid · FnExactPostingText: laid · FnExactReadingsText: laid · FnExactMeterText: laid · FnExactTenantText: laid · FnExactFuelText: laid · FnExactRepairText: laid · FnExactDutyText: laid.
  DERIVED. THE GIVEN ROWS OF THIS SEAT. 9 by the template 'for every input the law returns true; each argument reads behind the call as it read before'; 0 by the template 'total and deterministic' (their statements: YtidfchlgdmnopaaDoorTotals.lean).
  GIVEN WITH THE SEED: the statements are not yours to turn. If you find one false, say at which input.
  Laid BY PROGRAM, IN A SANDBOX (cutbox-rows.mjs): the forced cells as the released guide's own fill.sh prints them over the translation 08f43b1ecd4fe02d… (all of the seat's roots in one cut). By AI agents, Wed Nov 11 2026. No macro, syntax, notation, axiom, sorry.
-/
import Derived.Test.YtidfchlgdmnopaaDoorChecked
import GoSem.Claim
import GoSem.ClaimJoined
import GoSem.ClaimMapViews
import Derived.JoinedTies
import Derived.KernelRfl
namespace Go.Proofs.YtidfchlgdmnopaaDoor
/- THE CELL 'sum', in the pinned program and in every row, IS THE sha256 OF THE DUMP (.gsa) THAT YtidfchlgdmnopaaDoorProg.lean LOADS. Nothing in Lean hashes anything: it is a label: what it is worth is what the hold of that sum in a sandbox is worth. -/
noncomputable def Tryd.pinned : Pinned := { name := "ytidfchlgdmnopaadoor", sum := "08f43b1ecd4fe02d748f0a2901281081a7838d7e1951d84de5a2d69ccfb355ee", checked := Tryd.checked }
namespace Rows
def none {H : Type} : Left H := { results := [], args := [] }

/- WHAT THE LISTED PACKAGE-LEVEL VARIABLES READ AS WHEN THE CALL BEGINS. Each datum BY PROGRAM (the guide's laid-datum.mjs) off the statement by which the dump's own 'gosem.cut.vars' lays the variable. In a bare row this is a premise. The card (YtidfchlgdmnopaaDoorCards.lean) ties it to the program's text. -/
def laid_math_bits_deBruijn32tab {H : Type} : DataW H := .agg [.lit (.int .u8 0), .lit (.int .u8 1), .lit (.int .u8 28), .lit (.int .u8 2), .lit (.int .u8 29), .lit (.int .u8 14), .lit (.int .u8 24), .lit (.int .u8 3), .lit (.int .u8 30), .lit (.int .u8 22), .lit (.int .u8 20), .lit (.int .u8 15), .lit (.int .u8 25), .lit (.int .u8 17), .lit (.int .u8 4), .lit (.int .u8 8), .lit (.int .u8 31), .lit (.int .u8 27), .lit (.int .u8 13), .lit (.int .u8 23), .lit (.int .u8 21), .lit (.int .u8 19), .lit (.int .u8 16), .lit (.int .u8 7), .lit (.int .u8 26), .lit (.int .u8 12), .lit (.int .u8 18), .lit (.int .u8 6), .lit (.int .u8 11), .lit (.int .u8 5), .lit (.int .u8 10), .lit (.int .u8 9)]
def laid_math_bits_deBruijn64tab {H : Type} : DataW H := .agg [.lit (.int .u8 0), .lit (.int .u8 1), .lit (.int .u8 56), .lit (.int .u8 2), .lit (.int .u8 57), .lit (.int .u8 49), .lit (.int .u8 28), .lit (.int .u8 3), .lit (.int .u8 61), .lit (.int .u8 58), .lit (.int .u8 42), .lit (.int .u8 50), .lit (.int .u8 38), .lit (.int .u8 29), .lit (.int .u8 17), .lit (.int .u8 4), .lit (.int .u8 62), .lit (.int .u8 47), .lit (.int .u8 59), .lit (.int .u8 36), .lit (.int .u8 45), .lit (.int .u8 43), .lit (.int .u8 51), .lit (.int .u8 22), .lit (.int .u8 53), .lit (.int .u8 39), .lit (.int .u8 33), .lit (.int .u8 30), .lit (.int .u8 24), .lit (.int .u8 18), .lit (.int .u8 12), .lit (.int .u8 5), .lit (.int .u8 63), .lit (.int .u8 55), .lit (.int .u8 48), .lit (.int .u8 27), .lit (.int .u8 60), .lit (.int .u8 41), .lit (.int .u8 37), .lit (.int .u8 16), .lit (.int .u8 46), .lit (.int .u8 35), .lit (.int .u8 44), .lit (.int .u8 21), .lit (.int .u8 52), .lit (.int .u8 32), .lit (.int .u8 23), .lit (.int .u8 11), .lit (.int .u8 54), .lit (.int .u8 26), .lit (.int .u8 40), .lit (.int .u8 15), .lit (.int .u8 34), .lit (.int .u8 20), .lit (.int .u8 31), .lit (.int .u8 10), .lit (.int .u8 25), .lit (.int .u8 14), .lit (.int .u8 19), .lit (.int .u8 9), .lit (.int .u8 13), .lit (.int .u8 8), .lit (.int .u8 7), .lit (.int .u8 6)]
def laid_internal_strconv_uint64pow10 {H : Type} : DataW H := .agg [.lit (.int .u64 1), .lit (.int .u64 10), .lit (.int .u64 100), .lit (.int .u64 1000), .lit (.int .u64 10000), .lit (.int .u64 100000), .lit (.int .u64 1000000), .lit (.int .u64 10000000), .lit (.int .u64 100000000), .lit (.int .u64 1000000000), .lit (.int .u64 10000000000), .lit (.int .u64 100000000000), .lit (.int .u64 1000000000000), .lit (.int .u64 10000000000000), .lit (.int .u64 100000000000000), .lit (.int .u64 1000000000000000), .lit (.int .u64 10000000000000000), .lit (.int .u64 100000000000000000), .lit (.int .u64 1000000000000000000), .lit (.int .u64 10000000000000000000)]

/-- 'laws.FnExactUnitText': WHATEVER THE INPUT: true; the input reads as it did. -/
def fnExactUnitTextSpec : ChangeSpec := { name := "fnExactUnitText", fn := fun _ => fun
  | [d] => { results := [.lit (.bool true)], args := [d] }
  | _ => none }
def fnExactUnitTextRow : OpenClaim := { program := "ytidfchlgdmnopaadoor", sum := "08f43b1ecd4fe02d748f0a2901281081a7838d7e1951d84de5a2d69ccfb355ee", func := "loop.example/g01011/laws.FnExactUnitText", spec := "fnExactUnitText", inPlace := ["internal/abi.NoEscape", "internal/bytealg.MakeNoZero"], named := ["internal/strconv.uint64pow10", "math/bits.deBruijn32tab", "math/bits.deBruijn64tab"], apart := false, laid := [("math/bits.deBruijn32tab", laid_math_bits_deBruijn32tab), ("math/bits.deBruijn64tab", laid_math_bits_deBruijn64tab), ("internal/strconv.uint64pow10", laid_internal_strconv_uint64pow10)] }
def FnExactUnitTextSaid : Prop := fnExactUnitTextRow.holds Tryd.pinned (OpenSpec.ofChange fnExactUnitTextSpec)

/-- ITS FALSE NEIGHBOUR: 'it returns false'. Refute it at one input. -/
def fnExactUnitTextWrong : ChangeSpec := { name := "fnExactUnitText", fn := fun _ => fun
  | [d] => { results := [.lit (.bool false)], args := [d] }
  | _ => none }
def FnExactUnitTextWrongFalsely : Prop := fnExactUnitTextRow.holds Tryd.pinned (OpenSpec.ofChange fnExactUnitTextWrong)

/-- 'laws.FnExactVersionText': WHATEVER THE INPUT: true; the input reads as it did. -/
def fnExactVersionTextSpec : ChangeSpec := { name := "fnExactVersionText", fn := fun _ => fun
  | [d] => { results := [.lit (.bool true)], args := [d] }
  | _ => none }
def fnExactVersionTextRow : OpenClaim := { program := "ytidfchlgdmnopaadoor", sum := "08f43b1ecd4fe02d748f0a2901281081a7838d7e1951d84de5a2d69ccfb355ee", func := "loop.example/g01011/laws.FnExactVersionText", spec := "fnExactVersionText", named := ["internal/strconv.uint64pow10", "math/bits.deBruijn32tab", "math/bits.deBruijn64tab"], apart := false, laid := [("math/bits.deBruijn32tab", laid_math_bits_deBruijn32tab), ("math/bits.deBruijn64tab", laid_math_bits_deBruijn64tab), ("internal/strconv.uint64pow10", laid_internal_strconv_uint64pow10)] }
def FnExactVersionTextSaid : Prop := fnExactVersionTextRow.holds Tryd.pinned (OpenSpec.ofChange fnExactVersionTextSpec)

/-- ITS FALSE NEIGHBOUR: 'it returns false'. Refute it at one input. -/
def fnExactVersionTextWrong : ChangeSpec := { name := "fnExactVersionText", fn := fun _ => fun
  | [d] => { results := [.lit (.bool false)], args := [d] }
  | _ => none }
def FnExactVersionTextWrongFalsely : Prop := fnExactVersionTextRow.holds Tryd.pinned (OpenSpec.ofChange fnExactVersionTextWrong)

/-- 'laws.FnExactPostingText': WHATEVER THE INPUT: true; the input reads as it did. -/
def fnExactPostingTextSpec : ChangeSpec := { name := "fnExactPostingText", fn := fun _ => fun
  | [d] => { results := [.lit (.bool true)], args := [d] }
  | _ => none }
def fnExactPostingTextRow : OpenClaim := { program := "ytidfchlgdmnopaadoor", sum := "08f43b1ecd4fe02d748f0a2901281081a7838d7e1951d84de5a2d69ccfb355ee", func := "loop.example/g01011/laws.FnExactPostingText", spec := "fnExactPostingText", named := ["internal/strconv.uint64pow10", "math/bits.deBruijn32tab", "math/bits.deBruijn64tab"], apart := false, laid := [("math/bits.deBruijn32tab", laid_math_bits_deBruijn32tab), ("math/bits.deBruijn64tab", laid_math_bits_deBruijn64tab), ("internal/strconv.uint64pow10", laid_internal_strconv_uint64pow10)] }
def FnExactPostingTextSaid : Prop := fnExactPostingTextRow.holds Tryd.pinned (OpenSpec.ofChange fnExactPostingTextSpec)

/-- ITS FALSE NEIGHBOUR: 'it returns false'. Refute it at one input. -/
def fnExactPostingTextWrong : ChangeSpec := { name := "fnExactPostingText", fn := fun _ => fun
  | [d] => { results := [.lit (.bool false)], args := [d] }
  | _ => none }
def FnExactPostingTextWrongFalsely : Prop := fnExactPostingTextRow.holds Tryd.pinned (OpenSpec.ofChange fnExactPostingTextWrong)

/-- 'laws.FnExactReadingsText': WHATEVER THE INPUT: true; the input reads as it did. -/
def fnExactReadingsTextSpec : ChangeSpec := { name := "fnExactReadingsText", fn := fun _ => fun
  | [d] => { results := [.lit (.bool true)], args := [d] }
  | _ => none }
def fnExactReadingsTextRow : OpenClaim := { program := "ytidfchlgdmnopaadoor", sum := "08f43b1ecd4fe02d748f0a2901281081a7838d7e1951d84de5a2d69ccfb355ee", func := "loop.example/g01011/laws.FnExactReadingsText", spec := "fnExactReadingsText", inPlace := ["internal/abi.NoEscape", "internal/bytealg.MakeNoZero"], named := ["internal/strconv.uint64pow10", "math/bits.deBruijn32tab", "math/bits.deBruijn64tab"], apart := false, laid := [("math/bits.deBruijn32tab", laid_math_bits_deBruijn32tab), ("math/bits.deBruijn64tab", laid_math_bits_deBruijn64tab), ("internal/strconv.uint64pow10", laid_internal_strconv_uint64pow10)] }
def FnExactReadingsTextSaid : Prop := fnExactReadingsTextRow.holds Tryd.pinned (OpenSpec.ofChange fnExactReadingsTextSpec)

/-- ITS FALSE NEIGHBOUR: 'it returns false'. Refute it at one input. -/
def fnExactReadingsTextWrong : ChangeSpec := { name := "fnExactReadingsText", fn := fun _ => fun
  | [d] => { results := [.lit (.bool false)], args := [d] }
  | _ => none }
def FnExactReadingsTextWrongFalsely : Prop := fnExactReadingsTextRow.holds Tryd.pinned (OpenSpec.ofChange fnExactReadingsTextWrong)

/-- 'laws.FnExactMeterText': WHATEVER THE INPUT: true; the input reads as it did. -/
def fnExactMeterTextSpec : ChangeSpec := { name := "fnExactMeterText", fn := fun _ => fun
  | [d] => { results := [.lit (.bool true)], args := [d] }
  | _ => none }
def fnExactMeterTextRow : OpenClaim := { program := "ytidfchlgdmnopaadoor", sum := "08f43b1ecd4fe02d748f0a2901281081a7838d7e1951d84de5a2d69ccfb355ee", func := "loop.example/g01011/laws.FnExactMeterText", spec := "fnExactMeterText", inPlace := ["internal/abi.NoEscape", "internal/bytealg.MakeNoZero"], named := ["internal/strconv.uint64pow10", "math/bits.deBruijn32tab", "math/bits.deBruijn64tab"], apart := false, laid := [("math/bits.deBruijn32tab", laid_math_bits_deBruijn32tab), ("math/bits.deBruijn64tab", laid_math_bits_deBruijn64tab), ("internal/strconv.uint64pow10", laid_internal_strconv_uint64pow10)] }
def FnExactMeterTextSaid : Prop := fnExactMeterTextRow.holds Tryd.pinned (OpenSpec.ofChange fnExactMeterTextSpec)

/-- ITS FALSE NEIGHBOUR: 'it returns false'. Refute it at one input. -/
def fnExactMeterTextWrong : ChangeSpec := { name := "fnExactMeterText", fn := fun _ => fun
  | [d] => { results := [.lit (.bool false)], args := [d] }
  | _ => none }
def FnExactMeterTextWrongFalsely : Prop := fnExactMeterTextRow.holds Tryd.pinned (OpenSpec.ofChange fnExactMeterTextWrong)

/-- 'laws.FnExactTenantText': WHATEVER THE INPUT: true; the input reads as it did. -/
def fnExactTenantTextSpec : ChangeSpec := { name := "fnExactTenantText", fn := fun _ => fun
  | [d] => { results := [.lit (.bool true)], args := [d] }
  | _ => none }
def fnExactTenantTextRow : OpenClaim := { program := "ytidfchlgdmnopaadoor", sum := "08f43b1ecd4fe02d748f0a2901281081a7838d7e1951d84de5a2d69ccfb355ee", func := "loop.example/g01011/laws.FnExactTenantText", spec := "fnExactTenantText", inPlace := ["internal/abi.NoEscape", "internal/bytealg.MakeNoZero"], named := ["internal/strconv.uint64pow10", "math/bits.deBruijn32tab", "math/bits.deBruijn64tab"], apart := false, laid := [("math/bits.deBruijn32tab", laid_math_bits_deBruijn32tab), ("math/bits.deBruijn64tab", laid_math_bits_deBruijn64tab), ("internal/strconv.uint64pow10", laid_internal_strconv_uint64pow10)] }
def FnExactTenantTextSaid : Prop := fnExactTenantTextRow.holds Tryd.pinned (OpenSpec.ofChange fnExactTenantTextSpec)

/-- ITS FALSE NEIGHBOUR: 'it returns false'. Refute it at one input. -/
def fnExactTenantTextWrong : ChangeSpec := { name := "fnExactTenantText", fn := fun _ => fun
  | [d] => { results := [.lit (.bool false)], args := [d] }
  | _ => none }
def FnExactTenantTextWrongFalsely : Prop := fnExactTenantTextRow.holds Tryd.pinned (OpenSpec.ofChange fnExactTenantTextWrong)

/-- 'laws.FnExactFuelText': WHATEVER THE INPUT: true; the input reads as it did. -/
def fnExactFuelTextSpec : ChangeSpec := { name := "fnExactFuelText", fn := fun _ => fun
  | [d] => { results := [.lit (.bool true)], args := [d] }
  | _ => none }
def fnExactFuelTextRow : OpenClaim := { program := "ytidfchlgdmnopaadoor", sum := "08f43b1ecd4fe02d748f0a2901281081a7838d7e1951d84de5a2d69ccfb355ee", func := "loop.example/g01011/laws.FnExactFuelText", spec := "fnExactFuelText", inPlace := ["internal/abi.NoEscape", "internal/bytealg.MakeNoZero"], named := ["internal/strconv.uint64pow10", "math/bits.deBruijn32tab", "math/bits.deBruijn64tab"], apart := false, laid := [("math/bits.deBruijn32tab", laid_math_bits_deBruijn32tab), ("math/bits.deBruijn64tab", laid_math_bits_deBruijn64tab), ("internal/strconv.uint64pow10", laid_internal_strconv_uint64pow10)] }
def FnExactFuelTextSaid : Prop := fnExactFuelTextRow.holds Tryd.pinned (OpenSpec.ofChange fnExactFuelTextSpec)

/-- ITS FALSE NEIGHBOUR: 'it returns false'. Refute it at one input. -/
def fnExactFuelTextWrong : ChangeSpec := { name := "fnExactFuelText", fn := fun _ => fun
  | [d] => { results := [.lit (.bool false)], args := [d] }
  | _ => none }
def FnExactFuelTextWrongFalsely : Prop := fnExactFuelTextRow.holds Tryd.pinned (OpenSpec.ofChange fnExactFuelTextWrong)

/-- 'laws.FnExactRepairText': WHATEVER THE INPUT: true; the input reads as it did. -/
def fnExactRepairTextSpec : ChangeSpec := { name := "fnExactRepairText", fn := fun _ => fun
  | [d] => { results := [.lit (.bool true)], args := [d] }
  | _ => none }
def fnExactRepairTextRow : OpenClaim := { program := "ytidfchlgdmnopaadoor", sum := "08f43b1ecd4fe02d748f0a2901281081a7838d7e1951d84de5a2d69ccfb355ee", func := "loop.example/g01011/laws.FnExactRepairText", spec := "fnExactRepairText", inPlace := ["internal/abi.NoEscape", "internal/bytealg.MakeNoZero"], named := ["internal/strconv.uint64pow10", "math/bits.deBruijn32tab", "math/bits.deBruijn64tab"], apart := false, laid := [("math/bits.deBruijn32tab", laid_math_bits_deBruijn32tab), ("math/bits.deBruijn64tab", laid_math_bits_deBruijn64tab), ("internal/strconv.uint64pow10", laid_internal_strconv_uint64pow10)] }
def FnExactRepairTextSaid : Prop := fnExactRepairTextRow.holds Tryd.pinned (OpenSpec.ofChange fnExactRepairTextSpec)

/-- ITS FALSE NEIGHBOUR: 'it returns false'. Refute it at one input. -/
def fnExactRepairTextWrong : ChangeSpec := { name := "fnExactRepairText", fn := fun _ => fun
  | [d] => { results := [.lit (.bool false)], args := [d] }
  | _ => none }
def FnExactRepairTextWrongFalsely : Prop := fnExactRepairTextRow.holds Tryd.pinned (OpenSpec.ofChange fnExactRepairTextWrong)

/-- 'laws.FnExactDutyText': WHATEVER THE INPUT: true; the input reads as it did. -/
def fnExactDutyTextSpec : ChangeSpec := { name := "fnExactDutyText", fn := fun _ => fun
  | [d] => { results := [.lit (.bool true)], args := [d] }
  | _ => none }
def fnExactDutyTextRow : OpenClaim := { program := "ytidfchlgdmnopaadoor", sum := "08f43b1ecd4fe02d748f0a2901281081a7838d7e1951d84de5a2d69ccfb355ee", func := "loop.example/g01011/laws.FnExactDutyText", spec := "fnExactDutyText", inPlace := ["internal/abi.NoEscape", "internal/bytealg.MakeNoZero"], named := ["internal/strconv.uint64pow10", "math/bits.deBruijn32tab", "math/bits.deBruijn64tab"], apart := false, laid := [("math/bits.deBruijn32tab", laid_math_bits_deBruijn32tab), ("math/bits.deBruijn64tab", laid_math_bits_deBruijn64tab), ("internal/strconv.uint64pow10", laid_internal_strconv_uint64pow10)] }
def FnExactDutyTextSaid : Prop := fnExactDutyTextRow.holds Tryd.pinned (OpenSpec.ofChange fnExactDutyTextSpec)

/-- ITS FALSE NEIGHBOUR: 'it returns false'. Refute it at one input. -/
def fnExactDutyTextWrong : ChangeSpec := { name := "fnExactDutyText", fn := fun _ => fun
  | [d] => { results := [.lit (.bool false)], args := [d] }
  | _ => none }
def FnExactDutyTextWrongFalsely : Prop := fnExactDutyTextRow.holds Tryd.pinned (OpenSpec.ofChange fnExactDutyTextWrong)

/- THE SECOND FORM. 'bulk': how many values and letters a reading holds, each counted each time it is reached (what is shared counts as often as it is met; a slice's spare places count too). A statement '..UptoSaid' is the law's where the arguments, and the package variables that the reading takes, are together of bulk at most 1048576: NARROWER than '..Said'. Prove '..Said' where nothing that the law and all that it calls make is longer than what came in: it says more and counts as full. Else prove '..UptoSaid'. A law counts once. -/
mutual
def uptoBulk {H : Type} : DataW H → Nat
  | .lit (.string bytes) => bytes.length + 1
  | .lit _ => 1
  | .nil => 1
  | .ptr d => uptoBulk d + 1
  | .slice elems spare => uptoBulkAll elems + uptoBulkAll spare + 1
  | .agg parts => uptoBulkAll parts + 1
  | .iface _ d => uptoBulk d + 1
  | .map entries => uptoBulkEntries entries + 1
  | .held _ => 1
def uptoBulkAll {H : Type} : List (DataW H) → Nat
  | [] => 0
  | d :: r => uptoBulk d + uptoBulkAll r
def uptoBulkEntries {H : Type} : List (Lit × DataW H) → Nat
  | [] => 0
  | x :: r => uptoBulkEntry x + uptoBulkEntries r
def uptoBulkEntry {H : Type} : Lit × DataW H → Nat
  | (.string bytes, d) => bytes.length + uptoBulk d + 1
  | (_, d) => uptoBulk d + 1
 end
def uptoSmall : (H : Type) → List (DataW H) → Bool := fun _ ds => decide (uptoBulkAll ds ≤ 1048576)
def OpenSpec.upto (s : _root_.Go.ChangeSpec) : _root_.Go.OpenSpec := { _root_.Go.OpenSpec.ofChange s with cond := some uptoSmall }

/-- 'laws.FnExactUnitText', WHERE WHAT IT READS IS OF BULK AT MOST 1048576: true; the input reads as it did. -/
def fnExactUnitTextUptoRow : OpenClaim := { program := "ytidfchlgdmnopaadoor", sum := "08f43b1ecd4fe02d748f0a2901281081a7838d7e1951d84de5a2d69ccfb355ee", func := "loop.example/g01011/laws.FnExactUnitText", spec := "fnExactUnitText", inPlace := ["internal/abi.NoEscape", "internal/bytealg.MakeNoZero"], named := ["internal/strconv.uint64pow10", "math/bits.deBruijn32tab", "math/bits.deBruijn64tab"], apart := false, laid := [("math/bits.deBruijn32tab", laid_math_bits_deBruijn32tab), ("math/bits.deBruijn64tab", laid_math_bits_deBruijn64tab), ("internal/strconv.uint64pow10", laid_internal_strconv_uint64pow10)], narrowed := true }
def FnExactUnitTextUptoSaid : Prop := fnExactUnitTextUptoRow.holds Tryd.pinned (OpenSpec.upto fnExactUnitTextSpec)

/-- 'laws.FnExactVersionText', WHERE WHAT IT READS IS OF BULK AT MOST 1048576: true; the input reads as it did. -/
def fnExactVersionTextUptoRow : OpenClaim := { program := "ytidfchlgdmnopaadoor", sum := "08f43b1ecd4fe02d748f0a2901281081a7838d7e1951d84de5a2d69ccfb355ee", func := "loop.example/g01011/laws.FnExactVersionText", spec := "fnExactVersionText", named := ["internal/strconv.uint64pow10", "math/bits.deBruijn32tab", "math/bits.deBruijn64tab"], apart := false, laid := [("math/bits.deBruijn32tab", laid_math_bits_deBruijn32tab), ("math/bits.deBruijn64tab", laid_math_bits_deBruijn64tab), ("internal/strconv.uint64pow10", laid_internal_strconv_uint64pow10)], narrowed := true }
def FnExactVersionTextUptoSaid : Prop := fnExactVersionTextUptoRow.holds Tryd.pinned (OpenSpec.upto fnExactVersionTextSpec)

/-- 'laws.FnExactPostingText', WHERE WHAT IT READS IS OF BULK AT MOST 1048576: true; the input reads as it did. -/
def fnExactPostingTextUptoRow : OpenClaim := { program := "ytidfchlgdmnopaadoor", sum := "08f43b1ecd4fe02d748f0a2901281081a7838d7e1951d84de5a2d69ccfb355ee", func := "loop.example/g01011/laws.FnExactPostingText", spec := "fnExactPostingText", named := ["internal/strconv.uint64pow10", "math/bits.deBruijn32tab", "math/bits.deBruijn64tab"], apart := false, laid := [("math/bits.deBruijn32tab", laid_math_bits_deBruijn32tab), ("math/bits.deBruijn64tab", laid_math_bits_deBruijn64tab), ("internal/strconv.uint64pow10", laid_internal_strconv_uint64pow10)], narrowed := true }
def FnExactPostingTextUptoSaid : Prop := fnExactPostingTextUptoRow.holds Tryd.pinned (OpenSpec.upto fnExactPostingTextSpec)

/-- 'laws.FnExactReadingsText', WHERE WHAT IT READS IS OF BULK AT MOST 1048576: true; the input reads as it did. -/
def fnExactReadingsTextUptoRow : OpenClaim := { program := "ytidfchlgdmnopaadoor", sum := "08f43b1ecd4fe02d748f0a2901281081a7838d7e1951d84de5a2d69ccfb355ee", func := "loop.example/g01011/laws.FnExactReadingsText", spec := "fnExactReadingsText", inPlace := ["internal/abi.NoEscape", "internal/bytealg.MakeNoZero"], named := ["internal/strconv.uint64pow10", "math/bits.deBruijn32tab", "math/bits.deBruijn64tab"], apart := false, laid := [("math/bits.deBruijn32tab", laid_math_bits_deBruijn32tab), ("math/bits.deBruijn64tab", laid_math_bits_deBruijn64tab), ("internal/strconv.uint64pow10", laid_internal_strconv_uint64pow10)], narrowed := true }
def FnExactReadingsTextUptoSaid : Prop := fnExactReadingsTextUptoRow.holds Tryd.pinned (OpenSpec.upto fnExactReadingsTextSpec)

/-- 'laws.FnExactMeterText', WHERE WHAT IT READS IS OF BULK AT MOST 1048576: true; the input reads as it did. -/
def fnExactMeterTextUptoRow : OpenClaim := { program := "ytidfchlgdmnopaadoor", sum := "08f43b1ecd4fe02d748f0a2901281081a7838d7e1951d84de5a2d69ccfb355ee", func := "loop.example/g01011/laws.FnExactMeterText", spec := "fnExactMeterText", inPlace := ["internal/abi.NoEscape", "internal/bytealg.MakeNoZero"], named := ["internal/strconv.uint64pow10", "math/bits.deBruijn32tab", "math/bits.deBruijn64tab"], apart := false, laid := [("math/bits.deBruijn32tab", laid_math_bits_deBruijn32tab), ("math/bits.deBruijn64tab", laid_math_bits_deBruijn64tab), ("internal/strconv.uint64pow10", laid_internal_strconv_uint64pow10)], narrowed := true }
def FnExactMeterTextUptoSaid : Prop := fnExactMeterTextUptoRow.holds Tryd.pinned (OpenSpec.upto fnExactMeterTextSpec)

/-- 'laws.FnExactTenantText', WHERE WHAT IT READS IS OF BULK AT MOST 1048576: true; the input reads as it did. -/
def fnExactTenantTextUptoRow : OpenClaim := { program := "ytidfchlgdmnopaadoor", sum := "08f43b1ecd4fe02d748f0a2901281081a7838d7e1951d84de5a2d69ccfb355ee", func := "loop.example/g01011/laws.FnExactTenantText", spec := "fnExactTenantText", inPlace := ["internal/abi.NoEscape", "internal/bytealg.MakeNoZero"], named := ["internal/strconv.uint64pow10", "math/bits.deBruijn32tab", "math/bits.deBruijn64tab"], apart := false, laid := [("math/bits.deBruijn32tab", laid_math_bits_deBruijn32tab), ("math/bits.deBruijn64tab", laid_math_bits_deBruijn64tab), ("internal/strconv.uint64pow10", laid_internal_strconv_uint64pow10)], narrowed := true }
def FnExactTenantTextUptoSaid : Prop := fnExactTenantTextUptoRow.holds Tryd.pinned (OpenSpec.upto fnExactTenantTextSpec)

/-- 'laws.FnExactFuelText', WHERE WHAT IT READS IS OF BULK AT MOST 1048576: true; the input reads as it did. -/
def fnExactFuelTextUptoRow : OpenClaim := { program := "ytidfchlgdmnopaadoor", sum := "08f43b1ecd4fe02d748f0a2901281081a7838d7e1951d84de5a2d69ccfb355ee", func := "loop.example/g01011/laws.FnExactFuelText", spec := "fnExactFuelText", inPlace := ["internal/abi.NoEscape", "internal/bytealg.MakeNoZero"], named := ["internal/strconv.uint64pow10", "math/bits.deBruijn32tab", "math/bits.deBruijn64tab"], apart := false, laid := [("math/bits.deBruijn32tab", laid_math_bits_deBruijn32tab), ("math/bits.deBruijn64tab", laid_math_bits_deBruijn64tab), ("internal/strconv.uint64pow10", laid_internal_strconv_uint64pow10)], narrowed := true }
def FnExactFuelTextUptoSaid : Prop := fnExactFuelTextUptoRow.holds Tryd.pinned (OpenSpec.upto fnExactFuelTextSpec)

/-- 'laws.FnExactRepairText', WHERE WHAT IT READS IS OF BULK AT MOST 1048576: true; the input reads as it did. -/
def fnExactRepairTextUptoRow : OpenClaim := { program := "ytidfchlgdmnopaadoor", sum := "08f43b1ecd4fe02d748f0a2901281081a7838d7e1951d84de5a2d69ccfb355ee", func := "loop.example/g01011/laws.FnExactRepairText", spec := "fnExactRepairText", inPlace := ["internal/abi.NoEscape", "internal/bytealg.MakeNoZero"], named := ["internal/strconv.uint64pow10", "math/bits.deBruijn32tab", "math/bits.deBruijn64tab"], apart := false, laid := [("math/bits.deBruijn32tab", laid_math_bits_deBruijn32tab), ("math/bits.deBruijn64tab", laid_math_bits_deBruijn64tab), ("internal/strconv.uint64pow10", laid_internal_strconv_uint64pow10)], narrowed := true }
def FnExactRepairTextUptoSaid : Prop := fnExactRepairTextUptoRow.holds Tryd.pinned (OpenSpec.upto fnExactRepairTextSpec)

/-- 'laws.FnExactDutyText', WHERE WHAT IT READS IS OF BULK AT MOST 1048576: true; the input reads as it did. -/
def fnExactDutyTextUptoRow : OpenClaim := { program := "ytidfchlgdmnopaadoor", sum := "08f43b1ecd4fe02d748f0a2901281081a7838d7e1951d84de5a2d69ccfb355ee", func := "loop.example/g01011/laws.FnExactDutyText", spec := "fnExactDutyText", inPlace := ["internal/abi.NoEscape", "internal/bytealg.MakeNoZero"], named := ["internal/strconv.uint64pow10", "math/bits.deBruijn32tab", "math/bits.deBruijn64tab"], apart := false, laid := [("math/bits.deBruijn32tab", laid_math_bits_deBruijn32tab), ("math/bits.deBruijn64tab", laid_math_bits_deBruijn64tab), ("internal/strconv.uint64pow10", laid_internal_strconv_uint64pow10)], narrowed := true }
def FnExactDutyTextUptoSaid : Prop := fnExactDutyTextUptoRow.holds Tryd.pinned (OpenSpec.upto fnExactDutyTextSpec)

end Rows
end Go.Proofs.YtidfchlgdmnopaaDoor
