/-
  DERIVED. GIVEN WITH THE SEED: THE CARDS: each row of YtidfchlgdmnopaaDoorRows.lean that lists a variable, with what it lists TIED to the program's text (the seventh form; the later family's looks); each row that meets fmt, with fmt's text TOLD by the authors' own Lean function (tested against real Go, not proved from fmt's source: count such statements apart). THE CARD IS WHAT COUNTS. Prove the row's statement (the work); the ties are given (YtidfchlgdmnopaaDoorTie.lean); close each card by the builder's one call (the guide's Derived/Test/ToyasCard.lean, 'card_holds'). Laid BY PROGRAM, IN A SANDBOX (cutbox-door.mjs). By AI agents, Wed Nov 11 2026. No macro, syntax, notation, axiom, sorry.
-/
import Derived.Test.YtidfchlgdmnopaaDoorRows
import GoSem.ClaimSeven
namespace Go.Proofs.YtidfchlgdmnopaaDoor
namespace Rows

/-- THE TIED CARD OF 'laws.FnExactUnitText'. -/
def fnExactUnitTextCard : Claim7 := { stood := { row := fnExactUnitTextRow, standIns := [], harness := (true, "0fd77f12b303df1269c1da32042db3805796cb87686961d9a78c98d3b737c644"), looks := false }, kinds := [], alts := [], laidByText := true, laidKinds := [.data, .data, .data], laidTests := true, laidLooks := .later }
def FnExactUnitTextCardSaid : Prop := Claim7.holds Tryd.pinned (.plain (OpenSpec.ofChange fnExactUnitTextSpec)) fnExactUnitTextCard

/-- THE TIED CARD OF 'laws.FnExactVersionText'. -/
def fnExactVersionTextCard : Claim7 := { stood := { row := fnExactVersionTextRow, standIns := [], harness := (true, "0fd77f12b303df1269c1da32042db3805796cb87686961d9a78c98d3b737c644"), looks := false }, kinds := [], alts := [], laidByText := true, laidKinds := [.data, .data, .data], laidTests := true, laidLooks := .later }
def FnExactVersionTextCardSaid : Prop := Claim7.holds Tryd.pinned (.plain (OpenSpec.ofChange fnExactVersionTextSpec)) fnExactVersionTextCard

/-- THE TIED CARD OF 'laws.FnExactPostingText'. -/
def fnExactPostingTextCard : Claim7 := { stood := { row := fnExactPostingTextRow, standIns := [], harness := (true, "0fd77f12b303df1269c1da32042db3805796cb87686961d9a78c98d3b737c644"), looks := false }, kinds := [], alts := [], laidByText := true, laidKinds := [.data, .data, .data], laidTests := true, laidLooks := .later }
def FnExactPostingTextCardSaid : Prop := Claim7.holds Tryd.pinned (.plain (OpenSpec.ofChange fnExactPostingTextSpec)) fnExactPostingTextCard

/-- THE TIED CARD OF 'laws.FnExactReadingsText'. -/
def fnExactReadingsTextCard : Claim7 := { stood := { row := fnExactReadingsTextRow, standIns := [], harness := (true, "0fd77f12b303df1269c1da32042db3805796cb87686961d9a78c98d3b737c644"), looks := false }, kinds := [], alts := [], laidByText := true, laidKinds := [.data, .data, .data], laidTests := true, laidLooks := .later }
def FnExactReadingsTextCardSaid : Prop := Claim7.holds Tryd.pinned (.plain (OpenSpec.ofChange fnExactReadingsTextSpec)) fnExactReadingsTextCard

/-- THE TIED CARD OF 'laws.FnExactMeterText'. -/
def fnExactMeterTextCard : Claim7 := { stood := { row := fnExactMeterTextRow, standIns := [], harness := (true, "0fd77f12b303df1269c1da32042db3805796cb87686961d9a78c98d3b737c644"), looks := false }, kinds := [], alts := [], laidByText := true, laidKinds := [.data, .data, .data], laidTests := true, laidLooks := .later }
def FnExactMeterTextCardSaid : Prop := Claim7.holds Tryd.pinned (.plain (OpenSpec.ofChange fnExactMeterTextSpec)) fnExactMeterTextCard

/-- THE TIED CARD OF 'laws.FnExactTenantText'. -/
def fnExactTenantTextCard : Claim7 := { stood := { row := fnExactTenantTextRow, standIns := [], harness := (true, "0fd77f12b303df1269c1da32042db3805796cb87686961d9a78c98d3b737c644"), looks := false }, kinds := [], alts := [], laidByText := true, laidKinds := [.data, .data, .data], laidTests := true, laidLooks := .later }
def FnExactTenantTextCardSaid : Prop := Claim7.holds Tryd.pinned (.plain (OpenSpec.ofChange fnExactTenantTextSpec)) fnExactTenantTextCard

/-- THE TIED CARD OF 'laws.FnExactFuelText'. -/
def fnExactFuelTextCard : Claim7 := { stood := { row := fnExactFuelTextRow, standIns := [], harness := (true, "0fd77f12b303df1269c1da32042db3805796cb87686961d9a78c98d3b737c644"), looks := false }, kinds := [], alts := [], laidByText := true, laidKinds := [.data, .data, .data], laidTests := true, laidLooks := .later }
def FnExactFuelTextCardSaid : Prop := Claim7.holds Tryd.pinned (.plain (OpenSpec.ofChange fnExactFuelTextSpec)) fnExactFuelTextCard

/-- THE TIED CARD OF 'laws.FnExactRepairText'. -/
def fnExactRepairTextCard : Claim7 := { stood := { row := fnExactRepairTextRow, standIns := [], harness := (true, "0fd77f12b303df1269c1da32042db3805796cb87686961d9a78c98d3b737c644"), looks := false }, kinds := [], alts := [], laidByText := true, laidKinds := [.data, .data, .data], laidTests := true, laidLooks := .later }
def FnExactRepairTextCardSaid : Prop := Claim7.holds Tryd.pinned (.plain (OpenSpec.ofChange fnExactRepairTextSpec)) fnExactRepairTextCard

/-- THE TIED CARD OF 'laws.FnExactDutyText'. -/
def fnExactDutyTextCard : Claim7 := { stood := { row := fnExactDutyTextRow, standIns := [], harness := (true, "0fd77f12b303df1269c1da32042db3805796cb87686961d9a78c98d3b737c644"), looks := false }, kinds := [], alts := [], laidByText := true, laidKinds := [.data, .data, .data], laidTests := true, laidLooks := .later }
def FnExactDutyTextCardSaid : Prop := Claim7.holds Tryd.pinned (.plain (OpenSpec.ofChange fnExactDutyTextSpec)) fnExactDutyTextCard

/-- THE SECOND FORM's CARD OF 'laws.FnExactUnitText'. -/
def fnExactUnitTextUptoCard : Claim7 := { stood := { row := fnExactUnitTextUptoRow, standIns := [], harness := (true, "0fd77f12b303df1269c1da32042db3805796cb87686961d9a78c98d3b737c644"), looks := false }, kinds := [], alts := [], laidByText := true, laidKinds := [.data, .data, .data], laidTests := true, laidLooks := .later }
def FnExactUnitTextUptoCardSaid : Prop := Claim7.holds Tryd.pinned (.plain (OpenSpec.upto fnExactUnitTextSpec)) fnExactUnitTextUptoCard

/-- THE SECOND FORM's CARD OF 'laws.FnExactVersionText'. -/
def fnExactVersionTextUptoCard : Claim7 := { stood := { row := fnExactVersionTextUptoRow, standIns := [], harness := (true, "0fd77f12b303df1269c1da32042db3805796cb87686961d9a78c98d3b737c644"), looks := false }, kinds := [], alts := [], laidByText := true, laidKinds := [.data, .data, .data], laidTests := true, laidLooks := .later }
def FnExactVersionTextUptoCardSaid : Prop := Claim7.holds Tryd.pinned (.plain (OpenSpec.upto fnExactVersionTextSpec)) fnExactVersionTextUptoCard

/-- THE SECOND FORM's CARD OF 'laws.FnExactPostingText'. -/
def fnExactPostingTextUptoCard : Claim7 := { stood := { row := fnExactPostingTextUptoRow, standIns := [], harness := (true, "0fd77f12b303df1269c1da32042db3805796cb87686961d9a78c98d3b737c644"), looks := false }, kinds := [], alts := [], laidByText := true, laidKinds := [.data, .data, .data], laidTests := true, laidLooks := .later }
def FnExactPostingTextUptoCardSaid : Prop := Claim7.holds Tryd.pinned (.plain (OpenSpec.upto fnExactPostingTextSpec)) fnExactPostingTextUptoCard

/-- THE SECOND FORM's CARD OF 'laws.FnExactReadingsText'. -/
def fnExactReadingsTextUptoCard : Claim7 := { stood := { row := fnExactReadingsTextUptoRow, standIns := [], harness := (true, "0fd77f12b303df1269c1da32042db3805796cb87686961d9a78c98d3b737c644"), looks := false }, kinds := [], alts := [], laidByText := true, laidKinds := [.data, .data, .data], laidTests := true, laidLooks := .later }
def FnExactReadingsTextUptoCardSaid : Prop := Claim7.holds Tryd.pinned (.plain (OpenSpec.upto fnExactReadingsTextSpec)) fnExactReadingsTextUptoCard

/-- THE SECOND FORM's CARD OF 'laws.FnExactMeterText'. -/
def fnExactMeterTextUptoCard : Claim7 := { stood := { row := fnExactMeterTextUptoRow, standIns := [], harness := (true, "0fd77f12b303df1269c1da32042db3805796cb87686961d9a78c98d3b737c644"), looks := false }, kinds := [], alts := [], laidByText := true, laidKinds := [.data, .data, .data], laidTests := true, laidLooks := .later }
def FnExactMeterTextUptoCardSaid : Prop := Claim7.holds Tryd.pinned (.plain (OpenSpec.upto fnExactMeterTextSpec)) fnExactMeterTextUptoCard

/-- THE SECOND FORM's CARD OF 'laws.FnExactTenantText'. -/
def fnExactTenantTextUptoCard : Claim7 := { stood := { row := fnExactTenantTextUptoRow, standIns := [], harness := (true, "0fd77f12b303df1269c1da32042db3805796cb87686961d9a78c98d3b737c644"), looks := false }, kinds := [], alts := [], laidByText := true, laidKinds := [.data, .data, .data], laidTests := true, laidLooks := .later }
def FnExactTenantTextUptoCardSaid : Prop := Claim7.holds Tryd.pinned (.plain (OpenSpec.upto fnExactTenantTextSpec)) fnExactTenantTextUptoCard

/-- THE SECOND FORM's CARD OF 'laws.FnExactFuelText'. -/
def fnExactFuelTextUptoCard : Claim7 := { stood := { row := fnExactFuelTextUptoRow, standIns := [], harness := (true, "0fd77f12b303df1269c1da32042db3805796cb87686961d9a78c98d3b737c644"), looks := false }, kinds := [], alts := [], laidByText := true, laidKinds := [.data, .data, .data], laidTests := true, laidLooks := .later }
def FnExactFuelTextUptoCardSaid : Prop := Claim7.holds Tryd.pinned (.plain (OpenSpec.upto fnExactFuelTextSpec)) fnExactFuelTextUptoCard

/-- THE SECOND FORM's CARD OF 'laws.FnExactRepairText'. -/
def fnExactRepairTextUptoCard : Claim7 := { stood := { row := fnExactRepairTextUptoRow, standIns := [], harness := (true, "0fd77f12b303df1269c1da32042db3805796cb87686961d9a78c98d3b737c644"), looks := false }, kinds := [], alts := [], laidByText := true, laidKinds := [.data, .data, .data], laidTests := true, laidLooks := .later }
def FnExactRepairTextUptoCardSaid : Prop := Claim7.holds Tryd.pinned (.plain (OpenSpec.upto fnExactRepairTextSpec)) fnExactRepairTextUptoCard

/-- THE SECOND FORM's CARD OF 'laws.FnExactDutyText'. -/
def fnExactDutyTextUptoCard : Claim7 := { stood := { row := fnExactDutyTextUptoRow, standIns := [], harness := (true, "0fd77f12b303df1269c1da32042db3805796cb87686961d9a78c98d3b737c644"), looks := false }, kinds := [], alts := [], laidByText := true, laidKinds := [.data, .data, .data], laidTests := true, laidLooks := .later }
def FnExactDutyTextUptoCardSaid : Prop := Claim7.holds Tryd.pinned (.plain (OpenSpec.upto fnExactDutyTextSpec)) fnExactDutyTextUptoCard
end Rows
end Go.Proofs.YtidfchlgdmnopaaDoor
