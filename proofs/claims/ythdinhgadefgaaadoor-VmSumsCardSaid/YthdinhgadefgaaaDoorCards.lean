/-
  DERIVED. GIVEN WITH THE SEED: THE CARDS: each row of YthdinhgadefgaaaDoorRows.lean that lists a variable, with what it lists TIED to the program's text (the seventh form; the later family's looks); each row that meets fmt, with fmt's text TOLD by the authors' own Lean function (tested against real Go, not proved from fmt's source: count such statements apart). THE CARD IS WHAT COUNTS. Prove the row's statement (the work); the ties are given (YthdinhgadefgaaaDoorTie.lean); close each card by the builder's one call (the guide's Derived/Test/ToyasCard.lean, 'card_holds'). Laid BY PROGRAM, IN A SANDBOX (cutbox-door.mjs). By AI agents, Wed Nov 11 2026. No macro, syntax, notation, axiom, sorry.
-/
import Derived.Test.YthdinhgadefgaaaDoorRows
import GoSem.ClaimSeven
namespace Go.Proofs.YthdinhgadefgaaaDoor
namespace Rows

/-- THE TIED CARD OF 'staithelaw4.ValueSames'. -/
def valueSamesCard : Claim7 := { stood := { row := valueSamesRow, standIns := [], harness := (true, "cbdea9f01922aa1474174456a062dcb236247dbd896985c4746378d3b88347e4"), looks := true }, kinds := [], alts := [], laidByText := true, laidKinds := [.data, .data, .data, .sentinel, .sentinel], laidTests := true, laidLooks := .later }
def ValueSamesCardSaid : Prop := Claim7.holds Tryd.pinned (.plain (OpenSpec.ofChange valueSamesSpec)) valueSamesCard

/-- THE TIED CARD OF 'staithelaw4.ValueBack'. -/
def valueBackCard : Claim7 := { stood := { row := valueBackRow, standIns := [], harness := (true, "cbdea9f01922aa1474174456a062dcb236247dbd896985c4746378d3b88347e4"), looks := true }, kinds := [], alts := [], laidByText := true, laidKinds := [.data, .data, .data, .sentinel, .sentinel], laidTests := true, laidLooks := .later }
def ValueBackCardSaid : Prop := Claim7.holds Tryd.pinned (.plain (OpenSpec.ofChange valueBackSpec)) valueBackCard

/-- THE TIED CARD OF 'staithelaw4.ValueCuts'. -/
def valueCutsCard : Claim7 := { stood := { row := valueCutsRow, standIns := [], harness := (true, "cbdea9f01922aa1474174456a062dcb236247dbd896985c4746378d3b88347e4"), looks := true }, kinds := [], alts := [], laidByText := true, laidKinds := [.data, .data, .data, .sentinel, .sentinel], laidTests := true, laidLooks := .later }
def ValueCutsCardSaid : Prop := Claim7.holds Tryd.pinned (.plain (OpenSpec.ofChange valueCutsSpec)) valueCutsCard

/-- THE TIED CARD OF 'staithelaw4.ValueTells'. -/
def valueTellsCard : Claim7 := { stood := { row := valueTellsRow, standIns := [], harness := (true, "cbdea9f01922aa1474174456a062dcb236247dbd896985c4746378d3b88347e4"), looks := true }, kinds := [], alts := [], laidByText := true, laidKinds := [.data, .data, .data, .sentinel, .sentinel], laidTests := true, laidLooks := .later }
def ValueTellsCardSaid : Prop := Claim7.holds Tryd.pinned (.plain (OpenSpec.ofChange valueTellsSpec)) valueTellsCard

/-- THE TIED CARD OF 'staithelaw6.VmFuel'. -/
def vmFuelCard : Claim7 := { stood := { row := vmFuelRow, standIns := [], harness := (true, "cbdea9f01922aa1474174456a062dcb236247dbd896985c4746378d3b88347e4"), looks := true }, kinds := [], alts := [], laidByText := true, laidKinds := [.data, .data, .data, .sentinel, .sentinel], laidTests := true, laidLooks := .later }
def VmFuelCardSaid : Prop := Claim7.holds Tryd.pinned (.plain (OpenSpec.ofChange vmFuelSpec)) vmFuelCard

/-- THE TIED CARD OF 'staithelaw6.VmBounds'. -/
def vmBoundsCard : Claim7 := { stood := { row := vmBoundsRow, standIns := [], harness := (true, "cbdea9f01922aa1474174456a062dcb236247dbd896985c4746378d3b88347e4"), looks := true }, kinds := [], alts := [], laidByText := true, laidKinds := [.data, .data, .data, .sentinel, .sentinel], laidTests := true, laidLooks := .later }
def VmBoundsCardSaid : Prop := Claim7.holds Tryd.pinned (.plain (OpenSpec.ofChange vmBoundsSpec)) vmBoundsCard

/-- THE TIED CARD OF 'staithelaw6.VmArith'. -/
def vmArithCard : Claim7 := { stood := { row := vmArithRow, standIns := [], harness := (true, "cbdea9f01922aa1474174456a062dcb236247dbd896985c4746378d3b88347e4"), looks := true }, kinds := [], alts := [], laidByText := true, laidKinds := [.data, .data, .data, .sentinel, .sentinel], laidTests := true, laidLooks := .later }
def VmArithCardSaid : Prop := Claim7.holds Tryd.pinned (.plain (OpenSpec.ofChange vmArithSpec)) vmArithCard

/-- THE TIED CARD OF 'staithelaw6.VmValues'. -/
def vmValuesCard : Claim7 := { stood := { row := vmValuesRow, standIns := [], harness := (true, "cbdea9f01922aa1474174456a062dcb236247dbd896985c4746378d3b88347e4"), looks := true }, kinds := [], alts := [], laidByText := true, laidKinds := [.data, .data, .data, .sentinel, .sentinel], laidTests := true, laidLooks := .later }
def VmValuesCardSaid : Prop := Claim7.holds Tryd.pinned (.plain (OpenSpec.ofChange vmValuesSpec)) vmValuesCard

/-- THE TIED CARD OF 'staithelaw6.VmStack'. -/
def vmStackCard : Claim7 := { stood := { row := vmStackRow, standIns := [], harness := (true, "cbdea9f01922aa1474174456a062dcb236247dbd896985c4746378d3b88347e4"), looks := true }, kinds := [], alts := [], laidByText := true, laidKinds := [.data, .data, .data, .sentinel, .sentinel], laidTests := true, laidLooks := .later }
def VmStackCardSaid : Prop := Claim7.holds Tryd.pinned (.plain (OpenSpec.ofChange vmStackSpec)) vmStackCard

/-- THE TIED CARD OF 'staithelaw6.VmKinds'. -/
def vmKindsCard : Claim7 := { stood := { row := vmKindsRow, standIns := [], harness := (true, "cbdea9f01922aa1474174456a062dcb236247dbd896985c4746378d3b88347e4"), looks := true }, kinds := [], alts := [], laidByText := true, laidKinds := [.data, .data, .data, .sentinel, .sentinel], laidTests := true, laidLooks := .later }
def VmKindsCardSaid : Prop := Claim7.holds Tryd.pinned (.plain (OpenSpec.ofChange vmKindsSpec)) vmKindsCard

/-- THE TIED CARD OF 'staithelaw6.VmSums'. -/
def vmSumsCard : Claim7 := { stood := { row := vmSumsRow, standIns := [], harness := (true, "cbdea9f01922aa1474174456a062dcb236247dbd896985c4746378d3b88347e4"), looks := true }, kinds := [], alts := [], laidByText := true, laidKinds := [.data, .data, .data, .sentinel, .sentinel], laidTests := true, laidLooks := .later }
def VmSumsCardSaid : Prop := Claim7.holds Tryd.pinned (.plain (OpenSpec.ofChange vmSumsSpec)) vmSumsCard

/-- THE SECOND FORM's CARD OF 'staithelaw4.ValueSames'. -/
def valueSamesUptoCard : Claim7 := { stood := { row := valueSamesUptoRow, standIns := [], harness := (true, "cbdea9f01922aa1474174456a062dcb236247dbd896985c4746378d3b88347e4"), looks := true }, kinds := [], alts := [], laidByText := true, laidKinds := [.data, .data, .data, .sentinel, .sentinel], laidTests := true, laidLooks := .later }
def ValueSamesUptoCardSaid : Prop := Claim7.holds Tryd.pinned (.plain (OpenSpec.upto valueSamesSpec)) valueSamesUptoCard

/-- THE SECOND FORM's CARD OF 'staithelaw4.ValueBack'. -/
def valueBackUptoCard : Claim7 := { stood := { row := valueBackUptoRow, standIns := [], harness := (true, "cbdea9f01922aa1474174456a062dcb236247dbd896985c4746378d3b88347e4"), looks := true }, kinds := [], alts := [], laidByText := true, laidKinds := [.data, .data, .data, .sentinel, .sentinel], laidTests := true, laidLooks := .later }
def ValueBackUptoCardSaid : Prop := Claim7.holds Tryd.pinned (.plain (OpenSpec.upto valueBackSpec)) valueBackUptoCard

/-- THE SECOND FORM's CARD OF 'staithelaw4.ValueCuts'. -/
def valueCutsUptoCard : Claim7 := { stood := { row := valueCutsUptoRow, standIns := [], harness := (true, "cbdea9f01922aa1474174456a062dcb236247dbd896985c4746378d3b88347e4"), looks := true }, kinds := [], alts := [], laidByText := true, laidKinds := [.data, .data, .data, .sentinel, .sentinel], laidTests := true, laidLooks := .later }
def ValueCutsUptoCardSaid : Prop := Claim7.holds Tryd.pinned (.plain (OpenSpec.upto valueCutsSpec)) valueCutsUptoCard

/-- THE SECOND FORM's CARD OF 'staithelaw4.ValueTells'. -/
def valueTellsUptoCard : Claim7 := { stood := { row := valueTellsUptoRow, standIns := [], harness := (true, "cbdea9f01922aa1474174456a062dcb236247dbd896985c4746378d3b88347e4"), looks := true }, kinds := [], alts := [], laidByText := true, laidKinds := [.data, .data, .data, .sentinel, .sentinel], laidTests := true, laidLooks := .later }
def ValueTellsUptoCardSaid : Prop := Claim7.holds Tryd.pinned (.plain (OpenSpec.upto valueTellsSpec)) valueTellsUptoCard

/-- THE SECOND FORM's CARD OF 'staithelaw6.VmFuel'. -/
def vmFuelUptoCard : Claim7 := { stood := { row := vmFuelUptoRow, standIns := [], harness := (true, "cbdea9f01922aa1474174456a062dcb236247dbd896985c4746378d3b88347e4"), looks := true }, kinds := [], alts := [], laidByText := true, laidKinds := [.data, .data, .data, .sentinel, .sentinel], laidTests := true, laidLooks := .later }
def VmFuelUptoCardSaid : Prop := Claim7.holds Tryd.pinned (.plain (OpenSpec.upto vmFuelSpec)) vmFuelUptoCard

/-- THE SECOND FORM's CARD OF 'staithelaw6.VmBounds'. -/
def vmBoundsUptoCard : Claim7 := { stood := { row := vmBoundsUptoRow, standIns := [], harness := (true, "cbdea9f01922aa1474174456a062dcb236247dbd896985c4746378d3b88347e4"), looks := true }, kinds := [], alts := [], laidByText := true, laidKinds := [.data, .data, .data, .sentinel, .sentinel], laidTests := true, laidLooks := .later }
def VmBoundsUptoCardSaid : Prop := Claim7.holds Tryd.pinned (.plain (OpenSpec.upto vmBoundsSpec)) vmBoundsUptoCard

/-- THE SECOND FORM's CARD OF 'staithelaw6.VmArith'. -/
def vmArithUptoCard : Claim7 := { stood := { row := vmArithUptoRow, standIns := [], harness := (true, "cbdea9f01922aa1474174456a062dcb236247dbd896985c4746378d3b88347e4"), looks := true }, kinds := [], alts := [], laidByText := true, laidKinds := [.data, .data, .data, .sentinel, .sentinel], laidTests := true, laidLooks := .later }
def VmArithUptoCardSaid : Prop := Claim7.holds Tryd.pinned (.plain (OpenSpec.upto vmArithSpec)) vmArithUptoCard

/-- THE SECOND FORM's CARD OF 'staithelaw6.VmValues'. -/
def vmValuesUptoCard : Claim7 := { stood := { row := vmValuesUptoRow, standIns := [], harness := (true, "cbdea9f01922aa1474174456a062dcb236247dbd896985c4746378d3b88347e4"), looks := true }, kinds := [], alts := [], laidByText := true, laidKinds := [.data, .data, .data, .sentinel, .sentinel], laidTests := true, laidLooks := .later }
def VmValuesUptoCardSaid : Prop := Claim7.holds Tryd.pinned (.plain (OpenSpec.upto vmValuesSpec)) vmValuesUptoCard

/-- THE SECOND FORM's CARD OF 'staithelaw6.VmStack'. -/
def vmStackUptoCard : Claim7 := { stood := { row := vmStackUptoRow, standIns := [], harness := (true, "cbdea9f01922aa1474174456a062dcb236247dbd896985c4746378d3b88347e4"), looks := true }, kinds := [], alts := [], laidByText := true, laidKinds := [.data, .data, .data, .sentinel, .sentinel], laidTests := true, laidLooks := .later }
def VmStackUptoCardSaid : Prop := Claim7.holds Tryd.pinned (.plain (OpenSpec.upto vmStackSpec)) vmStackUptoCard

/-- THE SECOND FORM's CARD OF 'staithelaw6.VmKinds'. -/
def vmKindsUptoCard : Claim7 := { stood := { row := vmKindsUptoRow, standIns := [], harness := (true, "cbdea9f01922aa1474174456a062dcb236247dbd896985c4746378d3b88347e4"), looks := true }, kinds := [], alts := [], laidByText := true, laidKinds := [.data, .data, .data, .sentinel, .sentinel], laidTests := true, laidLooks := .later }
def VmKindsUptoCardSaid : Prop := Claim7.holds Tryd.pinned (.plain (OpenSpec.upto vmKindsSpec)) vmKindsUptoCard

/-- THE SECOND FORM's CARD OF 'staithelaw6.VmSums'. -/
def vmSumsUptoCard : Claim7 := { stood := { row := vmSumsUptoRow, standIns := [], harness := (true, "cbdea9f01922aa1474174456a062dcb236247dbd896985c4746378d3b88347e4"), looks := true }, kinds := [], alts := [], laidByText := true, laidKinds := [.data, .data, .data, .sentinel, .sentinel], laidTests := true, laidLooks := .later }
def VmSumsUptoCardSaid : Prop := Claim7.holds Tryd.pinned (.plain (OpenSpec.upto vmSumsSpec)) vmSumsUptoCard
end Rows
end Go.Proofs.YthdinhgadefgaaaDoor
