/-
  DERIVED. GIVEN WITH THE SEED: THE CARDS: each row of YthknokcfmpahcaaDoorRows.lean that lists a variable, with what it lists TIED to the program's text (the seventh form; the later family's looks); each row that meets fmt, with fmt's text TOLD by the authors' own Lean function (tested against real Go, not proved from fmt's source: count such statements apart). THE CARD IS WHAT COUNTS. Prove the row's statement (the work); the ties are given (YthknokcfmpahcaaDoorTie.lean); close each card by the builder's one call (the guide's Derived/Test/ToyasCard.lean, 'card_holds'). Laid BY PROGRAM, IN A SANDBOX (cutbox-door.mjs). By AI agents, Wed Nov 11 2026. No macro, syntax, notation, axiom, sorry.
-/
import Derived.Test.YthknokcfmpahcaaDoorRows
import GoSem.ClaimSeven
namespace Go.Proofs.YthknokcfmpahcaaDoor
namespace Rows

/-- THE TIED CARD OF 'cairnlaw14.GasOps'. -/
def gasOpsCard : Claim7 := { stood := { row := gasOpsRow, standIns := [], harness := (true, "6eb57c9d7a72c4d04182a4292932546c64b854bb84ea9ee7e3b48b141fd97965"), looks := false }, kinds := [], alts := [], laidByText := true, laidKinds := [.data, .data, .data], laidTests := true, laidLooks := .later }
def GasOpsCardSaid : Prop := Claim7.holds Tryd.pinned (.plain (OpenSpec.ofChange gasOpsSpec)) gasOpsCard

/-- THE TIED CARD OF 'cairnlaw14.GasMemory'. -/
def gasMemoryCard : Claim7 := { stood := { row := gasMemoryRow, standIns := [], harness := (true, "6eb57c9d7a72c4d04182a4292932546c64b854bb84ea9ee7e3b48b141fd97965"), looks := false }, kinds := [], alts := [], laidByText := true, laidKinds := [.data, .data, .data], laidTests := true, laidLooks := .later }
def GasMemoryCardSaid : Prop := Claim7.holds Tryd.pinned (.plain (OpenSpec.ofChange gasMemorySpec)) gasMemoryCard

/-- THE TIED CARD OF 'cairnlaw14.GasStores'. -/
def gasStoresCard : Claim7 := { stood := { row := gasStoresRow, standIns := [], harness := (true, "6eb57c9d7a72c4d04182a4292932546c64b854bb84ea9ee7e3b48b141fd97965"), looks := false }, kinds := [], alts := [], laidByText := true, laidKinds := [.data, .data, .data], laidTests := true, laidLooks := .later }
def GasStoresCardSaid : Prop := Claim7.holds Tryd.pinned (.plain (OpenSpec.ofChange gasStoresSpec)) gasStoresCard

/-- THE TIED CARD OF 'cairnlaw14.GasCode'. -/
def gasCodeCard : Claim7 := { stood := { row := gasCodeRow, standIns := [], harness := (true, "6eb57c9d7a72c4d04182a4292932546c64b854bb84ea9ee7e3b48b141fd97965"), looks := false }, kinds := [], alts := [], laidByText := true, laidKinds := [.data, .data, .data], laidTests := true, laidLooks := .later }
def GasCodeCardSaid : Prop := Claim7.holds Tryd.pinned (.plain (OpenSpec.ofChange gasCodeSpec)) gasCodeCard

/-- THE TIED CARD OF 'cairnlaw14.GasGrows'. -/
def gasGrowsCard : Claim7 := { stood := { row := gasGrowsRow, standIns := [], harness := (true, "6eb57c9d7a72c4d04182a4292932546c64b854bb84ea9ee7e3b48b141fd97965"), looks := false }, kinds := [], alts := [], laidByText := true, laidKinds := [.data, .data, .data], laidTests := true, laidLooks := .later }
def GasGrowsCardSaid : Prop := Claim7.holds Tryd.pinned (.plain (OpenSpec.ofChange gasGrowsSpec)) gasGrowsCard

/-- THE TIED CARD OF 'cairnlaw14.GasRefunds'. -/
def gasRefundsCard : Claim7 := { stood := { row := gasRefundsRow, standIns := [], harness := (true, "6eb57c9d7a72c4d04182a4292932546c64b854bb84ea9ee7e3b48b141fd97965"), looks := false }, kinds := [], alts := [], laidByText := true, laidKinds := [.data, .data, .data], laidTests := true, laidLooks := .later }
def GasRefundsCardSaid : Prop := Claim7.holds Tryd.pinned (.plain (OpenSpec.ofChange gasRefundsSpec)) gasRefundsCard

/-- THE TIED CARD OF 'cairnlaw14.GasTiles'. -/
def gasTilesCard : Claim7 := { stood := { row := gasTilesRow, standIns := [], harness := (true, "6eb57c9d7a72c4d04182a4292932546c64b854bb84ea9ee7e3b48b141fd97965"), looks := false }, kinds := [], alts := [], laidByText := true, laidKinds := [.data, .data, .data], laidTests := true, laidLooks := .later }
def GasTilesCardSaid : Prop := Claim7.holds Tryd.pinned (.plain (OpenSpec.ofChange gasTilesSpec)) gasTilesCard

/-- THE TIED CARD OF 'cairnlaw14.GasRest'. -/
def gasRestCard : Claim7 := { stood := { row := gasRestRow, standIns := [], harness := (true, "6eb57c9d7a72c4d04182a4292932546c64b854bb84ea9ee7e3b48b141fd97965"), looks := false }, kinds := [], alts := [], laidByText := true, laidKinds := [.data, .data, .data], laidTests := true, laidLooks := .later }
def GasRestCardSaid : Prop := Claim7.holds Tryd.pinned (.plain (OpenSpec.ofChange gasRestSpec)) gasRestCard

/-- THE TIED CARD OF 'cairnlaw14.GasCalls'. -/
def gasCallsCard : Claim7 := { stood := { row := gasCallsRow, standIns := [], harness := (true, "6eb57c9d7a72c4d04182a4292932546c64b854bb84ea9ee7e3b48b141fd97965"), looks := false }, kinds := [], alts := [], laidByText := true, laidKinds := [.data, .data, .data], laidTests := true, laidLooks := .later }
def GasCallsCardSaid : Prop := Claim7.holds Tryd.pinned (.plain (OpenSpec.ofChange gasCallsSpec)) gasCallsCard

/-- THE TIED CARD OF 'cairnlaw14.GasPrices'. -/
def gasPricesCard : Claim7 := { stood := { row := gasPricesRow, standIns := [], harness := (true, "6eb57c9d7a72c4d04182a4292932546c64b854bb84ea9ee7e3b48b141fd97965"), looks := false }, kinds := [], alts := [], laidByText := true, laidKinds := [.data, .data, .data], laidTests := true, laidLooks := .later }
def GasPricesCardSaid : Prop := Claim7.holds Tryd.pinned (.plain (OpenSpec.ofChange gasPricesSpec)) gasPricesCard

/-- THE SECOND FORM's CARD OF 'cairnlaw14.GasOps'. -/
def gasOpsUptoCard : Claim7 := { stood := { row := gasOpsUptoRow, standIns := [], harness := (true, "6eb57c9d7a72c4d04182a4292932546c64b854bb84ea9ee7e3b48b141fd97965"), looks := false }, kinds := [], alts := [], laidByText := true, laidKinds := [.data, .data, .data], laidTests := true, laidLooks := .later }
def GasOpsUptoCardSaid : Prop := Claim7.holds Tryd.pinned (.plain (OpenSpec.upto gasOpsSpec)) gasOpsUptoCard

/-- THE SECOND FORM's CARD OF 'cairnlaw14.GasMemory'. -/
def gasMemoryUptoCard : Claim7 := { stood := { row := gasMemoryUptoRow, standIns := [], harness := (true, "6eb57c9d7a72c4d04182a4292932546c64b854bb84ea9ee7e3b48b141fd97965"), looks := false }, kinds := [], alts := [], laidByText := true, laidKinds := [.data, .data, .data], laidTests := true, laidLooks := .later }
def GasMemoryUptoCardSaid : Prop := Claim7.holds Tryd.pinned (.plain (OpenSpec.upto gasMemorySpec)) gasMemoryUptoCard

/-- THE SECOND FORM's CARD OF 'cairnlaw14.GasStores'. -/
def gasStoresUptoCard : Claim7 := { stood := { row := gasStoresUptoRow, standIns := [], harness := (true, "6eb57c9d7a72c4d04182a4292932546c64b854bb84ea9ee7e3b48b141fd97965"), looks := false }, kinds := [], alts := [], laidByText := true, laidKinds := [.data, .data, .data], laidTests := true, laidLooks := .later }
def GasStoresUptoCardSaid : Prop := Claim7.holds Tryd.pinned (.plain (OpenSpec.upto gasStoresSpec)) gasStoresUptoCard

/-- THE SECOND FORM's CARD OF 'cairnlaw14.GasCode'. -/
def gasCodeUptoCard : Claim7 := { stood := { row := gasCodeUptoRow, standIns := [], harness := (true, "6eb57c9d7a72c4d04182a4292932546c64b854bb84ea9ee7e3b48b141fd97965"), looks := false }, kinds := [], alts := [], laidByText := true, laidKinds := [.data, .data, .data], laidTests := true, laidLooks := .later }
def GasCodeUptoCardSaid : Prop := Claim7.holds Tryd.pinned (.plain (OpenSpec.upto gasCodeSpec)) gasCodeUptoCard

/-- THE SECOND FORM's CARD OF 'cairnlaw14.GasGrows'. -/
def gasGrowsUptoCard : Claim7 := { stood := { row := gasGrowsUptoRow, standIns := [], harness := (true, "6eb57c9d7a72c4d04182a4292932546c64b854bb84ea9ee7e3b48b141fd97965"), looks := false }, kinds := [], alts := [], laidByText := true, laidKinds := [.data, .data, .data], laidTests := true, laidLooks := .later }
def GasGrowsUptoCardSaid : Prop := Claim7.holds Tryd.pinned (.plain (OpenSpec.upto gasGrowsSpec)) gasGrowsUptoCard

/-- THE SECOND FORM's CARD OF 'cairnlaw14.GasRefunds'. -/
def gasRefundsUptoCard : Claim7 := { stood := { row := gasRefundsUptoRow, standIns := [], harness := (true, "6eb57c9d7a72c4d04182a4292932546c64b854bb84ea9ee7e3b48b141fd97965"), looks := false }, kinds := [], alts := [], laidByText := true, laidKinds := [.data, .data, .data], laidTests := true, laidLooks := .later }
def GasRefundsUptoCardSaid : Prop := Claim7.holds Tryd.pinned (.plain (OpenSpec.upto gasRefundsSpec)) gasRefundsUptoCard

/-- THE SECOND FORM's CARD OF 'cairnlaw14.GasTiles'. -/
def gasTilesUptoCard : Claim7 := { stood := { row := gasTilesUptoRow, standIns := [], harness := (true, "6eb57c9d7a72c4d04182a4292932546c64b854bb84ea9ee7e3b48b141fd97965"), looks := false }, kinds := [], alts := [], laidByText := true, laidKinds := [.data, .data, .data], laidTests := true, laidLooks := .later }
def GasTilesUptoCardSaid : Prop := Claim7.holds Tryd.pinned (.plain (OpenSpec.upto gasTilesSpec)) gasTilesUptoCard

/-- THE SECOND FORM's CARD OF 'cairnlaw14.GasRest'. -/
def gasRestUptoCard : Claim7 := { stood := { row := gasRestUptoRow, standIns := [], harness := (true, "6eb57c9d7a72c4d04182a4292932546c64b854bb84ea9ee7e3b48b141fd97965"), looks := false }, kinds := [], alts := [], laidByText := true, laidKinds := [.data, .data, .data], laidTests := true, laidLooks := .later }
def GasRestUptoCardSaid : Prop := Claim7.holds Tryd.pinned (.plain (OpenSpec.upto gasRestSpec)) gasRestUptoCard

/-- THE SECOND FORM's CARD OF 'cairnlaw14.GasCalls'. -/
def gasCallsUptoCard : Claim7 := { stood := { row := gasCallsUptoRow, standIns := [], harness := (true, "6eb57c9d7a72c4d04182a4292932546c64b854bb84ea9ee7e3b48b141fd97965"), looks := false }, kinds := [], alts := [], laidByText := true, laidKinds := [.data, .data, .data], laidTests := true, laidLooks := .later }
def GasCallsUptoCardSaid : Prop := Claim7.holds Tryd.pinned (.plain (OpenSpec.upto gasCallsSpec)) gasCallsUptoCard

/-- THE SECOND FORM's CARD OF 'cairnlaw14.GasPrices'. -/
def gasPricesUptoCard : Claim7 := { stood := { row := gasPricesUptoRow, standIns := [], harness := (true, "6eb57c9d7a72c4d04182a4292932546c64b854bb84ea9ee7e3b48b141fd97965"), looks := false }, kinds := [], alts := [], laidByText := true, laidKinds := [.data, .data, .data], laidTests := true, laidLooks := .later }
def GasPricesUptoCardSaid : Prop := Claim7.holds Tryd.pinned (.plain (OpenSpec.upto gasPricesSpec)) gasPricesUptoCard
end Rows
end Go.Proofs.YthknokcfmpahcaaDoor
