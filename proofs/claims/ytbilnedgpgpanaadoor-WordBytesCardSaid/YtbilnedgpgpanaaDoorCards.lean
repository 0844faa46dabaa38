/-
  DERIVED. GIVEN WITH THE SEED: THE CARDS: each row of YtbilnedgpgpanaaDoorRows.lean that lists a variable, with what it lists TIED to the program's text (the seventh form; the later family's looks); each row that meets fmt, with fmt's text TOLD by the authors' own Lean function (tested against real Go, not proved from fmt's source: count such statements apart). THE CARD IS WHAT COUNTS. Prove the row's statement (the work); the ties are given (YtbilnedgpgpanaaDoorTie.lean); close each card by the builder's one call (the guide's Derived/Test/ToyasCard.lean, 'card_holds'). Laid BY PROGRAM, IN A SANDBOX (cutbox-door.mjs). By AI agents, Wed Nov 11 2026. No macro, syntax, notation, axiom, sorry.
-/
import Derived.Test.YtbilnedgpgpanaaDoorRows
import GoSem.ClaimSeven
namespace Go.Proofs.YtbilnedgpgpanaaDoor
namespace Rows

/-- THE TIED CARD OF 'cairnlaw02.WordSums'. -/
def wordSumsCard : Claim7 := { stood := { row := wordSumsRow, standIns := [], harness := (true, "4e86a0130138f3b46dd5753ffd95fed1026bc769d657353cc659f249db46fcbe"), looks := false }, kinds := [], alts := [], laidByText := true, laidKinds := [.data, .pinned, .pinned], laidTests := true, laidLooks := .later }
def WordSumsCardSaid : Prop := Claim7.holds Tryd.pinned (.plain (OpenSpec.ofChange wordSumsSpec)) wordSumsCard

/-- THE TIED CARD OF 'cairnlaw02.WordRing'. -/
def wordRingCard : Claim7 := { stood := { row := wordRingRow, standIns := [], harness := (true, "4e86a0130138f3b46dd5753ffd95fed1026bc769d657353cc659f249db46fcbe"), looks := false }, kinds := [], alts := [], laidByText := true, laidKinds := [.data, .pinned, .pinned], laidTests := true, laidLooks := .later }
def WordRingCardSaid : Prop := Claim7.holds Tryd.pinned (.plain (OpenSpec.ofChange wordRingSpec)) wordRingCard

/-- THE TIED CARD OF 'cairnlaw02.WordTexts'. -/
def wordTextsCard : Claim7 := { stood := { row := wordTextsRow, standIns := [], harness := (true, "4e86a0130138f3b46dd5753ffd95fed1026bc769d657353cc659f249db46fcbe"), looks := false }, kinds := [], alts := [], laidByText := true, laidKinds := [.data, .pinned, .pinned], laidTests := true, laidLooks := .later }
def WordTextsCardSaid : Prop := Claim7.holds Tryd.pinned (.plain (OpenSpec.ofChange wordTextsSpec)) wordTextsCard

/-- THE TIED CARD OF 'cairnlaw02.WordDivides'. -/
def wordDividesCard : Claim7 := { stood := { row := wordDividesRow, standIns := [], harness := (true, "4e86a0130138f3b46dd5753ffd95fed1026bc769d657353cc659f249db46fcbe"), looks := false }, kinds := [], alts := [], laidByText := true, laidKinds := [.data, .pinned, .pinned], laidTests := true, laidLooks := .later }
def WordDividesCardSaid : Prop := Claim7.holds Tryd.pinned (.plain (OpenSpec.ofChange wordDividesSpec)) wordDividesCard

/-- THE TIED CARD OF 'cairnlaw02.WordBytes'. -/
def wordBytesCard : Claim7 := { stood := { row := wordBytesRow, standIns := [], harness := (true, "4e86a0130138f3b46dd5753ffd95fed1026bc769d657353cc659f249db46fcbe"), looks := false }, kinds := [], alts := [], laidByText := true, laidKinds := [.data, .pinned, .pinned], laidTests := true, laidLooks := .later }
def WordBytesCardSaid : Prop := Claim7.holds Tryd.pinned (.plain (OpenSpec.ofChange wordBytesSpec)) wordBytesCard

/-- THE TIED CARD OF 'cairnlaw02.WordExponents'. -/
def wordExponentsCard : Claim7 := { stood := { row := wordExponentsRow, standIns := [], harness := (true, "4e86a0130138f3b46dd5753ffd95fed1026bc769d657353cc659f249db46fcbe"), looks := false }, kinds := [], alts := [], laidByText := true, laidKinds := [.data, .pinned, .pinned], laidTests := true, laidLooks := .later }
def WordExponentsCardSaid : Prop := Claim7.holds Tryd.pinned (.plain (OpenSpec.ofChange wordExponentsSpec)) wordExponentsCard

/-- THE TIED CARD OF 'cairnlaw02.WordBack'. -/
def wordBackCard : Claim7 := { stood := { row := wordBackRow, standIns := [], harness := (true, "4e86a0130138f3b46dd5753ffd95fed1026bc769d657353cc659f249db46fcbe"), looks := false }, kinds := [], alts := [], laidByText := true, laidKinds := [.data, .pinned, .pinned], laidTests := true, laidLooks := .later }
def WordBackCardSaid : Prop := Claim7.holds Tryd.pinned (.plain (OpenSpec.ofChange wordBackSpec)) wordBackCard

/-- THE TIED CARD OF 'cairnlaw02.WordDivision'. -/
def wordDivisionCard : Claim7 := { stood := { row := wordDivisionRow, standIns := [], harness := (true, "4e86a0130138f3b46dd5753ffd95fed1026bc769d657353cc659f249db46fcbe"), looks := false }, kinds := [], alts := [], laidByText := true, laidKinds := [.data, .pinned, .pinned], laidTests := true, laidLooks := .later }
def WordDivisionCardSaid : Prop := Claim7.holds Tryd.pinned (.plain (OpenSpec.ofChange wordDivisionSpec)) wordDivisionCard

/-- THE TIED CARD OF 'cairnlaw02.WordModulo'. -/
def wordModuloCard : Claim7 := { stood := { row := wordModuloRow, standIns := [], harness := (true, "4e86a0130138f3b46dd5753ffd95fed1026bc769d657353cc659f249db46fcbe"), looks := false }, kinds := [], alts := [], laidByText := true, laidKinds := [.data, .pinned, .pinned], laidTests := true, laidLooks := .later }
def WordModuloCardSaid : Prop := Claim7.holds Tryd.pinned (.plain (OpenSpec.ofChange wordModuloSpec)) wordModuloCard

/-- THE TIED CARD OF 'cairnlaw02.WordShifts'. -/
def wordShiftsCard : Claim7 := { stood := { row := wordShiftsRow, standIns := [], harness := (true, "4e86a0130138f3b46dd5753ffd95fed1026bc769d657353cc659f249db46fcbe"), looks := false }, kinds := [], alts := [], laidByText := true, laidKinds := [.data, .pinned, .pinned], laidTests := true, laidLooks := .later }
def WordShiftsCardSaid : Prop := Claim7.holds Tryd.pinned (.plain (OpenSpec.ofChange wordShiftsSpec)) wordShiftsCard

/-- THE TIED CARD OF 'cairnlaw02.WordPowers'. -/
def wordPowersCard : Claim7 := { stood := { row := wordPowersRow, standIns := [], harness := (true, "4e86a0130138f3b46dd5753ffd95fed1026bc769d657353cc659f249db46fcbe"), looks := false }, kinds := [], alts := [], laidByText := true, laidKinds := [.data, .pinned, .pinned], laidTests := true, laidLooks := .later }
def WordPowersCardSaid : Prop := Claim7.holds Tryd.pinned (.plain (OpenSpec.ofChange wordPowersSpec)) wordPowersCard

/-- THE TIED CARD OF 'cairnlaw02.WordSigns'. -/
def wordSignsCard : Claim7 := { stood := { row := wordSignsRow, standIns := [], harness := (true, "4e86a0130138f3b46dd5753ffd95fed1026bc769d657353cc659f249db46fcbe"), looks := false }, kinds := [], alts := [], laidByText := true, laidKinds := [.data, .pinned, .pinned], laidTests := true, laidLooks := .later }
def WordSignsCardSaid : Prop := Claim7.holds Tryd.pinned (.plain (OpenSpec.ofChange wordSignsSpec)) wordSignsCard

/-- THE SECOND FORM's CARD OF 'cairnlaw02.WordSums'. -/
def wordSumsUptoCard : Claim7 := { stood := { row := wordSumsUptoRow, standIns := [], harness := (true, "4e86a0130138f3b46dd5753ffd95fed1026bc769d657353cc659f249db46fcbe"), looks := false }, kinds := [], alts := [], laidByText := true, laidKinds := [.data, .pinned, .pinned], laidTests := true, laidLooks := .later }
def WordSumsUptoCardSaid : Prop := Claim7.holds Tryd.pinned (.plain (OpenSpec.upto wordSumsSpec)) wordSumsUptoCard

/-- THE SECOND FORM's CARD OF 'cairnlaw02.WordRing'. -/
def wordRingUptoCard : Claim7 := { stood := { row := wordRingUptoRow, standIns := [], harness := (true, "4e86a0130138f3b46dd5753ffd95fed1026bc769d657353cc659f249db46fcbe"), looks := false }, kinds := [], alts := [], laidByText := true, laidKinds := [.data, .pinned, .pinned], laidTests := true, laidLooks := .later }
def WordRingUptoCardSaid : Prop := Claim7.holds Tryd.pinned (.plain (OpenSpec.upto wordRingSpec)) wordRingUptoCard

/-- THE SECOND FORM's CARD OF 'cairnlaw02.WordTexts'. -/
def wordTextsUptoCard : Claim7 := { stood := { row := wordTextsUptoRow, standIns := [], harness := (true, "4e86a0130138f3b46dd5753ffd95fed1026bc769d657353cc659f249db46fcbe"), looks := false }, kinds := [], alts := [], laidByText := true, laidKinds := [.data, .pinned, .pinned], laidTests := true, laidLooks := .later }
def WordTextsUptoCardSaid : Prop := Claim7.holds Tryd.pinned (.plain (OpenSpec.upto wordTextsSpec)) wordTextsUptoCard

/-- THE SECOND FORM's CARD OF 'cairnlaw02.WordDivides'. -/
def wordDividesUptoCard : Claim7 := { stood := { row := wordDividesUptoRow, standIns := [], harness := (true, "4e86a0130138f3b46dd5753ffd95fed1026bc769d657353cc659f249db46fcbe"), looks := false }, kinds := [], alts := [], laidByText := true, laidKinds := [.data, .pinned, .pinned], laidTests := true, laidLooks := .later }
def WordDividesUptoCardSaid : Prop := Claim7.holds Tryd.pinned (.plain (OpenSpec.upto wordDividesSpec)) wordDividesUptoCard

/-- THE SECOND FORM's CARD OF 'cairnlaw02.WordBytes'. -/
def wordBytesUptoCard : Claim7 := { stood := { row := wordBytesUptoRow, standIns := [], harness := (true, "4e86a0130138f3b46dd5753ffd95fed1026bc769d657353cc659f249db46fcbe"), looks := false }, kinds := [], alts := [], laidByText := true, laidKinds := [.data, .pinned, .pinned], laidTests := true, laidLooks := .later }
def WordBytesUptoCardSaid : Prop := Claim7.holds Tryd.pinned (.plain (OpenSpec.upto wordBytesSpec)) wordBytesUptoCard

/-- THE SECOND FORM's CARD OF 'cairnlaw02.WordExponents'. -/
def wordExponentsUptoCard : Claim7 := { stood := { row := wordExponentsUptoRow, standIns := [], harness := (true, "4e86a0130138f3b46dd5753ffd95fed1026bc769d657353cc659f249db46fcbe"), looks := false }, kinds := [], alts := [], laidByText := true, laidKinds := [.data, .pinned, .pinned], laidTests := true, laidLooks := .later }
def WordExponentsUptoCardSaid : Prop := Claim7.holds Tryd.pinned (.plain (OpenSpec.upto wordExponentsSpec)) wordExponentsUptoCard

/-- THE SECOND FORM's CARD OF 'cairnlaw02.WordBack'. -/
def wordBackUptoCard : Claim7 := { stood := { row := wordBackUptoRow, standIns := [], harness := (true, "4e86a0130138f3b46dd5753ffd95fed1026bc769d657353cc659f249db46fcbe"), looks := false }, kinds := [], alts := [], laidByText := true, laidKinds := [.data, .pinned, .pinned], laidTests := true, laidLooks := .later }
def WordBackUptoCardSaid : Prop := Claim7.holds Tryd.pinned (.plain (OpenSpec.upto wordBackSpec)) wordBackUptoCard

/-- THE SECOND FORM's CARD OF 'cairnlaw02.WordDivision'. -/
def wordDivisionUptoCard : Claim7 := { stood := { row := wordDivisionUptoRow, standIns := [], harness := (true, "4e86a0130138f3b46dd5753ffd95fed1026bc769d657353cc659f249db46fcbe"), looks := false }, kinds := [], alts := [], laidByText := true, laidKinds := [.data, .pinned, .pinned], laidTests := true, laidLooks := .later }
def WordDivisionUptoCardSaid : Prop := Claim7.holds Tryd.pinned (.plain (OpenSpec.upto wordDivisionSpec)) wordDivisionUptoCard

/-- THE SECOND FORM's CARD OF 'cairnlaw02.WordModulo'. -/
def wordModuloUptoCard : Claim7 := { stood := { row := wordModuloUptoRow, standIns := [], harness := (true, "4e86a0130138f3b46dd5753ffd95fed1026bc769d657353cc659f249db46fcbe"), looks := false }, kinds := [], alts := [], laidByText := true, laidKinds := [.data, .pinned, .pinned], laidTests := true, laidLooks := .later }
def WordModuloUptoCardSaid : Prop := Claim7.holds Tryd.pinned (.plain (OpenSpec.upto wordModuloSpec)) wordModuloUptoCard

/-- THE SECOND FORM's CARD OF 'cairnlaw02.WordShifts'. -/
def wordShiftsUptoCard : Claim7 := { stood := { row := wordShiftsUptoRow, standIns := [], harness := (true, "4e86a0130138f3b46dd5753ffd95fed1026bc769d657353cc659f249db46fcbe"), looks := false }, kinds := [], alts := [], laidByText := true, laidKinds := [.data, .pinned, .pinned], laidTests := true, laidLooks := .later }
def WordShiftsUptoCardSaid : Prop := Claim7.holds Tryd.pinned (.plain (OpenSpec.upto wordShiftsSpec)) wordShiftsUptoCard

/-- THE SECOND FORM's CARD OF 'cairnlaw02.WordPowers'. -/
def wordPowersUptoCard : Claim7 := { stood := { row := wordPowersUptoRow, standIns := [], harness := (true, "4e86a0130138f3b46dd5753ffd95fed1026bc769d657353cc659f249db46fcbe"), looks := false }, kinds := [], alts := [], laidByText := true, laidKinds := [.data, .pinned, .pinned], laidTests := true, laidLooks := .later }
def WordPowersUptoCardSaid : Prop := Claim7.holds Tryd.pinned (.plain (OpenSpec.upto wordPowersSpec)) wordPowersUptoCard

/-- THE SECOND FORM's CARD OF 'cairnlaw02.WordSigns'. -/
def wordSignsUptoCard : Claim7 := { stood := { row := wordSignsUptoRow, standIns := [], harness := (true, "4e86a0130138f3b46dd5753ffd95fed1026bc769d657353cc659f249db46fcbe"), looks := false }, kinds := [], alts := [], laidByText := true, laidKinds := [.data, .pinned, .pinned], laidTests := true, laidLooks := .later }
def WordSignsUptoCardSaid : Prop := Claim7.holds Tryd.pinned (.plain (OpenSpec.upto wordSignsSpec)) wordSignsUptoCard
end Rows
end Go.Proofs.YtbilnedgpgpanaaDoor
