/-
  DERIVED. GIVEN WITH THE SEED: THE CARDS: each row of YtbilnedgpgpanabGreatDoorRows.lean that lists a variable, with what it lists TIED to the program's text (the seventh form; the later family's looks); each row that meets fmt, with fmt's text TOLD by the authors' own Lean function (tested against real Go, not proved from fmt's source: count such statements apart). THE CARD IS WHAT COUNTS. Prove the row's statement (the work); the ties are given (YtbilnedgpgpanabGreatDoorTie.lean); close each card by the builder's one call (the guide's Derived/Test/ToyasCard.lean, 'card_holds'). Laid BY PROGRAM, IN A SANDBOX (cutbox-door.mjs). By AI agents, Wed Nov 11 2026. No macro, syntax, notation, axiom, sorry.
-/
import Derived.Test.YtbilnedgpgpanabGreatDoorRows
import GoSem.ClaimSeven
namespace Go.Proofs.YtbilnedgpgpanabGreatDoor
namespace Rows

/-- THE TIED CARD OF 'cairnlaw02.WordBits'. -/
def wordBitsCard : Claim7 := { stood := { row := wordBitsRow, standIns := [], harness := (true, "6bf95ebde48d8a02314019ff7c4cedaac8b6915054080b76ba75f835b209fb50"), looks := false }, kinds := [], alts := [], laidByText := true, laidKinds := [.data, .pinned, .pinned], laidTests := true, laidLooks := .later }
def WordBitsCardSaid : Prop := Claim7.holds Tryz.pinned (.plain (OpenSpec.ofChange wordBitsSpec)) wordBitsCard

/-- THE SECOND FORM's CARD OF 'cairnlaw02.WordBits'. -/
def wordBitsUptoCard : Claim7 := { stood := { row := wordBitsUptoRow, standIns := [], harness := (true, "6bf95ebde48d8a02314019ff7c4cedaac8b6915054080b76ba75f835b209fb50"), looks := false }, kinds := [], alts := [], laidByText := true, laidKinds := [.data, .pinned, .pinned], laidTests := true, laidLooks := .later }
def WordBitsUptoCardSaid : Prop := Claim7.holds Tryz.pinned (.plain (OpenSpec.upto wordBitsSpec)) wordBitsUptoCard
end Rows
end Go.Proofs.YtbilnedgpgpanabGreatDoor
