/-
  DERIVED. GIVEN WITH THE SEED: THE CARDS: each row of YtkgmfiloghhibaaGreatDoorRows.lean that lists a variable, with what it lists TIED to the program's text (the seventh form; the later family's looks); each row that meets fmt, with fmt's text TOLD by the authors' own Lean function (tested against real Go, not proved from fmt's source: count such statements apart). THE CARD IS WHAT COUNTS. Prove the row's statement (the work); the ties are given (YtkgmfiloghhibaaGreatDoorTie.lean); close each card by the builder's one call (the guide's Derived/Test/ToyasCard.lean, 'card_holds'). Laid BY PROGRAM, IN A SANDBOX (cutbox-door.mjs). By AI agents, Wed Nov 11 2026. No macro, syntax, notation, axiom, sorry.
-/
import Derived.Test.YtkgmfiloghhibaaGreatDoorRows
import GoSem.ClaimSeven
namespace Go.Proofs.YtkgmfiloghhibaaGreatDoor
namespace Rows

/-- THE TIED CARD OF 'laws.FnPipeTexts'. -/
def fnPipeTextsCard : Claim7 := { stood := { row := fnPipeTextsRow, standIns := [], harness := (true, "111b0e1b1a975e23ace3e531153758cde4157a7d850a8714b3a768ded091bb34"), looks := true }, kinds := [], alts := [], laidByText := true, laidKinds := [.data, .data, .data, .data, .sentinel, .sentinel, .pinned], laidTests := true, laidLooks := .later }
def FnPipeTextsCardSaid : Prop := Claim7.holds Tryz.pinned (.plain (OpenSpec.ofChange fnPipeTextsSpec)) fnPipeTextsCard

/-- THE TIED CARD OF 'laws.FnRoomBlocks'. -/
def fnRoomBlocksCard : Claim7 := { stood := { row := fnRoomBlocksRow, standIns := [], harness := (true, "111b0e1b1a975e23ace3e531153758cde4157a7d850a8714b3a768ded091bb34"), looks := true }, kinds := [], alts := [], laidByText := true, laidKinds := [.data, .data, .data, .data, .sentinel, .sentinel, .pinned], laidTests := true, laidLooks := .later }
def FnRoomBlocksCardSaid : Prop := Claim7.holds Tryz.pinned (.plain (OpenSpec.ofChange fnRoomBlocksSpec)) fnRoomBlocksCard

/-- THE SECOND FORM's CARD OF 'laws.FnPipeTexts'. -/
def fnPipeTextsUptoCard : Claim7 := { stood := { row := fnPipeTextsUptoRow, standIns := [], harness := (true, "111b0e1b1a975e23ace3e531153758cde4157a7d850a8714b3a768ded091bb34"), looks := true }, kinds := [], alts := [], laidByText := true, laidKinds := [.data, .data, .data, .data, .sentinel, .sentinel, .pinned], laidTests := true, laidLooks := .later }
def FnPipeTextsUptoCardSaid : Prop := Claim7.holds Tryz.pinned (.plain (OpenSpec.upto fnPipeTextsSpec)) fnPipeTextsUptoCard

/-- THE SECOND FORM's CARD OF 'laws.FnRoomBlocks'. -/
def fnRoomBlocksUptoCard : Claim7 := { stood := { row := fnRoomBlocksUptoRow, standIns := [], harness := (true, "111b0e1b1a975e23ace3e531153758cde4157a7d850a8714b3a768ded091bb34"), looks := true }, kinds := [], alts := [], laidByText := true, laidKinds := [.data, .data, .data, .data, .sentinel, .sentinel, .pinned], laidTests := true, laidLooks := .later }
def FnRoomBlocksUptoCardSaid : Prop := Claim7.holds Tryz.pinned (.plain (OpenSpec.upto fnRoomBlocksSpec)) fnRoomBlocksUptoCard
end Rows
end Go.Proofs.YtkgmfiloghhibaaGreatDoor
