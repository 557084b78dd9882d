/-
  DERIVED. GIVEN WITH THE SEED: THE CARDS: each row of YteahcankljndlaaGreatDoorRows.lean that lists a variable, with what it lists TIED to the program's text (the seventh form; the later family's looks); each row that meets fmt, with fmt's text TOLD by the authors' own Lean function (tested against real Go, not proved from fmt's source: count such statements apart). THE CARD IS WHAT COUNTS. Prove the row's statement (the work); the ties are given (YteahcankljndlaaGreatDoorTie.lean); close each card by the builder's one call (the guide's Derived/Test/ToyasCard.lean, 'card_holds'). Laid BY PROGRAM, IN A SANDBOX (cutbox-door.mjs). By AI agents, Wed Nov 11 2026. No macro, syntax, notation, axiom, sorry.
-/
import Derived.Test.YteahcankljndlaaGreatDoorRows
import GoSem.ClaimSeven
namespace Go.Proofs.YteahcankljndlaaGreatDoor
namespace Rows

/-- THE TIED CARD OF 'laws.FnJetBlocks'. -/
def fnJetBlocksCard : Claim7 := { stood := { row := fnJetBlocksRow, standIns := [], harness := (true, "4827234b23302bfa8d5e7ba9f6fd7a8e59f5627a438742959cfa4e3ec27225b6"), looks := true }, kinds := [], alts := [], laidByText := true, laidKinds := [.data, .data, .data, .data, .sentinel, .sentinel, .pinned], laidTests := true, laidLooks := .later }
def FnJetBlocksCardSaid : Prop := Claim7.holds Tryz.pinned (.plain (OpenSpec.ofChange fnJetBlocksSpec)) fnJetBlocksCard

/-- THE TIED CARD OF 'laws.FnBowBlocks'. -/
def fnBowBlocksCard : Claim7 := { stood := { row := fnBowBlocksRow, standIns := [], harness := (true, "4827234b23302bfa8d5e7ba9f6fd7a8e59f5627a438742959cfa4e3ec27225b6"), looks := true }, kinds := [], alts := [], laidByText := true, laidKinds := [.data, .data, .data, .data, .sentinel, .sentinel, .pinned], laidTests := true, laidLooks := .later }
def FnBowBlocksCardSaid : Prop := Claim7.holds Tryz.pinned (.plain (OpenSpec.ofChange fnBowBlocksSpec)) fnBowBlocksCard

/-- THE SECOND FORM's CARD OF 'laws.FnJetBlocks'. -/
def fnJetBlocksUptoCard : Claim7 := { stood := { row := fnJetBlocksUptoRow, standIns := [], harness := (true, "4827234b23302bfa8d5e7ba9f6fd7a8e59f5627a438742959cfa4e3ec27225b6"), looks := true }, kinds := [], alts := [], laidByText := true, laidKinds := [.data, .data, .data, .data, .sentinel, .sentinel, .pinned], laidTests := true, laidLooks := .later }
def FnJetBlocksUptoCardSaid : Prop := Claim7.holds Tryz.pinned (.plain (OpenSpec.upto fnJetBlocksSpec)) fnJetBlocksUptoCard

/-- THE SECOND FORM's CARD OF 'laws.FnBowBlocks'. -/
def fnBowBlocksUptoCard : Claim7 := { stood := { row := fnBowBlocksUptoRow, standIns := [], harness := (true, "4827234b23302bfa8d5e7ba9f6fd7a8e59f5627a438742959cfa4e3ec27225b6"), looks := true }, kinds := [], alts := [], laidByText := true, laidKinds := [.data, .data, .data, .data, .sentinel, .sentinel, .pinned], laidTests := true, laidLooks := .later }
def FnBowBlocksUptoCardSaid : Prop := Claim7.holds Tryz.pinned (.plain (OpenSpec.upto fnBowBlocksSpec)) fnBowBlocksUptoCard
end Rows
end Go.Proofs.YteahcankljndlaaGreatDoor
