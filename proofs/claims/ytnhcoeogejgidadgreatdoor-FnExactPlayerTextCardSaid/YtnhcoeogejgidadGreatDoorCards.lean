/-
  DERIVED. GIVEN WITH THE SEED: THE CARDS: each row of YtnhcoeogejgidadGreatDoorRows.lean that lists a variable, with what it lists TIED to the program's text (the seventh form; the later family's looks); each row that meets fmt, with fmt's text TOLD by the authors' own Lean function (tested against real Go, not proved from fmt's source: count such statements apart). THE CARD IS WHAT COUNTS. Prove the row's statement (the work); the ties are given (YtnhcoeogejgidadGreatDoorTie.lean); close each card by the builder's one call (the guide's Derived/Test/ToyasCard.lean, 'card_holds'). Laid BY PROGRAM, IN A SANDBOX (cutbox-door.mjs). By AI agents, Wed Nov 11 2026. No macro, syntax, notation, axiom, sorry.
-/
import Derived.Test.YtnhcoeogejgidadGreatDoorRows
import GoSem.ClaimSeven
namespace Go.Proofs.YtnhcoeogejgidadGreatDoor
namespace Rows

/-- THE TIED CARD OF 'laws.FnExactPlayerText'. -/
def fnExactPlayerTextCard : Claim7 := { stood := { row := fnExactPlayerTextRow, standIns := [], harness := (true, "3f81456811e5d99c2ac4e2123a6677d3ed2e1ce9b6afed98358797a413fd9cfe"), looks := true }, kinds := [], alts := [], laidByText := true, laidKinds := [.data, .data, .data, .data, .pinned], laidTests := true, laidLooks := .later }
def FnExactPlayerTextCardSaid : Prop := Claim7.holds Tryz.pinned (.plain (OpenSpec.ofChange fnExactPlayerTextSpec)) fnExactPlayerTextCard

/-- THE TIED CARD OF 'laws.FnExactReadPlayer'. -/
def fnExactReadPlayerCard : Claim7 := { stood := { row := fnExactReadPlayerRow, standIns := [], harness := (true, "3f81456811e5d99c2ac4e2123a6677d3ed2e1ce9b6afed98358797a413fd9cfe"), looks := true }, kinds := [], alts := [], laidByText := true, laidKinds := [.data, .data, .data, .data, .sentinel, .sentinel, .pinned], laidTests := true, laidLooks := .later }
def FnExactReadPlayerCardSaid : Prop := Claim7.holds Tryz.pinned (.plain (OpenSpec.ofChange fnExactReadPlayerSpec)) fnExactReadPlayerCard

/-- THE SECOND FORM's CARD OF 'laws.FnExactPlayerText'. -/
def fnExactPlayerTextUptoCard : Claim7 := { stood := { row := fnExactPlayerTextUptoRow, standIns := [], harness := (true, "3f81456811e5d99c2ac4e2123a6677d3ed2e1ce9b6afed98358797a413fd9cfe"), looks := true }, kinds := [], alts := [], laidByText := true, laidKinds := [.data, .data, .data, .data, .pinned], laidTests := true, laidLooks := .later }
def FnExactPlayerTextUptoCardSaid : Prop := Claim7.holds Tryz.pinned (.plain (OpenSpec.upto fnExactPlayerTextSpec)) fnExactPlayerTextUptoCard

/-- THE SECOND FORM's CARD OF 'laws.FnExactReadPlayer'. -/
def fnExactReadPlayerUptoCard : Claim7 := { stood := { row := fnExactReadPlayerUptoRow, standIns := [], harness := (true, "3f81456811e5d99c2ac4e2123a6677d3ed2e1ce9b6afed98358797a413fd9cfe"), looks := true }, kinds := [], alts := [], laidByText := true, laidKinds := [.data, .data, .data, .data, .sentinel, .sentinel, .pinned], laidTests := true, laidLooks := .later }
def FnExactReadPlayerUptoCardSaid : Prop := Claim7.holds Tryz.pinned (.plain (OpenSpec.upto fnExactReadPlayerSpec)) fnExactReadPlayerUptoCard
end Rows
end Go.Proofs.YtnhcoeogejgidadGreatDoor
