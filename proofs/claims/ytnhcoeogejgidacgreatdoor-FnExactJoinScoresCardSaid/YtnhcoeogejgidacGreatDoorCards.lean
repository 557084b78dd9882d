/-
  DERIVED. GIVEN WITH THE SEED: THE CARDS: each row of YtnhcoeogejgidacGreatDoorRows.lean that lists a variable, with what it lists TIED to the program's text (the seventh form; the later family's looks); each row that meets fmt, with fmt's text TOLD by the authors' own Lean function (tested against real Go, not proved from fmt's source: count such statements apart). THE CARD IS WHAT COUNTS. Prove the row's statement (the work); the ties are given (YtnhcoeogejgidacGreatDoorTie.lean); close each card by the builder's one call (the guide's Derived/Test/ToyasCard.lean, 'card_holds'). Laid BY PROGRAM, IN A SANDBOX (cutbox-door.mjs). By AI agents, Wed Nov 11 2026. No macro, syntax, notation, axiom, sorry.
-/
import Derived.Test.YtnhcoeogejgidacGreatDoorRows
import GoSem.ClaimSeven
namespace Go.Proofs.YtnhcoeogejgidacGreatDoor
namespace Rows

/-- THE TIED CARD OF 'laws.FnExactJoinScores'. -/
def fnExactJoinScoresCard : Claim7 := { stood := { row := fnExactJoinScoresRow, standIns := [], harness := (true, "3a95461bd652ed79f42dbb8c024c2372edfffb0f6bcc9f11cb4d54285ace6af0"), looks := false }, kinds := [], alts := [], laidByText := true, laidKinds := [.data, .pinned], laidTests := true, laidLooks := .later }
def FnExactJoinScoresCardSaid : Prop := Claim7.holds Tryz.pinned (.plain (OpenSpec.ofChange fnExactJoinScoresSpec)) fnExactJoinScoresCard

/-- THE TIED CARD OF 'laws.FnVoices'. -/
def fnVoicesCard : Claim7 := { stood := { row := fnVoicesRow, standIns := [], harness := (true, "3a95461bd652ed79f42dbb8c024c2372edfffb0f6bcc9f11cb4d54285ace6af0"), looks := false }, kinds := [], alts := [], laidByText := true, laidKinds := [.data, .pinned], laidTests := true, laidLooks := .later }
def FnVoicesCardSaid : Prop := Claim7.holds Tryz.pinned (.plain (OpenSpec.ofChange fnVoicesSpec)) fnVoicesCard

/-- THE SECOND FORM's CARD OF 'laws.FnExactJoinScores'. -/
def fnExactJoinScoresUptoCard : Claim7 := { stood := { row := fnExactJoinScoresUptoRow, standIns := [], harness := (true, "3a95461bd652ed79f42dbb8c024c2372edfffb0f6bcc9f11cb4d54285ace6af0"), looks := false }, kinds := [], alts := [], laidByText := true, laidKinds := [.data, .pinned], laidTests := true, laidLooks := .later }
def FnExactJoinScoresUptoCardSaid : Prop := Claim7.holds Tryz.pinned (.plain (OpenSpec.upto fnExactJoinScoresSpec)) fnExactJoinScoresUptoCard

/-- THE SECOND FORM's CARD OF 'laws.FnVoices'. -/
def fnVoicesUptoCard : Claim7 := { stood := { row := fnVoicesUptoRow, standIns := [], harness := (true, "3a95461bd652ed79f42dbb8c024c2372edfffb0f6bcc9f11cb4d54285ace6af0"), looks := false }, kinds := [], alts := [], laidByText := true, laidKinds := [.data, .pinned], laidTests := true, laidLooks := .later }
def FnVoicesUptoCardSaid : Prop := Claim7.holds Tryz.pinned (.plain (OpenSpec.upto fnVoicesSpec)) fnVoicesUptoCard
end Rows
end Go.Proofs.YtnhcoeogejgidacGreatDoor
