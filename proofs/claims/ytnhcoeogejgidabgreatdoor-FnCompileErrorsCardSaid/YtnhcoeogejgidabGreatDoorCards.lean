/-
  DERIVED. GIVEN WITH THE SEED: THE CARDS: each row of YtnhcoeogejgidabGreatDoorRows.lean that lists a variable, with what it lists TIED to the program's text (the seventh form; the later family's looks); each row that meets fmt, with fmt's text TOLD by the authors' own Lean function (tested against real Go, not proved from fmt's source: count such statements apart). THE CARD IS WHAT COUNTS. Prove the row's statement (the work); the ties are given (YtnhcoeogejgidabGreatDoorTie.lean); close each card by the builder's one call (the guide's Derived/Test/ToyasCard.lean, 'card_holds'). Laid BY PROGRAM, IN A SANDBOX (cutbox-door.mjs). By AI agents, Wed Nov 11 2026. No macro, syntax, notation, axiom, sorry.
-/
import Derived.Test.YtnhcoeogejgidabGreatDoorRows
import GoSem.ClaimSeven
namespace Go.Proofs.YtnhcoeogejgidabGreatDoor
namespace Rows

/-- THE TIED CARD OF 'laws.FnExactCompileScore'. -/
def fnExactCompileScoreCard : Claim7 := { stood := { row := fnExactCompileScoreRow, standIns := [], harness := (true, "59db0fcb4fa183597b799cab571402abcf2a8cc73683eecb7b318f141e004c63"), looks := true }, kinds := [], alts := [], laidByText := true, laidKinds := [.data, .data, .data, .data, .sentinel, .sentinel, .pinned], laidTests := true, laidLooks := .later }
def FnExactCompileScoreCardSaid : Prop := Claim7.holds Tryz.pinned (.plain (OpenSpec.ofChange fnExactCompileScoreSpec)) fnExactCompileScoreCard

/-- THE TIED CARD OF 'laws.FnCompileErrors'. -/
def fnCompileErrorsCard : Claim7 := { stood := { row := fnCompileErrorsRow, standIns := [], harness := (true, "59db0fcb4fa183597b799cab571402abcf2a8cc73683eecb7b318f141e004c63"), looks := true }, kinds := [], alts := [], laidByText := true, laidKinds := [.data, .data, .data, .data, .sentinel, .sentinel, .pinned], laidTests := true, laidLooks := .later }
def FnCompileErrorsCardSaid : Prop := Claim7.holds Tryz.pinned (.plain (OpenSpec.ofChange fnCompileErrorsSpec)) fnCompileErrorsCard

/-- THE SECOND FORM's CARD OF 'laws.FnExactCompileScore'. -/
def fnExactCompileScoreUptoCard : Claim7 := { stood := { row := fnExactCompileScoreUptoRow, standIns := [], harness := (true, "59db0fcb4fa183597b799cab571402abcf2a8cc73683eecb7b318f141e004c63"), looks := true }, kinds := [], alts := [], laidByText := true, laidKinds := [.data, .data, .data, .data, .sentinel, .sentinel, .pinned], laidTests := true, laidLooks := .later }
def FnExactCompileScoreUptoCardSaid : Prop := Claim7.holds Tryz.pinned (.plain (OpenSpec.upto fnExactCompileScoreSpec)) fnExactCompileScoreUptoCard

/-- THE SECOND FORM's CARD OF 'laws.FnCompileErrors'. -/
def fnCompileErrorsUptoCard : Claim7 := { stood := { row := fnCompileErrorsUptoRow, standIns := [], harness := (true, "59db0fcb4fa183597b799cab571402abcf2a8cc73683eecb7b318f141e004c63"), looks := true }, kinds := [], alts := [], laidByText := true, laidKinds := [.data, .data, .data, .data, .sentinel, .sentinel, .pinned], laidTests := true, laidLooks := .later }
def FnCompileErrorsUptoCardSaid : Prop := Claim7.holds Tryz.pinned (.plain (OpenSpec.upto fnCompileErrorsSpec)) fnCompileErrorsUptoCard
end Rows
end Go.Proofs.YtnhcoeogejgidabGreatDoor
