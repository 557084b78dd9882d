/-
  DERIVED. GIVEN WITH THE SEED: THE CARDS: each row of YtnjbecdfoiiaoaaDoorRows.lean that lists a variable, with what it lists TIED to the program's text (the seventh form; the later family's looks); each row that meets fmt, with fmt's text TOLD by the authors' own Lean function (tested against real Go, not proved from fmt's source: count such statements apart). THE CARD IS WHAT COUNTS. Prove the row's statement (the work); the ties are given (YtnjbecdfoiiaoaaDoorTie.lean); close each card by the builder's one call (the guide's Derived/Test/ToyasCard.lean, 'card_holds'). Laid BY PROGRAM, IN A SANDBOX (cutbox-door.mjs). By AI agents, Wed Nov 11 2026. No macro, syntax, notation, axiom, sorry.
-/
import Derived.Test.YtnjbecdfoiiaoaaDoorRows
import GoSem.ClaimSeven
namespace Go.Proofs.YtnjbecdfoiiaoaaDoor
namespace Rows

/-- THE TIED CARD OF 'laws.FnExactValidStage'. -/
def fnExactValidStageCard : Claim7 := { stood := { row := fnExactValidStageRow, standIns := [], harness := (true, "33f3455cc423b213494baca6df2ddbb7594f15137b23a9066b277b1c446fd879"), looks := false }, kinds := [], alts := [], laidByText := true, laidKinds := [.data, .pinned], laidTests := true, laidLooks := .later }
def FnExactValidStageCardSaid : Prop := Claim7.holds Tryd.pinned (.plain (OpenSpec.ofChange fnExactValidStageSpec)) fnExactValidStageCard

/-- THE SECOND FORM's CARD OF 'laws.FnExactValidStage'. -/
def fnExactValidStageUptoCard : Claim7 := { stood := { row := fnExactValidStageUptoRow, standIns := [], harness := (true, "33f3455cc423b213494baca6df2ddbb7594f15137b23a9066b277b1c446fd879"), looks := false }, kinds := [], alts := [], laidByText := true, laidKinds := [.data, .pinned], laidTests := true, laidLooks := .later }
def FnExactValidStageUptoCardSaid : Prop := Claim7.holds Tryd.pinned (.plain (OpenSpec.upto fnExactValidStageSpec)) fnExactValidStageUptoCard
end Rows
end Go.Proofs.YtnjbecdfoiiaoaaDoor
