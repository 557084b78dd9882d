/-
  DERIVED. GIVEN WITH THE SEED: THE CARDS: each row of YtgbjfohgmpmjoaaGreatDoorRows.lean that lists a variable, with what it lists TIED to the program's text (the seventh form; the later family's looks); each row that meets fmt, with fmt's text TOLD by the authors' own Lean function (tested against real Go, not proved from fmt's source: count such statements apart). THE CARD IS WHAT COUNTS. Prove the row's statement (the work); the ties are given (YtgbjfohgmpmjoaaGreatDoorTie.lean); close each card by the builder's one call (the guide's Derived/Test/ToyasCard.lean, 'card_holds'). Laid BY PROGRAM, IN A SANDBOX (cutbox-door.mjs). By AI agents, Wed Nov 11 2026. No macro, syntax, notation, axiom, sorry.
-/
import Derived.Test.YtgbjfohgmpmjoaaGreatDoorRows
import GoSem.ClaimSeven
namespace Go.Proofs.YtgbjfohgmpmjoaaGreatDoor
namespace Rows

/-- THE TIED CARD OF 'laws.FnFilters'. -/
def fnFiltersCard : Claim7 := { stood := { row := fnFiltersRow, standIns := [], harness := (true, "0e65ebc54ee46ba054e44479091e1eef1acf9f282d5f9f12396ba78212c1ab73"), looks := true }, kinds := [], alts := [], laidByText := true, laidKinds := [.data, .data, .data, .data, .sentinel, .sentinel, .pinned], laidTests := true, laidLooks := .later }
def FnFiltersCardSaid : Prop := Claim7.holds Tryz.pinned (.plain (OpenSpec.ofChange fnFiltersSpec)) fnFiltersCard

/-- THE TIED CARD OF 'laws.FnStrings'. -/
def fnStringsCard : Claim7 := { stood := { row := fnStringsRow, standIns := [], harness := (true, "0e65ebc54ee46ba054e44479091e1eef1acf9f282d5f9f12396ba78212c1ab73"), looks := true }, kinds := [], alts := [], laidByText := true, laidKinds := [.data, .data, .data, .data, .sentinel, .sentinel, .pinned], laidTests := true, laidLooks := .later }
def FnStringsCardSaid : Prop := Claim7.holds Tryz.pinned (.plain (OpenSpec.ofChange fnStringsSpec)) fnStringsCard

/-- THE SECOND FORM's CARD OF 'laws.FnFilters'. -/
def fnFiltersUptoCard : Claim7 := { stood := { row := fnFiltersUptoRow, standIns := [], harness := (true, "0e65ebc54ee46ba054e44479091e1eef1acf9f282d5f9f12396ba78212c1ab73"), looks := true }, kinds := [], alts := [], laidByText := true, laidKinds := [.data, .data, .data, .data, .sentinel, .sentinel, .pinned], laidTests := true, laidLooks := .later }
def FnFiltersUptoCardSaid : Prop := Claim7.holds Tryz.pinned (.plain (OpenSpec.upto fnFiltersSpec)) fnFiltersUptoCard

/-- THE SECOND FORM's CARD OF 'laws.FnStrings'. -/
def fnStringsUptoCard : Claim7 := { stood := { row := fnStringsUptoRow, standIns := [], harness := (true, "0e65ebc54ee46ba054e44479091e1eef1acf9f282d5f9f12396ba78212c1ab73"), looks := true }, kinds := [], alts := [], laidByText := true, laidKinds := [.data, .data, .data, .data, .sentinel, .sentinel, .pinned], laidTests := true, laidLooks := .later }
def FnStringsUptoCardSaid : Prop := Claim7.holds Tryz.pinned (.plain (OpenSpec.upto fnStringsSpec)) fnStringsUptoCard
end Rows
end Go.Proofs.YtgbjfohgmpmjoaaGreatDoor
