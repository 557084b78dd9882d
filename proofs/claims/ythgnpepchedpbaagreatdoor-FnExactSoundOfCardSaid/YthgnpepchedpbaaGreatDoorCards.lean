/-
  DERIVED. GIVEN WITH THE SEED: THE CARDS: each row of YthgnpepchedpbaaGreatDoorRows.lean that lists a variable, with what it lists TIED to the program's text (the seventh form; the later family's looks); each row that meets fmt, with fmt's text TOLD by the authors' own Lean function (tested against real Go, not proved from fmt's source: count such statements apart). THE CARD IS WHAT COUNTS. Prove the row's statement (the work); the ties are given (YthgnpepchedpbaaGreatDoorTie.lean); close each card by the builder's one call (the guide's Derived/Test/ToyasCard.lean, 'card_holds'). Laid BY PROGRAM, IN A SANDBOX (cutbox-door.mjs). By AI agents, Wed Nov 11 2026. No macro, syntax, notation, axiom, sorry.
-/
import Derived.Test.YthgnpepchedpbaaGreatDoorRows
import GoSem.ClaimSeven
namespace Go.Proofs.YthgnpepchedpbaaGreatDoor
namespace Rows

/-- THE TIED CARD OF 'laws.FnExactSoundOf'. -/
def fnExactSoundOfCard : Claim7 := { stood := { row := fnExactSoundOfRow, standIns := [], harness := (true, "bc1c588c96c88f257fe8bbe20ee2e82d0be500de0340fc093c2b893a41ecf586"), looks := false }, kinds := [], alts := [], laidByText := true, laidKinds := [.data, .pinned], laidTests := true, laidLooks := .later }
def FnExactSoundOfCardSaid : Prop := Claim7.holds Tryz.pinned (.plain (OpenSpec.ofChange fnExactSoundOfSpec)) fnExactSoundOfCard

/-- THE TIED CARD OF 'laws.FnExactPlayerAt'. -/
def fnExactPlayerAtCard : Claim7 := { stood := { row := fnExactPlayerAtRow, standIns := [], harness := (true, "bc1c588c96c88f257fe8bbe20ee2e82d0be500de0340fc093c2b893a41ecf586"), looks := false }, kinds := [], alts := [], laidByText := true, laidKinds := [.data, .pinned], laidTests := true, laidLooks := .later }
def FnExactPlayerAtCardSaid : Prop := Claim7.holds Tryz.pinned (.plain (OpenSpec.ofChange fnExactPlayerAtSpec)) fnExactPlayerAtCard

/-- THE TIED CARD OF 'laws.FnExactPlaySamples'. -/
def fnExactPlaySamplesCard : Claim7 := { stood := { row := fnExactPlaySamplesRow, standIns := [], harness := (true, "bc1c588c96c88f257fe8bbe20ee2e82d0be500de0340fc093c2b893a41ecf586"), looks := false }, kinds := [], alts := [], laidByText := true, laidKinds := [.data, .pinned], laidTests := true, laidLooks := .later }
def FnExactPlaySamplesCardSaid : Prop := Claim7.holds Tryz.pinned (.plain (OpenSpec.ofChange fnExactPlaySamplesSpec)) fnExactPlaySamplesCard

/-- THE TIED CARD OF 'laws.FnExactBlockOfPlayer'. -/
def fnExactBlockOfPlayerCard : Claim7 := { stood := { row := fnExactBlockOfPlayerRow, standIns := [], harness := (true, "bc1c588c96c88f257fe8bbe20ee2e82d0be500de0340fc093c2b893a41ecf586"), looks := false }, kinds := [], alts := [], laidByText := true, laidKinds := [.data, .pinned], laidTests := true, laidLooks := .later }
def FnExactBlockOfPlayerCardSaid : Prop := Claim7.holds Tryz.pinned (.plain (OpenSpec.ofChange fnExactBlockOfPlayerSpec)) fnExactBlockOfPlayerCard

/-- THE SECOND FORM's CARD OF 'laws.FnExactSoundOf'. -/
def fnExactSoundOfUptoCard : Claim7 := { stood := { row := fnExactSoundOfUptoRow, standIns := [], harness := (true, "bc1c588c96c88f257fe8bbe20ee2e82d0be500de0340fc093c2b893a41ecf586"), looks := false }, kinds := [], alts := [], laidByText := true, laidKinds := [.data, .pinned], laidTests := true, laidLooks := .later }
def FnExactSoundOfUptoCardSaid : Prop := Claim7.holds Tryz.pinned (.plain (OpenSpec.upto fnExactSoundOfSpec)) fnExactSoundOfUptoCard

/-- THE SECOND FORM's CARD OF 'laws.FnExactPlayerAt'. -/
def fnExactPlayerAtUptoCard : Claim7 := { stood := { row := fnExactPlayerAtUptoRow, standIns := [], harness := (true, "bc1c588c96c88f257fe8bbe20ee2e82d0be500de0340fc093c2b893a41ecf586"), looks := false }, kinds := [], alts := [], laidByText := true, laidKinds := [.data, .pinned], laidTests := true, laidLooks := .later }
def FnExactPlayerAtUptoCardSaid : Prop := Claim7.holds Tryz.pinned (.plain (OpenSpec.upto fnExactPlayerAtSpec)) fnExactPlayerAtUptoCard

/-- THE SECOND FORM's CARD OF 'laws.FnExactPlaySamples'. -/
def fnExactPlaySamplesUptoCard : Claim7 := { stood := { row := fnExactPlaySamplesUptoRow, standIns := [], harness := (true, "bc1c588c96c88f257fe8bbe20ee2e82d0be500de0340fc093c2b893a41ecf586"), looks := false }, kinds := [], alts := [], laidByText := true, laidKinds := [.data, .pinned], laidTests := true, laidLooks := .later }
def FnExactPlaySamplesUptoCardSaid : Prop := Claim7.holds Tryz.pinned (.plain (OpenSpec.upto fnExactPlaySamplesSpec)) fnExactPlaySamplesUptoCard

/-- THE SECOND FORM's CARD OF 'laws.FnExactBlockOfPlayer'. -/
def fnExactBlockOfPlayerUptoCard : Claim7 := { stood := { row := fnExactBlockOfPlayerUptoRow, standIns := [], harness := (true, "bc1c588c96c88f257fe8bbe20ee2e82d0be500de0340fc093c2b893a41ecf586"), looks := false }, kinds := [], alts := [], laidByText := true, laidKinds := [.data, .pinned], laidTests := true, laidLooks := .later }
def FnExactBlockOfPlayerUptoCardSaid : Prop := Claim7.holds Tryz.pinned (.plain (OpenSpec.upto fnExactBlockOfPlayerSpec)) fnExactBlockOfPlayerUptoCard
end Rows
end Go.Proofs.YthgnpepchedpbaaGreatDoor
