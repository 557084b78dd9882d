/-
  DERIVED. GIVEN WITH THE SEED: THE CARDS: each row of YthhepeklpgefkaaGreatDoorRows.lean that lists a variable, with what it lists TIED to the program's text (the seventh form; the later family's looks); each row that meets fmt, with fmt's text TOLD by the authors' own Lean function (tested against real Go, not proved from fmt's source: count such statements apart). THE CARD IS WHAT COUNTS. Prove the row's statement (the work); the ties are given (YthhepeklpgefkaaGreatDoorTie.lean); close each card by the builder's one call (the guide's Derived/Test/ToyasCard.lean, 'card_holds'). Laid BY PROGRAM, IN A SANDBOX (cutbox-door.mjs). By AI agents, Wed Nov 11 2026. No macro, syntax, notation, axiom, sorry.
-/
import Derived.Test.YthhepeklpgefkaaGreatDoorRows
import GoSem.ClaimSeven
namespace Go.Proofs.YthhepeklpgefkaaGreatDoor
namespace Rows

/-- THE TIED CARD OF 'laws.FnExactNewPlayer'. -/
def fnExactNewPlayerCard : Claim7 := { stood := { row := fnExactNewPlayerRow, standIns := [], harness := (true, "f53ac37246c565c08ed792e64849fbb0051210ec2485b0b1be23ee018b9cf27a"), looks := false }, kinds := [], alts := [], laidByText := true, laidKinds := [.data, .pinned], laidTests := true, laidLooks := .later }
def FnExactNewPlayerCardSaid : Prop := Claim7.holds Tryz.pinned (.plain (OpenSpec.ofChange fnExactNewPlayerSpec)) fnExactNewPlayerCard

/-- THE TIED CARD OF 'laws.FnExactJoinScores'. -/
def fnExactJoinScoresCard : Claim7 := { stood := { row := fnExactJoinScoresRow, standIns := [], harness := (true, "f53ac37246c565c08ed792e64849fbb0051210ec2485b0b1be23ee018b9cf27a"), looks := false }, kinds := [], alts := [], laidByText := true, laidKinds := [.data, .pinned], laidTests := true, laidLooks := .later }
def FnExactJoinScoresCardSaid : Prop := Claim7.holds Tryz.pinned (.plain (OpenSpec.ofChange fnExactJoinScoresSpec)) fnExactJoinScoresCard

/-- THE TIED CARD OF 'laws.FnExactVoiceFor'. -/
def fnExactVoiceForCard : Claim7 := { stood := { row := fnExactVoiceForRow, standIns := [], harness := (true, "f53ac37246c565c08ed792e64849fbb0051210ec2485b0b1be23ee018b9cf27a"), looks := false }, kinds := [], alts := [], laidByText := true, laidKinds := [.data, .pinned], laidTests := true, laidLooks := .later }
def FnExactVoiceForCardSaid : Prop := Claim7.holds Tryz.pinned (.plain (OpenSpec.ofChange fnExactVoiceForSpec)) fnExactVoiceForCard

/-- THE TIED CARD OF 'laws.FnExactSoundingIn'. -/
def fnExactSoundingInCard : Claim7 := { stood := { row := fnExactSoundingInRow, standIns := [], harness := (true, "f53ac37246c565c08ed792e64849fbb0051210ec2485b0b1be23ee018b9cf27a"), looks := false }, kinds := [], alts := [], laidByText := true, laidKinds := [.data, .pinned], laidTests := true, laidLooks := .later }
def FnExactSoundingInCardSaid : Prop := Claim7.holds Tryz.pinned (.plain (OpenSpec.ofChange fnExactSoundingInSpec)) fnExactSoundingInCard

/-- THE TIED CARD OF 'laws.FnExactSoundOf'. -/
def fnExactSoundOfCard : Claim7 := { stood := { row := fnExactSoundOfRow, standIns := [], harness := (true, "f53ac37246c565c08ed792e64849fbb0051210ec2485b0b1be23ee018b9cf27a"), looks := false }, kinds := [], alts := [], laidByText := true, laidKinds := [.data, .pinned], laidTests := true, laidLooks := .later }
def FnExactSoundOfCardSaid : Prop := Claim7.holds Tryz.pinned (.plain (OpenSpec.ofChange fnExactSoundOfSpec)) fnExactSoundOfCard

/-- THE TIED CARD OF 'laws.FnExactPlayerAt'. -/
def fnExactPlayerAtCard : Claim7 := { stood := { row := fnExactPlayerAtRow, standIns := [], harness := (true, "f53ac37246c565c08ed792e64849fbb0051210ec2485b0b1be23ee018b9cf27a"), looks := false }, kinds := [], alts := [], laidByText := true, laidKinds := [.data, .pinned], laidTests := true, laidLooks := .later }
def FnExactPlayerAtCardSaid : Prop := Claim7.holds Tryz.pinned (.plain (OpenSpec.ofChange fnExactPlayerAtSpec)) fnExactPlayerAtCard

/-- THE TIED CARD OF 'laws.FnExactStepPlayer'. -/
def fnExactStepPlayerCard : Claim7 := { stood := { row := fnExactStepPlayerRow, standIns := [], harness := (true, "f53ac37246c565c08ed792e64849fbb0051210ec2485b0b1be23ee018b9cf27a"), looks := false }, kinds := [], alts := [], laidByText := true, laidKinds := [.data, .pinned], laidTests := true, laidLooks := .later }
def FnExactStepPlayerCardSaid : Prop := Claim7.holds Tryz.pinned (.plain (OpenSpec.ofChange fnExactStepPlayerSpec)) fnExactStepPlayerCard

/-- THE TIED CARD OF 'laws.FnExactPlaySamples'. -/
def fnExactPlaySamplesCard : Claim7 := { stood := { row := fnExactPlaySamplesRow, standIns := [], harness := (true, "f53ac37246c565c08ed792e64849fbb0051210ec2485b0b1be23ee018b9cf27a"), looks := false }, kinds := [], alts := [], laidByText := true, laidKinds := [.data, .pinned], laidTests := true, laidLooks := .later }
def FnExactPlaySamplesCardSaid : Prop := Claim7.holds Tryz.pinned (.plain (OpenSpec.ofChange fnExactPlaySamplesSpec)) fnExactPlaySamplesCard

/-- THE TIED CARD OF 'laws.FnExactBlockOfPlayer'. -/
def fnExactBlockOfPlayerCard : Claim7 := { stood := { row := fnExactBlockOfPlayerRow, standIns := [], harness := (true, "f53ac37246c565c08ed792e64849fbb0051210ec2485b0b1be23ee018b9cf27a"), looks := false }, kinds := [], alts := [], laidByText := true, laidKinds := [.data, .pinned], laidTests := true, laidLooks := .later }
def FnExactBlockOfPlayerCardSaid : Prop := Claim7.holds Tryz.pinned (.plain (OpenSpec.ofChange fnExactBlockOfPlayerSpec)) fnExactBlockOfPlayerCard

/-- THE SECOND FORM's CARD OF 'laws.FnExactNewPlayer'. -/
def fnExactNewPlayerUptoCard : Claim7 := { stood := { row := fnExactNewPlayerUptoRow, standIns := [], harness := (true, "f53ac37246c565c08ed792e64849fbb0051210ec2485b0b1be23ee018b9cf27a"), looks := false }, kinds := [], alts := [], laidByText := true, laidKinds := [.data, .pinned], laidTests := true, laidLooks := .later }
def FnExactNewPlayerUptoCardSaid : Prop := Claim7.holds Tryz.pinned (.plain (OpenSpec.upto fnExactNewPlayerSpec)) fnExactNewPlayerUptoCard

/-- THE SECOND FORM's CARD OF 'laws.FnExactJoinScores'. -/
def fnExactJoinScoresUptoCard : Claim7 := { stood := { row := fnExactJoinScoresUptoRow, standIns := [], harness := (true, "f53ac37246c565c08ed792e64849fbb0051210ec2485b0b1be23ee018b9cf27a"), looks := false }, kinds := [], alts := [], laidByText := true, laidKinds := [.data, .pinned], laidTests := true, laidLooks := .later }
def FnExactJoinScoresUptoCardSaid : Prop := Claim7.holds Tryz.pinned (.plain (OpenSpec.upto fnExactJoinScoresSpec)) fnExactJoinScoresUptoCard

/-- THE SECOND FORM's CARD OF 'laws.FnExactVoiceFor'. -/
def fnExactVoiceForUptoCard : Claim7 := { stood := { row := fnExactVoiceForUptoRow, standIns := [], harness := (true, "f53ac37246c565c08ed792e64849fbb0051210ec2485b0b1be23ee018b9cf27a"), looks := false }, kinds := [], alts := [], laidByText := true, laidKinds := [.data, .pinned], laidTests := true, laidLooks := .later }
def FnExactVoiceForUptoCardSaid : Prop := Claim7.holds Tryz.pinned (.plain (OpenSpec.upto fnExactVoiceForSpec)) fnExactVoiceForUptoCard

/-- THE SECOND FORM's CARD OF 'laws.FnExactSoundingIn'. -/
def fnExactSoundingInUptoCard : Claim7 := { stood := { row := fnExactSoundingInUptoRow, standIns := [], harness := (true, "f53ac37246c565c08ed792e64849fbb0051210ec2485b0b1be23ee018b9cf27a"), looks := false }, kinds := [], alts := [], laidByText := true, laidKinds := [.data, .pinned], laidTests := true, laidLooks := .later }
def FnExactSoundingInUptoCardSaid : Prop := Claim7.holds Tryz.pinned (.plain (OpenSpec.upto fnExactSoundingInSpec)) fnExactSoundingInUptoCard

/-- THE SECOND FORM's CARD OF 'laws.FnExactSoundOf'. -/
def fnExactSoundOfUptoCard : Claim7 := { stood := { row := fnExactSoundOfUptoRow, standIns := [], harness := (true, "f53ac37246c565c08ed792e64849fbb0051210ec2485b0b1be23ee018b9cf27a"), looks := false }, kinds := [], alts := [], laidByText := true, laidKinds := [.data, .pinned], laidTests := true, laidLooks := .later }
def FnExactSoundOfUptoCardSaid : Prop := Claim7.holds Tryz.pinned (.plain (OpenSpec.upto fnExactSoundOfSpec)) fnExactSoundOfUptoCard

/-- THE SECOND FORM's CARD OF 'laws.FnExactPlayerAt'. -/
def fnExactPlayerAtUptoCard : Claim7 := { stood := { row := fnExactPlayerAtUptoRow, standIns := [], harness := (true, "f53ac37246c565c08ed792e64849fbb0051210ec2485b0b1be23ee018b9cf27a"), looks := false }, kinds := [], alts := [], laidByText := true, laidKinds := [.data, .pinned], laidTests := true, laidLooks := .later }
def FnExactPlayerAtUptoCardSaid : Prop := Claim7.holds Tryz.pinned (.plain (OpenSpec.upto fnExactPlayerAtSpec)) fnExactPlayerAtUptoCard

/-- THE SECOND FORM's CARD OF 'laws.FnExactStepPlayer'. -/
def fnExactStepPlayerUptoCard : Claim7 := { stood := { row := fnExactStepPlayerUptoRow, standIns := [], harness := (true, "f53ac37246c565c08ed792e64849fbb0051210ec2485b0b1be23ee018b9cf27a"), looks := false }, kinds := [], alts := [], laidByText := true, laidKinds := [.data, .pinned], laidTests := true, laidLooks := .later }
def FnExactStepPlayerUptoCardSaid : Prop := Claim7.holds Tryz.pinned (.plain (OpenSpec.upto fnExactStepPlayerSpec)) fnExactStepPlayerUptoCard

/-- THE SECOND FORM's CARD OF 'laws.FnExactPlaySamples'. -/
def fnExactPlaySamplesUptoCard : Claim7 := { stood := { row := fnExactPlaySamplesUptoRow, standIns := [], harness := (true, "f53ac37246c565c08ed792e64849fbb0051210ec2485b0b1be23ee018b9cf27a"), looks := false }, kinds := [], alts := [], laidByText := true, laidKinds := [.data, .pinned], laidTests := true, laidLooks := .later }
def FnExactPlaySamplesUptoCardSaid : Prop := Claim7.holds Tryz.pinned (.plain (OpenSpec.upto fnExactPlaySamplesSpec)) fnExactPlaySamplesUptoCard

/-- THE SECOND FORM's CARD OF 'laws.FnExactBlockOfPlayer'. -/
def fnExactBlockOfPlayerUptoCard : Claim7 := { stood := { row := fnExactBlockOfPlayerUptoRow, standIns := [], harness := (true, "f53ac37246c565c08ed792e64849fbb0051210ec2485b0b1be23ee018b9cf27a"), looks := false }, kinds := [], alts := [], laidByText := true, laidKinds := [.data, .pinned], laidTests := true, laidLooks := .later }
def FnExactBlockOfPlayerUptoCardSaid : Prop := Claim7.holds Tryz.pinned (.plain (OpenSpec.upto fnExactBlockOfPlayerSpec)) fnExactBlockOfPlayerUptoCard
end Rows
end Go.Proofs.YthhepeklpgefkaaGreatDoor
