/- Closed facts of the row. -/
import Derived.Test.YtkgmfiloghhibaaGreatDoorFb36
namespace Go.Proofs.YtkgmfiloghhibaaGreatDoor
open Go.ChangeShapes Go.WideShapes Go.ChangeAt Go.RowKit Go.Sx
set_option maxRecDepth 100000
theorem inPlace_p : (Rows.fnRoomBlocksRow.inPlace == Tryz.prog.inPlace 4) = true := by kernel_rfl
theorem unfollowed_p : (Rows.fnRoomBlocksRow.unfollowed == Tryz.prog.unfollowed 4) = true := by kernel_rfl
theorem recurses_p : (Rows.fnRoomBlocksRow.recurses == Tryz.prog.recurses 4) = true := by kernel_rfl
theorem varsNamed_p : (Rows.fnRoomBlocksRow.named == Tryz.prog.varsNamed 4) = true := by kernel_rfl
theorem funcNamed_p : Tryz.prog.funcNamed "loop.example/g01173/laws.FnRoomBlocks" = some 4 := by kernel_rfl
theorem rest_p : (Rows.fnRoomBlocksRow.wf (OpenSpec.ofChange Rows.fnRoomBlocksSpec) && Tryz.f4.params.all (Tryz.prog.readableRec ·) && namedTie Tryz.prog Rows.fnRoomBlocksRow.named [] && (Rows.fnRoomBlocksRow.stops == []) && (Rows.fnRoomBlocksRow.knobs == []) && (Rows.fnRoomBlocksRow.maps == (Tryz.f4.params.toList ++ []).any (Tryz.prog.mapsRec ·)) && (Rows.fnRoomBlocksRow.ifaces == (Tryz.f4.params.toList ++ []).any (Tryz.prog.ifacesRec ·)) && (Rows.fnRoomBlocksRow.mapsOut == Tryz.prog.mapsAmong Tryz.f4.resultTypes.toList) && (Rows.fnRoomBlocksRow.loops == (Tryz.f4.params.toList ++ []).any (Tryz.prog.loopsFrom ·)) && (Rows.fnRoomBlocksRow.wideKeys == (Tryz.f4.params.toList ++ [] ++ Tryz.f4.resultTypes.toList).any (Tryz.prog.wideKeysFrom ·)) && Tryz.f4.resultTypes.all (fun t => Tryz.prog.readableRec t && decide (t < Tryz.prog.types.size)) && (Rows.fnRoomBlocksRow.ifacesOut == Tryz.f4.resultTypes.toList.any (Tryz.prog.ifacesRec ·)) && (Rows.fnRoomBlocksRow.loopsOut == Tryz.f4.resultTypes.toList.any (Tryz.prog.loopsFrom ·)) && Rows.fnRoomBlocksRow.shortTexts.isNone && (Rows.fnRoomBlocksRow.kinds == (if Rows.fnRoomBlocksRow.domain.isEmpty then [] else Tryz.f4.params.toList.map fun t => match Tryz.prog.underlying t with | some (.int k) => some k | _ => none)) && (Rows.fnRoomBlocksRow.pinned == Rows.fnRoomBlocksRow.pinnedBy) && (Rows.fnRoomBlocksRow.veiled == (Tryz.f4.params.toList ++ [] ++ Tryz.f4.resultTypes.toList).any (Tryz.prog.veiledRec ·)) && Rows.fnRoomBlocksRow.veiledFits Tryz.prog Tryz.f4.params.toList (Tryz.f4.params.toList ++ [] ++ Tryz.f4.resultTypes.toList)) = true := by kernel_rfl
theorem closed_p : joinedFacts Tryz.prog 4 Tryz.f4 Rows.fnRoomBlocksSpec Rows.fnRoomBlocksRow = true := joined_of laidOut mapsRowed_p stops_p stopKnobs_p inPlace_p unfollowed_p recurses_p varsNamed_p plainKeys_p stopsHeard_p mayEnter_p lifts_p make_p rfl rest_p
theorem looks_p : true = Tryz.prog.looks [] := by kernel_rfl
end Go.Proofs.YtkgmfiloghhibaaGreatDoor
