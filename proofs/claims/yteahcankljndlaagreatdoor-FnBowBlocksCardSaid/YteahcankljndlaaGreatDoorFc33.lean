/- Closed facts of the row. -/
import Derived.Test.YteahcankljndlaaGreatDoorFb33
namespace Go.Proofs.YteahcankljndlaaGreatDoor
open Go.ChangeShapes Go.WideShapes Go.ChangeAt Go.RowKit Go.Sx
set_option maxRecDepth 100000
theorem inPlace_p : (Rows.fnBowBlocksRow.inPlace == Tryz.prog.inPlace 4) = true := by kernel_rfl
theorem unfollowed_p : (Rows.fnBowBlocksRow.unfollowed == Tryz.prog.unfollowed 4) = true := by kernel_rfl
theorem recurses_p : (Rows.fnBowBlocksRow.recurses == Tryz.prog.recurses 4) = true := by kernel_rfl
theorem varsNamed_p : (Rows.fnBowBlocksRow.named == Tryz.prog.varsNamed 4) = true := by kernel_rfl
theorem funcNamed_p : Tryz.prog.funcNamed "loop.example/g01173/laws.FnBowBlocks" = some 4 := by kernel_rfl
theorem rest_p : (Rows.fnBowBlocksRow.wf (OpenSpec.ofChange Rows.fnBowBlocksSpec) && Tryz.f4.params.all (Tryz.prog.readableRec ·) && namedTie Tryz.prog Rows.fnBowBlocksRow.named [] && (Rows.fnBowBlocksRow.stops == []) && (Rows.fnBowBlocksRow.knobs == []) && (Rows.fnBowBlocksRow.maps == (Tryz.f4.params.toList ++ []).any (Tryz.prog.mapsRec ·)) && (Rows.fnBowBlocksRow.ifaces == (Tryz.f4.params.toList ++ []).any (Tryz.prog.ifacesRec ·)) && (Rows.fnBowBlocksRow.mapsOut == Tryz.prog.mapsAmong Tryz.f4.resultTypes.toList) && (Rows.fnBowBlocksRow.loops == (Tryz.f4.params.toList ++ []).any (Tryz.prog.loopsFrom ·)) && (Rows.fnBowBlocksRow.wideKeys == (Tryz.f4.params.toList ++ [] ++ Tryz.f4.resultTypes.toList).any (Tryz.prog.wideKeysFrom ·)) && Tryz.f4.resultTypes.all (fun t => Tryz.prog.readableRec t && decide (t < Tryz.prog.types.size)) && (Rows.fnBowBlocksRow.ifacesOut == Tryz.f4.resultTypes.toList.any (Tryz.prog.ifacesRec ·)) && (Rows.fnBowBlocksRow.loopsOut == Tryz.f4.resultTypes.toList.any (Tryz.prog.loopsFrom ·)) && Rows.fnBowBlocksRow.shortTexts.isNone && (Rows.fnBowBlocksRow.kinds == (if Rows.fnBowBlocksRow.domain.isEmpty then [] else Tryz.f4.params.toList.map fun t => match Tryz.prog.underlying t with | some (.int k) => some k | _ => none)) && (Rows.fnBowBlocksRow.pinned == Rows.fnBowBlocksRow.pinnedBy) && (Rows.fnBowBlocksRow.veiled == (Tryz.f4.params.toList ++ [] ++ Tryz.f4.resultTypes.toList).any (Tryz.prog.veiledRec ·)) && Rows.fnBowBlocksRow.veiledFits Tryz.prog Tryz.f4.params.toList (Tryz.f4.params.toList ++ [] ++ Tryz.f4.resultTypes.toList)) = true := by kernel_rfl
theorem closed_p : joinedFacts Tryz.prog 4 Tryz.f4 Rows.fnBowBlocksSpec Rows.fnBowBlocksRow = true := joined_of laidOut mapsRowed_p stops_p stopKnobs_p inPlace_p unfollowed_p recurses_p varsNamed_p plainKeys_p stopsHeard_p mayEnter_p lifts_p make_p rfl rest_p
theorem looks_p : true = Tryz.prog.looks [] := by kernel_rfl
end Go.Proofs.YteahcankljndlaaGreatDoor
