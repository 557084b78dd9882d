/- Closed facts of the row. -/
import Derived.Test.YteahcankljndlaaGreatDoorFb32
namespace Go.Proofs.YteahcankljndlaaGreatDoor
open Go.ChangeShapes Go.WideShapes Go.ChangeAt Go.RowKit Go.Sx
set_option maxRecDepth 100000
theorem inPlace_p : (Rows.fnJetBlocksRow.inPlace == Tryz.prog.inPlace 3) = true := by kernel_rfl
theorem unfollowed_p : (Rows.fnJetBlocksRow.unfollowed == Tryz.prog.unfollowed 3) = true := by kernel_rfl
theorem recurses_p : (Rows.fnJetBlocksRow.recurses == Tryz.prog.recurses 3) = true := by kernel_rfl
theorem varsNamed_p : (Rows.fnJetBlocksRow.named == Tryz.prog.varsNamed 3) = true := by kernel_rfl
theorem funcNamed_p : Tryz.prog.funcNamed "loop.example/g01173/laws.FnJetBlocks" = some 3 := by kernel_rfl
theorem rest_p : (Rows.fnJetBlocksRow.wf (OpenSpec.ofChange Rows.fnJetBlocksSpec) && Tryz.f3.params.all (Tryz.prog.readableRec ·) && namedTie Tryz.prog Rows.fnJetBlocksRow.named [] && (Rows.fnJetBlocksRow.stops == []) && (Rows.fnJetBlocksRow.knobs == []) && (Rows.fnJetBlocksRow.maps == (Tryz.f3.params.toList ++ []).any (Tryz.prog.mapsRec ·)) && (Rows.fnJetBlocksRow.ifaces == (Tryz.f3.params.toList ++ []).any (Tryz.prog.ifacesRec ·)) && (Rows.fnJetBlocksRow.mapsOut == Tryz.prog.mapsAmong Tryz.f3.resultTypes.toList) && (Rows.fnJetBlocksRow.loops == (Tryz.f3.params.toList ++ []).any (Tryz.prog.loopsFrom ·)) && (Rows.fnJetBlocksRow.wideKeys == (Tryz.f3.params.toList ++ [] ++ Tryz.f3.resultTypes.toList).any (Tryz.prog.wideKeysFrom ·)) && Tryz.f3.resultTypes.all (fun t => Tryz.prog.readableRec t && decide (t < Tryz.prog.types.size)) && (Rows.fnJetBlocksRow.ifacesOut == Tryz.f3.resultTypes.toList.any (Tryz.prog.ifacesRec ·)) && (Rows.fnJetBlocksRow.loopsOut == Tryz.f3.resultTypes.toList.any (Tryz.prog.loopsFrom ·)) && Rows.fnJetBlocksRow.shortTexts.isNone && (Rows.fnJetBlocksRow.kinds == (if Rows.fnJetBlocksRow.domain.isEmpty then [] else Tryz.f3.params.toList.map fun t => match Tryz.prog.underlying t with | some (.int k) => some k | _ => none)) && (Rows.fnJetBlocksRow.pinned == Rows.fnJetBlocksRow.pinnedBy) && (Rows.fnJetBlocksRow.veiled == (Tryz.f3.params.toList ++ [] ++ Tryz.f3.resultTypes.toList).any (Tryz.prog.veiledRec ·)) && Rows.fnJetBlocksRow.veiledFits Tryz.prog Tryz.f3.params.toList (Tryz.f3.params.toList ++ [] ++ Tryz.f3.resultTypes.toList)) = true := by kernel_rfl
theorem closed_p : joinedFacts Tryz.prog 3 Tryz.f3 Rows.fnJetBlocksSpec Rows.fnJetBlocksRow = true := joined_of laidOut mapsRowed_p stops_p stopKnobs_p inPlace_p unfollowed_p recurses_p varsNamed_p plainKeys_p stopsHeard_p mayEnter_p lifts_p make_p rfl rest_p
theorem looks_p : true = Tryz.prog.looks [] := by kernel_rfl
end Go.Proofs.YteahcankljndlaaGreatDoor
