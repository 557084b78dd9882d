/- Closed facts of the row. -/
import Derived.Test.YtkgmfiloghhibaaGreatDoorFb37
namespace Go.Proofs.YtkgmfiloghhibaaGreatDoor
open Go.ChangeShapes Go.WideShapes Go.ChangeAt Go.RowKit Go.Sx
set_option maxRecDepth 100000
theorem inPlace_p : (Rows.fnPipeTextsRow.inPlace == Tryz.prog.inPlace 3) = true := by kernel_rfl
theorem unfollowed_p : (Rows.fnPipeTextsRow.unfollowed == Tryz.prog.unfollowed 3) = true := by kernel_rfl
theorem recurses_p : (Rows.fnPipeTextsRow.recurses == Tryz.prog.recurses 3) = true := by kernel_rfl
theorem varsNamed_p : (Rows.fnPipeTextsRow.named == Tryz.prog.varsNamed 3) = true := by kernel_rfl
theorem funcNamed_p : Tryz.prog.funcNamed "loop.example/g01173/laws.FnPipeTexts" = some 3 := by kernel_rfl
theorem rest_p : (Rows.fnPipeTextsRow.wf (OpenSpec.ofChange Rows.fnPipeTextsSpec) && Tryz.f3.params.all (Tryz.prog.readableRec ·) && namedTie Tryz.prog Rows.fnPipeTextsRow.named [] && (Rows.fnPipeTextsRow.stops == []) && (Rows.fnPipeTextsRow.knobs == []) && (Rows.fnPipeTextsRow.maps == (Tryz.f3.params.toList ++ []).any (Tryz.prog.mapsRec ·)) && (Rows.fnPipeTextsRow.ifaces == (Tryz.f3.params.toList ++ []).any (Tryz.prog.ifacesRec ·)) && (Rows.fnPipeTextsRow.mapsOut == Tryz.prog.mapsAmong Tryz.f3.resultTypes.toList) && (Rows.fnPipeTextsRow.loops == (Tryz.f3.params.toList ++ []).any (Tryz.prog.loopsFrom ·)) && (Rows.fnPipeTextsRow.wideKeys == (Tryz.f3.params.toList ++ [] ++ Tryz.f3.resultTypes.toList).any (Tryz.prog.wideKeysFrom ·)) && Tryz.f3.resultTypes.all (fun t => Tryz.prog.readableRec t && decide (t < Tryz.prog.types.size)) && (Rows.fnPipeTextsRow.ifacesOut == Tryz.f3.resultTypes.toList.any (Tryz.prog.ifacesRec ·)) && (Rows.fnPipeTextsRow.loopsOut == Tryz.f3.resultTypes.toList.any (Tryz.prog.loopsFrom ·)) && Rows.fnPipeTextsRow.shortTexts.isNone && (Rows.fnPipeTextsRow.kinds == (if Rows.fnPipeTextsRow.domain.isEmpty then [] else Tryz.f3.params.toList.map fun t => match Tryz.prog.underlying t with | some (.int k) => some k | _ => none)) && (Rows.fnPipeTextsRow.pinned == Rows.fnPipeTextsRow.pinnedBy) && (Rows.fnPipeTextsRow.veiled == (Tryz.f3.params.toList ++ [] ++ Tryz.f3.resultTypes.toList).any (Tryz.prog.veiledRec ·)) && Rows.fnPipeTextsRow.veiledFits Tryz.prog Tryz.f3.params.toList (Tryz.f3.params.toList ++ [] ++ Tryz.f3.resultTypes.toList)) = true := by kernel_rfl
theorem closed_p : joinedFacts Tryz.prog 3 Tryz.f3 Rows.fnPipeTextsSpec Rows.fnPipeTextsRow = true := joined_of laidOut mapsRowed_p stops_p stopKnobs_p inPlace_p unfollowed_p recurses_p varsNamed_p plainKeys_p stopsHeard_p mayEnter_p lifts_p make_p rfl rest_p
theorem looks_p : true = Tryz.prog.looks [] := by kernel_rfl
end Go.Proofs.YtkgmfiloghhibaaGreatDoor
