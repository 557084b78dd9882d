/- Closed facts of the row. -/
import Derived.Test.YtnhcoeogejgidabGreatDoorFb41
namespace Go.Proofs.YtnhcoeogejgidabGreatDoor
open Go.ChangeShapes Go.WideShapes Go.ChangeAt Go.RowKit Go.Sx
set_option maxRecDepth 100000
theorem inPlace_p : (Rows.fnCompileErrorsRow.inPlace == Tryz.prog.inPlace 4) = true := by kernel_rfl
theorem unfollowed_p : (Rows.fnCompileErrorsRow.unfollowed == Tryz.prog.unfollowed 4) = true := by kernel_rfl
theorem recurses_p : (Rows.fnCompileErrorsRow.recurses == Tryz.prog.recurses 4) = true := by kernel_rfl
theorem varsNamed_p : (Rows.fnCompileErrorsRow.named == Tryz.prog.varsNamed 4) = true := by kernel_rfl
theorem funcNamed_p : Tryz.prog.funcNamed "loop.example/g01173/laws.FnCompileErrors" = some 4 := by kernel_rfl
theorem rest_p : (Rows.fnCompileErrorsRow.wf (OpenSpec.ofChange Rows.fnCompileErrorsSpec) && Tryz.f4.params.all (Tryz.prog.readableRec ·) && namedTie Tryz.prog Rows.fnCompileErrorsRow.named [] && (Rows.fnCompileErrorsRow.stops == []) && (Rows.fnCompileErrorsRow.knobs == []) && (Rows.fnCompileErrorsRow.maps == (Tryz.f4.params.toList ++ []).any (Tryz.prog.mapsRec ·)) && (Rows.fnCompileErrorsRow.ifaces == (Tryz.f4.params.toList ++ []).any (Tryz.prog.ifacesRec ·)) && (Rows.fnCompileErrorsRow.mapsOut == Tryz.prog.mapsAmong Tryz.f4.resultTypes.toList) && (Rows.fnCompileErrorsRow.loops == (Tryz.f4.params.toList ++ []).any (Tryz.prog.loopsFrom ·)) && (Rows.fnCompileErrorsRow.wideKeys == (Tryz.f4.params.toList ++ [] ++ Tryz.f4.resultTypes.toList).any (Tryz.prog.wideKeysFrom ·)) && Tryz.f4.resultTypes.all (fun t => Tryz.prog.readableRec t && decide (t < Tryz.prog.types.size)) && (Rows.fnCompileErrorsRow.ifacesOut == Tryz.f4.resultTypes.toList.any (Tryz.prog.ifacesRec ·)) && (Rows.fnCompileErrorsRow.loopsOut == Tryz.f4.resultTypes.toList.any (Tryz.prog.loopsFrom ·)) && Rows.fnCompileErrorsRow.shortTexts.isNone && (Rows.fnCompileErrorsRow.kinds == (if Rows.fnCompileErrorsRow.domain.isEmpty then [] else Tryz.f4.params.toList.map fun t => match Tryz.prog.underlying t with | some (.int k) => some k | _ => none)) && (Rows.fnCompileErrorsRow.pinned == Rows.fnCompileErrorsRow.pinnedBy) && (Rows.fnCompileErrorsRow.veiled == (Tryz.f4.params.toList ++ [] ++ Tryz.f4.resultTypes.toList).any (Tryz.prog.veiledRec ·)) && Rows.fnCompileErrorsRow.veiledFits Tryz.prog Tryz.f4.params.toList (Tryz.f4.params.toList ++ [] ++ Tryz.f4.resultTypes.toList)) = true := by kernel_rfl
theorem closed_p : joinedFacts Tryz.prog 4 Tryz.f4 Rows.fnCompileErrorsSpec Rows.fnCompileErrorsRow = true := joined_of laidOut mapsRowed_p stops_p stopKnobs_p inPlace_p unfollowed_p recurses_p varsNamed_p plainKeys_p stopsHeard_p mayEnter_p lifts_p make_p rfl rest_p
theorem looks_p : true = Tryz.prog.looks [] := by kernel_rfl
end Go.Proofs.YtnhcoeogejgidabGreatDoor
