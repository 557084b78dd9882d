/- Closed facts of the row. -/
import Derived.Test.YtgbjfohgmpmjoaaGreatDoorFb35
namespace Go.Proofs.YtgbjfohgmpmjoaaGreatDoor
open Go.ChangeShapes Go.WideShapes Go.ChangeAt Go.RowKit Go.Sx
set_option maxRecDepth 100000
theorem inPlace_p : (Rows.fnStringsRow.inPlace == Tryz.prog.inPlace 4) = true := by kernel_rfl
theorem unfollowed_p : (Rows.fnStringsRow.unfollowed == Tryz.prog.unfollowed 4) = true := by kernel_rfl
theorem recurses_p : (Rows.fnStringsRow.recurses == Tryz.prog.recurses 4) = true := by kernel_rfl
theorem varsNamed_p : (Rows.fnStringsRow.named == Tryz.prog.varsNamed 4) = true := by kernel_rfl
theorem funcNamed_p : Tryz.prog.funcNamed "loop.example/g01173/laws.FnStrings" = some 4 := by kernel_rfl
theorem rest_p : (Rows.fnStringsRow.wf (OpenSpec.ofChange Rows.fnStringsSpec) && Tryz.f4.params.all (Tryz.prog.readableRec ·) && namedTie Tryz.prog Rows.fnStringsRow.named [] && (Rows.fnStringsRow.stops == []) && (Rows.fnStringsRow.knobs == []) && (Rows.fnStringsRow.maps == (Tryz.f4.params.toList ++ []).any (Tryz.prog.mapsRec ·)) && (Rows.fnStringsRow.ifaces == (Tryz.f4.params.toList ++ []).any (Tryz.prog.ifacesRec ·)) && (Rows.fnStringsRow.mapsOut == Tryz.prog.mapsAmong Tryz.f4.resultTypes.toList) && (Rows.fnStringsRow.loops == (Tryz.f4.params.toList ++ []).any (Tryz.prog.loopsFrom ·)) && (Rows.fnStringsRow.wideKeys == (Tryz.f4.params.toList ++ [] ++ Tryz.f4.resultTypes.toList).any (Tryz.prog.wideKeysFrom ·)) && Tryz.f4.resultTypes.all (fun t => Tryz.prog.readableRec t && decide (t < Tryz.prog.types.size)) && (Rows.fnStringsRow.ifacesOut == Tryz.f4.resultTypes.toList.any (Tryz.prog.ifacesRec ·)) && (Rows.fnStringsRow.loopsOut == Tryz.f4.resultTypes.toList.any (Tryz.prog.loopsFrom ·)) && Rows.fnStringsRow.shortTexts.isNone && (Rows.fnStringsRow.kinds == (if Rows.fnStringsRow.domain.isEmpty then [] else Tryz.f4.params.toList.map fun t => match Tryz.prog.underlying t with | some (.int k) => some k | _ => none)) && (Rows.fnStringsRow.pinned == Rows.fnStringsRow.pinnedBy) && (Rows.fnStringsRow.veiled == (Tryz.f4.params.toList ++ [] ++ Tryz.f4.resultTypes.toList).any (Tryz.prog.veiledRec ·)) && Rows.fnStringsRow.veiledFits Tryz.prog Tryz.f4.params.toList (Tryz.f4.params.toList ++ [] ++ Tryz.f4.resultTypes.toList)) = true := by kernel_rfl
theorem closed_p : joinedFacts Tryz.prog 4 Tryz.f4 Rows.fnStringsSpec Rows.fnStringsRow = true := joined_of laidOut mapsRowed_p stops_p stopKnobs_p inPlace_p unfollowed_p recurses_p varsNamed_p plainKeys_p stopsHeard_p mayEnter_p lifts_p make_p rfl rest_p
theorem looks_p : true = Tryz.prog.looks [] := by kernel_rfl
end Go.Proofs.YtgbjfohgmpmjoaaGreatDoor
