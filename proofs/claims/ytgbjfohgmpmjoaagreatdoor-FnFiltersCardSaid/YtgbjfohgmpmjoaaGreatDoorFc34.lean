/- Closed facts of the row. -/
import Derived.Test.YtgbjfohgmpmjoaaGreatDoorFb34
namespace Go.Proofs.YtgbjfohgmpmjoaaGreatDoor
open Go.ChangeShapes Go.WideShapes Go.ChangeAt Go.RowKit Go.Sx
set_option maxRecDepth 100000
theorem inPlace_p : (Rows.fnFiltersRow.inPlace == Tryz.prog.inPlace 3) = true := by kernel_rfl
theorem unfollowed_p : (Rows.fnFiltersRow.unfollowed == Tryz.prog.unfollowed 3) = true := by kernel_rfl
theorem recurses_p : (Rows.fnFiltersRow.recurses == Tryz.prog.recurses 3) = true := by kernel_rfl
theorem varsNamed_p : (Rows.fnFiltersRow.named == Tryz.prog.varsNamed 3) = true := by kernel_rfl
theorem funcNamed_p : Tryz.prog.funcNamed "loop.example/g01173/laws.FnFilters" = some 3 := by kernel_rfl
theorem rest_p : (Rows.fnFiltersRow.wf (OpenSpec.ofChange Rows.fnFiltersSpec) && Tryz.f3.params.all (Tryz.prog.readableRec ·) && namedTie Tryz.prog Rows.fnFiltersRow.named [] && (Rows.fnFiltersRow.stops == []) && (Rows.fnFiltersRow.knobs == []) && (Rows.fnFiltersRow.maps == (Tryz.f3.params.toList ++ []).any (Tryz.prog.mapsRec ·)) && (Rows.fnFiltersRow.ifaces == (Tryz.f3.params.toList ++ []).any (Tryz.prog.ifacesRec ·)) && (Rows.fnFiltersRow.mapsOut == Tryz.prog.mapsAmong Tryz.f3.resultTypes.toList) && (Rows.fnFiltersRow.loops == (Tryz.f3.params.toList ++ []).any (Tryz.prog.loopsFrom ·)) && (Rows.fnFiltersRow.wideKeys == (Tryz.f3.params.toList ++ [] ++ Tryz.f3.resultTypes.toList).any (Tryz.prog.wideKeysFrom ·)) && Tryz.f3.resultTypes.all (fun t => Tryz.prog.readableRec t && decide (t < Tryz.prog.types.size)) && (Rows.fnFiltersRow.ifacesOut == Tryz.f3.resultTypes.toList.any (Tryz.prog.ifacesRec ·)) && (Rows.fnFiltersRow.loopsOut == Tryz.f3.resultTypes.toList.any (Tryz.prog.loopsFrom ·)) && Rows.fnFiltersRow.shortTexts.isNone && (Rows.fnFiltersRow.kinds == (if Rows.fnFiltersRow.domain.isEmpty then [] else Tryz.f3.params.toList.map fun t => match Tryz.prog.underlying t with | some (.int k) => some k | _ => none)) && (Rows.fnFiltersRow.pinned == Rows.fnFiltersRow.pinnedBy) && (Rows.fnFiltersRow.veiled == (Tryz.f3.params.toList ++ [] ++ Tryz.f3.resultTypes.toList).any (Tryz.prog.veiledRec ·)) && Rows.fnFiltersRow.veiledFits Tryz.prog Tryz.f3.params.toList (Tryz.f3.params.toList ++ [] ++ Tryz.f3.resultTypes.toList)) = true := by kernel_rfl
theorem closed_p : joinedFacts Tryz.prog 3 Tryz.f3 Rows.fnFiltersSpec Rows.fnFiltersRow = true := joined_of laidOut mapsRowed_p stops_p stopKnobs_p inPlace_p unfollowed_p recurses_p varsNamed_p plainKeys_p stopsHeard_p mayEnter_p lifts_p make_p rfl rest_p
theorem looks_p : true = Tryz.prog.looks [] := by kernel_rfl
end Go.Proofs.YtgbjfohgmpmjoaaGreatDoor
