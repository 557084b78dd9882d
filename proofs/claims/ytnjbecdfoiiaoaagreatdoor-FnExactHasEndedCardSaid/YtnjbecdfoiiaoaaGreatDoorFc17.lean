/- Closed facts of the row. -/
import Derived.Test.YtnjbecdfoiiaoaaGreatDoorFb17
namespace Go.Proofs.YtnjbecdfoiiaoaaGreatDoor
open Go.ChangeShapes Go.WideShapes Go.ChangeAt Go.RowKit Go.Sx
set_option maxRecDepth 100000
theorem inPlace_p : (Rows.fnExactHasEndedRow.inPlace == Tryz.prog.inPlace 8) = true := by kernel_rfl
theorem unfollowed_p : (Rows.fnExactHasEndedRow.unfollowed == Tryz.prog.unfollowed 8) = true := by kernel_rfl
theorem recurses_p : (Rows.fnExactHasEndedRow.recurses == Tryz.prog.recurses 8) = true := by kernel_rfl
theorem varsNamed_p : (Rows.fnExactHasEndedRow.named == Tryz.prog.varsNamed 8) = true := by kernel_rfl
theorem funcNamed_p : Tryz.prog.funcNamed "loop.example/g01173/laws.FnExactHasEnded" = some 8 := by kernel_rfl
theorem rest_p : (Rows.fnExactHasEndedRow.wf (OpenSpec.ofChange Rows.fnExactHasEndedSpec) && Tryz.f8.params.all (Tryz.prog.readableRec ·) && namedTie Tryz.prog Rows.fnExactHasEndedRow.named [] && (Rows.fnExactHasEndedRow.stops == []) && (Rows.fnExactHasEndedRow.knobs == []) && (Rows.fnExactHasEndedRow.maps == (Tryz.f8.params.toList ++ []).any (Tryz.prog.mapsRec ·)) && (Rows.fnExactHasEndedRow.ifaces == (Tryz.f8.params.toList ++ []).any (Tryz.prog.ifacesRec ·)) && (Rows.fnExactHasEndedRow.mapsOut == Tryz.prog.mapsAmong Tryz.f8.resultTypes.toList) && (Rows.fnExactHasEndedRow.loops == (Tryz.f8.params.toList ++ []).any (Tryz.prog.loopsFrom ·)) && (Rows.fnExactHasEndedRow.wideKeys == (Tryz.f8.params.toList ++ [] ++ Tryz.f8.resultTypes.toList).any (Tryz.prog.wideKeysFrom ·)) && Tryz.f8.resultTypes.all (fun t => Tryz.prog.readableRec t && decide (t < Tryz.prog.types.size)) && (Rows.fnExactHasEndedRow.ifacesOut == Tryz.f8.resultTypes.toList.any (Tryz.prog.ifacesRec ·)) && (Rows.fnExactHasEndedRow.loopsOut == Tryz.f8.resultTypes.toList.any (Tryz.prog.loopsFrom ·)) && Rows.fnExactHasEndedRow.shortTexts.isNone && (Rows.fnExactHasEndedRow.kinds == (if Rows.fnExactHasEndedRow.domain.isEmpty then [] else Tryz.f8.params.toList.map fun t => match Tryz.prog.underlying t with | some (.int k) => some k | _ => none)) && (Rows.fnExactHasEndedRow.pinned == Rows.fnExactHasEndedRow.pinnedBy) && (Rows.fnExactHasEndedRow.veiled == (Tryz.f8.params.toList ++ [] ++ Tryz.f8.resultTypes.toList).any (Tryz.prog.veiledRec ·)) && Rows.fnExactHasEndedRow.veiledFits Tryz.prog Tryz.f8.params.toList (Tryz.f8.params.toList ++ [] ++ Tryz.f8.resultTypes.toList)) = true := by kernel_rfl
theorem closed_p : joinedFacts Tryz.prog 8 Tryz.f8 Rows.fnExactHasEndedSpec Rows.fnExactHasEndedRow = true := joined_of laidOut mapsRowed_p stops_p stopKnobs_p inPlace_p unfollowed_p recurses_p varsNamed_p plainKeys_p stopsHeard_p mayEnter_p lifts_p make_p rfl rest_p
theorem looks_p : false = Tryz.prog.looks [] := by kernel_rfl
end Go.Proofs.YtnjbecdfoiiaoaaGreatDoor
