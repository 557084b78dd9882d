/- Closed facts of the row. -/
import Derived.Test.YthgnpepchedpbaaDoorFb31
namespace Go.Proofs.YthgnpepchedpbaaDoor
open Go.ChangeShapes Go.WideShapes Go.ChangeAt Go.RowKit Go.Sx
set_option maxRecDepth 100000
theorem inPlace_p : (Rows.fnExactReadDeedRow.inPlace == Tryd.prog.inPlace 4) = true := by kernel_rfl
theorem unfollowed_p : (Rows.fnExactReadDeedRow.unfollowed == Tryd.prog.unfollowed 4) = true := by kernel_rfl
theorem recurses_p : (Rows.fnExactReadDeedRow.recurses == Tryd.prog.recurses 4) = true := by kernel_rfl
theorem varsNamed_p : (Rows.fnExactReadDeedRow.named == Tryd.prog.varsNamed 4) = true := by kernel_rfl
theorem funcNamed_p : Tryd.prog.funcNamed "loop.example/g01173/laws.FnExactReadDeed" = some 4 := by kernel_rfl
theorem rest_p : (Rows.fnExactReadDeedRow.wf (OpenSpec.ofChange Rows.fnExactReadDeedSpec) && Tryd.f4.params.all (Tryd.prog.readableRec ·) && namedTie Tryd.prog Rows.fnExactReadDeedRow.named [] && (Rows.fnExactReadDeedRow.stops == []) && (Rows.fnExactReadDeedRow.knobs == []) && (Rows.fnExactReadDeedRow.maps == (Tryd.f4.params.toList ++ []).any (Tryd.prog.mapsRec ·)) && (Rows.fnExactReadDeedRow.ifaces == (Tryd.f4.params.toList ++ []).any (Tryd.prog.ifacesRec ·)) && (Rows.fnExactReadDeedRow.mapsOut == Tryd.prog.mapsAmong Tryd.f4.resultTypes.toList) && (Rows.fnExactReadDeedRow.loops == (Tryd.f4.params.toList ++ []).any (Tryd.prog.loopsFrom ·)) && (Rows.fnExactReadDeedRow.wideKeys == (Tryd.f4.params.toList ++ [] ++ Tryd.f4.resultTypes.toList).any (Tryd.prog.wideKeysFrom ·)) && Tryd.f4.resultTypes.all (fun t => Tryd.prog.readableRec t && decide (t < Tryd.prog.types.size)) && (Rows.fnExactReadDeedRow.ifacesOut == Tryd.f4.resultTypes.toList.any (Tryd.prog.ifacesRec ·)) && (Rows.fnExactReadDeedRow.loopsOut == Tryd.f4.resultTypes.toList.any (Tryd.prog.loopsFrom ·)) && Rows.fnExactReadDeedRow.shortTexts.isNone && (Rows.fnExactReadDeedRow.kinds == (if Rows.fnExactReadDeedRow.domain.isEmpty then [] else Tryd.f4.params.toList.map fun t => match Tryd.prog.underlying t with | some (.int k) => some k | _ => none)) && (Rows.fnExactReadDeedRow.pinned == Rows.fnExactReadDeedRow.pinnedBy) && (Rows.fnExactReadDeedRow.veiled == (Tryd.f4.params.toList ++ [] ++ Tryd.f4.resultTypes.toList).any (Tryd.prog.veiledRec ·)) && Rows.fnExactReadDeedRow.veiledFits Tryd.prog Tryd.f4.params.toList (Tryd.f4.params.toList ++ [] ++ Tryd.f4.resultTypes.toList)) = true := by kernel_rfl
theorem closed_p : joinedFacts Tryd.prog 4 Tryd.f4 Rows.fnExactReadDeedSpec Rows.fnExactReadDeedRow = true := joined_of laidOut mapsRowed_p stops_p stopKnobs_p inPlace_p unfollowed_p recurses_p varsNamed_p plainKeys_p stopsHeard_p mayEnter_p lifts_p make_p rfl rest_p
theorem looks_p : true = Tryd.prog.looks [] := by kernel_rfl
end Go.Proofs.YthgnpepchedpbaaDoor
