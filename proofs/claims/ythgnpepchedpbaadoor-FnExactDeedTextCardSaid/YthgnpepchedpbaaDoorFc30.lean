/- Closed facts of the row. -/
import Derived.Test.YthgnpepchedpbaaDoorFb30
namespace Go.Proofs.YthgnpepchedpbaaDoor
open Go.ChangeShapes Go.WideShapes Go.ChangeAt Go.RowKit Go.Sx
set_option maxRecDepth 100000
theorem inPlace_p : (Rows.fnExactDeedTextRow.inPlace == Tryd.prog.inPlace 3) = true := by kernel_rfl
theorem unfollowed_p : (Rows.fnExactDeedTextRow.unfollowed == Tryd.prog.unfollowed 3) = true := by kernel_rfl
theorem recurses_p : (Rows.fnExactDeedTextRow.recurses == Tryd.prog.recurses 3) = true := by kernel_rfl
theorem varsNamed_p : (Rows.fnExactDeedTextRow.named == Tryd.prog.varsNamed 3) = true := by kernel_rfl
theorem funcNamed_p : Tryd.prog.funcNamed "loop.example/g01173/laws.FnExactDeedText" = some 3 := by kernel_rfl
theorem rest_p : (Rows.fnExactDeedTextRow.wf (OpenSpec.ofChange Rows.fnExactDeedTextSpec) && Tryd.f3.params.all (Tryd.prog.readableRec ·) && namedTie Tryd.prog Rows.fnExactDeedTextRow.named [] && (Rows.fnExactDeedTextRow.stops == []) && (Rows.fnExactDeedTextRow.knobs == []) && (Rows.fnExactDeedTextRow.maps == (Tryd.f3.params.toList ++ []).any (Tryd.prog.mapsRec ·)) && (Rows.fnExactDeedTextRow.ifaces == (Tryd.f3.params.toList ++ []).any (Tryd.prog.ifacesRec ·)) && (Rows.fnExactDeedTextRow.mapsOut == Tryd.prog.mapsAmong Tryd.f3.resultTypes.toList) && (Rows.fnExactDeedTextRow.loops == (Tryd.f3.params.toList ++ []).any (Tryd.prog.loopsFrom ·)) && (Rows.fnExactDeedTextRow.wideKeys == (Tryd.f3.params.toList ++ [] ++ Tryd.f3.resultTypes.toList).any (Tryd.prog.wideKeysFrom ·)) && Tryd.f3.resultTypes.all (fun t => Tryd.prog.readableRec t && decide (t < Tryd.prog.types.size)) && (Rows.fnExactDeedTextRow.ifacesOut == Tryd.f3.resultTypes.toList.any (Tryd.prog.ifacesRec ·)) && (Rows.fnExactDeedTextRow.loopsOut == Tryd.f3.resultTypes.toList.any (Tryd.prog.loopsFrom ·)) && Rows.fnExactDeedTextRow.shortTexts.isNone && (Rows.fnExactDeedTextRow.kinds == (if Rows.fnExactDeedTextRow.domain.isEmpty then [] else Tryd.f3.params.toList.map fun t => match Tryd.prog.underlying t with | some (.int k) => some k | _ => none)) && (Rows.fnExactDeedTextRow.pinned == Rows.fnExactDeedTextRow.pinnedBy) && (Rows.fnExactDeedTextRow.veiled == (Tryd.f3.params.toList ++ [] ++ Tryd.f3.resultTypes.toList).any (Tryd.prog.veiledRec ·)) && Rows.fnExactDeedTextRow.veiledFits Tryd.prog Tryd.f3.params.toList (Tryd.f3.params.toList ++ [] ++ Tryd.f3.resultTypes.toList)) = true := by kernel_rfl
theorem closed_p : joinedFacts Tryd.prog 3 Tryd.f3 Rows.fnExactDeedTextSpec Rows.fnExactDeedTextRow = true := joined_of laidOut mapsRowed_p stops_p stopKnobs_p inPlace_p unfollowed_p recurses_p varsNamed_p plainKeys_p stopsHeard_p mayEnter_p lifts_p make_p rfl rest_p
theorem looks_p : true = Tryd.prog.looks [] := by kernel_rfl
end Go.Proofs.YthgnpepchedpbaaDoor
