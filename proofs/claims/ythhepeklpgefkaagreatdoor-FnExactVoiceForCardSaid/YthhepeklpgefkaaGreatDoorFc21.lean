/- Closed facts of the row. -/
import Derived.Test.YthhepeklpgefkaaGreatDoorFb21
namespace Go.Proofs.YthhepeklpgefkaaGreatDoor
open Go.ChangeShapes Go.WideShapes Go.ChangeAt Go.RowKit Go.Sx
set_option maxRecDepth 100000
theorem inPlace_p : (Rows.fnExactVoiceForRow.inPlace == Tryz.prog.inPlace 5) = true := by kernel_rfl
theorem unfollowed_p : (Rows.fnExactVoiceForRow.unfollowed == Tryz.prog.unfollowed 5) = true := by kernel_rfl
theorem recurses_p : (Rows.fnExactVoiceForRow.recurses == Tryz.prog.recurses 5) = true := by kernel_rfl
theorem varsNamed_p : (Rows.fnExactVoiceForRow.named == Tryz.prog.varsNamed 5) = true := by kernel_rfl
theorem funcNamed_p : Tryz.prog.funcNamed "loop.example/g01173/laws.FnExactVoiceFor" = some 5 := by kernel_rfl
theorem rest_p : (Rows.fnExactVoiceForRow.wf (OpenSpec.ofChange Rows.fnExactVoiceForSpec) && Tryz.f5.params.all (Tryz.prog.readableRec ·) && namedTie Tryz.prog Rows.fnExactVoiceForRow.named [] && (Rows.fnExactVoiceForRow.stops == []) && (Rows.fnExactVoiceForRow.knobs == []) && (Rows.fnExactVoiceForRow.maps == (Tryz.f5.params.toList ++ []).any (Tryz.prog.mapsRec ·)) && (Rows.fnExactVoiceForRow.ifaces == (Tryz.f5.params.toList ++ []).any (Tryz.prog.ifacesRec ·)) && (Rows.fnExactVoiceForRow.mapsOut == Tryz.prog.mapsAmong Tryz.f5.resultTypes.toList) && (Rows.fnExactVoiceForRow.loops == (Tryz.f5.params.toList ++ []).any (Tryz.prog.loopsFrom ·)) && (Rows.fnExactVoiceForRow.wideKeys == (Tryz.f5.params.toList ++ [] ++ Tryz.f5.resultTypes.toList).any (Tryz.prog.wideKeysFrom ·)) && Tryz.f5.resultTypes.all (fun t => Tryz.prog.readableRec t && decide (t < Tryz.prog.types.size)) && (Rows.fnExactVoiceForRow.ifacesOut == Tryz.f5.resultTypes.toList.any (Tryz.prog.ifacesRec ·)) && (Rows.fnExactVoiceForRow.loopsOut == Tryz.f5.resultTypes.toList.any (Tryz.prog.loopsFrom ·)) && Rows.fnExactVoiceForRow.shortTexts.isNone && (Rows.fnExactVoiceForRow.kinds == (if Rows.fnExactVoiceForRow.domain.isEmpty then [] else Tryz.f5.params.toList.map fun t => match Tryz.prog.underlying t with | some (.int k) => some k | _ => none)) && (Rows.fnExactVoiceForRow.pinned == Rows.fnExactVoiceForRow.pinnedBy) && (Rows.fnExactVoiceForRow.veiled == (Tryz.f5.params.toList ++ [] ++ Tryz.f5.resultTypes.toList).any (Tryz.prog.veiledRec ·)) && Rows.fnExactVoiceForRow.veiledFits Tryz.prog Tryz.f5.params.toList (Tryz.f5.params.toList ++ [] ++ Tryz.f5.resultTypes.toList)) = true := by kernel_rfl
theorem closed_p : joinedFacts Tryz.prog 5 Tryz.f5 Rows.fnExactVoiceForSpec Rows.fnExactVoiceForRow = true := joined_of laidOut mapsRowed_p stops_p stopKnobs_p inPlace_p unfollowed_p recurses_p varsNamed_p plainKeys_p stopsHeard_p mayEnter_p lifts_p make_p rfl rest_p
theorem looks_p : false = Tryz.prog.looks [] := by kernel_rfl
end Go.Proofs.YthhepeklpgefkaaGreatDoor
