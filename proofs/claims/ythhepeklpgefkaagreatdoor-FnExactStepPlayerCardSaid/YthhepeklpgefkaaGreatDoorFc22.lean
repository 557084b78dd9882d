/- Lemmas. -/
import Derived.Test.YthhepeklpgefkaaGreatDoorFb22
set_option linter.unusedVariables false
set_option linter.unusedSimpArgs false
namespace Go.Proofs.YthhepeklpgefkaaGreatDoor
open Go.ChangeShapes Go.WideShapes Go.ChangeAt Go.RowKit Go.Sx
set_option maxRecDepth 100000
theorem aaT:(Rows.fnExactStepPlayerRow.inPlace==Tryz.prog.inPlace 9)=true:=by kernel_rfl
theorem Tx:(Rows.fnExactStepPlayerRow.unfollowed==Tryz.prog.unfollowed 9)=true:=by kernel_rfl
theorem Ym:(Rows.fnExactStepPlayerRow.recurses==Tryz.prog.recurses 9)=true:=by kernel_rfl
theorem W3:(Rows.fnExactStepPlayerRow.named==Tryz.prog.varsNamed 9)=true:=by kernel_rfl
theorem JX : Tryz.prog.funcNamed "loop.example/g01173/laws.FnExactStepPlayer" = some 9 := by kernel_rfl
theorem anV:(Rows.fnExactStepPlayerRow.wf (OpenSpec.ofChange Rows.fnExactStepPlayerSpec)&&Tryz.f9.params.all (Tryz.prog.readableRec ·)&&namedTie Tryz.prog Rows.fnExactStepPlayerRow.named []&&(Rows.fnExactStepPlayerRow.stops==[])&&(Rows.fnExactStepPlayerRow.knobs==[])&&(Rows.fnExactStepPlayerRow.maps==(Tryz.f9.params.toList++[]).any (Tryz.prog.mapsRec ·))&&(Rows.fnExactStepPlayerRow.ifaces==(Tryz.f9.params.toList++[]).any (Tryz.prog.ifacesRec ·))&&(Rows.fnExactStepPlayerRow.mapsOut==Tryz.prog.mapsAmong Tryz.f9.resultTypes.toList)&&(Rows.fnExactStepPlayerRow.loops==(Tryz.f9.params.toList++[]).any (Tryz.prog.loopsFrom ·))&&(Rows.fnExactStepPlayerRow.wideKeys==(Tryz.f9.params.toList++[]++Tryz.f9.resultTypes.toList).any (Tryz.prog.wideKeysFrom ·))&&Tryz.f9.resultTypes.all (λt=>Tryz.prog.readableRec t&&decide (t<Tryz.prog.types.size))&&(Rows.fnExactStepPlayerRow.ifacesOut==Tryz.f9.resultTypes.toList.any (Tryz.prog.ifacesRec ·))&&(Rows.fnExactStepPlayerRow.loopsOut==Tryz.f9.resultTypes.toList.any (Tryz.prog.loopsFrom ·))&&Rows.fnExactStepPlayerRow.shortTexts.isNone&&(Rows.fnExactStepPlayerRow.kinds==(if Rows.fnExactStepPlayerRow.domain.isEmpty then [] else Tryz.f9.params.toList.map λt=>match Tryz.prog.underlying t with | some (.int k)=>some k | _=>none))&&(Rows.fnExactStepPlayerRow.pinned==Rows.fnExactStepPlayerRow.pinnedBy)&&(Rows.fnExactStepPlayerRow.veiled==(Tryz.f9.params.toList++[]++Tryz.f9.resultTypes.toList).any (Tryz.prog.veiledRec ·))&&Rows.fnExactStepPlayerRow.veiledFits Tryz.prog Tryz.f9.params.toList (Tryz.f9.params.toList++[]++Tryz.f9.resultTypes.toList))=true:=by kernel_rfl
theorem adn:joinedFacts Tryz.prog 9 Tryz.f9 Rows.fnExactStepPlayerSpec Rows.fnExactStepPlayerRow=true:=aaZ laidOut V8 ajb VL aaT Tx Ym W3 Vm Tt XS aiq amq rfl anV
theorem ait:false=Tryz.prog.looks []:=by kernel_rfl
end Go.Proofs.YthhepeklpgefkaaGreatDoor
