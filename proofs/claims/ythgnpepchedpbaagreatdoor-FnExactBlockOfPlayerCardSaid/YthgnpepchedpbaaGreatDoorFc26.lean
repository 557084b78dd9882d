/- Lemmas. -/
import Derived.Test.YthgnpepchedpbaaGreatDoorFb26
set_option linter.unusedVariables false
set_option linter.unusedSimpArgs false
namespace Go.Proofs.YthgnpepchedpbaaGreatDoor
open Go.ChangeShapes Go.WideShapes Go.ChangeAt Go.RowKit Go.Sx
set_option maxRecDepth 100000
theorem Uh:(Rows.fnExactBlockOfPlayerRow.inPlace==Tryz.prog.inPlace 6)=true:=by kernel_rfl
theorem Mh:(Rows.fnExactBlockOfPlayerRow.unfollowed==Tryz.prog.unfollowed 6)=true:=by kernel_rfl
theorem RL:(Rows.fnExactBlockOfPlayerRow.recurses==Tryz.prog.recurses 6)=true:=by kernel_rfl
theorem Pk:(Rows.fnExactBlockOfPlayerRow.named==Tryz.prog.varsNamed 6)=true:=by kernel_rfl
theorem Ea : Tryz.prog.funcNamed "loop.example/g01173/laws.FnExactBlockOfPlayer" = some 6 := by kernel_rfl
theorem agS:(Rows.fnExactBlockOfPlayerRow.wf (OpenSpec.ofChange Rows.fnExactBlockOfPlayerSpec)&&Tryz.f6.params.all (Tryz.prog.readableRec ·)&&namedTie Tryz.prog Rows.fnExactBlockOfPlayerRow.named []&&(Rows.fnExactBlockOfPlayerRow.stops==[])&&(Rows.fnExactBlockOfPlayerRow.knobs==[])&&(Rows.fnExactBlockOfPlayerRow.maps==(Tryz.f6.params.toList++[]).any (Tryz.prog.mapsRec ·))&&(Rows.fnExactBlockOfPlayerRow.ifaces==(Tryz.f6.params.toList++[]).any (Tryz.prog.ifacesRec ·))&&(Rows.fnExactBlockOfPlayerRow.mapsOut==Tryz.prog.mapsAmong Tryz.f6.resultTypes.toList)&&(Rows.fnExactBlockOfPlayerRow.loops==(Tryz.f6.params.toList++[]).any (Tryz.prog.loopsFrom ·))&&(Rows.fnExactBlockOfPlayerRow.wideKeys==(Tryz.f6.params.toList++[]++Tryz.f6.resultTypes.toList).any (Tryz.prog.wideKeysFrom ·))&&Tryz.f6.resultTypes.all (λt=>Tryz.prog.readableRec t&&decide (t<Tryz.prog.types.size))&&(Rows.fnExactBlockOfPlayerRow.ifacesOut==Tryz.f6.resultTypes.toList.any (Tryz.prog.ifacesRec ·))&&(Rows.fnExactBlockOfPlayerRow.loopsOut==Tryz.f6.resultTypes.toList.any (Tryz.prog.loopsFrom ·))&&Rows.fnExactBlockOfPlayerRow.shortTexts.isNone&&(Rows.fnExactBlockOfPlayerRow.kinds==(if Rows.fnExactBlockOfPlayerRow.domain.isEmpty then [] else Tryz.f6.params.toList.map λt=>match Tryz.prog.underlying t with | some (.int k)=>some k | _=>none))&&(Rows.fnExactBlockOfPlayerRow.pinned==Rows.fnExactBlockOfPlayerRow.pinnedBy)&&(Rows.fnExactBlockOfPlayerRow.veiled==(Tryz.f6.params.toList++[]++Tryz.f6.resultTypes.toList).any (Tryz.prog.veiledRec ·))&&Rows.fnExactBlockOfPlayerRow.veiledFits Tryz.prog Tryz.f6.params.toList (Tryz.f6.params.toList++[]++Tryz.f6.resultTypes.toList))=true:=by kernel_rfl
theorem WC:joinedFacts Tryz.prog 6 Tryz.f6 Rows.fnExactBlockOfPlayerSpec Rows.fnExactBlockOfPlayerRow=true:=Um laidOut O6 acv OW Uh Mh RL Pk Ow M6 QW abK ag7 rfl agS
theorem abN:false=Tryz.prog.looks []:=by kernel_rfl
end Go.Proofs.YthgnpepchedpbaaGreatDoor
