/- Lemmas. -/
import Derived.Test.YthgnpepchedpbaaGreatDoorFb24
set_option linter.unusedVariables false
set_option linter.unusedSimpArgs false
namespace Go.Proofs.YthgnpepchedpbaaGreatDoor
open Go.ChangeShapes Go.WideShapes Go.ChangeAt Go.RowKit Go.Sx
set_option maxRecDepth 100000
theorem Uh:(Rows.fnExactPlayerAtRow.inPlace==Tryz.prog.inPlace 4)=true:=by kernel_rfl
theorem Mh:(Rows.fnExactPlayerAtRow.unfollowed==Tryz.prog.unfollowed 4)=true:=by kernel_rfl
theorem RL:(Rows.fnExactPlayerAtRow.recurses==Tryz.prog.recurses 4)=true:=by kernel_rfl
theorem Pk:(Rows.fnExactPlayerAtRow.named==Tryz.prog.varsNamed 4)=true:=by kernel_rfl
theorem Ea : Tryz.prog.funcNamed "loop.example/g01173/laws.FnExactPlayerAt" = some 4 := by kernel_rfl
theorem agS:(Rows.fnExactPlayerAtRow.wf (OpenSpec.ofChange Rows.fnExactPlayerAtSpec)&&Tryz.f4.params.all (Tryz.prog.readableRec ·)&&namedTie Tryz.prog Rows.fnExactPlayerAtRow.named []&&(Rows.fnExactPlayerAtRow.stops==[])&&(Rows.fnExactPlayerAtRow.knobs==[])&&(Rows.fnExactPlayerAtRow.maps==(Tryz.f4.params.toList++[]).any (Tryz.prog.mapsRec ·))&&(Rows.fnExactPlayerAtRow.ifaces==(Tryz.f4.params.toList++[]).any (Tryz.prog.ifacesRec ·))&&(Rows.fnExactPlayerAtRow.mapsOut==Tryz.prog.mapsAmong Tryz.f4.resultTypes.toList)&&(Rows.fnExactPlayerAtRow.loops==(Tryz.f4.params.toList++[]).any (Tryz.prog.loopsFrom ·))&&(Rows.fnExactPlayerAtRow.wideKeys==(Tryz.f4.params.toList++[]++Tryz.f4.resultTypes.toList).any (Tryz.prog.wideKeysFrom ·))&&Tryz.f4.resultTypes.all (λt=>Tryz.prog.readableRec t&&decide (t<Tryz.prog.types.size))&&(Rows.fnExactPlayerAtRow.ifacesOut==Tryz.f4.resultTypes.toList.any (Tryz.prog.ifacesRec ·))&&(Rows.fnExactPlayerAtRow.loopsOut==Tryz.f4.resultTypes.toList.any (Tryz.prog.loopsFrom ·))&&Rows.fnExactPlayerAtRow.shortTexts.isNone&&(Rows.fnExactPlayerAtRow.kinds==(if Rows.fnExactPlayerAtRow.domain.isEmpty then [] else Tryz.f4.params.toList.map λt=>match Tryz.prog.underlying t with | some (.int k)=>some k | _=>none))&&(Rows.fnExactPlayerAtRow.pinned==Rows.fnExactPlayerAtRow.pinnedBy)&&(Rows.fnExactPlayerAtRow.veiled==(Tryz.f4.params.toList++[]++Tryz.f4.resultTypes.toList).any (Tryz.prog.veiledRec ·))&&Rows.fnExactPlayerAtRow.veiledFits Tryz.prog Tryz.f4.params.toList (Tryz.f4.params.toList++[]++Tryz.f4.resultTypes.toList))=true:=by kernel_rfl
theorem WC:joinedFacts Tryz.prog 4 Tryz.f4 Rows.fnExactPlayerAtSpec Rows.fnExactPlayerAtRow=true:=Um laidOut O6 acv OW Uh Mh RL Pk Ow M6 QW abK ag7 rfl agS
theorem abN:false=Tryz.prog.looks []:=by kernel_rfl
end Go.Proofs.YthgnpepchedpbaaGreatDoor
