/- Lemmas. -/
import Derived.Test.YthgnpepchedpbaaGreatDoorFb27
set_option linter.unusedVariables false
set_option linter.unusedSimpArgs false
namespace Go.Proofs.YthgnpepchedpbaaGreatDoor
open Go.ChangeShapes Go.WideShapes Go.ChangeAt Go.RowKit Go.Sx
set_option maxRecDepth 100000
theorem Uh:(Rows.fnExactSoundOfRow.inPlace==Tryz.prog.inPlace 3)=true:=by kernel_rfl
theorem Mh:(Rows.fnExactSoundOfRow.unfollowed==Tryz.prog.unfollowed 3)=true:=by kernel_rfl
theorem RL:(Rows.fnExactSoundOfRow.recurses==Tryz.prog.recurses 3)=true:=by kernel_rfl
theorem Pk:(Rows.fnExactSoundOfRow.named==Tryz.prog.varsNamed 3)=true:=by kernel_rfl
theorem Ea : Tryz.prog.funcNamed "loop.example/g01173/laws.FnExactSoundOf" = some 3 := by kernel_rfl
theorem agS:(Rows.fnExactSoundOfRow.wf (OpenSpec.ofChange Rows.fnExactSoundOfSpec)&&Tryz.f3.params.all (Tryz.prog.readableRec ·)&&namedTie Tryz.prog Rows.fnExactSoundOfRow.named []&&(Rows.fnExactSoundOfRow.stops==[])&&(Rows.fnExactSoundOfRow.knobs==[])&&(Rows.fnExactSoundOfRow.maps==(Tryz.f3.params.toList++[]).any (Tryz.prog.mapsRec ·))&&(Rows.fnExactSoundOfRow.ifaces==(Tryz.f3.params.toList++[]).any (Tryz.prog.ifacesRec ·))&&(Rows.fnExactSoundOfRow.mapsOut==Tryz.prog.mapsAmong Tryz.f3.resultTypes.toList)&&(Rows.fnExactSoundOfRow.loops==(Tryz.f3.params.toList++[]).any (Tryz.prog.loopsFrom ·))&&(Rows.fnExactSoundOfRow.wideKeys==(Tryz.f3.params.toList++[]++Tryz.f3.resultTypes.toList).any (Tryz.prog.wideKeysFrom ·))&&Tryz.f3.resultTypes.all (λt=>Tryz.prog.readableRec t&&decide (t<Tryz.prog.types.size))&&(Rows.fnExactSoundOfRow.ifacesOut==Tryz.f3.resultTypes.toList.any (Tryz.prog.ifacesRec ·))&&(Rows.fnExactSoundOfRow.loopsOut==Tryz.f3.resultTypes.toList.any (Tryz.prog.loopsFrom ·))&&Rows.fnExactSoundOfRow.shortTexts.isNone&&(Rows.fnExactSoundOfRow.kinds==(if Rows.fnExactSoundOfRow.domain.isEmpty then [] else Tryz.f3.params.toList.map λt=>match Tryz.prog.underlying t with | some (.int k)=>some k | _=>none))&&(Rows.fnExactSoundOfRow.pinned==Rows.fnExactSoundOfRow.pinnedBy)&&(Rows.fnExactSoundOfRow.veiled==(Tryz.f3.params.toList++[]++Tryz.f3.resultTypes.toList).any (Tryz.prog.veiledRec ·))&&Rows.fnExactSoundOfRow.veiledFits Tryz.prog Tryz.f3.params.toList (Tryz.f3.params.toList++[]++Tryz.f3.resultTypes.toList))=true:=by kernel_rfl
theorem WC:joinedFacts Tryz.prog 3 Tryz.f3 Rows.fnExactSoundOfSpec Rows.fnExactSoundOfRow=true:=Um laidOut O6 acv OW Uh Mh RL Pk Ow M6 QW abK ag7 rfl agS
theorem abN:false=Tryz.prog.looks []:=by kernel_rfl
end Go.Proofs.YthgnpepchedpbaaGreatDoor
