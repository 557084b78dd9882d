/- Lemmas. -/
import Derived.Test.YthgnpepchedpbaaGreatDoorFb25
set_option linter.unusedVariables false
set_option linter.unusedSimpArgs false
namespace Go.Proofs.YthgnpepchedpbaaGreatDoor
open Go.ChangeShapes Go.WideShapes Go.ChangeAt Go.RowKit Go.Sx
set_option maxRecDepth 100000
theorem Uh:(Rows.fnExactPlaySamplesRow.inPlace==Tryz.prog.inPlace 5)=true:=by kernel_rfl
theorem Mh:(Rows.fnExactPlaySamplesRow.unfollowed==Tryz.prog.unfollowed 5)=true:=by kernel_rfl
theorem RL:(Rows.fnExactPlaySamplesRow.recurses==Tryz.prog.recurses 5)=true:=by kernel_rfl
theorem Pk:(Rows.fnExactPlaySamplesRow.named==Tryz.prog.varsNamed 5)=true:=by kernel_rfl
theorem Ea : Tryz.prog.funcNamed "loop.example/g01173/laws.FnExactPlaySamples" = some 5 := by kernel_rfl
theorem agS:(Rows.fnExactPlaySamplesRow.wf (OpenSpec.ofChange Rows.fnExactPlaySamplesSpec)&&Tryz.f5.params.all (Tryz.prog.readableRec ·)&&namedTie Tryz.prog Rows.fnExactPlaySamplesRow.named []&&(Rows.fnExactPlaySamplesRow.stops==[])&&(Rows.fnExactPlaySamplesRow.knobs==[])&&(Rows.fnExactPlaySamplesRow.maps==(Tryz.f5.params.toList++[]).any (Tryz.prog.mapsRec ·))&&(Rows.fnExactPlaySamplesRow.ifaces==(Tryz.f5.params.toList++[]).any (Tryz.prog.ifacesRec ·))&&(Rows.fnExactPlaySamplesRow.mapsOut==Tryz.prog.mapsAmong Tryz.f5.resultTypes.toList)&&(Rows.fnExactPlaySamplesRow.loops==(Tryz.f5.params.toList++[]).any (Tryz.prog.loopsFrom ·))&&(Rows.fnExactPlaySamplesRow.wideKeys==(Tryz.f5.params.toList++[]++Tryz.f5.resultTypes.toList).any (Tryz.prog.wideKeysFrom ·))&&Tryz.f5.resultTypes.all (λt=>Tryz.prog.readableRec t&&decide (t<Tryz.prog.types.size))&&(Rows.fnExactPlaySamplesRow.ifacesOut==Tryz.f5.resultTypes.toList.any (Tryz.prog.ifacesRec ·))&&(Rows.fnExactPlaySamplesRow.loopsOut==Tryz.f5.resultTypes.toList.any (Tryz.prog.loopsFrom ·))&&Rows.fnExactPlaySamplesRow.shortTexts.isNone&&(Rows.fnExactPlaySamplesRow.kinds==(if Rows.fnExactPlaySamplesRow.domain.isEmpty then [] else Tryz.f5.params.toList.map λt=>match Tryz.prog.underlying t with | some (.int k)=>some k | _=>none))&&(Rows.fnExactPlaySamplesRow.pinned==Rows.fnExactPlaySamplesRow.pinnedBy)&&(Rows.fnExactPlaySamplesRow.veiled==(Tryz.f5.params.toList++[]++Tryz.f5.resultTypes.toList).any (Tryz.prog.veiledRec ·))&&Rows.fnExactPlaySamplesRow.veiledFits Tryz.prog Tryz.f5.params.toList (Tryz.f5.params.toList++[]++Tryz.f5.resultTypes.toList))=true:=by kernel_rfl
theorem WC:joinedFacts Tryz.prog 5 Tryz.f5 Rows.fnExactPlaySamplesSpec Rows.fnExactPlaySamplesRow=true:=Um laidOut O6 acv OW Uh Mh RL Pk Ow M6 QW abK ag7 rfl agS
theorem abN:false=Tryz.prog.looks []:=by kernel_rfl
end Go.Proofs.YthgnpepchedpbaaGreatDoor
