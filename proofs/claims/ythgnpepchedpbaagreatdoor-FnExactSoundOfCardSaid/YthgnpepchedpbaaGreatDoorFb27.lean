/- Lemmas. -/
import Derived.Test.YthgnpepchedpbaaGreatDoorFa24
set_option linter.unusedVariables false
set_option linter.unusedSimpArgs false
namespace Go.Proofs.YthgnpepchedpbaaGreatDoor
open Go.ChangeShapes Go.WideShapes Go.ChangeAt Go.RowKit Go.Sx
set_option maxRecDepth 100000
theorem Ow:(Rows.fnExactSoundOfRow.plainKeys==Tryz.prog.plainKeys)=true:=by kernel_rfl
theorem abK:(Rows.fnExactSoundOfRow.lifted==Tryz.prog.liftsFinal)=true:=by kernel_rfl
theorem ag7:(Tryz.prog.make==some Rows.fnExactSoundOfRow.make)=true:=by kernel_rfl
theorem QW:Tryz.prog.mayEnter=true:=by kernel_rfl
end Go.Proofs.YthgnpepchedpbaaGreatDoor
