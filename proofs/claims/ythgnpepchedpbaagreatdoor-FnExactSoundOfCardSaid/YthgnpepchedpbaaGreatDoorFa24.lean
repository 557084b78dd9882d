/- Lemmas. -/
import Derived.Test.YthgnpepchedpbaaGreatDoorLx1
import Derived.Test.YthgnpepchedpbaaGreatDoorRows
set_option linter.unusedVariables false
set_option linter.unusedSimpArgs false
namespace Go.Proofs.YthgnpepchedpbaaGreatDoor
open Go.ChangeShapes Go.WideShapes Go.ChangeAt Go.RowKit Go.Sx
set_option maxRecDepth 100000
theorem own:ownKnob Tryz.prog.godebug=none:=by kernel_rfl
theorem laidOut:laidOutB Tryz.prog=true:=by kernel_rfl
theorem O6:mapsRowed Tryz.prog=true:=by kernel_rfl
theorem acv:(Tryz.prog.stops==[])=true:=by kernel_rfl
theorem OW:(Tryz.prog.stopKnobs==[])=true:=by kernel_rfl
theorem M6:Tryz.prog.stopsHeard=true:=by kernel_rfl
theorem af2:Tryz.prog.funcs.any Func.goes=false:=by kernel_rfl
end Go.Proofs.YthgnpepchedpbaaGreatDoor
