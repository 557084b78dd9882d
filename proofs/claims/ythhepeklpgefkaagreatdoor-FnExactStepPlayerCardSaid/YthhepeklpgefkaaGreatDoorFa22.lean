/- Lemmas. -/
import Derived.Test.YthhepeklpgefkaaGreatDoorLx1
import Derived.Test.YthhepeklpgefkaaGreatDoorRows
set_option linter.unusedVariables false
set_option linter.unusedSimpArgs false
namespace Go.Proofs.YthhepeklpgefkaaGreatDoor
open Go.ChangeShapes Go.WideShapes Go.ChangeAt Go.RowKit Go.Sx
set_option maxRecDepth 100000
theorem own:ownKnob Tryz.prog.godebug=none:=by kernel_rfl
theorem laidOut:laidOutB Tryz.prog=true:=by kernel_rfl
theorem V8:mapsRowed Tryz.prog=true:=by kernel_rfl
theorem ajb:(Tryz.prog.stops==[])=true:=by kernel_rfl
theorem VL:(Tryz.prog.stopKnobs==[])=true:=by kernel_rfl
theorem Tt:Tryz.prog.stopsHeard=true:=by kernel_rfl
theorem als:Tryz.prog.funcs.any Func.goes=false:=by kernel_rfl
end Go.Proofs.YthhepeklpgefkaaGreatDoor
