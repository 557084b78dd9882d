/- Closed facts of the seat's program. -/
import Derived.Test.YthgnpepchedpbaaDoorLrl
import Derived.Test.YthgnpepchedpbaaDoorRows
namespace Go.Proofs.YthgnpepchedpbaaDoor
open Go.ChangeShapes Go.WideShapes Go.ChangeAt Go.RowKit Go.Sx
set_option maxRecDepth 100000
theorem own : ownKnob Tryd.prog.godebug = none := by kernel_rfl
theorem laidOut : laidOutB Tryd.prog = true := by kernel_rfl
theorem mapsRowed_p : mapsRowed Tryd.prog = true := by kernel_rfl
theorem stops_p : (Tryd.prog.stops == []) = true := by kernel_rfl
theorem stopKnobs_p : (Tryd.prog.stopKnobs == []) = true := by kernel_rfl
theorem stopsHeard_p : Tryd.prog.stopsHeard = true := by kernel_rfl
theorem goes_p : Tryd.prog.funcs.any Func.goes = false := by kernel_rfl
end Go.Proofs.YthgnpepchedpbaaDoor
