/- Closed facts of the seat's program. -/
import Derived.Test.YtnhcoeogejgidabGreatDoorLx2
import Derived.Test.YtnhcoeogejgidabGreatDoorRows
namespace Go.Proofs.YtnhcoeogejgidabGreatDoor
open Go.ChangeShapes Go.WideShapes Go.ChangeAt Go.RowKit Go.Sx
set_option maxRecDepth 100000
theorem own : ownKnob Tryz.prog.godebug = none := by kernel_rfl
theorem laidOut : laidOutB Tryz.prog = true := by kernel_rfl
theorem mapsRowed_p : mapsRowed Tryz.prog = true := by kernel_rfl
theorem stops_p : (Tryz.prog.stops == []) = true := by kernel_rfl
theorem stopKnobs_p : (Tryz.prog.stopKnobs == []) = true := by kernel_rfl
theorem stopsHeard_p : Tryz.prog.stopsHeard = true := by kernel_rfl
theorem goes_p : Tryz.prog.funcs.any Func.goes = false := by kernel_rfl
end Go.Proofs.YtnhcoeogejgidabGreatDoor
