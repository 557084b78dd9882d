/- Closed facts of the seat's program and the row. -/
import Derived.Test.YtnhcoeogejgidabGreatDoorFa41
namespace Go.Proofs.YtnhcoeogejgidabGreatDoor
open Go.ChangeShapes Go.WideShapes Go.ChangeAt Go.RowKit Go.Sx
set_option maxRecDepth 100000
theorem plainKeys_p : (Rows.fnCompileErrorsRow.plainKeys == Tryz.prog.plainKeys) = true := by kernel_rfl
theorem lifts_p : (Rows.fnCompileErrorsRow.lifted == Tryz.prog.liftsFinal) = true := by kernel_rfl
theorem make_p : (Tryz.prog.make == some Rows.fnCompileErrorsRow.make) = true := by kernel_rfl
theorem mayEnter_p : Tryz.prog.mayEnter = true := by kernel_rfl
end Go.Proofs.YtnhcoeogejgidabGreatDoor
