/- Closed facts of the seat's program and the row. -/
import Derived.Test.YthgnpepchedpbaaDoorFa30
namespace Go.Proofs.YthgnpepchedpbaaDoor
open Go.ChangeShapes Go.WideShapes Go.ChangeAt Go.RowKit Go.Sx
set_option maxRecDepth 100000
theorem plainKeys_p : (Rows.fnExactReadDeedRow.plainKeys == Tryd.prog.plainKeys) = true := by kernel_rfl
theorem lifts_p : (Rows.fnExactReadDeedRow.lifted == Tryd.prog.liftsFinal) = true := by kernel_rfl
theorem make_p : (Tryd.prog.make == some Rows.fnExactReadDeedRow.make) = true := by kernel_rfl
theorem mayEnter_p : Tryd.prog.mayEnter = true := by kernel_rfl
end Go.Proofs.YthgnpepchedpbaaDoor
