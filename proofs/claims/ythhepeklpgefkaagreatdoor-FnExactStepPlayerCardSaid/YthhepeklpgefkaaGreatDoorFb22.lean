/- Lemmas. -/
import Derived.Test.YthhepeklpgefkaaGreatDoorFa22
set_option linter.unusedVariables false
set_option linter.unusedSimpArgs false
namespace Go.Proofs.YthhepeklpgefkaaGreatDoor
open Go.ChangeShapes Go.WideShapes Go.ChangeAt Go.RowKit Go.Sx
set_option maxRecDepth 100000
theorem Vm:(Rows.fnExactStepPlayerRow.plainKeys==Tryz.prog.plainKeys)=true:=by kernel_rfl
theorem aiq:(Rows.fnExactStepPlayerRow.lifted==Tryz.prog.liftsFinal)=true:=by kernel_rfl
theorem amq:(Tryz.prog.make==some Rows.fnExactStepPlayerRow.make)=true:=by kernel_rfl
theorem XS:Tryz.prog.mayEnter=true:=by kernel_rfl
end Go.Proofs.YthhepeklpgefkaaGreatDoor
