/- The absolute value of a float32 by way of float64: the same as the sign taken away. -/
import Derived.Test.YthgnpepchedpbaaDoorLp3
set_option linter.unusedVariables false
set_option linter.unusedSimpArgs false
namespace Go.Sx
open Ieee

def fabs (a : Nat) : Nat := cn .f32 (a % 2 ^ 31)
end Go.Sx
