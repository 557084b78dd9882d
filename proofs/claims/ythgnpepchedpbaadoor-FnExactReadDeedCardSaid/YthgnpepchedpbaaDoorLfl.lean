/- Floats: words up to which NaN they are. -/
import Derived.Test.YthgnpepchedpbaaDoorLsl
import Derived.Laws.FloatBits
namespace Go.Sx
open Ieee
set_option linter.unusedVariables false
set_option linter.unusedSimpArgs false

def nan (k : FloatKind) (x : Nat) : Bool := (k.format.read x).isNaN
def qn : FloatKind → Nat | .f32 => 2143289344 | .f64 => 9221120237041090561
/-- The word, or one NaN for all. -/
def cn (k : FloatKind) (x : Nat) : Nat := if nan k x then qn k else x
theorem nan_qn (k : FloatKind) : nan k (qn k) = true := by cases k <;> decide +kernel
theorem nan_canon (k : FloatKind) (x : Nat) : nan k (cn k x) = nan k x := by
  unfold cn
  split
  · next h => rw [nan_qn, h]
  · rfl
end Go.Sx
