/- What several structs' contracts have in common: slices of floats made, pairs answered, lists changed place by place. -/
import Derived.Test.YthgnpepchedpbaaDoorLk4
import Derived.Test.YthgnpepchedpbaaDoorLp7
set_option linter.unusedVariables false
set_option linter.unusedSimpArgs false
namespace Go.Sx
open Go.Proofs
set_option maxRecDepth 100000

/-- A pair of a value and a code, told by a call. -/
def PairR {α : Type} (r : Rep α) (h h' : Heap) (u : Value) (a : α) (code : Int) : Prop := ∃ cs B, u = .tuple ⟨[.agg cs, .int .i64 code]⟩ ∧ r.ow B cs.toList a ∧ Mem h h' B
end Go.Sx
