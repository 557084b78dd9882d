/- Rings and filters in the program: what the functions compute. -/
import Derived.Test.YthgnpepchedpbaaDoorLr1
import Derived.Test.YthgnpepchedpbaaDoorLp5
import Derived.Test.YthgnpepchedpbaaDoorLk0
import Derived.Test.YthgnpepchedpbaaDoorTab
set_option linter.unusedVariables false
set_option linter.unusedSimpArgs false
namespace Go.Sx
open Go.Proofs
set_option maxRecDepth 100000

theorem CALLD.mono {P : Program} {f : Value} {args : Array Value} {K K' : Value → Heap → Prop} {h : Heap} (hk : ∀ v h, K v h → K' v h) (H : CALLD P f args K h) : CALLD P f args K' h := by
  unfold CALLD at H ⊢
  split at H
  · exact CALL.mono hk H
  · exact SEMN.mono hk H
end Go.Sx
