/- Data that are the same, told field by field. -/
import Derived.Test.YtnjbecdfoiiaoaaDoorLk4
import Derived.Test.YtnjbecdfoiiaoaaDoorLx0
import Derived.Test.YtnjbecdfoiiaoaaDoorLg
import Derived.Test.YtnjbecdfoiiaoaaDoorLp7
import Derived.Test.YtnjbecdfoiiaoaaDoorTab
import Derived.Test.YtnjbecdfoiiaoaaDoorLsl
import Derived.Test.YtnjbecdfoiiaoaaDoorLr1
import Derived.Test.YtnjbecdfoiiaoaaDoorLr6
set_option linter.unusedVariables false
set_option linter.unusedSimpArgs false
namespace Go.Sx
open Go.Proofs
set_option maxRecDepth 100000
set_option maxHeartbeats 1000000

theorem brN {b : Bool} {p q : Prop} (ht : b = false → p) (hf : b = true → q) : BIF (!b) p q := br (fun h => ht (nt h)) fun h => hf (nf h)
/-- A call that changes nothing, and what follows, from some earlier memory on. -/
theorem goE {P : Program} {f : FuncId} {args : Array Value} {v : Value} {h0 h : Heap} {K : Value → Heap → Prop} (E : Ext h0 h) (c : CALL P f args (fun u h' => u = v ∧ Ext h h') h) (H : ∀ h', Ext h0 h' → K v h') : CALL P f args K h :=
  c.mono fun u h' ⟨e, x⟩ => by subst e; exact H h' (E.trans x)
theorem goD {P : Program} {f : Value} {args : Array Value} {v : Value} {h0 h : Heap} {K : Value → Heap → Prop} (E : Ext h0 h) (c : CALLD P f args (fun u h' => u = v ∧ Ext h h') h) (H : ∀ h', Ext h0 h' → K v h') : CALLD P f args K h :=
  CALLD.mono (fun u h' ⟨e, x⟩ => by subst e; exact H h' (E.trans x)) c
end Go.Sx
