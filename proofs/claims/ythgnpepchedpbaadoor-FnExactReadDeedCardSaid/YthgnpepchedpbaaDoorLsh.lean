/- Contracts of the kit's shelf, taken as calls of ours. -/
import Derived.Test.YthgnpepchedpbaaDoorLx1
import Derived.Sort.Grow
import Derived.Deep.Draws
set_option linter.unusedVariables false
namespace Go.Sx

/-- A call whose contract tells a value and new blocks alone. -/
theorem CALL_of_calls {P : Program} {f : FuncId} {fn : Func} {args : Array Value} {K : Value → Heap → Prop} {h : Heap} (hf : P.funcs[f]? = some fn) (hb : fn.body.isNone = false) (hn : (fn.name == "runtime.NumGoroutine") = false)
    (c : ∀ w : World, w.heap = h → Calls P f args w fun e w' => ∃ v, e = .returned v ∧ Same w w' ∧ K v w'.heap) : CALL P f args K h := by
  intro w hw
  have hrun : (callFunc f args).run P w = .ok (.enter f args) w := by
    unfold callFunc
    simp only [Sem.run_bind, run_program, Result.andThen_ok, hf, hn, hb, Bool.false_eq_true, if_false]
    rfl
  rw [hrun]
  exact c w hw
theorem grow_same (w : World) (k : Nat) (os : Array Obj) : Same w (Sort.grow (w.drewN k) os) := ⟨rfl, rfl, rfl⟩
theorem grow_ext (w : World) (k : Nat) (os : Array Obj) : Ext w.heap (Sort.grow (w.drewN k) os).heap := by
  show Ext w.heap (w.heap ++ os)
  refine ⟨by simp, fun i hi => ?_⟩
  rw [Array.getElem?_append_left hi]
end Go.Sx
