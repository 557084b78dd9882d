/- From what a law's call answers, in these words, to the given row: any law of plain data that answers true and leaves its arguments alone. -/
import Derived.Test.YthgnpepchedpbaaDoorLx2
import Derived.WalkKit
import Derived.ProofKit
import Derived.OpenShut
import Derived.ShutString
import Derived.ChangeOld
import Derived.Below
import Derived.Carry
import Derived.SizedLaws
import Derived.Laws.Cover2
namespace Go.Sx
open Go.ChangeShapes Go.WideShapes Go.ChangeAt Go.RowKit
set_option linter.unusedVariables false

theorem calls_of_CALL {P : Program} {f : FuncId} {fn : Func} {args : Array Value} {K : Value → Heap → Prop} {W : World} (hf : P.funcs[f]? = some fn) (hb : fn.body.isNone = false)
    (hn : (fn.name == "runtime.NumGoroutine") = false) (H : CALL P f args K W.heap) : Calls P f args W fun e w'' => ∃ v, e = .returned v ∧ Same W w'' ∧ K v w''.heap := by
  have h := H W rfl
  have hrun : (callFunc f args).run P W = .ok (.enter f args) W := by
    unfold callFunc
    simp only [Sem.run_bind, run_program, Result.andThen_ok, hf, hn, hb, Bool.false_eq_true, if_false]
    rfl
  rw [hrun] at h
  exact h
theorem below_of {W W' : World} (h : Same W W') (x : Ext W.heap W'.heap) : Below W.heap.size W W' := ⟨h.os, h.tape, h.output, x.le, x.eq⟩

section
variable {H : Type} {enc : TypeId × Value → H} {P : Program} {W W' : World}
theorem trodAll_back (hl : laidOutB P = true) (hb : Below W.heap.size W W') : ∀ {ts : List TypeId} {vs : List Value} {ds : List (DataW H)} {p : List MemPlace},
    (∀ t ∈ ts, P.readableRec t = true ∧ t < P.types.size) → DataW.TrodAll enc P W 0 (fun _ => true) true ts vs ds p →
    DataW.TrodAll enc P W' 0 (fun b => decide (b < W.heap.size)) true ts vs ds p := by
  intro ts
  induction ts with
  | nil => intro vs ds p _ h; obtain ⟨rfl, rfl, rfl⟩ := trodAll_nil h; exact rfl
  | cons t ts ih =>
    intro vs ds p hr h
    obtain ⟨v, vs', d, ds', p1, p2, rfl, rfl, rfl, h1, h2⟩ := trodAll_cons h
    have hlt : ∀ x ∈ p1, x.block < W.heap.size := by obtain ⟨m, hm⟩ := h1; exact DataW.trod_lt m _ _ _ hm
    exact ⟨p1, p2, Below.trod hl (hr t (.head _)).1 (hr t (.head _)).2 h1 hb hlt, ih (fun t ht => hr t (.tail _ ht)) h2, rfl⟩
theorem trodAll_length : ∀ {ts : List TypeId} {vs : List Value} {ds : List (DataW H)} {p : List MemPlace} {b : Nat} {sp : Nat → Bool} {hd : Bool}, DataW.TrodAll enc P W b sp hd ts vs ds p → ds.length = ts.length := by
  intro ts
  induction ts with
  | nil => intro vs ds p b sp hd h; obtain ⟨rfl, rfl, rfl⟩ := trodAll_nil h; rfl
  | cons t ts ih => intro vs ds p b sp hd h; obtain ⟨v, vs', d, ds', p1, p2, rfl, rfl, rfl, h1, h2⟩ := trodAll_cons h; simp [ih h2]
end

section
variable {H : Type} {enc : TypeId × Value → H} {P : Program} {w : World} {base : Nat} {spare : Nat → Bool} {held : Bool}
theorem list_choose {α β : Type} {g : β → α} {Q : β → Prop} : ∀ {l : List α} {n : Nat}, l.length = n → (∀ i, i < n → ∃ b, l[i]? = some (g b) ∧ Q b) → ∃ bs : List β, l = bs.map g ∧ bs.length = n ∧ ∀ x ∈ bs, Q x := by
  intro l
  induction l with
  | nil => intro n hn _; exact ⟨[], rfl, hn, fun x hx => nomatch hx⟩
  | cons a l ih =>
    intro n hn h
    subst hn
    obtain ⟨b, h1, h2⟩ := h 0 (by simp)
    obtain ⟨bs, h3, h4, h5⟩ := ih rfl (fun i hi => by simpa using h (i + 1) (by simp; omega))
    refine ⟨b :: bs, ?_, by simp [h4], fun x hx => ?_⟩
    · simp only [List.getElem?_cons_zero, Option.some.injEq] at h1
      rw [h1, h3]; rfl
    · cases hx with
      | head => exact h2
      | tail _ hx => exact h5 x hx
end
end Go.Sx
