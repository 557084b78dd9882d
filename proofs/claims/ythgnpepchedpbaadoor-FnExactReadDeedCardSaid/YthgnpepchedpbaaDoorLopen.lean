/- Arguments opened: what a given argument's cells hold, out of the reading that the row gives. -/
import Derived.Test.YthgnpepchedpbaaDoorLrow
namespace Go.Sx
open Go.ChangeShapes Go.WideShapes Go.ChangeAt Go.RowKit
set_option linter.unusedVariables false

section
variable {H : Type} {enc : TypeId × Value → H} {P : Program} {w : World} {base : Nat} {spare : Nat → Bool} {held : Bool}
/-- One cell of a type, read. -/
def Leaf (enc : TypeId × Value → H) (P : Program) (w : World) (base : Nat) (spare : Nat → Bool) (held : Bool) (t : TypeId) (v : Value) : Prop := ∃ m y, DataW.trod enc P w base spare held m t [v] = some y
def All2 (enc : TypeId × Value → H) (P : Program) (w : World) (base : Nat) (spare : Nat → Bool) (held : Bool) : List TypeId → List Value → Prop
  | [], [] => True
  | t :: ts, v :: vs => Leaf enc P w base spare held t v ∧ All2 enc P w base spare held ts vs
  | _, _ => False
theorem All2.append : ∀ {l1 : List TypeId} {c1 : List Value} {l2 : List TypeId} {c2 : List Value}, All2 enc P w base spare held l1 c1 → All2 enc P w base spare held l2 c2 → All2 enc P w base spare held (l1 ++ l2) (c1 ++ c2)
  | [], [], _, _, _, h => h
  | [], _ :: _, _, _, h, _ => h.elim
  | _ :: _, [], _, _, h, _ => h.elim
  | t :: ts, v :: vs, _, _, h, k => ⟨h.1, All2.append h.2 k⟩
theorem leaf_float {t : TypeId} {k : FloatKind} {v : Value} (ht : P.underlying t = some (.float k)) (h : Leaf enc P w base spare held t v) : ∃ n, v = .float k n ∧ (Lit.float k n).wf = true := by
  obtain ⟨m, y, h⟩ := h
  cases m with
  | zero => simp [DataW.trod] at h
  | succ m =>
    unfold DataW.trod at h
    rw [ht] at h
    split at h <;> simp_all
/-- A slice's cells as values. -/
structure Slc (enc : TypeId × Value → H) (P : Program) (w : World) (base : Nat) (spare : Nat → Bool) (held : Bool) (e : TypeId) (b : Option Addr) (l c : Nat) (vs : List Value) : Prop where
  le : l ≤ c
  max : c ≤ maxLen
  len : vs.length = l * P.cellsOf e
  cells : ∀ i, i < vs.length → ∃ a, b = some a ∧ cell w.heap (a.add i) = vs[i]?
  elems : ∀ i, i < l → ∃ m y, DataW.trod enc P w base spare held m e ((vs.drop (i * P.cellsOf e)).take (P.cellsOf e)) = some y
theorem All2.floats {k : FloatKind} : ∀ {ls : List TypeId} {cs : List Value}, (∀ t ∈ ls, P.underlying t = some (.float k)) → All2 enc P w base spare held ls cs → ∃ zs : List Nat, cs = zs.map (.float k) ∧ zs.length = ls.length ∧ ∀ n ∈ zs, (Lit.float k n).wf = true
  | [], [], _, _ => ⟨[], rfl, rfl, fun _ h => nomatch h⟩
  | [], _ :: _, _, h => h.elim
  | _ :: _, [], _, h => h.elim
  | t :: ts, v :: vs, ht, h => by
    obtain ⟨n, rfl, hn⟩ := leaf_float (ht t (.head _)) h.1
    obtain ⟨zs, rfl, hl, hz⟩ := All2.floats (fun t h => ht t (.tail _ h)) h.2
    refine ⟨n :: zs, rfl, by simp [hl], fun x hx => ?_⟩
    cases hx with
    | head => exact hn
    | tail _ hx => exact hz x hx
theorem Slc.floats {e : TypeId} {k : FloatKind} {b : Option Addr} {l c : Nat} {vs : List Value} (he : P.underlying e = some (.float k)) (hc : P.cellsOf e = 1) (S : Slc enc P w base spare held e b l c vs) :
    ∃ xs : List Nat, vs = xs.map (.float k) ∧ xs.length = l ∧ ∀ n ∈ xs, (Lit.float k n).wf = true := by
  refine list_choose (by rw [S.len, hc, Nat.mul_one]) fun i hi => ?_
  obtain ⟨m, y, h⟩ := S.elems i hi
  have hl : i < vs.length := by rw [S.len, hc, Nat.mul_one]; exact hi
  rw [hc, Nat.mul_one, List.drop_eq_getElem_cons hl] at h
  obtain ⟨n, h1, h2⟩ := leaf_float he ⟨m, y, h⟩
  exact ⟨n, by rw [List.getElem?_eq_getElem hl, h1], h2⟩
end
end Go.Sx
