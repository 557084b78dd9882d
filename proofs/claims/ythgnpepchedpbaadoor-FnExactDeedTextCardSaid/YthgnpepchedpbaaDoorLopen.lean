/- Arguments opened: what a given argument's cells hold, out of the reading that the row gives. -/
import Derived.Test.YthgnpepchedpbaaDoorLrow
namespace Go.Sx
open Go.ChangeShapes Go.WideShapes Go.ChangeAt Go.RowKit
set_option linter.unusedVariables false

section
variable {H : Type} {enc : TypeId × Value → H} {P : Program} {w : World} {base : Nat} {spare : Nat → Bool} {held : Bool}
/-- The types of the cells of a type's values. -/
def flatF (g : TypeId → Option (List TypeId)) (P : Program) : Nat → List Field → Nat → Option (List TypeId)
  | off, [], tot => if off = tot then some [] else none
  | off, f :: fs, tot => if f.offset = off then (g f.type).bind fun l => (flatF g P (off + P.cellsOf f.type) fs tot).bind fun r => some (l ++ r) else none
def flat (P : Program) : Nat → TypeId → Option (List TypeId)
  | 0, _ => none
  | n + 1, t => match P.underlying t with
    | some (.struct fs) => flatF (flat P n) P 0 fs.toList (P.cellsOf t)
    | some (.array m e) => if m * P.cellsOf e = P.cellsOf t then (flat P n e).map fun l => (List.replicate m l).flatten else none
    | some _ => if P.cellsOf t = 1 then some [t] else none
    | none => none
/-- One cell of a type, read. -/
def Leaf (enc : TypeId × Value → H) (P : Program) (w : World) (base : Nat) (spare : Nat → Bool) (held : Bool) (t : TypeId) (v : Value) : Prop := ∃ m y, DataW.trod enc P w base spare held m t [v] = some y
def All2 (enc : TypeId × Value → H) (P : Program) (w : World) (base : Nat) (spare : Nat → Bool) (held : Bool) : List TypeId → List Value → Prop
  | [], [] => True
  | t :: ts, v :: vs => Leaf enc P w base spare held t v ∧ All2 enc P w base spare held ts vs
  | _, _ => False
theorem All2.append : ∀ {l1 : List TypeId} {c1 : List Value} {l2 : List TypeId} {c2 : List Value}, All2 enc P w base spare held l1 c1 → All2 enc P w base spare held l2 c2 → All2 enc P w base spare held (l1 ++ l2) (c1 ++ c2)
  | [], [], _, _, _, h => h
  | [], _ :: _, _, _, h, _ => h.elim
  | _ :: _, [], _, _, h, _ => h.elim
  | t :: ts, v :: vs, _, _, h, k => ⟨h.1, All2.append h.2 k⟩
theorem All2.rep {l : List TypeId} {sz : Nat} : ∀ {n : Nat} {cs : List Value}, cs.length = n * sz → (∀ i, i < n → All2 enc P w base spare held l ((cs.drop (i * sz)).take sz)) → All2 enc P w base spare held (List.replicate n l).flatten cs := by
  intro n
  induction n with
  | zero => intro cs h _; simp at h; subst h; exact trivial
  | succ n ih =>
    intro cs h k
    have h1 : cs = cs.take sz ++ cs.drop sz := (List.take_append_drop _ _).symm
    rw [h1, List.replicate_succ, List.flatten_cons]
    refine All2.append (by simpa using k 0 (by omega)) (ih (by simp [h]; rw [Nat.add_mul]; omega) fun i hi => ?_)
    have := k (i + 1) (by omega)
    rw [List.drop_drop]
    rwa [Nat.add_mul, Nat.one_mul, Nat.add_comm] at this
theorem flatF_out {g : TypeId → Option (List TypeId)} {P : Program} {w : World} {base : Nat} {spare : Nat → Bool} {held : Bool} {enc : TypeId × Value → H} {cs : List Value} (hg : ∀ t l c, g t = some l → (∃ m y, DataW.trod enc P w base spare held m t c = some y) → All2 enc P w base spare held l c) :
    ∀ {fs : List Field} {off : Nat} {ls : List TypeId}, flatF g P off fs cs.length = some ls →
      (∀ f ∈ fs, ∃ m y, DataW.trod enc P w base spare held m f.type ((cs.drop f.offset).take (P.cellsOf f.type)) = some y) → All2 enc P w base spare held ls (cs.drop off) := by
  intro fs
  induction fs with
  | nil =>
    intro off ls h _
    simp only [flatF] at h
    split at h
    · next e => cases h; subst e; simp [All2]
    · cases h
  | cons f fs ih =>
    intro off ls h k
    simp only [flatF] at h
    split at h
    · next e =>
      cases h1 : g f.type with
      | none => simp [h1] at h
      | some l =>
        cases h2 : flatF g P (off + P.cellsOf f.type) fs cs.length with
        | none => simp [h1, h2] at h
        | some r =>
          simp [h1, h2] at h
          subst h
          have k1 := hg _ _ _ h1 (k f (.head _))
          have k2 := ih h2 fun f hf => k f (.tail _ hf)
          have : cs.drop off = (cs.drop off).take (P.cellsOf f.type) ++ cs.drop (off + P.cellsOf f.type) := by
            rw [← List.drop_drop, List.take_append_drop]
          rw [this]
          rw [e] at k1
          exact k1.append k2
    · cases h
theorem trod_one {m : Nat} {t : TypeId} {cs : List Value} {y : DataW H × List MemPlace} {d : TypeDesc} (hd : P.underlying t = some d) (hs : ∀ fs, d ≠ .struct fs) (ha : ∀ n e, d ≠ .array n e) (h : DataW.trod enc P w base spare held m t cs = some y) :
    ∃ v, cs = [v] := by
  cases m with
  | zero => simp [DataW.trod] at h
  | succ m =>
    unfold DataW.trod at h
    rw [hd] at h
    split at h <;> first | exact ⟨_, rfl⟩ | (exfalso; simp_all; done) | skip
theorem flat_out : ∀ (n : Nat) (t : TypeId) (ls : List TypeId) (cs : List Value), flat P n t = some ls → (∃ m y, DataW.trod enc P w base spare held m t cs = some y) → All2 enc P w base spare held ls cs := by
  intro n
  induction n with
  | zero => intro t ls cs h; simp [flat] at h
  | succ n ih =>
    intro t ls cs h ⟨m, y, hy⟩
    unfold flat at h
    split at h
    · next fs hu =>
      obtain ⟨xs, k, rfl, hx, hl, hlen, hel⟩ := DataW.trod_struct hu hy
      rw [← hl] at h
      refine flatF_out (fun t l c h1 h2 => ih t l c h1 h2) h fun f hf => ?_
      obtain ⟨i, hi, e⟩ := List.mem_iff_getElem.1 hf
      have h3 := hel i f (by simp at hi; simp [hi]; simpa using e)
      exact ⟨k, _, by rw [h3, List.getElem?_eq_getElem (by simp at hi; omega)]⟩
    · next k e hu =>
      obtain ⟨xs, m', rfl, hx, hl, hlen, hel⟩ := DataW.trod_array hu hy
      split at h
      · next e1 =>
        cases h1 : flat P n e with
        | none => simp [h1] at h
        | some l =>
          simp [h1] at h
          subst h
          refine All2.rep (sz := P.cellsOf e) (by omega) fun i hi => ih e l _ h1 ⟨m', xs[i], ?_⟩
          rw [hel i hi, List.getElem?_eq_getElem (by omega)]
      · cases h
    · next d hs ha hu =>
      split at h
      · cases h
        obtain ⟨v, rfl⟩ := trod_one hu hs ha hy
        exact ⟨⟨m, y, hy⟩, trivial⟩
      · cases h
    · cases h
theorem leaf_int {t : TypeId} {k : IntKind} {v : Value} (ht : P.underlying t = some (.int k)) (h : Leaf enc P w base spare held t v) : ∃ n, v = .int k n ∧ (Lit.int k n).wf = true := by
  obtain ⟨m, y, h⟩ := h
  cases m with
  | zero => simp [DataW.trod] at h
  | succ m =>
    unfold DataW.trod at h
    rw [ht] at h
    split at h <;> simp_all
theorem leaf_float {t : TypeId} {k : FloatKind} {v : Value} (ht : P.underlying t = some (.float k)) (h : Leaf enc P w base spare held t v) : ∃ n, v = .float k n ∧ (Lit.float k n).wf = true := by
  obtain ⟨m, y, h⟩ := h
  cases m with
  | zero => simp [DataW.trod] at h
  | succ m =>
    unfold DataW.trod at h
    rw [ht] at h
    split at h <;> simp_all
/-- A slice's cells as values. -/
structure Slc (enc : TypeId × Value → H) (P : Program) (w : World) (base : Nat) (spare : Nat → Bool) (held : Bool) (e : TypeId) (b : Option Addr) (l c : Nat) (vs : List Value) : Prop where
  le : l ≤ c
  max : c ≤ maxLen
  len : vs.length = l * P.cellsOf e
  cells : ∀ i, i < vs.length → ∃ a, b = some a ∧ cell w.heap (a.add i) = vs[i]?
  elems : ∀ i, i < l → ∃ m y, DataW.trod enc P w base spare held m e ((vs.drop (i * P.cellsOf e)).take (P.cellsOf e)) = some y
/-- A struct or an array: its cells. -/
theorem open_flat {r : _root_.Go.Reach} {b0 n : Nat} {t : TypeId} {ls : List TypeId} {v : Value} {d : DataW H} {ps : List MemPlace} (ha : (match P.underlying t with | some (.struct _) | some (.array _ _) => true | _ => false) = true)
    (hf : flat P n t = some ls) (hval : Value.okWide P w r b0 t v) (hd : DataW.Trod enc P w base spare held t v d ps) : ∃ cs : List Value, v = .agg ⟨cs⟩ ∧ All2 enc P w base spare held ls cs := by
  have : ∃ cs, v = .agg cs := by
    unfold Value.okWide at hval
    split at hval
    · obtain ⟨cs, rfl, _⟩ := hval; exact ⟨cs, rfl⟩
    · obtain ⟨cs, rfl, _⟩ := hval; exact ⟨cs, rfl⟩
    · next h1 h2 =>
      exfalso
      split at ha
      · next h => exact h1 _ h
      · next h => exact h2 _ _ h
      · cases ha
  obtain ⟨cs, rfl⟩ := this
  obtain ⟨m, h⟩ := hd
  exact ⟨cs.toList, rfl, flat_out n t ls _ hf ⟨m, _, h⟩⟩
/-- Cells that are all of one kind of number. -/
theorem All2.ints {k : IntKind} : ∀ {ls : List TypeId} {cs : List Value}, (∀ t ∈ ls, P.underlying t = some (.int k)) → All2 enc P w base spare held ls cs → ∃ zs : List Int, cs = zs.map (.int k) ∧ zs.length = ls.length ∧ ∀ n ∈ zs, (Lit.int k n).wf = true
  | [], [], _, _ => ⟨[], rfl, rfl, fun _ h => nomatch h⟩
  | [], _ :: _, _, h => h.elim
  | _ :: _, [], _, h => h.elim
  | t :: ts, v :: vs, ht, h => by
    obtain ⟨n, rfl, hn⟩ := leaf_int (ht t (.head _)) h.1
    obtain ⟨zs, rfl, hl, hz⟩ := All2.ints (fun t h => ht t (.tail _ h)) h.2
    refine ⟨n :: zs, rfl, by simp [hl], fun x hx => ?_⟩
    cases hx with
    | head => exact hn
    | tail _ hx => exact hz x hx
theorem All2.floats {k : FloatKind} : ∀ {ls : List TypeId} {cs : List Value}, (∀ t ∈ ls, P.underlying t = some (.float k)) → All2 enc P w base spare held ls cs → ∃ zs : List Nat, cs = zs.map (.float k) ∧ zs.length = ls.length ∧ ∀ n ∈ zs, (Lit.float k n).wf = true
  | [], [], _, _ => ⟨[], rfl, rfl, fun _ h => nomatch h⟩
  | [], _ :: _, _, h => h.elim
  | _ :: _, [], _, h => h.elim
  | t :: ts, v :: vs, ht, h => by
    obtain ⟨n, rfl, hn⟩ := leaf_float (ht t (.head _)) h.1
    obtain ⟨zs, rfl, hl, hz⟩ := All2.floats (fun t h => ht t (.tail _ h)) h.2
    refine ⟨n :: zs, rfl, by simp [hl], fun x hx => ?_⟩
    cases hx with
    | head => exact hn
    | tail _ hx => exact hz x hx
theorem Slc.ints {e : TypeId} {k : IntKind} {b : Option Addr} {l c : Nat} {vs : List Value} (he : P.underlying e = some (.int k)) (hc : P.cellsOf e = 1) (S : Slc enc P w base spare held e b l c vs) :
    ∃ xs : List Int, vs = xs.map (.int k) ∧ xs.length = l ∧ ∀ n ∈ xs, (Lit.int k n).wf = true := by
  refine list_choose (by rw [S.len, hc, Nat.mul_one]) fun i hi => ?_
  obtain ⟨m, y, h⟩ := S.elems i hi
  have hl : i < vs.length := by rw [S.len, hc, Nat.mul_one]; exact hi
  rw [hc, Nat.mul_one, List.drop_eq_getElem_cons hl] at h
  obtain ⟨n, h1, h2⟩ := leaf_int he ⟨m, y, h⟩
  exact ⟨n, by rw [List.getElem?_eq_getElem hl, h1], h2⟩
theorem Slc.floats {e : TypeId} {k : FloatKind} {b : Option Addr} {l c : Nat} {vs : List Value} (he : P.underlying e = some (.float k)) (hc : P.cellsOf e = 1) (S : Slc enc P w base spare held e b l c vs) :
    ∃ xs : List Nat, vs = xs.map (.float k) ∧ xs.length = l ∧ ∀ n ∈ xs, (Lit.float k n).wf = true := by
  refine list_choose (by rw [S.len, hc, Nat.mul_one]) fun i hi => ?_
  obtain ⟨m, y, h⟩ := S.elems i hi
  have hl : i < vs.length := by rw [S.len, hc, Nat.mul_one]; exact hi
  rw [hc, Nat.mul_one, List.drop_eq_getElem_cons hl] at h
  obtain ⟨n, h1, h2⟩ := leaf_float he ⟨m, y, h⟩
  exact ⟨n, by rw [List.getElem?_eq_getElem hl, h1], h2⟩
end
end Go.Sx
