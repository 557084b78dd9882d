/- Arguments opened: what a given argument's cells hold, out of the reading that the row gives. -/
import Derived.Test.YtjoajnmhdobbfaaLrow
namespace Go.Sx
open Go.ChangeShapes Go.WideShapes Go.ChangeAt Go.RowKit
set_option linter.unusedVariables false

section
variable {H : Type} {enc : TypeId × Value → H} {P : Program} {w : World} {base : Nat} {spare : Nat → Bool} {held : Bool}
/-- One cell of a type, read. -/
def Leaf (enc : TypeId × Value → H) (P : Program) (w : World) (base : Nat) (spare : Nat → Bool) (held : Bool) (t : TypeId) (v : Value) : Prop := ∃ m y, DataW.trod enc P w base spare held m t [v] = some y
def All2 (enc : TypeId × Value → H) (P : Program) (w : World) (base : Nat) (spare : Nat → Bool) (held : Bool) : List TypeId → List Value → Prop
  | [], [] => True
  | t :: ts, v :: vs => Leaf enc P w base spare held t v ∧ All2 enc P w base spare held ts vs
  | _, _ => False
theorem All2.append : ∀ {l1 : List TypeId} {c1 : List Value} {l2 : List TypeId} {c2 : List Value}, All2 enc P w base spare held l1 c1 → All2 enc P w base spare held l2 c2 → All2 enc P w base spare held (l1 ++ l2) (c1 ++ c2)
  | [], [], _, _, _, h => h
  | [], _ :: _, _, _, h, _ => h.elim
  | _ :: _, [], _, _, h, _ => h.elim
  | t :: ts, v :: vs, _, _, h, k => ⟨h.1, All2.append h.2 k⟩
theorem leaf_int {t : TypeId} {k : IntKind} {v : Value} (ht : P.underlying t = some (.int k)) (h : Leaf enc P w base spare held t v) : ∃ n, v = .int k n ∧ (Lit.int k n).wf = true := by
  obtain ⟨m, y, h⟩ := h
  cases m with
  | zero => simp [DataW.trod] at h
  | succ m =>
    unfold DataW.trod at h
    rw [ht] at h
    split at h <;> simp_all
theorem leaf_float {t : TypeId} {k : FloatKind} {v : Value} (ht : P.underlying t = some (.float k)) (h : Leaf enc P w base spare held t v) : ∃ n, v = .float k n ∧ (Lit.float k n).wf = true := by
  obtain ⟨m, y, h⟩ := h
  cases m with
  | zero => simp [DataW.trod] at h
  | succ m =>
    unfold DataW.trod at h
    rw [ht] at h
    split at h <;> simp_all
/-- A slice's cells as values. -/
structure Slc (enc : TypeId × Value → H) (P : Program) (w : World) (base : Nat) (spare : Nat → Bool) (held : Bool) (e : TypeId) (b : Option Addr) (l c : Nat) (vs : List Value) : Prop where
  le : l ≤ c
  max : c ≤ maxLen
  len : vs.length = l * P.cellsOf e
  cells : ∀ i, i < vs.length → ∃ a, b = some a ∧ cell w.heap (a.add i) = vs[i]?
  elems : ∀ i, i < l → ∃ m y, DataW.trod enc P w base spare held m e ((vs.drop (i * P.cellsOf e)).take (P.cellsOf e)) = some y
theorem add_add (a : Addr) (i j : Nat) : (a.add i).add j = a.add (i + j) := by
  unfold Addr.add
  by_cases h1 : i = 0
  · subst h1; simp
  · by_cases h2 : j = 0
    · subst h2; simp
    · simp [h1, h2, Nat.add_assoc]
theorem leaf_slice {t e : TypeId} {v : Value} (ht : P.underlying t = some (.slice e)) (h : Leaf enc P w base spare held t v) : ∃ b l c vs, v = .slice b l c ∧ (b = none → l = 0 ∧ c = 0) ∧ Slc enc P w base spare held e b l c vs := by
  obtain ⟨m, y, h⟩ := h
  cases m with
  | zero => simp [DataW.trod] at h
  | succ m =>
    unfold DataW.trod at h
    rw [ht] at h
    split at h <;> try (simp_all; done)
    · next e1 e2 =>
      cases e1
      simp at e2
      subst e2
      exact ⟨none, 0, 0, [], rfl, fun _ => ⟨rfl, rfl⟩, ⟨Nat.le_refl _, Nat.zero_le _, by simp, fun i hi => by simp at hi, fun i hi => by omega⟩⟩
    · next e x l c e1 e2 =>
      cases e1
      obtain rfl : v = .slice (some x) l c := by simpa using e2
      split at h
      · next hc =>
        obtain ⟨h1, h2, h3⟩ := hc
        cases hm : (List.range l).mapM (fun i => (w.cells? base (x.add (i * P.cellsOf e)) (P.cellsOf e)).bind (DataW.trod enc P w base spare held m e)) with
        | none => simp only [hm] at h; simp at h
        | some els =>
          have hl := mapM_some_length hm
          simp at hl
          have hel : ∀ i, i < l → ∃ cs y, w.cells? base (x.add (i * P.cellsOf e)) (P.cellsOf e) = some cs ∧ DataW.trod enc P w base spare held m e cs = some y := by
            intro i hi
            have := mapM_some_get hm i i (by simp [hi])
            rw [List.getElem?_eq_getElem (by omega)] at this
            obtain ⟨cs, h4, h5⟩ := Option.bind_eq_some_iff.1 this
            exact ⟨cs, _, h4, h5⟩
          have hsz : ∀ j, j < l * P.cellsOf e → ∃ v, cell w.heap (x.add j) = some v := by
            intro j hj
            have hp : 0 < P.cellsOf e := by
              rcases Nat.eq_zero_or_pos (P.cellsOf e) with h0 | h0
              · rw [h0] at hj; omega
              · exact h0
            have hi : j / P.cellsOf e < l := (Nat.div_lt_iff_lt_mul hp).2 hj
            obtain ⟨cs, y, h4, h5⟩ := hel _ hi
            obtain ⟨_, h6, h7⟩ := World.cells?_some h4
            have h8 := h7 (j % P.cellsOf e) (Nat.mod_lt _ hp)
            rw [add_add, Nat.div_add_mod' j] at h8
            rw [cell_eq] at h8
            rw [h8, List.getElem?_eq_getElem (by rw [h6]; exact Nat.mod_lt _ hp)]
            exact ⟨_, rfl⟩
          refine ⟨some x, l, c, (List.range (l * P.cellsOf e)).map fun j => (cell w.heap (x.add j)).getD undef, rfl, (fun h => by cases h), ⟨h2, h3, by simp, fun i hi => ⟨x, rfl, ?_⟩, fun i hi => ?_⟩⟩
          · simp at hi
            obtain ⟨v, hv⟩ := hsz i hi
            simp [hi, hv]
          · obtain ⟨cs, y, h4, h5⟩ := hel i hi
            refine ⟨m, y, ?_⟩
            rw [← h5]
            obtain ⟨_, h6, h7⟩ := World.cells?_some h4
            congr 1
            have hb : i * P.cellsOf e + P.cellsOf e ≤ l * P.cellsOf e := by
              have := Nat.mul_le_mul_right (P.cellsOf e) (show i + 1 ≤ l by omega)
              rwa [Nat.add_mul, Nat.one_mul] at this
            apply List.ext_getElem?
            intro j
            by_cases hj : j < P.cellsOf e
            · rw [List.getElem?_take_of_lt hj, List.getElem?_drop, ← h7 j hj, cell_eq, add_add]
              obtain ⟨v, hv⟩ := hsz (i * P.cellsOf e + j) (by omega)
              have : i * P.cellsOf e + j < l * P.cellsOf e := by omega
              simp [this, hv]
            · rw [List.getElem?_eq_none (by simp; omega), List.getElem?_eq_none (by omega)]
      · cases h
theorem open_slice {r : _root_.Go.Reach} {b0 : Nat} {t e : TypeId} {v : Value} {d : DataW H} {ps : List MemPlace} (ht : P.underlying t = some (.slice e)) (hval : Value.okWide P w r b0 t v) (hd : DataW.Trod enc P w base spare held t v d ps) :
    ∃ b l c vs, v = .slice b l c ∧ (b = none → l = 0 ∧ c = 0) ∧ Slc enc P w base spare held e b l c vs := by
  obtain ⟨a, l, c, rfl⟩ := okWide_slice ht hval
  obtain ⟨m, h⟩ := hd
  exact leaf_slice ht ⟨m, _, h⟩
/-- Cells that are all of one kind of number. -/
theorem All2.ints {k : IntKind} : ∀ {ls : List TypeId} {cs : List Value}, (∀ t ∈ ls, P.underlying t = some (.int k)) → All2 enc P w base spare held ls cs → ∃ zs : List Int, cs = zs.map (.int k) ∧ zs.length = ls.length ∧ ∀ n ∈ zs, (Lit.int k n).wf = true
  | [], [], _, _ => ⟨[], rfl, rfl, fun _ h => nomatch h⟩
  | [], _ :: _, _, h => h.elim
  | _ :: _, [], _, h => h.elim
  | t :: ts, v :: vs, ht, h => by
    obtain ⟨n, rfl, hn⟩ := leaf_int (ht t (.head _)) h.1
    obtain ⟨zs, rfl, hl, hz⟩ := All2.ints (fun t h => ht t (.tail _ h)) h.2
    refine ⟨n :: zs, rfl, by simp [hl], fun x hx => ?_⟩
    cases hx with
    | head => exact hn
    | tail _ hx => exact hz x hx
theorem All2.floats {k : FloatKind} : ∀ {ls : List TypeId} {cs : List Value}, (∀ t ∈ ls, P.underlying t = some (.float k)) → All2 enc P w base spare held ls cs → ∃ zs : List Nat, cs = zs.map (.float k) ∧ zs.length = ls.length ∧ ∀ n ∈ zs, (Lit.float k n).wf = true
  | [], [], _, _ => ⟨[], rfl, rfl, fun _ h => nomatch h⟩
  | [], _ :: _, _, h => h.elim
  | _ :: _, [], _, h => h.elim
  | t :: ts, v :: vs, ht, h => by
    obtain ⟨n, rfl, hn⟩ := leaf_float (ht t (.head _)) h.1
    obtain ⟨zs, rfl, hl, hz⟩ := All2.floats (fun t h => ht t (.tail _ h)) h.2
    refine ⟨n :: zs, rfl, by simp [hl], fun x hx => ?_⟩
    cases hx with
    | head => exact hn
    | tail _ hx => exact hz x hx
theorem Slc.ints {e : TypeId} {k : IntKind} {b : Option Addr} {l c : Nat} {vs : List Value} (he : P.underlying e = some (.int k)) (hc : P.cellsOf e = 1) (S : Slc enc P w base spare held e b l c vs) :
    ∃ xs : List Int, vs = xs.map (.int k) ∧ xs.length = l ∧ ∀ n ∈ xs, (Lit.int k n).wf = true := by
  refine list_choose (by rw [S.len, hc, Nat.mul_one]) fun i hi => ?_
  obtain ⟨m, y, h⟩ := S.elems i hi
  have hl : i < vs.length := by rw [S.len, hc, Nat.mul_one]; exact hi
  rw [hc, Nat.mul_one, List.drop_eq_getElem_cons hl] at h
  obtain ⟨n, h1, h2⟩ := leaf_int he ⟨m, y, h⟩
  exact ⟨n, by rw [List.getElem?_eq_getElem hl, h1], h2⟩
theorem Slc.floats {e : TypeId} {k : FloatKind} {b : Option Addr} {l c : Nat} {vs : List Value} (he : P.underlying e = some (.float k)) (hc : P.cellsOf e = 1) (S : Slc enc P w base spare held e b l c vs) :
    ∃ xs : List Nat, vs = xs.map (.float k) ∧ xs.length = l ∧ ∀ n ∈ xs, (Lit.float k n).wf = true := by
  refine list_choose (by rw [S.len, hc, Nat.mul_one]) fun i hi => ?_
  obtain ⟨m, y, h⟩ := S.elems i hi
  have hl : i < vs.length := by rw [S.len, hc, Nat.mul_one]; exact hi
  rw [hc, Nat.mul_one, List.drop_eq_getElem_cons hl] at h
  obtain ⟨n, h1, h2⟩ := leaf_float he ⟨m, y, h⟩
  exact ⟨n, by rw [List.getElem?_eq_getElem hl, h1], h2⟩
end
end Go.Sx
