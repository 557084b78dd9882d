/- Given arguments as data: what the row's reading says, put together to data. -/
import Derived.Test.YtjoajnmhdobbfaaLp3
import Derived.Test.YtjoajnmhdobbfaaLopen
set_option linter.unusedVariables false
set_option linter.unusedSimpArgs false
namespace Go.Sx
open Go.ChangeShapes Go.WideShapes Go.ChangeAt Go.RowKit

/-- Cells of these types, read, stand for some data. -/
def Opens {α : Type} (P : Program) (r : Rep α) (ls : List TypeId) : Prop :=
  ∀ (H : Type) (enc : TypeId × Value → H) (w : World) (base : Nat) (spare : Nat → Bool) (held : Bool) (vs : List Value), All2 enc P w base spare held ls vs → ∃ a, r.rd w.heap vs a
section
variable {α β : Type} {P : Program}
theorem All2.split {H : Type} {enc : TypeId × Value → H} {w : World} {base : Nat} {spare : Nat → Bool} {held : Bool} : ∀ {l1 l2 : List TypeId} {vs : List Value}, All2 enc P w base spare held (l1 ++ l2) vs →
    ∃ v1 v2, vs = v1 ++ v2 ∧ All2 enc P w base spare held l1 v1 ∧ All2 enc P w base spare held l2 v2
  | [], l2, vs, h => ⟨[], vs, rfl, trivial, h⟩
  | t :: l1, l2, [], h => h.elim
  | t :: l1, l2, v :: vs, h => by
    obtain ⟨v1, v2, rfl, h1, h2⟩ := All2.split h.2
    exact ⟨v :: v1, v2, rfl, ⟨h.1, h1⟩, h2⟩
theorem All2.one {H : Type} {enc : TypeId × Value → H} {w : World} {base : Nat} {spare : Nat → Bool} {held : Bool} {t : TypeId} : ∀ {vs : List Value}, All2 enc P w base spare held [t] vs → ∃ v, vs = [v] ∧ Leaf enc P w base spare held t v
  | [], h => h.elim
  | [v], h => ⟨v, rfl, h.1⟩
  | _ :: _ :: _, h => h.2.elim
theorem opens_int {k : IntKind} {t : TypeId} (ht : P.underlying t = some (.int k)) : Opens P (rI k) [t] := fun H enc w base spare held vs h => by
  obtain ⟨v, rfl, h'⟩ := h.one
  obtain ⟨n, rfl, _⟩ := leaf_int ht h'
  exact ⟨n, rfl⟩
theorem wf_float {k : FloatKind} {n : Nat} (h : (Lit.float k n).wf = true) : n < 2 ^ k.format.width := by
  cases k
  · show n < 4294967296
    simpa [Lit.wf] using h
  · show n < 18446744073709551616
    simpa [Lit.wf] using h
theorem opens_float {k : FloatKind} {t : TypeId} (ht : P.underlying t = some (.float k)) : Opens P (rF k) [t] := fun H enc w base spare held vs h => by
  obtain ⟨v, rfl, h'⟩ := h.one
  obtain ⟨n, rfl, hn⟩ := leaf_float ht h'
  exact ⟨cn k n, n, rfl, fw_cn (wf_float hn)⟩
theorem opens_bool {t : TypeId} (ht : P.underlying t = some .bool) : Opens P rB [t] := fun H enc w base spare held vs h => by
  obtain ⟨v, rfl, h'⟩ := h.one
  obtain ⟨n, rfl⟩ := leaf_bool ht h'
  exact ⟨n, rfl⟩
theorem opens_str {t : TypeId} (ht : P.underlying t = some .string) : Opens P rS [t] := fun H enc w base spare held vs h => by
  obtain ⟨v, rfl, h'⟩ := h.one
  obtain ⟨n, rfl, hn⟩ := leaf_str ht h'
  exact ⟨n, rfl, hn⟩
theorem opens_seq {r : Rep α} {s : Rep β} {l1 l2 : List TypeId} (h1 : Opens P r l1) (h2 : Opens P s l2) : Opens P (r.seq s) (l1 ++ l2) := fun H enc w base spare held vs h => by
  obtain ⟨v1, v2, rfl, h3, h4⟩ := h.split
  obtain ⟨a, ha⟩ := h1 _ _ _ _ _ _ _ h3
  obtain ⟨b, hb⟩ := h2 _ _ _ _ _ _ _ h4
  exact ⟨(a, b), v1, v2, rfl, ha, hb⟩
theorem opens_via {r : Rep β} {f : α → β} {ls : List TypeId} (g : β → α) (hg : ∀ b, f (g b) = b) (h1 : Opens P r ls) : Opens P (r.via f) ls := fun H enc w base spare held vs h => by
  obtain ⟨a, ha⟩ := h1 _ _ _ _ _ _ _ h
  exact ⟨g a, by show r.rd _ _ (f (g a)); rw [hg]; exact ha⟩
theorem opens_rds {r : Rep α} {ls : List TypeId} (h1 : Opens P r ls) {H : Type} {enc : TypeId × Value → H} {w : World} {base : Nat} {spare : Nat → Bool} {held : Bool} : ∀ {n : Nat} {vs : List Value}, All2 enc P w base spare held (List.replicate n ls).flatten vs → ∃ as : List α, as.length = n ∧ rds r w.heap vs as
  | 0, vs, h => by
    cases vs with
    | nil => exact ⟨[], rfl, rfl⟩
    | cons v vs => exact h.elim
  | n + 1, vs, h => by
    rw [List.replicate_succ, List.flatten_cons] at h
    obtain ⟨v1, v2, rfl, h3, h4⟩ := h.split
    obtain ⟨a, ha⟩ := h1 _ _ _ _ _ _ _ h3
    obtain ⟨as, hl, hs⟩ := opens_rds h1 h4
    exact ⟨a :: as, by simp [hl], v1, v2, rfl, ha, hs⟩
theorem opens_arr {r : Rep α} {ls : List TypeId} (n : Nat) (h1 : Opens P r ls) : Opens P (rArr n r) (List.replicate n ls).flatten := fun H enc w base spare held vs h => opens_rds h1 h
theorem slc_rd {r : Rep α} {ls : List TypeId} {n : Nat} {e : TypeId} (hf : flat P n e = some ls) (hc : P.cellsOf e = r.sz) (h1 : Opens P r ls) {H : Type} {enc : TypeId × Value → H} {w : World} {base : Nat} {spare : Nat → Bool} {held : Bool} {b : Option Addr} {l c : Nat} {vs : List Value}
    (S : Slc enc P w base spare held e b l c vs) : ∃ as : List α, SlR r w.heap b l c as := by
  have h2 : All2 enc P w base spare held (List.replicate l ls).flatten vs := by
    refine All2.rep (sz := P.cellsOf e) S.len fun i hi => flat_out n e ls _ hf (S.elems i hi)
  obtain ⟨as, hl, hs⟩ := opens_rds h1 h2
  exact ⟨as, hl, S.le, S.max, vs, S.cells, hs⟩
theorem opens_sl {r : Rep α} {ls : List TypeId} {n e0 : Nat} {t e : TypeId} (ht : P.underlying t = some (.slice e)) (hf : flat P n e = some ls) (hc : P.cellsOf e = r.sz) (h1 : Opens P r ls) : Opens P (rSl e0 r) [t] := fun H enc w base spare held vs h => by
  obtain ⟨v, rfl, h'⟩ := h.one
  obtain ⟨b, l, c, vs, rfl, _, S⟩ := leaf_slice ht h'
  obtain ⟨as, hs⟩ := slc_rd hf hc h1 S
  exact ⟨as, b, l, c, rfl, hs⟩
end
end Go.Sx
