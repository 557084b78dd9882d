/- Own slices of data: copied, grown, compared with nil. -/
import Derived.Test.YthgnpepchedpbaaDoorLp5
import Derived.Test.YthgnpepchedpbaaDoorLp2
import Derived.Laws.Cover3
set_option linter.unusedVariables false
set_option linter.unusedSimpArgs false
namespace Go.Sx

section
variable {α : Type} {r : Rep α} {P : Program} {h0 h : Heap} {L : List Blk} {t e bytes : Nat} {b : Option Addr} {l c : Nat} {xs : List α} {K : Value → Heap → Prop} {ty : Nat}
theorem SlO.len {B : List Blk} (O : SlO e r B b l c xs) : xs.length = l := O.1
theorem SlO.nil : SlO e r [] none 0 0 [] := ⟨rfl, [], [], [], rfl, ⟨by simp, .inl ⟨rfl, rfl, rfl, rfl⟩⟩, rfl, rfl⟩
theorem SlO.empty (g : Nat) : SlO e r [(g, e, ⟨[]⟩)] (some ⟨g, 0, none⟩) 0 0 [] := ⟨rfl, [], [(g, e, ⟨[]⟩)], [], rfl, ⟨by simp, .inr ⟨g, ⟨[]⟩, rfl, rfl, Nat.le_refl _, Nat.zero_le _, by simp, by simp⟩⟩, rfl, rfl⟩
end
end Go.Sx
namespace Go.Sx
section
variable {α β : Type} {r : Rep α} {h0 h : Heap} {q : Addr} {F : Fr} {L : List Blk} {a : α} {off : Nat}
/-- A new value: its cells, in blocks of its own. -/
def NewR (r : Rep α) (h h' : Heap) (u : Value) (a : α) : Prop := ∃ cs B, u = .agg cs ∧ r.ow B cs.toList a ∧ Mem h h' B
end
end Go.Sx
