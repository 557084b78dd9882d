/- Floats up to which NaN they are: operations, comparisons, conversions. -/
import Derived.Test.YthgnpepchedpbaaDoorLp2
import Derived.Test.YthgnpepchedpbaaDoorLfl
import Derived.Test.YthgnpepchedpbaaDoorLopen
set_option linter.unusedVariables false
set_option linter.unusedSimpArgs false
namespace Go.Sx
open Ieee

section
variable {k : FloatKind} {x y a b r : Nat}
theorem FW.nan (h : FW k x a) : Sx.nan k x = Sx.nan k a := by rw [← h.1, nan_canon]
theorem FW.eq (h : FW k x a) (hn : Sx.nan k a = false) : x = a := by
  have := h.nan
  rw [hn] at this
  rw [← h.1]; unfold cn; rw [this]; rfl
theorem qn_lt (k : FloatKind) : qn k < 2 ^ k.format.width := by cases k <;> decide +kernel
theorem FW.lt (h : FW k x a) : a < 2 ^ k.format.width := by
  rw [← h.1]; unfold cn; split
  · exact qn_lt k
  · exact h.2
def fadd (k : FloatKind) (a b : Nat) : Nat := cn k ((k.format.add a b).getD (qn k))
def fsub (k : FloatKind) (a b : Nat) : Nat := cn k ((k.format.sub a b).getD (qn k))
def fmul (k : FloatKind) (a b : Nat) : Nat := cn k ((k.format.mul a b).getD (qn k))
def fdiv (k : FloatKind) (a b : Nat) : Nat := cn k ((k.format.div a b).getD (qn k))
def fits (a : Nat) : Bool := match FloatKind.f64.decode a with | .number n m e => !(FloatKind.f32.decode (FloatKind.f32.encode (.number n m e))).isInfinity | _ => true
end
end Go.Sx
/- Given arguments as data: what the row's reading says, put together to data. -/
set_option linter.unusedVariables false
set_option linter.unusedSimpArgs false
namespace Go.Sx
open Go.ChangeShapes Go.WideShapes Go.ChangeAt Go.RowKit

section
variable {α β : Type} {P : Program}
theorem All2.split {H : Type} {enc : TypeId × Value → H} {w : World} {base : Nat} {spare : Nat → Bool} {held : Bool} : ∀ {l1 l2 : List TypeId} {vs : List Value}, All2 enc P w base spare held (l1 ++ l2) vs →
    ∃ v1 v2, vs = v1 ++ v2 ∧ All2 enc P w base spare held l1 v1 ∧ All2 enc P w base spare held l2 v2
  | [], l2, vs, h => ⟨[], vs, rfl, trivial, h⟩
  | t :: l1, l2, [], h => h.elim
  | t :: l1, l2, v :: vs, h => by
    obtain ⟨v1, v2, rfl, h1, h2⟩ := All2.split h.2
    exact ⟨v :: v1, v2, rfl, ⟨h.1, h1⟩, h2⟩
theorem All2.one {H : Type} {enc : TypeId × Value → H} {w : World} {base : Nat} {spare : Nat → Bool} {held : Bool} {t : TypeId} : ∀ {vs : List Value}, All2 enc P w base spare held [t] vs → ∃ v, vs = [v] ∧ Leaf enc P w base spare held t v
  | [], h => h.elim
  | [v], h => ⟨v, rfl, h.1⟩
  | _ :: _ :: _, h => h.2.elim
end
end Go.Sx
