/- Given arguments as data: what the row's reading says, put together to data. -/
import Derived.Test.YthgnpepchedpbaaDoorLp3
import Derived.Test.YthgnpepchedpbaaDoorLopen
set_option linter.unusedVariables false
set_option linter.unusedSimpArgs false
namespace Go.Sx
open Go.ChangeShapes Go.WideShapes Go.ChangeAt Go.RowKit

section
variable {α β : Type} {P : Program}
theorem All2.split {H : Type} {enc : TypeId × Value → H} {w : World} {base : Nat} {spare : Nat → Bool} {held : Bool} : ∀ {l1 l2 : List TypeId} {vs : List Value}, All2 enc P w base spare held (l1 ++ l2) vs →
    ∃ v1 v2, vs = v1 ++ v2 ∧ All2 enc P w base spare held l1 v1 ∧ All2 enc P w base spare held l2 v2
  | [], l2, vs, h => ⟨[], vs, rfl, trivial, h⟩
  | t :: l1, l2, [], h => h.elim
  | t :: l1, l2, v :: vs, h => by
    obtain ⟨v1, v2, rfl, h1, h2⟩ := All2.split h.2
    exact ⟨v :: v1, v2, rfl, ⟨h.1, h1⟩, h2⟩
theorem All2.one {H : Type} {enc : TypeId × Value → H} {w : World} {base : Nat} {spare : Nat → Bool} {held : Bool} {t : TypeId} : ∀ {vs : List Value}, All2 enc P w base spare held [t] vs → ∃ v, vs = [v] ∧ Leaf enc P w base spare held t v
  | [], h => h.elim
  | [v], h => ⟨v, rfl, h.1⟩
  | _ :: _ :: _, h => h.2.elim
end
end Go.Sx
