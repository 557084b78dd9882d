/- Filters moved on; blocks made by a function of their places. -/
import Derived.Test.YtnjbecdfoiiaoaaDoorLr1
import Derived.Test.YtnjbecdfoiiaoaaDoorLp5
import Derived.Test.YtnjbecdfoiiaoaaDoorLp7
set_option linter.unusedVariables false
set_option linter.unusedSimpArgs false
namespace Go.Sx
open Go.Proofs
set_option maxRecDepth 100000

/-- What a step of a filter leaves. -/
def FStep (h0 h' : Heap) (q : Addr) (F : Fr) (L : List Blk) (f : GFilter) (a : Nat) (u : Value) : Prop := (∃ y, u = .float .f32 y ∧ FW .f32 y (f.step a).2) ∧ Pt rFilter h0 h' q F L (f.step a).1
section
variable {h0 h : Heap} {q : Addr} {F : Fr} {L : List Blk} {f : GFilter} {x a : Nat}
theorem FStep.of {f' : GFilter} {b y : Nat} (e : f.step a = (f', b)) (hy : FW .f32 y b) (P : Pt rFilter h0 h q F L f') : FStep h0 h q F L f a (.float .f32 y) := by
  unfold FStep
  rw [e]
  exact ⟨⟨y, rfl, hy⟩, P⟩
set_option maxHeartbeats 2000000 in
end
end Go.Sx
/- What several structs' contracts have in common: slices of floats made, pairs answered, lists changed place by place. -/
set_option linter.unusedVariables false
set_option linter.unusedSimpArgs false
namespace Go.Sx
open Go.Proofs
set_option maxRecDepth 100000

section
variable {h : Heap} {q : Addr}
theorem zeros_fl (n : Nat) : ows (rF .f32) [] (List.replicate n (.float .f32 0)) (List.replicate n 0) := by
  induction n with
  | zero => exact ⟨rfl, rfl⟩
  | succ n ih => exact ⟨[], [], [.float .f32 0], List.replicate n (.float .f32 0), rfl, rfl, ⟨rfl, 0, rfl, fw0⟩, ih⟩
/-- A slice of zeros, made. -/
theorem make_floats {h0 : Heap} {L : List Blk} {n : Nat} {F : Nat → Heap → Prop} (M : Mem h0 h L) (hn : n ≤ 1048576)
    (H : ∀ g h', Ext h h' → Mem h0 h' ((g, T_float32, ⟨List.replicate n (.float .f32 0)⟩) :: L) → SlO T_float32 (rF .f32) [(g, T_float32, ⟨List.replicate n (.float .f32 0)⟩)] (some ⟨g, 0, none⟩) n n (List.replicate n 0) → F g h') : MKS ti_float32 T_float32 (n : Int) (n : Int) F h := by
  refine mks1 M rfl rfl (by show 4 * n ≤ 2 ^ 48; omega) (by omega) fun g h' x' M' => H g h' x' M' ?_
  have : n ≤ maxLen := by have : (1048576 : Nat) ≤ maxLen := by decide
                          omega
  exact ⟨by simp, List.replicate n (.float .f32 0), [_], [], rfl, ⟨by rw [List.length_replicate, show (rF .f32).sz = 1 from rfl, Nat.mul_one], .inr ⟨g, _, rfl, rfl, Nat.le_refl _, this, by rw [List.size_toArray, List.length_replicate, show (rF .f32).sz = 1 from rfl, Nat.mul_one], by
    rw [List.take_of_length_le]
    show (List.replicate n (Value.float .f32 0)).length ≤ n * 1
    simp⟩⟩, zeros_fl n⟩
end
/-- A pair of a value and a code, told by a call. -/
def PairR {α : Type} (r : Rep α) (h h' : Heap) (u : Value) (a : α) (code : Int) : Prop := ∃ cs B, u = .tuple ⟨[.agg cs, .int .i64 code]⟩ ∧ r.ow B cs.toList a ∧ Mem h h' B
end Go.Sx
