/- The bits of floats: what the externs answer. -/
import Derived.Test.YtjoajnmhdobbfaaLx2
import Derived.Test.YtjoajnmhdobbfaaTab
import Derived.Test.YtjoajnmhdobbfaaLf6
import Derived.Test.YtjoajnmhdobbfaaLsl
import Derived.Test.YtjoajnmhdobbfaaK0
set_option linter.unusedVariables false
set_option linter.unusedSimpArgs false
namespace Go.Sx
open Go.Proofs
set_option maxRecDepth 100000

theorem Float32bits_c (b : Nat) : Ret prg f_math_Float32bits #[.float .f32 b] (.int .u32 b) :=
  ext_ret (e := Extern.MathFloatBits.float32bits) X_math_Float32bits (by kernel_rfl) (by kernel_rfl) (by kernel_rfl) (by kernel_rfl) fun w => rfl
end Go.Sx
/- Floats in the program: what the small functions compute. -/
set_option linter.unusedVariables false
set_option linter.unusedSimpArgs false
namespace Go.Sx
open Go.Proofs Ieee
set_option maxRecDepth 100000

/-- The call answers a float. -/
abbrev Fl (P : Program) (f : FuncId) (args : Array Value) (k : FloatKind) (a : Nat) : Prop := ∀ h, CALL P f args (fun u h' => (∃ y, u = .float k y ∧ FW k y a) ∧ Ext h h') h
theorem Fl.go {P : Program} {f : FuncId} {args : Array Value} {k : FloatKind} {a : Nat} (c : Fl P f args k a) {h : Heap} {K : Value → Heap → Prop} (H : ∀ h' y, Ext h h' → FW k y a → K (.float k y) h') : CALL P f args K h :=
  (c h).mono fun u h' ⟨⟨y, e, hy⟩, x⟩ => by subst e; exact H h' y x hy
theorem Fl.mem {P : Program} {f : FuncId} {args : Array Value} {k : FloatKind} {a : Nat} (c : Fl P f args k a) {h0 h : Heap} {L : List Blk} (M : Mem h0 h L) {K : Value → Heap → Prop} (H : ∀ h' y, Mem h0 h' L → FW k y a → K (.float k y) h') : CALL P f args K h :=
  c.go fun h' y x hy => H h' y (M.grow x) hy

theorem fw0 : FW .f32 0 0 := fw_c32 (by decide) (by decide)
section
variable {x y a b : Nat}
theorem l01NaN_c (hx : FW .f32 x a) : Ret prg f_spec_l01NaN #[.float .f32 x] (.bool (nan .f32 a)) := fun h => spec_l01NaN.call ⟨by rw [ne_self, hx.nan], Ext.refl _⟩
theorem cn_word (hx : FW .f32 x a) : (if nan .f32 a then qn .f32 else x) = a := by
  split
  · next h => have := hx.self; unfold cn at this; rw [if_pos h] at this; exact this
  · next h => exact hx.eq (by simpa using h)
theorem bitsOf_c (hx : FW .f32 x a) : Ret prg f_impl_bitsOf #[.float .f32 x] (.int .u32 a) := fun h => by
  refine impl_bitsOf.call ?_
  rw [impl_bitsOf.S, ne_self, hx.nan]
  have := cn_word hx
  refine br (fun hb => ⟨by rw [← this, if_pos hb]; rfl, Ext.refl _⟩) fun hb => ?_
  refine (Float32bits_c x).go fun h2 x2 => as_i ⟨by rw [← this, hb]; rfl, x2⟩
theorem l01Same_c (hx : FW .f32 x a) (hy : FW .f32 y b) : Ret prg f_spec_l01Same #[.float .f32 x, .float .f32 y] (.bool (a == b)) := fun h => by
  have key : ∀ h1, Ext h h1 → ∀ t, t = (nan .f32 a || nan .f32 b) → spec_l01Same.J2 (fun u h' => u = .bool (a == b) ∧ Ext h h') x y t h1 := by
    intro h1 x1 t ht
    subst ht
    unfold spec_l01Same.J2
    refine br (fun hb => ?_) fun hb => ?_
    · refine (l01NaN_c hx).go fun h2 x2 => as_b (br (fun h3 => ?_) fun h3 => ?_)
      · refine (l01NaN_c hy).go fun h4 x4 => as_b ⟨?_, (x1.trans x2).trans x4⟩
        have ea : a = qn .f32 := by have := hx.self; unfold cn at this; rw [if_pos h3] at this; exact this.symm
        subst ea
        congr 1
        rw [Bool.eq_iff_iff]
        constructor
        · intro h5; have := hy.self; unfold cn at this; rw [if_pos h5] at this; rw [← this]; simp
        · intro h5; have := eq_of_beq h5; rw [← this]; exact nan_qn .f32
      · rw [h3, Bool.false_or] at hb
        refine ⟨?_, x1.trans x2⟩
        have : (a == b) = false := by
          apply beq_false_of_ne
          intro e
          rw [e, hb] at h3
          cases h3
        rw [this]
    · rw [Bool.or_eq_false_iff] at hb
      refine (Float32bits_c x).go fun h2 x2 => as_i ((Float32bits_c y).go fun h4 x4 => as_i ⟨?_, (x1.trans x2).trans x4⟩)
      rw [hx.eq hb.1, hy.eq hb.2]
      congr 1
      rw [Bool.eq_iff_iff, beq_iff_eq, beq_iff_eq]
      omega
  refine spec_l01Same.call ((l01NaN_c hx).go fun h1 x1 => as_b (br (fun hb => key _ x1 _ (by rw [hb]; rfl)) fun hb => ?_))
  exact (l01NaN_c hy).go fun h2 x2 => as_b (key _ (x1.trans x2) _ (by rw [hb]; rfl))
end
end Go.Sx
