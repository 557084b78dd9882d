/- CheckOf: what it computes. -/
import Derived.Test.YtjoajnmhdobbfaaLx2
import Derived.Test.YtjoajnmhdobbfaaG1
namespace Go.Sx
set_option maxRecDepth 100000
open Go.Proofs
set_option linter.unusedVariables false

def isnan (a : Nat) : Bool := FloatKind.f32.format.order a a != some .eq
def bits32 (a : Nat) : Int := if isnan a then 2143289344 else a
def mix (h n : Int) : Int := IntKind.u32.wrap (bitI .xor .u32 h n * 16777619)
theorem Float32bits_c (b : Nat) : Ret prg f_math_Float32bits #[.float .f32 b] (.int .u32 b) :=
  ext_ret (e := Extern.MathFloatBits.float32bits) X_math_Float32bits (by kernel_rfl) (by kernel_rfl) (by kernel_rfl) (by kernel_rfl) fun w => rfl
theorem l01NaN_c (a : Nat) : Ret prg f_spec_l01NaN #[.float .f32 a] (.bool (isnan a)) := fun h => spec_l01NaN.call ⟨rfl, Ext.refl _⟩
theorem l01Bits_c (a : Nat) : Ret prg f_spec_l01Bits #[.float .f32 a] (.int .u32 (bits32 a)) := fun h => by
  refine spec_l01Bits.call ?_
  refine (l01NaN_c a).go fun h1 x1 => br (fun hb => ⟨by rw [bits32, if_pos hb], x1⟩) fun hb => ?_
  refine (Float32bits_c a).go fun h2 x2 => as_i ⟨by rw [bits32, hb]; rfl, x1.trans x2⟩
theorem bitsOf_c (a : Nat) : Ret prg f_impl_bitsOf #[.float .f32 a] (.int .u32 (bits32 a)) := fun h => by
  refine impl_bitsOf.call ?_
  refine br (fun hb => ⟨by rw [bits32, isnan, if_pos hb], Ext.refl _⟩) fun hb => ?_
  refine (Float32bits_c a).go fun h2 x2 => as_i ⟨by rw [bits32, isnan, hb]; rfl, x2⟩
theorem l10Mix_c (a b : Int) : Ret prg f_spec_l10Mix #[.int .u32 a, .int .u32 b] (.int .u32 (mix a b)) := fun h => spec_l10Mix.call ⟨rfl, Ext.refl _⟩
theorem checked_c (a b : Int) : Ret prg f_impl_checked #[.int .u32 a, .int .u32 b] (.int .u32 (mix a b)) := fun h => impl_checked.call ⟨rfl, Ext.refl _⟩
end Go.Sx
