/- The bits of floats: what the externs answer. -/
import Derived.Test.YtdhhfilfcpljoaaGreatLx2
import Derived.Test.YtdhhfilfcpljoaaGreatTab
set_option linter.unusedVariables false
set_option linter.unusedSimpArgs false
namespace Go.Sx
open Go.Proofs
set_option maxRecDepth 100000

theorem Float32bits_c (b : Nat) : Ret prg f_math_Float32bits #[.float .f32 b] (.int .u32 b) :=
  ext_ret (e := Extern.MathFloatBits.float32bits) X_math_Float32bits (by kernel_rfl) (by kernel_rfl) (by kernel_rfl) (by kernel_rfl) fun w => rfl
theorem frombits_c (n : Int) : Ret prg f_math_Float32frombits #[.int .u32 n] (.float .f32 n.toNat) :=
  ext_ret (e := Extern.MathFloatBits.float32frombits) X_math_Float32frombits (by kernel_rfl) (by kernel_rfl) (by kernel_rfl) (by kernel_rfl) fun w => rfl
theorem Float64bits_c (b : Nat) : Ret prg f_math_Float64bits #[.float .f64 b] (.int .u64 b) :=
  ext_ret (e := Extern.MathFloatBits.float64bits) X_math_Float64bits (by kernel_rfl) (by kernel_rfl) (by kernel_rfl) (by kernel_rfl) fun w => rfl
theorem frombits64_c (n : Int) : Ret prg f_math_Float64frombits #[.int .u64 n] (.float .f64 n.toNat) :=
  ext_ret (e := Extern.MathFloatBits.float64frombits) X_math_Float64frombits (by kernel_rfl) (by kernel_rfl) (by kernel_rfl) (by kernel_rfl) fun w => rfl
end Go.Sx
