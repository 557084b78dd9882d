/- The slice types of this seat's program: what their elements are. -/
import Derived.Test.YtjoajnmhdobbfaaTab
import Derived.Test.YtjoajnmhdobbfaaLsl
namespace Go.Sx
open Go.Proofs
theorem E_sl_uint8 : ElemT prg T_sl_uint8 T_uint8 1 1 := ⟨Try.underlying22, ⟨Try.t5, _, by kernel_rfl, rfl, by kernel_rfl, by kernel_rfl, by kernel_rfl⟩⟩
theorem E_sl_float32 : ElemT prg T_sl_float32 T_float32 1 4 := ⟨Try.underlying24, ⟨Try.t32, _, by kernel_rfl, rfl, by kernel_rfl, by kernel_rfl, by kernel_rfl⟩⟩
end Go.Sx
