/- The slice types of this seat's program: what their elements are. -/
import Derived.Test.YtdhhfilfcpljoaaTab
import Derived.Test.YtdhhfilfcpljoaaLsl
namespace Go.Sx
open Go.Proofs
theorem E_sl_laws_Ring : ElemT prg T_sl_laws_Ring T_laws_Ring 2 32 := ⟨Try.underlying22, ⟨Try.t47, _, by kernel_rfl, rfl, by kernel_rfl, by kernel_rfl, by kernel_rfl⟩⟩
theorem E_sl_float32 : ElemT prg T_sl_float32 T_float32 1 4 := ⟨Try.underlying23, ⟨Try.t24, _, by kernel_rfl, rfl, by kernel_rfl, by kernel_rfl, by kernel_rfl⟩⟩
theorem E_sl_impl_Ring : ElemT prg T_sl_impl_Ring T_impl_Ring 2 32 := ⟨Try.underlying33, ⟨Try.t59, _, by kernel_rfl, rfl, by kernel_rfl, by kernel_rfl, by kernel_rfl⟩⟩
theorem E_sl_laws_Tap : ElemT prg T_sl_laws_Tap T_laws_Tap 2 16 := ⟨Try.underlying48, ⟨Try.t137, _, by kernel_rfl, rfl, by kernel_rfl, by kernel_rfl, by kernel_rfl⟩⟩
theorem E_sl_impl_Tap : ElemT prg T_sl_impl_Tap T_impl_Tap 2 16 := ⟨Try.underlying60, ⟨Try.t127, _, by kernel_rfl, rfl, by kernel_rfl, by kernel_rfl, by kernel_rfl⟩⟩
theorem E_sl_p_impl_Ring : ElemT prg T_sl_p_impl_Ring T_p_impl_Ring 1 8 := ⟨Try.underlying157, ⟨Try.t156, _, by kernel_rfl, rfl, by kernel_rfl, by kernel_rfl, by kernel_rfl⟩⟩
end Go.Sx
