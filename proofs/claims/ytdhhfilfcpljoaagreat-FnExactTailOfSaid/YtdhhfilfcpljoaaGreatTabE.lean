/- The slice types of this seat's program: what their elements are. -/
import Derived.Test.YtdhhfilfcpljoaaGreatTab
import Derived.Test.YtdhhfilfcpljoaaGreatLsl
namespace Go.Sx
open Go.Proofs
theorem E_sl_float32 : ElemT prg T_sl_float32 T_float32 1 4 := ⟨Tryz.underlying24, ⟨Tryz.t28, _, by kernel_rfl, rfl, by kernel_rfl, by kernel_rfl, by kernel_rfl⟩⟩
theorem E_sl_impl_Tap : ElemT prg T_sl_impl_Tap T_impl_Tap 2 16 := ⟨Tryz.underlying27, ⟨Tryz.t51, _, by kernel_rfl, rfl, by kernel_rfl, by kernel_rfl, by kernel_rfl⟩⟩
theorem E_sl_laws_Tap : ElemT prg T_sl_laws_Tap T_laws_Tap 2 16 := ⟨Tryz.underlying57, ⟨Tryz.t208, _, by kernel_rfl, rfl, by kernel_rfl, by kernel_rfl, by kernel_rfl⟩⟩
theorem E_sl_p_impl_Ring : ElemT prg T_sl_p_impl_Ring T_p_impl_Ring 1 8 := ⟨Tryz.underlying114, ⟨Tryz.t159, _, by kernel_rfl, rfl, by kernel_rfl, by kernel_rfl, by kernel_rfl⟩⟩
theorem E_sl_int64 : ElemT prg T_sl_int64 T_int64 1 8 := ⟨Tryz.underlying183, ⟨Tryz.t2, _, by kernel_rfl, rfl, by kernel_rfl, by kernel_rfl, by kernel_rfl⟩⟩
theorem E_sl_impl_Ring : ElemT prg T_sl_impl_Ring T_impl_Ring 2 32 := ⟨Tryz.underlying187, ⟨Tryz.t26, _, by kernel_rfl, rfl, by kernel_rfl, by kernel_rfl, by kernel_rfl⟩⟩
end Go.Sx
