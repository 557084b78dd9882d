/- Given Ring, Filter opened. -/
import Derived.Test.YtdhhfilfcpljoaaLr1
set_option linter.unusedVariables false
set_option linter.unusedSimpArgs false
namespace Go.Sx
open Go.Proofs
set_option maxRecDepth 100000
theorem opens_Ring : Opens prg rRing (([T_sl_float32] ++ ([T_int64]))) := opens_via (fun p => ⟨p.1, p.2⟩) (fun _ => rfl) (opens_seq (opens_sl (n := 9) (U_sl_float32) (by kernel_rfl) (by kernel_rfl) (opens_float U_float32)) ((opens_int U_int64)))
theorem opens_Filter : Opens prg rFilter (([T_int64] ++ (((List.replicate 3 [T_float32]).flatten) ++ (((List.replicate 2 [T_float32]).flatten))))) := opens_via (fun p => ⟨p.1, p.2.1, p.2.2⟩) (fun _ => rfl) (opens_seq (opens_int U_int64) (opens_seq (opens_arr 3 (opens_float U_float32)) ((opens_arr 2 (opens_float U_float32)))))
end Go.Sx
