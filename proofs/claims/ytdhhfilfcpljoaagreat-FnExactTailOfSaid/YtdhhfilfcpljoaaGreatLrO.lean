/- Given Ring, Filter opened. -/
import Derived.Test.YtdhhfilfcpljoaaGreatLr1
import Derived.Test.YtdhhfilfcpljoaaGreatLr2
set_option linter.unusedVariables false
set_option linter.unusedSimpArgs false
namespace Go.Sx
open Go.Proofs
set_option maxRecDepth 100000
theorem opens_Ring : Opens prg rRing (([T_sl_float32] ++ ([T_int64]))) := opens_via (fun p => ⟨p.1, p.2⟩) (fun _ => rfl) (opens_seq (opens_sl (n := 9) (U_sl_float32) (by kernel_rfl) (by kernel_rfl) (opens_float U_float32)) ((opens_int U_int64)))
theorem opens_Filter : Opens prg rFilter (([T_int64] ++ (((List.replicate 3 [T_float32]).flatten) ++ (((List.replicate 2 [T_float32]).flatten))))) := opens_via (fun p => ⟨p.1, p.2.1, p.2.2⟩) (fun _ => rfl) (opens_seq (opens_int U_int64) (opens_seq (opens_arr 3 (opens_float U_float32)) ((opens_arr 2 (opens_float U_float32)))))
end Go.Sx
/- Given Comb, Tap, Room opened. -/
set_option linter.unusedVariables false
set_option linter.unusedSimpArgs false
namespace Go.Sx
open Go.Proofs
set_option maxRecDepth 100000
theorem opens_Comb : Opens prg rComb ((([T_sl_float32] ++ ([T_int64])) ++ ([T_float32]))) := opens_via (fun p => ⟨p.1, p.2⟩) (fun _ => rfl) (opens_seq opens_Ring ((opens_float U_float32)))
theorem opens_Tap : Opens prg rTap (([T_int64] ++ ([T_float32]))) := opens_via (fun p => ⟨p.1, p.2⟩) (fun _ => rfl) (opens_seq (opens_int U_int64) ((opens_float U_float32)))
theorem opens_Room : Opens prg rRoom ((([T_sl_float32] ++ ([T_int64])) ++ ([T_sl_laws_Tap] ++ (((List.replicate 2 (([T_sl_float32] ++ ([T_int64])) ++ ([T_float32]))).flatten) ++ (((List.replicate 4 ([T_sl_float32] ++ ([T_int64]))).flatten) ++ (((List.replicate 4 ([T_int64] ++ (((List.replicate 3 [T_float32]).flatten) ++ (((List.replicate 2 [T_float32]).flatten))))).flatten) ++ (((List.replicate 4 [T_float32]).flatten) ++ ([T_float32] ++ ([T_float32]))))))))) := opens_via (fun p => ⟨p.1, p.2.1, p.2.2.1, p.2.2.2.1, p.2.2.2.2.1, p.2.2.2.2.2.1, p.2.2.2.2.2.2.1, p.2.2.2.2.2.2.2⟩) (fun _ => rfl) (opens_seq opens_Ring (opens_seq (opens_sl (n := 9) (U_sl_laws_Tap) (by kernel_rfl) (by kernel_rfl) opens_Tap) (opens_seq (opens_arr 2 opens_Comb) (opens_seq (opens_arr 4 opens_Ring) (opens_seq (opens_arr 4 opens_Filter) (opens_seq (opens_arr 4 (opens_float U_float32)) (opens_seq (opens_float U_float32) ((opens_float U_float32)))))))))
end Go.Sx
