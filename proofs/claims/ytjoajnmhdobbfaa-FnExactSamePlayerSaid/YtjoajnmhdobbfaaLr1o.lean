/- Given Ring, Filter opened. -/
import Derived.Test.YtjoajnmhdobbfaaLr1
import Derived.Test.YtjoajnmhdobbfaaLr3
import Derived.Test.YtjoajnmhdobbfaaLr4
import Derived.Test.YtjoajnmhdobbfaaLr6
import Derived.Test.YtjoajnmhdobbfaaLr7
set_option linter.unusedVariables false
set_option linter.unusedSimpArgs false
namespace Go.Sx
open Go.Proofs
set_option maxRecDepth 100000
theorem opens_Ring : Opens prg rRing (([T_sl_float32] ++ ([T_int64]))) := opens_via (fun p => ⟨p.1, p.2⟩) (fun _ => rfl) (opens_seq (opens_sl (n := 9) (U_sl_float32) (by kernel_rfl) (by kernel_rfl) (opens_float U_float32)) ((opens_int U_int64)))
theorem opens_Filter : Opens prg rFilter (([T_int64] ++ (((List.replicate 3 [T_float32]).flatten) ++ (((List.replicate 2 [T_float32]).flatten))))) := opens_via (fun p => ⟨p.1, p.2.1, p.2.2⟩) (fun _ => rfl) (opens_seq (opens_int U_int64) (opens_seq (opens_arr 3 (opens_float U_float32)) ((opens_arr 2 (opens_float U_float32)))))
end Go.Sx
/- Given Pipe opened. -/
set_option linter.unusedVariables false
set_option linter.unusedSimpArgs false
namespace Go.Sx
open Go.Proofs
set_option maxRecDepth 100000
theorem opens_Pipe : Opens prg rPipe (([T_sl_laws_Ring] ++ ([T_sl_laws_Ring] ++ ([T_sl_float32] ++ (([T_int64] ++ (((List.replicate 3 [T_float32]).flatten) ++ (((List.replicate 2 [T_float32]).flatten)))) ++ ([T_bool] ++ ([T_float32] ++ ([T_float32] ++ ([T_float32]))))))))) := opens_via (fun p => ⟨p.1, p.2.1, p.2.2.1, p.2.2.2.1, p.2.2.2.2.1, p.2.2.2.2.2.1, p.2.2.2.2.2.2.1, p.2.2.2.2.2.2.2⟩) (fun _ => rfl) (opens_seq (opens_sl (n := 9) (U_sl_laws_Ring) (by kernel_rfl) (by kernel_rfl) opens_Ring) (opens_seq (opens_sl (n := 9) (U_sl_laws_Ring) (by kernel_rfl) (by kernel_rfl) opens_Ring) (opens_seq (opens_sl (n := 9) (U_sl_float32) (by kernel_rfl) (by kernel_rfl) (opens_float U_float32)) (opens_seq opens_Filter (opens_seq (opens_bool U_bool) (opens_seq (opens_float U_float32) (opens_seq (opens_float U_float32) ((opens_float U_float32)))))))))
end Go.Sx
/- Given String, Bow opened. -/
set_option linter.unusedVariables false
set_option linter.unusedSimpArgs false
namespace Go.Sx
open Go.Proofs
set_option maxRecDepth 100000
theorem opens_String : Opens prg rString ((([T_sl_float32] ++ ([T_int64])) ++ (([T_int64] ++ (((List.replicate 3 [T_float32]).flatten) ++ (((List.replicate 2 [T_float32]).flatten)))) ++ (([T_int64] ++ (((List.replicate 3 [T_float32]).flatten) ++ (((List.replicate 2 [T_float32]).flatten)))) ++ ([T_float32]))))) := opens_via (fun p => ⟨p.1, p.2.1, p.2.2.1, p.2.2.2⟩) (fun _ => rfl) (opens_seq opens_Ring (opens_seq opens_Filter (opens_seq opens_Filter ((opens_float U_float32)))))
theorem opens_Bow : Opens prg rBow ((([T_sl_float32] ++ ([T_int64])) ++ (([T_sl_float32] ++ ([T_int64])) ++ (([T_int64] ++ (((List.replicate 3 [T_float32]).flatten) ++ (((List.replicate 2 [T_float32]).flatten)))) ++ ([T_float32] ++ ([T_float32])))))) := opens_via (fun p => ⟨p.1, p.2.1, p.2.2.1, p.2.2.2.1, p.2.2.2.2⟩) (fun _ => rfl) (opens_seq opens_Ring (opens_seq opens_Ring (opens_seq opens_Filter (opens_seq (opens_float U_float32) ((opens_float U_float32))))))
end Go.Sx
/- Given Tuning, Instrument, Event, Score opened. -/
set_option linter.unusedVariables false
set_option linter.unusedSimpArgs false
namespace Go.Sx
open Go.Proofs
set_option maxRecDepth 100000
theorem opens_Tuning : Opens prg rTuning (([T_float32] ++ ([T_float32] ++ ([T_sl_float32])))) := opens_via (fun p => ⟨p.1, p.2.1, p.2.2⟩) (fun _ => rfl) (opens_seq (opens_float U_float32) (opens_seq (opens_float U_float32) ((opens_sl (n := 9) (U_sl_float32) (by kernel_rfl) (by kernel_rfl) (opens_float U_float32)))))
theorem opens_Instrument : Opens prg rInstrument (([T_string] ++ ([T_int64] ++ ([T_float32] ++ ([T_float32] ++ ([T_float32])))))) := opens_via (fun p => ⟨p.1, p.2.1, p.2.2.1, p.2.2.2.1, p.2.2.2.2⟩) (fun _ => rfl) (opens_seq (opens_str U_string) (opens_seq (opens_int U_int64) (opens_seq (opens_float U_float32) (opens_seq (opens_float U_float32) ((opens_float U_float32))))))
theorem opens_Event : Opens prg rEvent (([T_int64] ++ ([T_int64] ++ ([T_int64] ++ ([T_int64] ++ ([T_int64] ++ ([T_float32]))))))) := opens_via (fun p => ⟨p.1, p.2.1, p.2.2.1, p.2.2.2.1, p.2.2.2.2.1, p.2.2.2.2.2⟩) (fun _ => rfl) (opens_seq (opens_int U_int64) (opens_seq (opens_int U_int64) (opens_seq (opens_int U_int64) (opens_seq (opens_int U_int64) (opens_seq (opens_int U_int64) ((opens_float U_float32)))))))
theorem opens_Score : Opens prg rScore (([T_float32] ++ (([T_float32] ++ ([T_float32] ++ ([T_sl_float32]))) ++ ([T_sl_laws_Instrument] ++ ([T_sl_laws_Event]))))) := opens_via (fun p => ⟨p.1, p.2.1, p.2.2.1, p.2.2.2⟩) (fun _ => rfl) (opens_seq (opens_float U_float32) (opens_seq opens_Tuning (opens_seq (opens_sl (n := 9) (U_sl_laws_Instrument) (by kernel_rfl) (by kernel_rfl) opens_Instrument) ((opens_sl (n := 9) (U_sl_laws_Event) (by kernel_rfl) (by kernel_rfl) opens_Event)))))
end Go.Sx
/- Given Voice, Player opened. -/
set_option linter.unusedVariables false
set_option linter.unusedSimpArgs false
namespace Go.Sx
open Go.Proofs
set_option maxRecDepth 100000
theorem opens_Voice : Opens prg rVoice (([T_int64] ++ ([T_int64] ++ ([T_int64] ++ ([T_bool] ++ ([T_float32] ++ ((([T_sl_float32] ++ ([T_int64])) ++ (([T_int64] ++ (((List.replicate 3 [T_float32]).flatten) ++ (((List.replicate 2 [T_float32]).flatten)))) ++ (([T_int64] ++ (((List.replicate 3 [T_float32]).flatten) ++ (((List.replicate 2 [T_float32]).flatten)))) ++ ([T_float32])))) ++ (([T_sl_laws_Ring] ++ ([T_sl_laws_Ring] ++ ([T_sl_float32] ++ (([T_int64] ++ (((List.replicate 3 [T_float32]).flatten) ++ (((List.replicate 2 [T_float32]).flatten)))) ++ ([T_bool] ++ ([T_float32] ++ ([T_float32] ++ ([T_float32])))))))) ++ ((([T_sl_float32] ++ ([T_int64])) ++ (([T_sl_float32] ++ ([T_int64])) ++ (([T_int64] ++ (((List.replicate 3 [T_float32]).flatten) ++ (((List.replicate 2 [T_float32]).flatten)))) ++ ([T_float32] ++ ([T_float32])))))))))))))) := opens_via (fun p => ⟨p.1, p.2.1, p.2.2.1, p.2.2.2.1, p.2.2.2.2.1, p.2.2.2.2.2.1, p.2.2.2.2.2.2.1, p.2.2.2.2.2.2.2⟩) (fun _ => rfl) (opens_seq (opens_int U_int64) (opens_seq (opens_int U_int64) (opens_seq (opens_int U_int64) (opens_seq (opens_bool U_bool) (opens_seq (opens_float U_float32) (opens_seq opens_String (opens_seq opens_Pipe (opens_Bow))))))))
theorem opens_Player : Opens prg rPlayer ((([T_float32] ++ (([T_float32] ++ ([T_float32] ++ ([T_sl_float32]))) ++ ([T_sl_laws_Instrument] ++ ([T_sl_laws_Event])))) ++ ([T_sl_laws_Voice] ++ ([T_int64] ++ ([T_int64] ++ ([T_int64])))))) := opens_via (fun p => ⟨p.1, p.2.1, p.2.2.1, p.2.2.2.1, p.2.2.2.2⟩) (fun _ => rfl) (opens_seq opens_Score (opens_seq (opens_sl (n := 9) (U_sl_laws_Voice) (by kernel_rfl) (by kernel_rfl) opens_Voice) (opens_seq (opens_int U_int64) (opens_seq (opens_int U_int64) ((opens_int U_int64))))))
end Go.Sx
