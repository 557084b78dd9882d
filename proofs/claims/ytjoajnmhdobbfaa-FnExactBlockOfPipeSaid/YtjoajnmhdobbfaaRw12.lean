/- The law FnExactBlockOfPipe: for every input the call answers true, and each argument reads afterwards as it read before. No condition. -/
import Derived.Test.YtjoajnmhdobbfaaLopen
import Derived.Test.YtjoajnmhdobbfaaLw13
import Derived.Test.YtjoajnmhdobbfaaRows
namespace Go.Proofs.Ytjoajnmhdobbfaa
open Go.ChangeShapes Go.WideShapes Go.ChangeAt Go.RowKit Go.Sx
open Go.ChangeMaps (open_string shut_string)
set_option linter.unusedVariables false
theorem own : ownKnob Try.prog.godebug = none := by kernel_rfl
theorem laidOut : laidOutB Try.prog = true := by kernel_rfl
set_option maxRecDepth 100000 in
theorem lifted (os : Os) (started : os.Started) (H : Type) (enc : TypeId × Value → H) :
    ReturnsInHanded {} Try.checked os 4 .any (Rows.fnExactBlockOfPipeSpec.pre6 enc Try.prog Try.f4 Rows.fnExactBlockOfPipeRow.domain false) (Rows.fnExactBlockOfPipeSpec.post enc Try.prog Try.f4 false true false false) := by
  refine law_returns (C := Try.checked) (tb := 4) own started (by kernel_rfl) Try.func4 (by kernel_rfl) (by kernel_rfl) rfl (fun ds hd => ?_) (by kernel_rfl) (by kernel_rfl) laidOut (of_decide_eq_true (by kernel_rfl))
    (ChangeSpec.witness6 (enc := enc) (C := Try.checked) false ⟨#[], #[.agg ⟨[.slice none 0 0, .slice none 0 0, .slice none 0 0, .int .i64 (0 : Int), .float .f32 0, .float .f32 0, .float .f32 0, .float .f32 0, .float .f32 0, .bool false, .float .f32 0, .float .f32 0, .float .f32 0]⟩, .agg ⟨List.replicate 16 (.float .f32 0)⟩], []⟩ 8 (by kernel_rfl) (by kernel_rfl) (by kernel_rfl) (by kernel_rfl)) ?_
  · rw [Try.params4] at hd
    match ds, hd with
    | [d0, d1], _ => rfl
  · intro W base args ds p hA hval hsz
    rw [Try.params4] at hA hval
    obtain ⟨v0, vs0, d0, ds0, p0, q0, hargs, rfl, rfl, h0, r0⟩ := trodAll_cons hA
    obtain ⟨v1, vs1, d1, ds1, p1, q1, rfl, rfl, rfl, h1, r1⟩ := trodAll_cons r0
    obtain ⟨rfl, rfl, rfl⟩ := trodAll_nil r1
    obtain rfl : args = #[v0, v1] := by cases args; simp_all
    obtain ⟨cs0, rfl, A0⟩ := open_flat (n := 9) (ls := [39, 39, 24, 2, 32, 32, 32, 32, 32, 4, 32, 32, 32]) (by kernel_rfl) (by kernel_rfl) (hval 0 45 v0 rfl rfl) h0
    obtain ⟨x0, R0⟩ := opens_Pipe _ _ _ _ _ _ _ A0
    obtain ⟨cs1, rfl, A1⟩ := open_flat (n := 9) (ls := (List.replicate 16 32)) (by kernel_rfl) (by kernel_rfl) (hval 1 46 v1 rfl rfl) h1
    obtain ⟨x1, R1⟩ := opens_arr 16 (opens_float U_float32) _ _ _ _ _ _ _ A1
    exact FnExactBlockOfPipe_c (cs := ⟨cs0⟩) (cb := ⟨cs1⟩) R0 (FA.of R1)
theorem over : Rows.fnExactBlockOfPipeRow.holds Try.pinned (OpenSpec.ofChange Rows.fnExactBlockOfPipeSpec) :=
  OpenClaim.holds_of_wide 4 Try.f4 rfl rfl rfl rfl rfl rfl rfl ⟨rfl, rfl, rfl, rfl, rfl⟩ rfl rfl rfl rfl rfl (by kernel_rfl) Try.func4 (by kernel_rfl)
    (of_decide_eq_true (by kernel_rfl)) (by unfold Func.isWrapper; first | (rw [if_pos (by decide +kernel)]; kernel_rfl) | (rw [if_neg (by decide +kernel)]; exact ⟨rfl, rfl⟩))
    (fun os started H enc _ => lifted os started H enc)
theorem FnExactBlockOfPipe_holds : Rows.FnExactBlockOfPipeSaid := over
#print axioms FnExactBlockOfPipe_holds
end Go.Proofs.Ytjoajnmhdobbfaa
