/- The law FnExactSamePlayer: for every input the call answers true, and each argument reads afterwards as it read before. No condition. -/
import Derived.Test.YtjoajnmhdobbfaaLopen
import Derived.Test.YtjoajnmhdobbfaaLgw
import Derived.Test.YtjoajnmhdobbfaaLr1o
import Derived.Test.YtjoajnmhdobbfaaRows
namespace Go.Proofs.Ytjoajnmhdobbfaa
open Go.ChangeShapes Go.WideShapes Go.ChangeAt Go.RowKit Go.Sx
open Go.ChangeMaps (open_string shut_string)
set_option linter.unusedVariables false
theorem own : ownKnob Try.prog.godebug = none := by kernel_rfl
theorem laidOut : laidOutB Try.prog = true := by kernel_rfl
set_option maxRecDepth 100000 in
theorem lifted (os : Os) (started : os.Started) (H : Type) (enc : TypeId × Value → H) :
    ReturnsInHanded {} Try.checked os 5 .any (Rows.fnExactSamePlayerSpec.pre6 enc Try.prog Try.f5 Rows.fnExactSamePlayerRow.domain false) (Rows.fnExactSamePlayerSpec.post enc Try.prog Try.f5 false true false false) := by
  refine law_returns (C := Try.checked) (tb := 4) own started (by kernel_rfl) Try.func5 (by kernel_rfl) (by kernel_rfl) rfl (fun ds hd => ?_) (by kernel_rfl) (by kernel_rfl) laidOut (of_decide_eq_true (by kernel_rfl))
    (ChangeSpec.witness6 (enc := enc) (C := Try.checked) false ⟨#[], #[.agg ⟨[.float .f32 0, .float .f32 0, .float .f32 0, .slice none 0 0, .slice none 0 0, .slice none 0 0, .slice none 0 0, .int .i64 (0 : Int), .int .i64 (0 : Int), .int .i64 (0 : Int)]⟩, .agg ⟨[.float .f32 0, .float .f32 0, .float .f32 0, .slice none 0 0, .slice none 0 0, .slice none 0 0, .slice none 0 0, .int .i64 (0 : Int), .int .i64 (0 : Int), .int .i64 (0 : Int)]⟩], []⟩ 8 (by kernel_rfl) (by kernel_rfl) (by kernel_rfl) (by kernel_rfl)) ?_
  · rw [Try.params5] at hd
    match ds, hd with
    | [d0, d1], _ => rfl
  · intro W base args ds p hA hval hsz
    rw [Try.params5] at hA hval
    obtain ⟨v0, vs0, d0, ds0, p0, q0, hargs, rfl, rfl, h0, r0⟩ := trodAll_cons hA
    obtain ⟨v1, vs1, d1, ds1, p1, q1, rfl, rfl, rfl, h1, r1⟩ := trodAll_cons r0
    obtain ⟨rfl, rfl, rfl⟩ := trodAll_nil r1
    obtain rfl : args = #[v0, v1] := by cases args; simp_all
    obtain ⟨cs0, rfl, A0⟩ := open_flat (n := 9) (ls := [32, 32, 32, 24, 63, 64, 67, 2, 2, 2]) (by kernel_rfl) (by kernel_rfl) (hval 0 69 v0 rfl rfl) h0
    obtain ⟨x0, R0⟩ := opens_Player _ _ _ _ _ _ _ A0
    obtain ⟨cs1, rfl, A1⟩ := open_flat (n := 9) (ls := [32, 32, 32, 24, 63, 64, 67, 2, 2, 2]) (by kernel_rfl) (by kernel_rfl) (hval 1 69 v1 rfl rfl) h1
    obtain ⟨x1, R1⟩ := opens_Player _ _ _ _ _ _ _ A1
    exact FnExactSamePlayer_c (ca := ⟨cs0⟩) (cb := ⟨cs1⟩) R0 R1
theorem over : Rows.fnExactSamePlayerRow.holds Try.pinned (OpenSpec.ofChange Rows.fnExactSamePlayerSpec) :=
  OpenClaim.holds_of_wide 5 Try.f5 rfl rfl rfl rfl rfl rfl rfl ⟨rfl, rfl, rfl, rfl, rfl⟩ rfl rfl rfl rfl rfl (by kernel_rfl) Try.func5 (by kernel_rfl)
    (of_decide_eq_true (by kernel_rfl)) (by unfold Func.isWrapper; first | (rw [if_pos (by decide +kernel)]; kernel_rfl) | (rw [if_neg (by decide +kernel)]; exact ⟨rfl, rfl⟩))
    (fun os started H enc _ => lifted os started H enc)
theorem FnExactSamePlayer_holds : Rows.FnExactSamePlayerSaid := over
#print axioms FnExactSamePlayer_holds
end Go.Proofs.Ytjoajnmhdobbfaa
