/- The law FnExactTailOf: for every input the call answers true, and each argument reads afterwards as it read before. No condition. -/
import Derived.Test.YtdhhfilfcpljoaaGreatRows
import Derived.Test.YtdhhfilfcpljoaaGreatLopen
import Derived.Test.YtdhhfilfcpljoaaGreatLqB
import Derived.Test.YtdhhfilfcpljoaaGreatLrO
namespace Go.Proofs.YtdhhfilfcpljoaaGreat
open Go.ChangeShapes Go.WideShapes Go.ChangeAt Go.RowKit Go.Sx
open Go.ChangeMaps (open_string shut_string)
set_option linter.unusedVariables false
theorem own : ownKnob Tryz.prog.godebug = none := by kernel_rfl
theorem laidOut : laidOutB Tryz.prog = true := by kernel_rfl
set_option maxRecDepth 100000 in
theorem lifted (os : Os) (started : os.Started) (H : Type) (enc : TypeId × Value → H) :
    ReturnsInHanded {} Tryz.checked os 4 .any (Rows.fnExactTailOfSpec.pre6 enc Tryz.prog Tryz.f4 Rows.fnExactTailOfRow.domain false) (Rows.fnExactTailOfSpec.post enc Tryz.prog Tryz.f4 false true false false) := by
  refine law_returns (C := Tryz.checked) (tb := 4) own started (by kernel_rfl) Tryz.func4 (by kernel_rfl) (by kernel_rfl) rfl (fun ds hd => ?_) (by kernel_rfl) (by kernel_rfl) laidOut (of_decide_eq_true (by kernel_rfl))
    (ChangeSpec.witness6 (enc := enc) (C := Tryz.checked) false ⟨#[], #[.agg ⟨[.slice none 0 0, .int .i64 (0 : Int), .slice none 0 0, .slice none 0 0, .int .i64 (0 : Int), .float .f32 0, .slice none 0 0, .int .i64 (0 : Int), .float .f32 0, .slice none 0 0, .int .i64 (0 : Int), .slice none 0 0, .int .i64 (0 : Int), .slice none 0 0, .int .i64 (0 : Int), .slice none 0 0, .int .i64 (0 : Int), .int .i64 (0 : Int), .float .f32 0, .float .f32 0, .float .f32 0, .float .f32 0, .float .f32 0, .int .i64 (0 : Int), .float .f32 0, .float .f32 0, .float .f32 0, .float .f32 0, .float .f32 0, .int .i64 (0 : Int), .float .f32 0, .float .f32 0, .float .f32 0, .float .f32 0, .float .f32 0, .int .i64 (0 : Int), .float .f32 0, .float .f32 0, .float .f32 0, .float .f32 0, .float .f32 0, .float .f32 0, .float .f32 0, .float .f32 0, .float .f32 0, .float .f32 0, .float .f32 0]⟩, .int .i64 (0 : Int)], []⟩ 8 (by kernel_rfl) (by kernel_rfl) (by kernel_rfl) (by kernel_rfl)) ?_
  · rw [Tryz.params4] at hd
    match ds, hd with
    | [d0, d1], _ => rfl
  · intro W base args ds p hA hval hsz
    rw [Tryz.params4] at hA hval
    obtain ⟨v0, vs0, d0, ds0, p0, q0, hargs, rfl, rfl, h0, r0⟩ := trodAll_cons hA
    obtain ⟨v1, vs1, d1, ds1, p1, q1, rfl, rfl, rfl, h1, r1⟩ := trodAll_cons r0
    obtain ⟨rfl, rfl, rfl⟩ := trodAll_nil r1
    obtain rfl : args = #[v0, v1] := by cases args; simp_all
    obtain ⟨cs0, rfl, A0⟩ := open_flat (n := 9) (ls := [24, 2, 57, 24, 2, 28, 24, 2, 28, 24, 2, 24, 2, 24, 2, 24, 2, 2, 28, 28, 28, 28, 28, 2, 28, 28, 28, 28, 28, 2, 28, 28, 28, 28, 28, 2, 28, 28, 28, 28, 28, 28, 28, 28, 28, 28, 28]) (by kernel_rfl) (by kernel_rfl) (hval 0 65 v0 rfl rfl) h0
    obtain ⟨x0, R0⟩ := opens_Room _ _ _ _ _ _ _ A0
    obtain ⟨a1, rfl, _, _, w1⟩ := open_int Tryz.underlying2 (hval 1 2 v1 rfl rfl) h1
    -- ('int', 'i64')
    exact FnExactTailOf_c (cs := ⟨cs0⟩) R0
theorem over : Rows.fnExactTailOfRow.holds Tryz.pinned (OpenSpec.ofChange Rows.fnExactTailOfSpec) :=
  OpenClaim.holds_of_wide 4 Tryz.f4 rfl rfl rfl rfl rfl rfl rfl ⟨rfl, rfl, rfl, rfl, rfl⟩ rfl rfl rfl rfl rfl (by kernel_rfl) Tryz.func4 (by kernel_rfl)
    (of_decide_eq_true (by kernel_rfl)) (by unfold Func.isWrapper; first | (rw [if_pos (by decide +kernel)]; kernel_rfl) | (rw [if_neg (by decide +kernel)]; exact ⟨rfl, rfl⟩))
    (fun os started H enc _ => lifted os started H enc)
theorem FnExactTailOf_holds : Rows.FnExactTailOfSaid := over
#print axioms FnExactTailOf_holds
end Go.Proofs.YtdhhfilfcpljoaaGreat
