/- The law FnExactWithTaps: for every input the call answers true, and each argument reads afterwards as it read before. No condition. -/
import Derived.Test.YtdhhfilfcpljoaaRows
import Derived.Test.YtdhhfilfcpljoaaLopen
import Derived.Test.YtdhhfilfcpljoaaLw4
import Derived.Test.YtdhhfilfcpljoaaLr2o
namespace Go.Proofs.Ytdhhfilfcpljoaa
open Go.ChangeShapes Go.WideShapes Go.ChangeAt Go.RowKit Go.Sx
open Go.ChangeMaps (open_string shut_string)
set_option linter.unusedVariables false
theorem own : ownKnob Try.prog.godebug = none := by kernel_rfl
theorem laidOut : laidOutB Try.prog = true := by kernel_rfl
set_option maxRecDepth 100000 in
theorem lifted (os : Os) (started : os.Started) (H : Type) (enc : TypeId × Value → H) :
    ReturnsInHanded {} Try.checked os 4 .any (Rows.fnExactWithTapsSpec.pre6 enc Try.prog Try.f4 Rows.fnExactWithTapsRow.domain false) (Rows.fnExactWithTapsSpec.post enc Try.prog Try.f4 false true false false) := by
  refine law_returns (C := Try.checked) (tb := 4) own started (by kernel_rfl) Try.func4 (by kernel_rfl) (by kernel_rfl) rfl (fun ds hd => ?_) (by kernel_rfl) (by kernel_rfl) laidOut (of_decide_eq_true (by kernel_rfl))
    (ChangeSpec.witness6 (enc := enc) (C := Try.checked) false ⟨#[], #[.agg ⟨[.slice none 0 0, .int .i64 (0 : Int), .slice none 0 0, .slice none 0 0, .int .i64 (0 : Int), .float .f32 0, .slice none 0 0, .int .i64 (0 : Int), .float .f32 0, .slice none 0 0, .int .i64 (0 : Int), .slice none 0 0, .int .i64 (0 : Int), .slice none 0 0, .int .i64 (0 : Int), .slice none 0 0, .int .i64 (0 : Int), .int .i64 (0 : Int), .float .f32 0, .float .f32 0, .float .f32 0, .float .f32 0, .float .f32 0, .int .i64 (0 : Int), .float .f32 0, .float .f32 0, .float .f32 0, .float .f32 0, .float .f32 0, .int .i64 (0 : Int), .float .f32 0, .float .f32 0, .float .f32 0, .float .f32 0, .float .f32 0, .int .i64 (0 : Int), .float .f32 0, .float .f32 0, .float .f32 0, .float .f32 0, .float .f32 0, .float .f32 0, .float .f32 0, .float .f32 0, .float .f32 0, .float .f32 0, .float .f32 0]⟩, .int .i64 (0 : Int), .slice none 0 0], []⟩ 8 (by kernel_rfl) (by kernel_rfl) (by kernel_rfl) (by kernel_rfl)) ?_
  · rw [Try.params4] at hd
    match ds, hd with
    | [d0, d1, d2], _ => rfl
  · intro W base args ds p hA hval hsz
    rw [Try.params4] at hA hval
    obtain ⟨v0, vs0, d0, ds0, p0, q0, hargs, rfl, rfl, h0, r0⟩ := trodAll_cons hA
    obtain ⟨v1, vs1, d1, ds1, p1, q1, rfl, rfl, rfl, h1, r1⟩ := trodAll_cons r0
    obtain ⟨v2, vs2, d2, ds2, p2, q2, rfl, rfl, rfl, h2, r2⟩ := trodAll_cons r1
    obtain ⟨rfl, rfl, rfl⟩ := trodAll_nil r2
    obtain rfl : args = #[v0, v1, v2] := by cases args; simp_all
    obtain ⟨cs0, rfl, A0⟩ := open_flat (n := 9) (ls := [23, 2, 48, 23, 2, 24, 23, 2, 24, 23, 2, 23, 2, 23, 2, 23, 2, 2, 24, 24, 24, 24, 24, 2, 24, 24, 24, 24, 24, 2, 24, 24, 24, 24, 24, 2, 24, 24, 24, 24, 24, 24, 24, 24, 24, 24, 24]) (by kernel_rfl) (by kernel_rfl) (hval 0 56 v0 rfl rfl) h0
    obtain ⟨x0, R0⟩ := opens_Room _ _ _ _ _ _ _ A0
    obtain ⟨a1, rfl, _, _, w1⟩ := open_int Try.underlying2 (hval 1 2 v1 rfl rfl) h1
    -- ('int', 'i64')
    obtain ⟨b2, l2, c2, cs2, rfl, z2, S2⟩ := open_slice Try.underlying48 (hval 2 48 v2 rfl rfl) h2
    obtain ⟨x2, R2⟩ := slc_rd (n := 9) (by kernel_rfl) (by kernel_rfl) opens_Tap S2
    exact FnExactWithTaps_c (cs := ⟨cs0⟩) (c := c2) R0 R2
theorem over : Rows.fnExactWithTapsRow.holds Try.pinned (OpenSpec.ofChange Rows.fnExactWithTapsSpec) :=
  OpenClaim.holds_of_wide 4 Try.f4 rfl rfl rfl rfl rfl rfl rfl ⟨rfl, rfl, rfl, rfl, rfl⟩ rfl rfl rfl rfl rfl (by kernel_rfl) Try.func4 (by kernel_rfl)
    (of_decide_eq_true (by kernel_rfl)) (by unfold Func.isWrapper; first | (rw [if_pos (by decide +kernel)]; kernel_rfl) | (rw [if_neg (by decide +kernel)]; exact ⟨rfl, rfl⟩))
    (fun os started H enc _ => lifted os started H enc)
theorem FnExactWithTaps_holds : Rows.FnExactWithTapsSaid := over
#print axioms FnExactWithTaps_holds
end Go.Proofs.Ytdhhfilfcpljoaa
