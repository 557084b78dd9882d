/- The law FnExactValidDeed: for every input the call answers true, and each argument reads afterwards as it read before. No condition. -/
import Derived.Test.YthpodhdhpepfbaaRows
import Derived.Test.YthpodhdhpepfbaaLopen
import Derived.Test.YthpodhdhpepfbaaLc2
namespace Go.Proofs.Ythpodhdhpepfbaa
open Go.ChangeShapes Go.WideShapes Go.ChangeAt Go.RowKit Go.Sx
open Go.ChangeMaps (open_string shut_string)
set_option linter.unusedVariables false
theorem own : ownKnob Try.prog.godebug = none := by kernel_rfl
theorem laidOut : laidOutB Try.prog = true := by kernel_rfl
set_option maxRecDepth 100000 in
theorem lifted (os : Os) (started : os.Started) (H : Type) (enc : TypeId × Value → H) :
    ReturnsInHanded {} Try.checked os 4 .any (Rows.fnExactValidDeedSpec.pre6 enc Try.prog Try.f4 Rows.fnExactValidDeedRow.domain false) (Rows.fnExactValidDeedSpec.post enc Try.prog Try.f4 false true false false) := by
  refine law_returns (C := Try.checked) (tb := 4) own started (by kernel_rfl) Try.func4 (by kernel_rfl) (by kernel_rfl) rfl (fun ds hd => ?_) (by kernel_rfl) (by kernel_rfl) laidOut (of_decide_eq_true (by kernel_rfl))
    (ChangeSpec.witness6 (enc := enc) (C := Try.checked) false ⟨#[], #[.agg ⟨[.int .i64 (0 : Int), .int .i64 (0 : Int), .int .i64 (0 : Int)]⟩], []⟩ 8 (by kernel_rfl) (by kernel_rfl) (by kernel_rfl) (by kernel_rfl)) ?_
  · rw [Try.params4] at hd
    match ds, hd with
    | [d0], _ => rfl
  · intro W base args ds p hA hval hsz
    rw [Try.params4] at hA hval
    obtain ⟨v0, vs0, d0, ds0, p0, q0, hargs, rfl, rfl, h0, r0⟩ := trodAll_cons hA
    obtain ⟨rfl, rfl, rfl⟩ := trodAll_nil r0
    obtain rfl : args = #[v0] := by cases args; simp_all
    obtain ⟨cs0, rfl, A0⟩ := open_flat (n := 9) (ls := [2, 2, 2]) (by kernel_rfl) (by kernel_rfl) (hval 0 30 v0 rfl rfl) h0
    have u0 : ∀ t ∈ [2, 2, 2], Try.checked.prog.underlying t = some (.int .i64) := fun t ht => by
      obtain rfl : t = 2 := by simpa using ht
      exact Try.underlying2
    obtain ⟨a0, rfl, hl0, w0⟩ := All2.ints u0 A0
    match a0, hl0 with
    | [k, a, b], _ => exact FnExactValidDeed_c k a b _
theorem over : Rows.fnExactValidDeedRow.holds Try.pinned (OpenSpec.ofChange Rows.fnExactValidDeedSpec) :=
  OpenClaim.holds_of_wide 4 Try.f4 rfl rfl rfl rfl rfl rfl rfl ⟨rfl, rfl, rfl, rfl, rfl⟩ rfl rfl rfl rfl rfl (by kernel_rfl) Try.func4 (by kernel_rfl)
    (of_decide_eq_true (by kernel_rfl)) (by unfold Func.isWrapper; first | (rw [if_pos (by decide +kernel)]; kernel_rfl) | (rw [if_neg (by decide +kernel)]; exact ⟨rfl, rfl⟩))
    (fun os started H enc _ => lifted os started H enc)
theorem FnExactValidDeed_holds : Rows.FnExactValidDeedSaid := over
#print axioms FnExactValidDeed_holds
end Go.Proofs.Ythpodhdhpepfbaa
