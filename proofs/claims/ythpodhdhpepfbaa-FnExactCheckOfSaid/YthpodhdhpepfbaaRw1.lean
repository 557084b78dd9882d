/- The law FnExactCheckOf holds for every input: it answers true and each argument reads afterwards as it read before. -/
import Derived.Test.YthpodhdhpepfbaaRows
import Derived.Test.YthpodhdhpepfbaaLrow
import Derived.Test.YthpodhdhpepfbaaLc1
namespace Go.Proofs.Ythpodhdhpepfbaa
open Go.ChangeShapes Go.WideShapes Go.ChangeAt Go.RowKit Go.Sx
open Go.ChangeMaps (open_string shut_string)
set_option linter.unusedVariables false
theorem own : ownKnob Try.prog.godebug = none := by kernel_rfl
theorem laidOut : laidOutB Try.prog = true := by kernel_rfl
set_option maxRecDepth 100000 in
theorem lifted_CheckOf (os : Os) (started : os.Started) (H : Type) (enc : TypeId × Value → H) :
    ReturnsInHanded {} Try.checked os 3 .any (Rows.fnExactCheckOfSpec.pre6 enc Try.prog Try.f3 Rows.fnExactCheckOfRow.domain false) (Rows.fnExactCheckOfSpec.post enc Try.prog Try.f3 false true false false) := by
  refine law_returns (C := Try.checked) (tb := 4) own started (by kernel_rfl) Try.func3 (by kernel_rfl) (by kernel_rfl) rfl (fun ds hd => ?_) (by kernel_rfl) (by kernel_rfl) laidOut (of_decide_eq_true (by kernel_rfl))
    (ChangeSpec.witness6 (enc := enc) (C := Try.checked) false ⟨#[], #[.int .i64 0, .string ByteArray.empty, .agg (fl .f32 (List.replicate 16 0))], []⟩ 8 (by kernel_rfl) (by kernel_rfl) (by kernel_rfl) (by kernel_rfl)) ?_
  · rw [Try.params3] at hd
    match ds, hd with
    | [a, b, c], _ => rfl
  · intro W base args ds p hA hval hsz
    rw [Try.params3] at hA hval
    obtain ⟨v0, vs0, d0, ds0, p0, q0, hargs, rfl, rfl, h0, r0⟩ := trodAll_cons hA
    obtain ⟨v1, vs1, d1, ds1, p1, q1, rfl, rfl, rfl, h1, r1⟩ := trodAll_cons r0
    obtain ⟨v2, vs2, d2, ds2, p2, q2, rfl, rfl, rfl, h2, r2⟩ := trodAll_cons r1
    obtain ⟨rfl, rfl, rfl⟩ := trodAll_nil r2
    obtain rfl : args = #[v0, v1, v2] := by cases args; simp_all
    obtain ⟨a0, rfl, _⟩ := open_int Try.underlying2 (hval 0 2 v0 rfl rfl) h0
    obtain ⟨a1, rfl, _⟩ := open_string Try.underlying9 (hval 1 9 v1 rfl rfl) h1
    obtain ⟨b, rfl, hb, _⟩ := open_floats Try.underlying23 Try.underlying22 (by kernel_rfl) (by kernel_rfl) (hval 2 23 v2 rfl rfl) h2
    exact FnExactCheckOf_c a0 a1 b hb _
theorem CheckOf_over : Rows.fnExactCheckOfRow.holds Try.pinned (OpenSpec.ofChange Rows.fnExactCheckOfSpec) :=
  OpenClaim.holds_of_wide 3 Try.f3 rfl rfl rfl rfl rfl rfl rfl ⟨rfl, rfl, rfl, rfl, rfl⟩ rfl rfl rfl rfl rfl (by kernel_rfl) Try.func3 (by kernel_rfl)
    (of_decide_eq_true (by kernel_rfl)) (by unfold Func.isWrapper; first | (rw [if_pos (by decide +kernel)]; kernel_rfl) | (rw [if_neg (by decide +kernel)]; exact ⟨rfl, rfl⟩))
    (fun os started H enc _ => lifted_CheckOf os started H enc)
theorem FnExactCheckOf_holds : Rows.FnExactCheckOfSaid := CheckOf_over
#print axioms FnExactCheckOf_holds
end Go.Proofs.Ythpodhdhpepfbaa
