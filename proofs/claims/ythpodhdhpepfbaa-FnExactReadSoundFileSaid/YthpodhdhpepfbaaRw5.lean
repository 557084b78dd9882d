/- The law FnExactReadSoundFile: for every input the call answers true, and each argument reads afterwards as it read before. No condition. -/
import Derived.Test.YthpodhdhpepfbaaRows
import Derived.Test.YthpodhdhpepfbaaLopen
import Derived.Test.YthpodhdhpepfbaaLc9
namespace Go.Proofs.Ythpodhdhpepfbaa
open Go.ChangeShapes Go.WideShapes Go.ChangeAt Go.RowKit Go.Sx
open Go.ChangeMaps (open_string shut_string)
set_option linter.unusedVariables false
theorem own : ownKnob Try.prog.godebug = none := by kernel_rfl
theorem laidOut : laidOutB Try.prog = true := by kernel_rfl
set_option maxRecDepth 100000 in
theorem lifted (os : Os) (started : os.Started) (H : Type) (enc : TypeId × Value → H) :
    ReturnsInHanded {} Try.checked os 7 .any (Rows.fnExactReadSoundFileSpec.pre6 enc Try.prog Try.f7 Rows.fnExactReadSoundFileRow.domain false) (Rows.fnExactReadSoundFileSpec.post enc Try.prog Try.f7 false true false false) := by
  refine law_returns (C := Try.checked) (tb := 4) own started (by kernel_rfl) Try.func7 (by kernel_rfl) (by kernel_rfl) rfl (fun ds hd => ?_) (by kernel_rfl) (by kernel_rfl) laidOut (of_decide_eq_true (by kernel_rfl))
    (ChangeSpec.witness6 (enc := enc) (C := Try.checked) false ⟨#[], #[.slice none 0 0], []⟩ 8 (by kernel_rfl) (by kernel_rfl) (by kernel_rfl) (by kernel_rfl)) ?_
  · rw [Try.params7] at hd
    match ds, hd with
    | [d0], _ => rfl
  · intro W base args ds p hA hval hsz
    rw [Try.params7] at hA hval
    obtain ⟨v0, vs0, d0, ds0, p0, q0, hargs, rfl, rfl, h0, r0⟩ := trodAll_cons hA
    obtain ⟨rfl, rfl, rfl⟩ := trodAll_nil r0
    obtain rfl : args = #[v0] := by cases args; simp_all
    obtain ⟨b0, l0, c0, cs0, rfl, z0, S0⟩ := open_slice Try.underlying35 (hval 0 35 v0 rfl rfl) h0
    obtain ⟨x0, rfl, xl0, xw0⟩ := Slc.ints Try.underlying5 (by kernel_rfl) S0
    exact FnExactReadSoundFile_c (c := c0) S0.cells xl0 (fun n hn => by have := bounds_u8 (xw0 n hn); omega)
theorem over : Rows.fnExactReadSoundFileRow.holds Try.pinned (OpenSpec.ofChange Rows.fnExactReadSoundFileSpec) :=
  OpenClaim.holds_of_wide 7 Try.f7 rfl rfl rfl rfl rfl rfl rfl ⟨rfl, rfl, rfl, rfl, rfl⟩ rfl rfl rfl rfl rfl (by kernel_rfl) Try.func7 (by kernel_rfl)
    (of_decide_eq_true (by kernel_rfl)) (by unfold Func.isWrapper; first | (rw [if_pos (by decide +kernel)]; kernel_rfl) | (rw [if_neg (by decide +kernel)]; exact ⟨rfl, rfl⟩))
    (fun os started H enc _ => lifted os started H enc)
theorem FnExactReadSoundFile_holds : Rows.FnExactReadSoundFileSaid := over
#print axioms FnExactReadSoundFile_holds
end Go.Proofs.Ythpodhdhpepfbaa
