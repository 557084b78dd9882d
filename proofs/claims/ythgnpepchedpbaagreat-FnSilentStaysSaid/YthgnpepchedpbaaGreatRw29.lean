/- The law FnSilentStays: for every input the call answers true, and each argument reads afterwards as it read before. No condition. -/
import Derived.Test.YthgnpepchedpbaaGreatLx2
import Derived.Test.YthgnpepchedpbaaGreatLw29
import Derived.Test.YthgnpepchedpbaaGreatRows
namespace Go.Proofs.YthgnpepchedpbaaGreat
open Go.ChangeShapes Go.WideShapes Go.ChangeAt Go.RowKit Go.Sx
open Go.ChangeMaps (open_string shut_string)
set_option linter.unusedVariables false
theorem own : ownKnob Tryz.prog.godebug = none := by kernel_rfl
theorem laidOut : laidOutB Tryz.prog = true := by kernel_rfl
set_option maxRecDepth 100000 in
theorem lifted (os : Os) (started : os.Started) (H : Type) (enc : TypeId × Value → H) :
    ReturnsInHanded {} Tryz.checked os 4 .any (Rows.fnSilentStaysSpec.pre6 enc Tryz.prog Tryz.f4 Rows.fnSilentStaysRow.domain false) (Rows.fnSilentStaysSpec.post enc Tryz.prog Tryz.f4 false true false false) := by
  refine law_returns (C := Tryz.checked) (tb := 4) own started (by kernel_rfl) Tryz.func4 (by kernel_rfl) (by kernel_rfl) rfl (fun ds hd => ?_) (by kernel_rfl) (by kernel_rfl) laidOut (of_decide_eq_true (by kernel_rfl))
    (ChangeSpec.witness6 (enc := enc) (C := Tryz.checked) false ⟨#[], #[.slice none 0 0, .slice none 0 0], []⟩ 8 (by kernel_rfl) (by kernel_rfl) (by kernel_rfl) (by kernel_rfl)) ?_
  · rw [Tryz.params4] at hd
    match ds, hd with
    | [d0, d1], _ => rfl
  · intro W base args ds p hA hval hsz
    rw [Tryz.params4] at hA hval
    obtain ⟨v0, vs0, d0, ds0, p0, q0, hargs, rfl, rfl, h0, r0⟩ := trodAll_cons hA
    obtain ⟨v1, vs1, d1, ds1, p1, q1, rfl, rfl, rfl, h1, r1⟩ := trodAll_cons r0
    obtain ⟨rfl, rfl, rfl⟩ := trodAll_nil r1
    obtain rfl : args = #[v0, v1] := by cases args; simp_all
    obtain ⟨b0, l0, c0, cs0, rfl, z0, S0⟩ := open_slice Tryz.underlying22 (hval 0 22 v0 rfl rfl) h0
    obtain ⟨x0, rfl, xl0, xw0⟩ := Slc.ints Tryz.underlying5 (by kernel_rfl) S0
    obtain ⟨b1, l1, c1, cs1, rfl, z1, S1⟩ := open_slice Tryz.underlying22 (hval 1 22 v1 rfl rfl) h1
    obtain ⟨x1, rfl, xl1, xw1⟩ := Slc.ints Tryz.underlying5 (by kernel_rfl) S1
    subst xl0
    subst xl1
    exact FnSilentStays_c (cc := c0) (mc := c1) S0.cells S1.cells (fun n hn => by have := bounds_u8 (xw0 n hn); omega) (fun n hn => by have := bounds_u8 (xw1 n hn); omega)
theorem over : Rows.fnSilentStaysRow.holds Tryz.pinned (OpenSpec.ofChange Rows.fnSilentStaysSpec) :=
  OpenClaim.holds_of_wide 4 Tryz.f4 rfl rfl rfl rfl rfl rfl rfl ⟨rfl, rfl, rfl, rfl, rfl⟩ rfl rfl rfl rfl rfl (by kernel_rfl) Tryz.func4 (by kernel_rfl)
    (of_decide_eq_true (by kernel_rfl)) (by unfold Func.isWrapper; first | (rw [if_pos (by decide +kernel)]; kernel_rfl) | (rw [if_neg (by decide +kernel)]; exact ⟨rfl, rfl⟩))
    (fun os started H enc _ => lifted os started H enc)
theorem FnSilentStays_holds : Rows.FnSilentStaysSaid := over
#print axioms FnSilentStays_holds
end Go.Proofs.YthgnpepchedpbaaGreat
