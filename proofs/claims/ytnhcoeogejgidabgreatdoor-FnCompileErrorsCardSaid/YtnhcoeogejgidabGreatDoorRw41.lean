/- The law FnCompileErrors: for every input the call answers true, and each argument reads afterwards as it read before. No condition. -/
import Derived.Test.YtnhcoeogejgidabGreatDoorLx2
import Derived.Test.YtnhcoeogejgidabGreatDoorFc41
import Derived.Test.YtnhcoeogejgidabGreatDoorLw41
import Derived.Test.YtnhcoeogejgidabGreatDoorRows
import Derived.Test.YtnhcoeogejgidabGreatDoorTie
import Derived.Test.YtnhcoeogejgidabGreatDoorCards
namespace Go.Proofs.YtnhcoeogejgidabGreatDoor
open Go.ChangeShapes Go.WideShapes Go.ChangeAt Go.RowKit Go.Sx
open Go.ChangeMaps (open_string shut_string)
set_option linter.unusedVariables false
set_option maxRecDepth 100000 in
theorem lifted (os : Os) (started : os.Started) (H : Type) (enc : TypeId × Value → H) :
    ReturnsInHanded {} Tryz.checked os 4 .any (fun w args => (Rows.fnCompileErrorsSpec.pre enc Tryz.prog Tryz.f4 Rows.fnCompileErrorsRow.domain false w args ∧ laidMetH Tryz.prog Rows.fnCompileErrorsRow.laid w) ∧ sizedMet enc Tryz.prog Tryz.f4 (OpenSpec.ofChange Rows.fnCompileErrorsSpec) false w args)
      (Rows.fnCompileErrorsSpec.post enc Tryz.prog Tryz.f4 false true false false) := by
  refine law_returns_libs (C := Tryz.checked) (tb := 4) own started (by kernel_rfl) Tryz.func4 (by kernel_rfl) (by kernel_rfl) rfl (fun ds hd => ?_) (by kernel_rfl) (by kernel_rfl) laidOut (of_decide_eq_true (by kernel_rfl))
    (ChangeSpec.witness_shaped (enc := enc) (C := Tryz.checked) (os := os) (X := fun w _ => laidMetH Tryz.prog Rows.fnCompileErrorsRow.laid w) false (World.laidAll Tryz.prog os Rows.fnCompileErrorsRow.laid) #[.slice none 0 0, .slice none 0 0] 8 (World.laidAll_os _ _ _)
      (World.shaped_of_ZipB (by kernel_rfl) (by kernel_rfl)) (by kernel_rfl) (by kernel_rfl) (by kernel_rfl)
      (by rw [MakeChecks.laidMetH_plain _ _ _ (by kernel_rfl)]; exact laidMet_laidAll _ (by kernel_rfl) (by kernel_rfl))) ?_
  · rw [Tryz.params4] at hd
    match ds, hd with
    | [d0, d1], _ => rfl
  · intro W base args ds p hA hval hsz hL hS
    rw [Tryz.params4] at hA hval
    obtain ⟨v0, vs0, d0, ds0, p0, q0, hargs, rfl, rfl, h0, r0⟩ := trodAll_cons hA
    obtain ⟨v1, vs1, d1, ds1, p1, q1, rfl, rfl, rfl, h1, r1⟩ := trodAll_cons r0
    obtain ⟨rfl, rfl, rfl⟩ := trodAll_nil r1
    obtain rfl : args = #[v0, v1] := by cases args; simp_all
    obtain ⟨b0, l0, c0, cs0, rfl, z0, S0⟩ := open_slice Tryz.underlying35 (hval 0 35 v0 rfl rfl) h0
    obtain ⟨x0, rfl, xl0, xw0⟩ := Slc.ints Tryz.underlying5 (by kernel_rfl) S0
    obtain ⟨b1, l1, c1, cs1, rfl, z1, S1⟩ := open_slice Tryz.underlying35 (hval 1 35 v1 rfl rfl) h1
    obtain ⟨x1, rfl, xl1, xw1⟩ := Slc.ints Tryz.underlying5 (by kernel_rfl) S1
    subst xl0
    subst xl1
    rw [MakeChecks.laidMetH_plain _ _ _ (by kernel_rfl)] at hL
    have T : Tens W.heap := laid_tab L173.m17 (by kernel_rfl) L173.t212 L173.t46 (by kernel_rfl) (by kernel_rfl) hL (.tail _ (.tail _ (.head _)))
    have hi : prg.underlying T_error = some (.interface (prg.methodsAt T_error)) := by kernel_rfl
    have Lb : Libs W.heap := ⟨T, L146.s1_3 W hS, laid_iface (g := R174.g 15) (by kernel_rfl) (by kernel_rfl) hi hL (.tail _ (.tail _ (.tail _ (.tail _ (.tail _ (.head _)))))), laid_iface (g := R174.g 16) (by kernel_rfl) (by kernel_rfl) hi hL (.tail _ (.tail _ (.tail _ (.tail _ (.head _)))))⟩
    exact FnCompileErrors_c (cc := c0) (mc := c1) Lb S0.cells S1.cells (fun n hn => by have := bounds_u8 (xw0 n hn); omega) (fun n hn => by have := bounds_u8 (xw1 n hn); omega)
theorem over : Rows.fnCompileErrorsRow.holds Tryz.pinned (OpenSpec.ofChange Rows.fnCompileErrorsSpec) :=
  OpenClaim.holds_of_wide 4 Tryz.f4 rfl rfl rfl rfl rfl rfl rfl ⟨rfl, rfl, rfl, rfl, rfl⟩ rfl rfl rfl rfl rfl funcNamed_p Tryz.func4 closed_p
    (of_decide_eq_true (by kernel_rfl)) (by unfold Func.isWrapper; first | (rw [if_pos (by decide +kernel)]; kernel_rfl) | (rw [if_neg (by decide +kernel)]; exact ⟨rfl, rfl⟩))
    (fun os started H enc _ => lifted os started H enc)
theorem FnCompileErrors_holds : Rows.FnCompileErrorsCardSaid :=
  Claim7.holds_tied_plain_at .later [] [.data, .data, .data, .data, .sentinel, .sentinel, .pinned] true (true, "59db0fcb4fa183597b799cab571402abcf2a8cc73683eecb7b318f141e004c63") true over (fun _ h => by cases h) (by kernel_rfl) (fun _ h => by cases h) fnCompileErrors_row_tie rfl ⟨rfl, rfl⟩ (by kernel_rfl) rfl
    (fun f fn hf hfn => by
      obtain rfl : f = 4 := Option.some.inj (funcNamed_p.symm.trans hf) |>.symm
      obtain rfl : fn = Tryz.f4 := (Option.some.inj (Tryz.func4.symm.trans hfn)).symm
      exact ⟨looks_p, fun j t ht => by
        rw [Tryz.params4] at ht
        have hm : t ∈ [35, 35] := by simpa using Array.mem_of_getElem? ht
        have hall : ([35, 35].all fun u => !Tryz.prog.wantsStandIn u) = true := by kernel_rfl
        exact (show Tryz.prog.wantsStandIn t = false by simpa using List.all_eq_true.1 hall t hm)⟩)
    (goes_none goes_p rfl)
#print axioms FnCompileErrors_holds
end Go.Proofs.YtnhcoeogejgidabGreatDoor
