/- The law FnExactCompileScore: for every input the call answers true, and each argument reads afterwards as it read before. No condition. -/
import Derived.Test.YtnhcoeogejgidabGreatDoorLx1
import Derived.Test.YtnhcoeogejgidabGreatDoorFc40
import Derived.Test.YtnhcoeogejgidabGreatDoorCompileScore
import Derived.Test.YtnhcoeogejgidabGreatDoorRows
import Derived.Test.YtnhcoeogejgidabGreatDoorTie
import Derived.Test.YtnhcoeogejgidabGreatDoorCards
namespace Go.Proofs.YtnhcoeogejgidabGreatDoor
open Go.ChangeShapes Go.WideShapes Go.ChangeAt Go.RowKit Go.Sx
open Go.ChangeMaps (open_string shut_string)
set_option linter.unusedVariables false
set_option maxRecDepth 100000 in
theorem lifted (os : Os) (started : os.Started) (H : Type) (enc : TypeId × Value → H) :
    ReturnsInHanded {} Tryz.checked os 3 .any (fun w args => (Rows.fnExactCompileScoreSpec.pre enc Tryz.prog Tryz.f3 Rows.fnExactCompileScoreRow.domain false w args ∧ laidMetH Tryz.prog Rows.fnExactCompileScoreRow.laid w) ∧ sizedMet enc Tryz.prog Tryz.f3 (OpenSpec.ofChange Rows.fnExactCompileScoreSpec) false w args)
      (Rows.fnExactCompileScoreSpec.post enc Tryz.prog Tryz.f3 false true false false) := by
  refine law_returns_libs (C := Tryz.checked) (tb := 4) own started (by kernel_rfl) Tryz.func3 (by kernel_rfl) (by kernel_rfl) rfl (fun ds hd => ?_) (by kernel_rfl) (by kernel_rfl) laidOut (of_decide_eq_true (by kernel_rfl))
    (ChangeSpec.witness_shaped (enc := enc) (C := Tryz.checked) (os := os) (X := fun w _ => laidMetH Tryz.prog Rows.fnExactCompileScoreRow.laid w) false (World.laidAll Tryz.prog os Rows.fnExactCompileScoreRow.laid) #[.string (⟨#[]⟩ : ByteArray)] 8 (World.laidAll_os _ _ _)
      (World.shaped_of_ZipB (by kernel_rfl) (by kernel_rfl)) (by kernel_rfl) (by kernel_rfl) (by kernel_rfl)
      (by rw [MakeChecks.laidMetH_plain _ _ _ (by kernel_rfl)]; exact laidMet_laidAll _ (by kernel_rfl) (by kernel_rfl))) ?_
  · rw [Tryz.params3] at hd
    match ds, hd with
    | [d0], _ => rfl
  · intro W base args ds p hA hval hsz hL hS
    rw [Tryz.params3] at hA hval
    obtain ⟨v0, vs0, d0, ds0, p0, q0, hargs, rfl, rfl, h0, r0⟩ := trodAll_cons hA
    obtain ⟨rfl, rfl, rfl⟩ := trodAll_nil r0
    obtain rfl : args = #[v0] := by cases args; simp_all
    obtain ⟨a0, rfl, _, _, w0⟩ := open_string Tryz.underlying9 (hval 0 9 v0 rfl rfl) h0
    -- ('string',)
    rw [MakeChecks.laidMetH_plain _ _ _ (by kernel_rfl)] at hL
    have T : Tens W.heap := laid_tab L173.m17 (by kernel_rfl) L173.t212 L173.t46 (by kernel_rfl) (by kernel_rfl) hL (.tail _ (.tail _ (.head _)))
    have hi : prg.underlying T_error = some (.interface (prg.methodsAt T_error)) := by kernel_rfl
    have Lb : Libs W.heap := ⟨T, L146.s1_3 W hS, laid_iface (g := R174.g 15) (by kernel_rfl) (by kernel_rfl) hi hL (.tail _ (.tail _ (.tail _ (.tail _ (.tail _ (.head _)))))), laid_iface (g := R174.g 16) (by kernel_rfl) (by kernel_rfl) hi hL (.tail _ (.tail _ (.tail _ (.tail _ (.head _)))))⟩
    exact FnExactCompileScore_c Lb
theorem over : Rows.fnExactCompileScoreRow.holds Tryz.pinned (OpenSpec.ofChange Rows.fnExactCompileScoreSpec) :=
  OpenClaim.holds_of_wide 3 Tryz.f3 rfl rfl rfl rfl rfl rfl rfl ⟨rfl, rfl, rfl, rfl, rfl⟩ rfl rfl rfl rfl rfl funcNamed_p Tryz.func3 closed_p
    (of_decide_eq_true (by kernel_rfl)) (by unfold Func.isWrapper; first | (rw [if_pos (by decide +kernel)]; kernel_rfl) | (rw [if_neg (by decide +kernel)]; exact ⟨rfl, rfl⟩))
    (fun os started H enc _ => lifted os started H enc)
theorem FnExactCompileScore_holds : Rows.FnExactCompileScoreCardSaid :=
  Claim7.holds_tied_plain_at .later [] [.data, .data, .data, .data, .sentinel, .sentinel, .pinned] true (true, "59db0fcb4fa183597b799cab571402abcf2a8cc73683eecb7b318f141e004c63") true over (fun _ h => by cases h) (by kernel_rfl) (fun _ h => by cases h) fnExactCompileScore_row_tie rfl ⟨rfl, rfl⟩ (by kernel_rfl) rfl
    (fun f fn hf hfn => by
      obtain rfl : f = 3 := Option.some.inj (funcNamed_p.symm.trans hf) |>.symm
      obtain rfl : fn = Tryz.f3 := (Option.some.inj (Tryz.func3.symm.trans hfn)).symm
      exact ⟨looks_p, fun j t ht => by
        rw [Tryz.params3] at ht
        have hm : t ∈ [9] := by simpa using Array.mem_of_getElem? ht
        have hall : ([9].all fun u => !Tryz.prog.wantsStandIn u) = true := by kernel_rfl
        exact (show Tryz.prog.wantsStandIn t = false by simpa using List.all_eq_true.1 hall t hm)⟩)
    (goes_none goes_p rfl)
#print axioms FnExactCompileScore_holds
end Go.Proofs.YtnhcoeogejgidabGreatDoor
