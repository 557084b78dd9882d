/- The law FnExactVoiceFor: for every input the call answers true, and each argument reads afterwards as it read before. No condition. -/
import Derived.Test.YthhepeklpgefkaaGreatDoorLx2
import Derived.Test.YthhepeklpgefkaaGreatDoorFc21
import Derived.Test.YthhepeklpgefkaaGreatDoorLw20
import Derived.Test.YthhepeklpgefkaaGreatDoorRows
import Derived.Test.YthhepeklpgefkaaGreatDoorTie
import Derived.Test.YthhepeklpgefkaaGreatDoorCards
namespace Go.Proofs.YthhepeklpgefkaaGreatDoor
open Go.ChangeShapes Go.WideShapes Go.ChangeAt Go.RowKit Go.Sx
open Go.ChangeMaps (open_string shut_string)
set_option linter.unusedVariables false
set_option maxRecDepth 100000 in
theorem lifted (os : Os) (started : os.Started) (H : Type) (enc : TypeId × Value → H) :
    ReturnsInHanded {} Tryz.checked os 5 .any (fun w args => (Rows.fnExactVoiceForSpec.pre enc Tryz.prog Tryz.f5 Rows.fnExactVoiceForRow.domain false w args ∧ laidMetH Tryz.prog Rows.fnExactVoiceForRow.laid w) ∧ sizedMet enc Tryz.prog Tryz.f5 (OpenSpec.ofChange Rows.fnExactVoiceForSpec) false w args)
      (Rows.fnExactVoiceForSpec.post enc Tryz.prog Tryz.f5 false true false false) := by
  refine law_returns_laid (C := Tryz.checked) (tb := 4) own started (by kernel_rfl) Tryz.func5 (by kernel_rfl) (by kernel_rfl) rfl (fun ds hd => ?_) (by kernel_rfl) (by kernel_rfl) laidOut (of_decide_eq_true (by kernel_rfl))
    (ChangeSpec.witness_shaped (enc := enc) (C := Tryz.checked) (os := os) (X := fun w _ => laidMetH Tryz.prog Rows.fnExactVoiceForRow.laid w) false (World.laidAll Tryz.prog os Rows.fnExactVoiceForRow.laid) #[.agg ⟨[.float .f32 0, .float .f32 0, .float .f32 0, .slice none 0 0, .slice none 0 0, .slice none 0 0]⟩, .agg ⟨[.int .i64 (0 : Int), .int .i64 (0 : Int), .int .i64 (0 : Int), .int .i64 (0 : Int), .int .i64 (0 : Int), .float .f32 0]⟩] 8 (World.laidAll_os _ _ _)
      (World.shaped_of_ZipB (by kernel_rfl) (by kernel_rfl)) (by kernel_rfl) (by kernel_rfl) (by kernel_rfl)
      (by rw [MakeChecks.laidMetH_plain _ _ _ (by kernel_rfl)]; exact laidMet_laidAll _ (by kernel_rfl) (by kernel_rfl))) ?_
  · rw [Tryz.params5] at hd
    match ds, hd with
    | [d0, d1], _ => rfl
  · intro W base args ds p hA hval hsz
    rw [Tryz.params5] at hA hval
    obtain ⟨v0, vs0, d0, ds0, p0, q0, hargs, rfl, rfl, h0, r0⟩ := trodAll_cons hA
    obtain ⟨v1, vs1, d1, ds1, p1, q1, rfl, rfl, rfl, h1, r1⟩ := trodAll_cons r0
    obtain ⟨rfl, rfl, rfl⟩ := trodAll_nil r1
    obtain rfl : args = #[v0, v1] := by cases args; simp_all
    obtain ⟨cs0, rfl, A0⟩ := open_flat (n := 9) (ls := [22, 22, 22, 23, 26, 27]) (by kernel_rfl) (by kernel_rfl) (hval 0 29 v0 rfl rfl) h0
    obtain ⟨x0, R0⟩ := opens_Score _ _ _ _ _ _ _ A0
    obtain ⟨cs1, rfl, A1⟩ := open_flat (n := 9) (ls := [2, 2, 2, 2, 2, 22]) (by kernel_rfl) (by kernel_rfl) (hval 1 51 v1 rfl rfl) h1
    obtain ⟨x1, R1⟩ := opens_Event _ _ _ _ _ _ _ A1
    exact FnExactVoiceFor_c (cs := ⟨cs0⟩) (ce := ⟨cs1⟩) R0 R1
theorem over : Rows.fnExactVoiceForRow.holds Tryz.pinned (OpenSpec.ofChange Rows.fnExactVoiceForSpec) :=
  OpenClaim.holds_of_wide 5 Tryz.f5 rfl rfl rfl rfl rfl rfl rfl ⟨rfl, rfl, rfl, rfl, rfl⟩ rfl rfl rfl rfl rfl funcNamed_p Tryz.func5 closed_p
    (of_decide_eq_true (by kernel_rfl)) (by unfold Func.isWrapper; first | (rw [if_pos (by decide +kernel)]; kernel_rfl) | (rw [if_neg (by decide +kernel)]; exact ⟨rfl, rfl⟩))
    (fun os started H enc _ => lifted os started H enc)
theorem FnExactVoiceFor_holds : Rows.FnExactVoiceForCardSaid :=
  Claim7.holds_tied_plain_at .later [] [.data, .pinned] true (true, "f53ac37246c565c08ed792e64849fbb0051210ec2485b0b1be23ee018b9cf27a") false over (fun _ h => by cases h) (by kernel_rfl) (fun _ h => by cases h) fnExactVoiceFor_row_tie rfl ⟨rfl, rfl⟩ (by kernel_rfl) rfl
    (fun f fn hf hfn => by
      obtain rfl : f = 5 := Option.some.inj (funcNamed_p.symm.trans hf) |>.symm
      obtain rfl : fn = Tryz.f5 := (Option.some.inj (Tryz.func5.symm.trans hfn)).symm
      exact ⟨looks_p, fun j t ht => by
        rw [Tryz.params5] at ht
        have hm : t ∈ [29, 51] := by simpa using Array.mem_of_getElem? ht
        have hall : ([29, 51].all fun u => !Tryz.prog.wantsStandIn u) = true := by kernel_rfl
        exact (show Tryz.prog.wantsStandIn t = false by simpa using List.all_eq_true.1 hall t hm)⟩)
    (goes_none goes_p rfl)
#print axioms FnExactVoiceFor_holds
end Go.Proofs.YthhepeklpgefkaaGreatDoor
