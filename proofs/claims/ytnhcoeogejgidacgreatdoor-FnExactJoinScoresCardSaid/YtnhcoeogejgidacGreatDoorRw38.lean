/- The law FnExactJoinScores: for every input the call answers true, and each argument reads afterwards as it read before. No condition. -/
import Derived.Test.YtnhcoeogejgidacGreatDoorLx2
import Derived.Test.YtnhcoeogejgidacGreatDoorFc38
import Derived.Test.YtnhcoeogejgidacGreatDoorLw38
import Derived.Test.YtnhcoeogejgidacGreatDoorRows
import Derived.Test.YtnhcoeogejgidacGreatDoorTie
import Derived.Test.YtnhcoeogejgidacGreatDoorCards
namespace Go.Proofs.YtnhcoeogejgidacGreatDoor
open Go.ChangeShapes Go.WideShapes Go.ChangeAt Go.RowKit Go.Sx
open Go.ChangeMaps (open_string shut_string)
set_option linter.unusedVariables false
set_option maxRecDepth 100000 in
theorem lifted (os : Os) (started : os.Started) (H : Type) (enc : TypeId × Value → H) :
    ReturnsInHanded {} Tryz.checked os 3 .any (fun w args => (Rows.fnExactJoinScoresSpec.pre enc Tryz.prog Tryz.f3 Rows.fnExactJoinScoresRow.domain false w args ∧ laidMetH Tryz.prog Rows.fnExactJoinScoresRow.laid w) ∧ sizedMet enc Tryz.prog Tryz.f3 (OpenSpec.ofChange Rows.fnExactJoinScoresSpec) false w args)
      (Rows.fnExactJoinScoresSpec.post enc Tryz.prog Tryz.f3 false true false false) := by
  refine law_returns_laid (C := Tryz.checked) (tb := 4) own started (by kernel_rfl) Tryz.func3 (by kernel_rfl) (by kernel_rfl) rfl (fun ds hd => ?_) (by kernel_rfl) (by kernel_rfl) laidOut (of_decide_eq_true (by kernel_rfl))
    (ChangeSpec.witness_shaped (enc := enc) (C := Tryz.checked) (os := os) (X := fun w _ => laidMetH Tryz.prog Rows.fnExactJoinScoresRow.laid w) false (World.laidAll Tryz.prog os Rows.fnExactJoinScoresRow.laid) #[.agg ⟨[.float .f32 0, .float .f32 0, .float .f32 0, .slice none 0 0, .slice none 0 0, .slice none 0 0]⟩, .agg ⟨[.float .f32 0, .float .f32 0, .float .f32 0, .slice none 0 0, .slice none 0 0, .slice none 0 0]⟩, .int .i64 (0 : Int)] 8 (World.laidAll_os _ _ _)
      (World.shaped_of_ZipB (by kernel_rfl) (by kernel_rfl)) (by kernel_rfl) (by kernel_rfl) (by kernel_rfl)
      (by rw [MakeChecks.laidMetH_plain _ _ _ (by kernel_rfl)]; exact laidMet_laidAll _ (by kernel_rfl) (by kernel_rfl))) ?_
  · rw [Tryz.params3] at hd
    match ds, hd with
    | [d0, d1, d2], _ => rfl
  · intro W base args ds p hA hval hsz
    rw [Tryz.params3] at hA hval
    obtain ⟨v0, vs0, d0, ds0, p0, q0, hargs, rfl, rfl, h0, r0⟩ := trodAll_cons hA
    obtain ⟨v1, vs1, d1, ds1, p1, q1, rfl, rfl, rfl, h1, r1⟩ := trodAll_cons r0
    obtain ⟨v2, vs2, d2, ds2, p2, q2, rfl, rfl, rfl, h2, r2⟩ := trodAll_cons r1
    obtain ⟨rfl, rfl, rfl⟩ := trodAll_nil r2
    obtain rfl : args = #[v0, v1, v2] := by cases args; simp_all
    obtain ⟨cs0, rfl, A0⟩ := open_flat (n := 9) (ls := [22, 22, 22, 23, 26, 27]) (by kernel_rfl) (by kernel_rfl) (hval 0 29 v0 rfl rfl) h0
    obtain ⟨x0, R0⟩ := opens_Score _ _ _ _ _ _ _ A0
    obtain ⟨cs1, rfl, A1⟩ := open_flat (n := 9) (ls := [22, 22, 22, 23, 26, 27]) (by kernel_rfl) (by kernel_rfl) (hval 1 29 v1 rfl rfl) h1
    obtain ⟨x1, R1⟩ := opens_Score _ _ _ _ _ _ _ A1
    obtain ⟨a2, rfl, _, _, w2⟩ := open_int Tryz.underlying2 (hval 2 2 v2 rfl rfl) h2
    -- ('int', 'i64')
    exact FnExactJoinScores_c (ca := ⟨cs0⟩) (cb := ⟨cs1⟩) (by have := bounds_i64 w2; omega) R0 R1
theorem over : Rows.fnExactJoinScoresRow.holds Tryz.pinned (OpenSpec.ofChange Rows.fnExactJoinScoresSpec) :=
  OpenClaim.holds_of_wide 3 Tryz.f3 rfl rfl rfl rfl rfl rfl rfl ⟨rfl, rfl, rfl, rfl, rfl⟩ rfl rfl rfl rfl rfl funcNamed_p Tryz.func3 closed_p
    (of_decide_eq_true (by kernel_rfl)) (by unfold Func.isWrapper; first | (rw [if_pos (by decide +kernel)]; kernel_rfl) | (rw [if_neg (by decide +kernel)]; exact ⟨rfl, rfl⟩))
    (fun os started H enc _ => lifted os started H enc)
theorem FnExactJoinScores_holds : Rows.FnExactJoinScoresCardSaid :=
  Claim7.holds_tied_plain_at .later [] [.data, .pinned] true (true, "3a95461bd652ed79f42dbb8c024c2372edfffb0f6bcc9f11cb4d54285ace6af0") false over (fun _ h => by cases h) (by kernel_rfl) (fun _ h => by cases h) fnExactJoinScores_row_tie rfl ⟨rfl, rfl⟩ (by kernel_rfl) rfl
    (fun f fn hf hfn => by
      obtain rfl : f = 3 := Option.some.inj (funcNamed_p.symm.trans hf) |>.symm
      obtain rfl : fn = Tryz.f3 := (Option.some.inj (Tryz.func3.symm.trans hfn)).symm
      exact ⟨looks_p, fun j t ht => by
        rw [Tryz.params3] at ht
        have hm : t ∈ [29, 29, 2] := by simpa using Array.mem_of_getElem? ht
        have hall : ([29, 29, 2].all fun u => !Tryz.prog.wantsStandIn u) = true := by kernel_rfl
        exact (show Tryz.prog.wantsStandIn t = false by simpa using List.all_eq_true.1 hall t hm)⟩)
    (goes_none goes_p rfl)
#print axioms FnExactJoinScores_holds
end Go.Proofs.YtnhcoeogejgidacGreatDoor
