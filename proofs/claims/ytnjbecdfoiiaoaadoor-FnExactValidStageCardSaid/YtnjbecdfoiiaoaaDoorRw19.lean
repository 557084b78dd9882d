/- The law FnExactValidStage: for every input the call answers true, and each argument reads afterwards as it read before. No condition. -/
import Derived.Test.YtnjbecdfoiiaoaaDoorLopen
import Derived.Test.YtnjbecdfoiiaoaaDoorFc19
import Derived.Test.YtnjbecdfoiiaoaaDoorLw18
import Derived.Test.YtnjbecdfoiiaoaaDoorRows
import Derived.Test.YtnjbecdfoiiaoaaDoorTie
import Derived.Test.YtnjbecdfoiiaoaaDoorCards
namespace Go.Proofs.YtnjbecdfoiiaoaaDoor
open Go.ChangeShapes Go.WideShapes Go.ChangeAt Go.RowKit Go.Sx
open Go.ChangeMaps (open_string shut_string)
set_option linter.unusedVariables false
set_option maxRecDepth 100000 in
theorem lifted (os : Os) (started : os.Started) (H : Type) (enc : TypeId × Value → H) :
    ReturnsInHanded {} Tryd.checked os 3 .any (fun w args => (Rows.fnExactValidStageSpec.pre enc Tryd.prog Tryd.f3 Rows.fnExactValidStageRow.domain false w args ∧ laidMetH Tryd.prog Rows.fnExactValidStageRow.laid w) ∧ sizedMet enc Tryd.prog Tryd.f3 (OpenSpec.ofChange Rows.fnExactValidStageSpec) false w args)
      (Rows.fnExactValidStageSpec.post enc Tryd.prog Tryd.f3 false true false false) := by
  refine law_returns_laid (C := Tryd.checked) (tb := 4) own started (by kernel_rfl) Tryd.func3 (by kernel_rfl) (by kernel_rfl) rfl (fun ds hd => ?_) (by kernel_rfl) (by kernel_rfl) laidOut (of_decide_eq_true (by kernel_rfl))
    (ChangeSpec.witness_shaped (enc := enc) (C := Tryd.checked) (os := os) (X := fun w _ => laidMetH Tryd.prog Rows.fnExactValidStageRow.laid w) false (World.laidAll Tryd.prog os Rows.fnExactValidStageRow.laid) #[.agg ⟨[.float .f32 0, .float .f32 0, .float .f32 0, .slice none 0 0, .slice none 0 0, .slice none 0 0, .int .i64 (0 : Int), .int .i64 (0 : Int), .int .i64 (0 : Int)]⟩] 8 (World.laidAll_os _ _ _)
      (World.shaped_of_ZipB (by kernel_rfl) (by kernel_rfl)) (by kernel_rfl) (by kernel_rfl) (by kernel_rfl)
      (by rw [MakeChecks.laidMetH_plain _ _ _ (by kernel_rfl)]; exact laidMet_laidAll _ (by kernel_rfl) (by kernel_rfl))) ?_
  · rw [Tryd.params3] at hd
    match ds, hd with
    | [d0], _ => rfl
  · intro W base args ds p hA hval hsz
    rw [Tryd.params3] at hA hval
    obtain ⟨v0, vs0, d0, ds0, p0, q0, hargs, rfl, rfl, h0, r0⟩ := trodAll_cons hA
    obtain ⟨rfl, rfl, rfl⟩ := trodAll_nil r0
    obtain rfl : args = #[v0] := by cases args; simp_all
    obtain ⟨cs0, rfl, A0⟩ := open_flat (n := 9) (ls := [22, 22, 22, 23, 26, 27, 2, 2, 2]) (by kernel_rfl) (by kernel_rfl) (hval 0 31 v0 rfl rfl) h0
    obtain ⟨x0, R0⟩ := opens_Stage _ _ _ _ _ _ _ A0
    exact FnExactValidStage_c (ca := ⟨cs0⟩) R0
theorem over : Rows.fnExactValidStageRow.holds Tryd.pinned (OpenSpec.ofChange Rows.fnExactValidStageSpec) :=
  OpenClaim.holds_of_wide 3 Tryd.f3 rfl rfl rfl rfl rfl rfl rfl ⟨rfl, rfl, rfl, rfl, rfl⟩ rfl rfl rfl rfl rfl funcNamed_p Tryd.func3 closed_p
    (of_decide_eq_true (by kernel_rfl)) (by unfold Func.isWrapper; first | (rw [if_pos (by decide +kernel)]; kernel_rfl) | (rw [if_neg (by decide +kernel)]; exact ⟨rfl, rfl⟩))
    (fun os started H enc _ => lifted os started H enc)
theorem FnExactValidStage_holds : Rows.FnExactValidStageCardSaid :=
  Claim7.holds_tied_plain_at .later [] [.data, .pinned] true (true, "33f3455cc423b213494baca6df2ddbb7594f15137b23a9066b277b1c446fd879") false over (fun _ h => by cases h) (by kernel_rfl) (fun _ h => by cases h) fnExactValidStage_row_tie rfl ⟨rfl, rfl⟩ (by kernel_rfl) rfl
    (fun f fn hf hfn => by
      obtain rfl : f = 3 := Option.some.inj (funcNamed_p.symm.trans hf) |>.symm
      obtain rfl : fn = Tryd.f3 := (Option.some.inj (Tryd.func3.symm.trans hfn)).symm
      exact ⟨looks_p, fun j t ht => by
        rw [Tryd.params3] at ht
        have hm : t ∈ [31] := by simpa using Array.mem_of_getElem? ht
        have hall : ([31].all fun u => !Tryd.prog.wantsStandIn u) = true := by kernel_rfl
        exact (show Tryd.prog.wantsStandIn t = false by simpa using List.all_eq_true.1 hall t hm)⟩)
    (goes_none goes_p rfl)
#print axioms FnExactValidStage_holds
end Go.Proofs.YtnjbecdfoiiaoaaDoor
