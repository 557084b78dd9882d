/- The law FnExactPlayerText: for every input the call answers true, and each argument reads afterwards as it read before. No condition. -/
import Derived.Test.YtnhcoeogejgidadGreatDoorLx1
import Derived.Test.YtnhcoeogejgidadGreatDoorFc39
import Derived.Test.YtnhcoeogejgidadGreatDoorLvq2
import Derived.Test.YtnhcoeogejgidadGreatDoorRows
import Derived.Test.YtnhcoeogejgidadGreatDoorTie
import Derived.Test.YtnhcoeogejgidadGreatDoorCards
namespace Go.Proofs.YtnhcoeogejgidadGreatDoor
open Go.ChangeShapes Go.WideShapes Go.ChangeAt Go.RowKit Go.Sx
open Go.ChangeMaps (open_string shut_string)
set_option linter.unusedVariables false
set_option maxRecDepth 100000 in
theorem lifted (os : Os) (started : os.Started) (H : Type) (enc : TypeId × Value → H) :
    ReturnsInHanded {} Tryz.checked os 3 .any (fun w args => (Rows.fnExactPlayerTextSpec.pre enc Tryz.prog Tryz.f3 Rows.fnExactPlayerTextRow.domain false w args ∧ laidMetH Tryz.prog Rows.fnExactPlayerTextRow.laid w) ∧ sizedMet enc Tryz.prog Tryz.f3 (OpenSpec.ofChange Rows.fnExactPlayerTextSpec) false w args)
      (Rows.fnExactPlayerTextSpec.post enc Tryz.prog Tryz.f3 false true false false) := by
  refine law_returns_libs (C := Tryz.checked) (tb := 4) own started (by kernel_rfl) Tryz.func3 (by kernel_rfl) (by kernel_rfl) rfl (fun ds hd => ?_) (by kernel_rfl) (by kernel_rfl) laidOut (of_decide_eq_true (by kernel_rfl))
    (ChangeSpec.witness_shaped (enc := enc) (C := Tryz.checked) (os := os) (X := fun w _ => laidMetH Tryz.prog Rows.fnExactPlayerTextRow.laid w) false (World.laidAll Tryz.prog os Rows.fnExactPlayerTextRow.laid) #[.agg ⟨[.float .f32 0, .float .f32 0, .float .f32 0, .slice none 0 0, .slice none 0 0, .slice none 0 0, .slice none 0 0, .int .i64 (0 : Int), .int .i64 (0 : Int), .int .i64 (0 : Int)]⟩] 8 (World.laidAll_os _ _ _)
      (World.shaped_of_ZipB (by kernel_rfl) (by kernel_rfl)) (by kernel_rfl) (by kernel_rfl) (by kernel_rfl)
      (by rw [MakeChecks.laidMetH_plain _ _ _ (by kernel_rfl)]; exact laidMet_laidAll _ (by kernel_rfl) (by kernel_rfl))) ?_
  · rw [Tryz.params3] at hd
    match ds, hd with
    | [d0], _ => rfl
  · intro W base args ds p hA hval hsz hL hS
    rw [Tryz.params3] at hA hval
    obtain ⟨v0, vs0, d0, ds0, p0, q0, hargs, rfl, rfl, h0, r0⟩ := trodAll_cons hA
    obtain ⟨rfl, rfl, rfl⟩ := trodAll_nil r0
    obtain rfl : args = #[v0] := by cases args; simp_all
    obtain ⟨cs0, rfl, A0⟩ := open_flat (n := 9) (ls := [22, 22, 22, 23, 26, 27, 30, 2, 2, 2]) (by kernel_rfl) (by kernel_rfl) (hval 0 32 v0 rfl rfl) h0
    obtain ⟨x0, R0⟩ := opens_Player _ _ _ _ _ _ _ A0
    rw [MakeChecks.laidMetH_plain _ _ _ (by kernel_rfl)] at hL
    have T : Tens W.heap := laid_tab L173.m17 (by kernel_rfl) L173.t212 L173.t46 (by kernel_rfl) (by kernel_rfl) hL (.tail _ (.tail _ (.head _)))
    have Br : Bru W.heap := laid_bru (by kernel_rfl) (by kernel_rfl) L27.t54 L27.t5 (by kernel_rfl) (by kernel_rfl) hL (.tail _ (.head _))
    exact FnExactPlayerText_c (cs := ⟨cs0⟩) ⟨T, Br⟩ R0
theorem over : Rows.fnExactPlayerTextRow.holds Tryz.pinned (OpenSpec.ofChange Rows.fnExactPlayerTextSpec) :=
  OpenClaim.holds_of_wide 3 Tryz.f3 rfl rfl rfl rfl rfl rfl rfl ⟨rfl, rfl, rfl, rfl, rfl⟩ rfl rfl rfl rfl rfl funcNamed_p Tryz.func3 closed_p
    (of_decide_eq_true (by kernel_rfl)) (by unfold Func.isWrapper; first | (rw [if_pos (by decide +kernel)]; kernel_rfl) | (rw [if_neg (by decide +kernel)]; exact ⟨rfl, rfl⟩))
    (fun os started H enc _ => lifted os started H enc)
theorem FnExactPlayerText_holds : Rows.FnExactPlayerTextCardSaid :=
  Claim7.holds_tied_plain_at .later [] [.data, .data, .data, .data, .pinned] true (true, "3f81456811e5d99c2ac4e2123a6677d3ed2e1ce9b6afed98358797a413fd9cfe") true over (fun _ h => by cases h) (by kernel_rfl) (fun _ h => by cases h) fnExactPlayerText_row_tie rfl ⟨rfl, rfl⟩ (by kernel_rfl) rfl
    (fun f fn hf hfn => by
      obtain rfl : f = 3 := Option.some.inj (funcNamed_p.symm.trans hf) |>.symm
      obtain rfl : fn = Tryz.f3 := (Option.some.inj (Tryz.func3.symm.trans hfn)).symm
      exact ⟨looks_p, fun j t ht => by
        rw [Tryz.params3] at ht
        have hm : t ∈ [32] := by simpa using Array.mem_of_getElem? ht
        have hall : ([32].all fun u => !Tryz.prog.wantsStandIn u) = true := by kernel_rfl
        exact (show Tryz.prog.wantsStandIn t = false by simpa using List.all_eq_true.1 hall t hm)⟩)
    (goes_none goes_p rfl)
#print axioms FnExactPlayerText_holds
end Go.Proofs.YtnhcoeogejgidadGreatDoor
