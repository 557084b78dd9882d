/- The law FnExactDeedText: for every input the call answers true, and each argument reads afterwards as it read before. No condition. -/
import Derived.Test.YthgnpepchedpbaaDoorLopen
import Derived.Test.YthgnpepchedpbaaDoorFc30
import Derived.Test.YthgnpepchedpbaaDoorLv3
import Derived.Test.YthgnpepchedpbaaDoorLrt
import Derived.Test.YthgnpepchedpbaaDoorRows
import Derived.Test.YthgnpepchedpbaaDoorTie
import Derived.Test.YthgnpepchedpbaaDoorCards
namespace Go.Proofs.YthgnpepchedpbaaDoor
open Go.ChangeShapes Go.WideShapes Go.ChangeAt Go.RowKit Go.Sx
open Go.ChangeMaps (open_string shut_string)
set_option linter.unusedVariables false
set_option maxRecDepth 100000 in
theorem lifted (os : Os) (started : os.Started) (H : Type) (enc : TypeId × Value → H) :
    ReturnsInHanded {} Tryd.checked os 3 .any (fun w args => (Rows.fnExactDeedTextSpec.pre enc Tryd.prog Tryd.f3 Rows.fnExactDeedTextRow.domain false w args ∧ laidMetH Tryd.prog Rows.fnExactDeedTextRow.laid w) ∧ sizedMet enc Tryd.prog Tryd.f3 (OpenSpec.ofChange Rows.fnExactDeedTextSpec) false w args)
      (Rows.fnExactDeedTextSpec.post enc Tryd.prog Tryd.f3 false true false false) := by
  refine law_returns_tabs (C := Tryd.checked) (tb := 4) own started (by kernel_rfl) Tryd.func3 (by kernel_rfl) (by kernel_rfl) rfl (fun ds hd => ?_) (by kernel_rfl) (by kernel_rfl) laidOut (of_decide_eq_true (by kernel_rfl))
    (ChangeSpec.witness_shaped (enc := enc) (C := Tryd.checked) (os := os) (X := fun w _ => laidMetH Tryd.prog Rows.fnExactDeedTextRow.laid w) false (World.laidAll Tryd.prog os Rows.fnExactDeedTextRow.laid) #[.agg ⟨[.int .i64 (0 : Int), .int .i64 (0 : Int), .int .i64 (0 : Int)]⟩] 8 (World.laidAll_os _ _ _)
      (World.shaped_of_ZipB (by kernel_rfl) (by kernel_rfl)) (by kernel_rfl) (by kernel_rfl) (by kernel_rfl)
      (by rw [MakeChecks.laidMetH_plain _ _ _ (by kernel_rfl)]; exact laidMet_laidAll _ (by kernel_rfl) (by kernel_rfl))) ?_
  · rw [Tryd.params3] at hd
    match ds, hd with
    | [d0], _ => rfl
  · intro W base args ds p hA hval hsz hL
    rw [Tryd.params3] at hA hval
    obtain ⟨v0, vs0, d0, ds0, p0, q0, hargs, rfl, rfl, h0, r0⟩ := trodAll_cons hA
    obtain ⟨rfl, rfl, rfl⟩ := trodAll_nil r0
    obtain rfl : args = #[v0] := by cases args; simp_all
    obtain ⟨cs0, rfl, A0⟩ := open_flat (n := 9) (ls := [2, 2, 2]) (by kernel_rfl) (by kernel_rfl) (hval 0 23 v0 rfl rfl) h0
    have u0 : ∀ t ∈ [2, 2, 2], Tryd.checked.prog.underlying t = some (.int .i64) := fun t ht => by
      obtain rfl : t = 2 := by simpa using ht
      exact Tryd.underlying2
    obtain ⟨a0, rfl, hl0, w0⟩ := All2.ints u0 A0
    rw [MakeChecks.laidMetH_plain _ _ _ (by kernel_rfl)] at hL
    have T : Tens W.heap := laid_tab L173.m17 (by kernel_rfl) L173.t212 L173.t46 (by kernel_rfl) (by kernel_rfl) hL (.tail _ (.tail _ (.head _)))
    match a0, hl0 with
    | [k, a, b], _ => exact FnExactDeedText_c T
theorem over : Rows.fnExactDeedTextRow.holds Tryd.pinned (OpenSpec.ofChange Rows.fnExactDeedTextSpec) :=
  OpenClaim.holds_of_wide 3 Tryd.f3 rfl rfl rfl rfl rfl rfl rfl ⟨rfl, rfl, rfl, rfl, rfl⟩ rfl rfl rfl rfl rfl funcNamed_p Tryd.func3 closed_p
    (of_decide_eq_true (by kernel_rfl)) (by unfold Func.isWrapper; first | (rw [if_pos (by decide +kernel)]; kernel_rfl) | (rw [if_neg (by decide +kernel)]; exact ⟨rfl, rfl⟩))
    (fun os started H enc _ => lifted os started H enc)
theorem FnExactDeedText_holds : Rows.FnExactDeedTextCardSaid :=
  Claim7.holds_tied_plain_at .later [] [.data, .data, .data] true (true, "49ecf03797e0cdc28dd9508e5b5896b57ba99ba28cc3db8a115870de4eed928c") true over (fun _ h => by cases h) (by kernel_rfl) (fun _ h => by cases h) fnExactDeedText_row_tie rfl ⟨rfl, rfl⟩ (by kernel_rfl) rfl
    (fun f fn hf hfn => by
      obtain rfl : f = 3 := Option.some.inj (funcNamed_p.symm.trans hf) |>.symm
      obtain rfl : fn = Tryd.f3 := (Option.some.inj (Tryd.func3.symm.trans hfn)).symm
      exact ⟨looks_p, fun j t ht => by
        rw [Tryd.params3] at ht
        have hm : t ∈ [23] := by simpa using Array.mem_of_getElem? ht
        have hall : ([23].all fun u => !Tryd.prog.wantsStandIn u) = true := by kernel_rfl
        exact (show Tryd.prog.wantsStandIn t = false by simpa using List.all_eq_true.1 hall t hm)⟩)
    (goes_none goes_p rfl)
#print axioms FnExactDeedText_holds
end Go.Proofs.YthgnpepchedpbaaDoor
