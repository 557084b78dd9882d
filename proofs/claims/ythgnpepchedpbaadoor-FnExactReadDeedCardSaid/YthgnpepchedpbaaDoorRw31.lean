/- The law FnExactReadDeed: for every input the call answers true, and each argument reads afterwards as it read before. No condition. -/
import Derived.Test.YthgnpepchedpbaaDoorLopen
import Derived.Test.YthgnpepchedpbaaDoorFc31
import Derived.Test.YthgnpepchedpbaaDoorLv8
import Derived.Test.YthgnpepchedpbaaDoorLrt
import Derived.Test.YthgnpepchedpbaaDoorRows
import Derived.Test.YthgnpepchedpbaaDoorTie
import Derived.Test.YthgnpepchedpbaaDoorCards
namespace Go.Proofs.YthgnpepchedpbaaDoor
open Go.ChangeShapes Go.WideShapes Go.ChangeAt Go.RowKit Go.Sx
open Go.ChangeMaps (open_string shut_string)
set_option linter.unusedVariables false
set_option maxRecDepth 100000 in
theorem lifted (os : Os) (started : os.Started) (H : Type) (enc : TypeId × Value → H) :
    ReturnsInHanded {} Tryd.checked os 4 .any (fun w args => (Rows.fnExactReadDeedSpec.pre enc Tryd.prog Tryd.f4 Rows.fnExactReadDeedRow.domain false w args ∧ laidMetH Tryd.prog Rows.fnExactReadDeedRow.laid w) ∧ sizedMet enc Tryd.prog Tryd.f4 (OpenSpec.ofChange Rows.fnExactReadDeedSpec) false w args)
      (Rows.fnExactReadDeedSpec.post enc Tryd.prog Tryd.f4 false true false false) := by
  refine law_returns_libs (C := Tryd.checked) (tb := 4) own started (by kernel_rfl) Tryd.func4 (by kernel_rfl) (by kernel_rfl) rfl (fun ds hd => ?_) (by kernel_rfl) (by kernel_rfl) laidOut (of_decide_eq_true (by kernel_rfl))
    (ChangeSpec.witness_shaped (enc := enc) (C := Tryd.checked) (os := os) (X := fun w _ => laidMetH Tryd.prog Rows.fnExactReadDeedRow.laid w) false (World.laidAll Tryd.prog os Rows.fnExactReadDeedRow.laid) #[.string (⟨#[]⟩ : ByteArray)] 8 (World.laidAll_os _ _ _)
      (World.shaped_of_ZipB (by kernel_rfl) (by kernel_rfl)) (by kernel_rfl) (by kernel_rfl) (by kernel_rfl)
      (by rw [MakeChecks.laidMetH_plain _ _ _ (by kernel_rfl)]; exact laidMet_laidAll _ (by kernel_rfl) (by kernel_rfl))) ?_
  · rw [Tryd.params4] at hd
    match ds, hd with
    | [d0], _ => rfl
  · intro W base args ds p hA hval hsz hL hS
    rw [Tryd.params4] at hA hval
    obtain ⟨v0, vs0, d0, ds0, p0, q0, hargs, rfl, rfl, h0, r0⟩ := trodAll_cons hA
    obtain ⟨rfl, rfl, rfl⟩ := trodAll_nil r0
    obtain rfl : args = #[v0] := by cases args; simp_all
    obtain ⟨a0, rfl, _, _, w0⟩ := open_string Tryd.underlying9 (hval 0 9 v0 rfl rfl) h0
    -- ('string',)
    rw [MakeChecks.laidMetH_plain _ _ _ (by kernel_rfl)] at hL
    have T : Tens W.heap := laid_tab L173.m17 (by kernel_rfl) L173.t212 L173.t46 (by kernel_rfl) (by kernel_rfl) hL (.tail _ (.tail _ (.head _)))
    have hi : prg.underlying 52 = some (.interface (prg.methodsAt 52)) := by kernel_rfl
    have Lb : Libs W.heap := ⟨T, L146.s1_3 W hS, laid_iface (g := R174.g 15) (by kernel_rfl) (by kernel_rfl) hi hL (.tail _ (.tail _ (.tail _ (.tail _ (.tail _ (.head _)))))), laid_iface (g := R174.g 16) (by kernel_rfl) (by kernel_rfl) hi hL (.tail _ (.tail _ (.tail _ (.tail _ (.head _)))))⟩
    exact FnExactReadDeed_c Lb
theorem over : Rows.fnExactReadDeedRow.holds Tryd.pinned (OpenSpec.ofChange Rows.fnExactReadDeedSpec) :=
  OpenClaim.holds_of_wide 4 Tryd.f4 rfl rfl rfl rfl rfl rfl rfl ⟨rfl, rfl, rfl, rfl, rfl⟩ rfl rfl rfl rfl rfl funcNamed_p Tryd.func4 closed_p
    (of_decide_eq_true (by kernel_rfl)) (by unfold Func.isWrapper; first | (rw [if_pos (by decide +kernel)]; kernel_rfl) | (rw [if_neg (by decide +kernel)]; exact ⟨rfl, rfl⟩))
    (fun os started H enc _ => lifted os started H enc)
theorem FnExactReadDeed_holds : Rows.FnExactReadDeedCardSaid :=
  Claim7.holds_tied_plain_at .later [] [.data, .data, .data, .data, .sentinel, .sentinel, .pinned] true (true, "49ecf03797e0cdc28dd9508e5b5896b57ba99ba28cc3db8a115870de4eed928c") true over (fun _ h => by cases h) (by kernel_rfl) (fun _ h => by cases h) fnExactReadDeed_row_tie rfl ⟨rfl, rfl⟩ (by kernel_rfl) rfl
    (fun f fn hf hfn => by
      obtain rfl : f = 4 := Option.some.inj (funcNamed_p.symm.trans hf) |>.symm
      obtain rfl : fn = Tryd.f4 := (Option.some.inj (Tryd.func4.symm.trans hfn)).symm
      exact ⟨looks_p, fun j t ht => by
        rw [Tryd.params4] at ht
        have hm : t ∈ [9] := by simpa using Array.mem_of_getElem? ht
        have hall : ([9].all fun u => !Tryd.prog.wantsStandIn u) = true := by kernel_rfl
        exact (show Tryd.prog.wantsStandIn t = false by simpa using List.all_eq_true.1 hall t hm)⟩)
    (goes_none goes_p rfl)
#print axioms FnExactReadDeed_holds
end Go.Proofs.YthgnpepchedpbaaDoor
