/- The law FnExactStepPlayer: for every input the call answers true, and each argument reads afterwards as it read before. No condition. -/
import Derived.Test.YthhepeklpgefkaaGreatDoorLx1
import Derived.Test.YthhepeklpgefkaaGreatDoorFc22
import Derived.Test.YthhepeklpgefkaaGreatDoorLw19
import Derived.Test.YthhepeklpgefkaaGreatDoorRows
import Derived.Test.YthhepeklpgefkaaGreatDoorTie
import Derived.Test.YthhepeklpgefkaaGreatDoorCards
set_option linter.unusedVariables false
set_option linter.unusedSimpArgs false
namespace Go.Proofs.YthhepeklpgefkaaGreatDoor
open Go.ChangeShapes Go.WideShapes Go.ChangeAt Go.RowKit Go.Sx
open Go.ChangeMaps (open_string shut_string)
set_option maxRecDepth 100000 in
theorem lifted(os:Os)(started:os.Started)(H:Type)(enc:TypeId×Value→H):
  ReturnsInHanded {} Tryz.checked os 9 .any (fun w args=>(Rows.fnExactStepPlayerSpec.pre enc Tryz.prog Tryz.f9 Rows.fnExactStepPlayerRow.domain false w args∧laidMetH Tryz.prog Rows.fnExactStepPlayerRow.laid w)∧sizedMet enc Tryz.prog Tryz.f9 (OpenSpec.ofChange Rows.fnExactStepPlayerSpec) false w args)
   (Rows.fnExactStepPlayerSpec.post enc Tryz.prog Tryz.f9 false true false false):=by
 refine Ju (C:=Tryz.checked) (tb:=4) own started (by kernel_rfl) Tryz.func9 (by kernel_rfl) (by kernel_rfl) rfl (fun ds hd=>?_) (by kernel_rfl) (by kernel_rfl) laidOut (of_decide_eq_true (by kernel_rfl))
  (ChangeSpec.witness_shaped (enc:=enc) (C:=Tryz.checked) (os:=os) (X:=fun w _=>laidMetH Tryz.prog Rows.fnExactStepPlayerRow.laid w) false (World.laidAll Tryz.prog os Rows.fnExactStepPlayerRow.laid) #[.agg ⟨[.float .f32 0,.float .f32 0,.float .f32 0,.slice none 0 0,.slice none 0 0,.slice none 0 0,.slice none 0 0,.int .i64 (0:Int),.int .i64 (0:Int),.int .i64 (0:Int)]⟩] 8 (World.laidAll_os _ _ _)
   (World.shaped_of_ZipB (by kernel_rfl) (by kernel_rfl)) (by kernel_rfl) (by kernel_rfl) (by kernel_rfl)
   (by rw[MakeChecks.laidMetH_plain _ _ _ (by kernel_rfl)];exact laidMet_laidAll _ (by kernel_rfl) (by kernel_rfl))) ?_
 ·rw[Tryz.params9] at hd
  match ds,hd with
  | [d0],_=>rfl
 ·intro W base args ds p hA hval hsz
  rw[Tryz.params9] at hA hval
  obtain⟨v0,vs0,d0,ds0,p0,q0,hargs,rfl,rfl,h0,r0⟩:=trodAll_cons hA
  obtain⟨rfl,rfl,rfl⟩:=trodAll_nil r0
  obtain rfl:args = #[v0]:=by cases args;simp_all
  obtain⟨cs0,rfl,A0⟩:=abC (n:=9) (ls:=[22,22,22,23,26,27,74,2,2,2]) (by kernel_rfl) (by kernel_rfl) (hval 0 76 v0 rfl rfl) h0
  obtain⟨x0,R0⟩:=T7 _ _ _ _ _ _ _ A0
  exact Fo (cs:=⟨cs0⟩) R0
theorem over:Rows.fnExactStepPlayerRow.holds Tryz.pinned (OpenSpec.ofChange Rows.fnExactStepPlayerSpec):=
 OpenClaim.holds_of_wide 9 Tryz.f9 rfl rfl rfl rfl rfl rfl rfl ⟨rfl,rfl,rfl,rfl,rfl⟩ rfl rfl rfl rfl rfl JX Tryz.func9 adn
  (of_decide_eq_true (by kernel_rfl)) (by unfold Func.isWrapper;first | (rw[if_pos (by decide +kernel)];kernel_rfl) | (rw[if_neg (by decide +kernel)];exact ⟨rfl,rfl⟩))
  (fun os started H enc _=>lifted os started H enc)
theorem FnExactStepPlayer_holds:Rows.FnExactStepPlayerCardSaid:=
 Claim7.holds_tied_plain_at .later [] [.data, .pinned] true (true, "f53ac37246c565c08ed792e64849fbb0051210ec2485b0b1be23ee018b9cf27a") false over (fun _ h => by cases h) (by kernel_rfl) (fun _ h => by cases h) fnExactStepPlayer_row_tie rfl ⟨rfl, rfl⟩ (by kernel_rfl) rfl
  (fun f fn hf hfn=>by
   obtain rfl:f=9:=Option.some.inj (JX.symm.trans hf) |>.symm
   obtain rfl:fn=Tryz.f9:=(Option.some.inj (Tryz.func9.symm.trans hfn)).symm
   exact ⟨ait,fun j t ht=>by
    rw[Tryz.params9] at ht
    have hm:t ∈ [76]:=by simpa using Array.mem_of_getElem? ht
    have hall:([76].all fun u=>!Tryz.prog.wantsStandIn u)=true:=by kernel_rfl
    exact (show Tryz.prog.wantsStandIn t=false by simpa using List.all_eq_true.1 hall t hm)⟩)
  (aaB als rfl)
#print axioms FnExactStepPlayer_holds
end Go.Proofs.YthhepeklpgefkaaGreatDoor
