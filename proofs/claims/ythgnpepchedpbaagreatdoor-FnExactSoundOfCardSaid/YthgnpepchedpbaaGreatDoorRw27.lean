/- The law FnExactSoundOf: for every input the call answers true, and each argument reads afterwards as it read before. No condition. -/
import Derived.Test.YthgnpepchedpbaaGreatDoorLx1
import Derived.Test.YthgnpepchedpbaaGreatDoorFc27
import Derived.Test.YthgnpepchedpbaaGreatDoorH5
import Derived.Test.YthgnpepchedpbaaGreatDoorRows
import Derived.Test.YthgnpepchedpbaaGreatDoorTie
import Derived.Test.YthgnpepchedpbaaGreatDoorCards
set_option linter.unusedVariables false
set_option linter.unusedSimpArgs false
namespace Go.Proofs.YthgnpepchedpbaaGreatDoor
open Go.ChangeShapes Go.WideShapes Go.ChangeAt Go.RowKit Go.Sx
open Go.ChangeMaps (open_string shut_string)
set_option maxRecDepth 100000 in
theorem lifted(os:Os)(started:os.Started)(H:Type)(enc:TypeId×Value→H):
  ReturnsInHanded {} Tryz.checked os 3 .any (fun w args=>(Rows.fnExactSoundOfSpec.pre enc Tryz.prog Tryz.f3 Rows.fnExactSoundOfRow.domain false w args∧laidMetH Tryz.prog Rows.fnExactSoundOfRow.laid w)∧sizedMet enc Tryz.prog Tryz.f3 (OpenSpec.ofChange Rows.fnExactSoundOfSpec) false w args)
   (Rows.fnExactSoundOfSpec.post enc Tryz.prog Tryz.f3 false true false false):=by
 refine Dw (C:=Tryz.checked) (tb:=4) own started (by kernel_rfl) Tryz.func3 (by kernel_rfl) (by kernel_rfl) rfl (fun ds hd=>?_) (by kernel_rfl) (by kernel_rfl) laidOut (of_decide_eq_true (by kernel_rfl))
  (ChangeSpec.witness_shaped (enc:=enc) (C:=Tryz.checked) (os:=os) (X:=fun w _=>laidMetH Tryz.prog Rows.fnExactSoundOfRow.laid w) false (World.laidAll Tryz.prog os Rows.fnExactSoundOfRow.laid) #[.agg ⟨[.float .f32 0,.float .f32 0,.float .f32 0,.slice none 0 0,.slice none 0 0,.slice none 0 0,.int .i64 (0:Int),.int .i64 (0:Int),.int .i64 (0:Int)]⟩] 8 (World.laidAll_os _ _ _)
   (World.shaped_of_ZipB (by kernel_rfl) (by kernel_rfl)) (by kernel_rfl) (by kernel_rfl) (by kernel_rfl)
   (by rw[MakeChecks.laidMetH_plain _ _ _ (by kernel_rfl)];exact laidMet_laidAll _ (by kernel_rfl) (by kernel_rfl))) ?_
 ·rw[Tryz.params3] at hd
  match ds,hd with
  | [d0],_=>rfl
 ·intro W base args ds p hA hval hsz
  rw[Tryz.params3] at hA hval
  obtain⟨v0,vs0,d0,ds0,p0,q0,hargs,rfl,rfl,h0,r0⟩:=trodAll_cons hA
  obtain⟨rfl,rfl,rfl⟩:=trodAll_nil r0
  obtain rfl:args = #[v0]:=by cases args;simp_all
  obtain⟨cs0,rfl,A0⟩:=V4 (n:=9) (ls:=[22,22,22,23,26,27,2,2,2]) (by kernel_rfl) (by kernel_rfl) (hval 0 31 v0 rfl rfl) h0
  obtain⟨x0,R0⟩:=asU _ _ _ _ _ _ _ A0
  exact aqX (cs:=⟨cs0⟩) R0
theorem over:Rows.fnExactSoundOfRow.holds Tryz.pinned (OpenSpec.ofChange Rows.fnExactSoundOfSpec):=
 OpenClaim.holds_of_wide 3 Tryz.f3 rfl rfl rfl rfl rfl rfl rfl ⟨rfl,rfl,rfl,rfl,rfl⟩ rfl rfl rfl rfl rfl Ea Tryz.func3 WC
  (of_decide_eq_true (by kernel_rfl)) (by unfold Func.isWrapper;first | (rw[if_pos (by decide +kernel)];kernel_rfl) | (rw[if_neg (by decide +kernel)];exact⟨rfl,rfl⟩))
  (fun os started H enc _=>lifted os started H enc)
theorem FnExactSoundOf_holds:Rows.FnExactSoundOfCardSaid:=
 Claim7.holds_tied_plain_at .later [] [.data, .pinned] true (true, "bc1c588c96c88f257fe8bbe20ee2e82d0be500de0340fc093c2b893a41ecf586") false over (fun _ h => by cases h) (by kernel_rfl) (fun _ h => by cases h) fnExactSoundOf_row_tie rfl ⟨rfl, rfl⟩ (by kernel_rfl) rfl
  (fun f fn hf hfn=>by
   obtain rfl:f=3:=Option.some.inj (Ea.symm.trans hf) |>.symm
   obtain rfl:fn=Tryz.f3:=(Option.some.inj (Tryz.func3.symm.trans hfn)).symm
   exact⟨abN,fun j t ht=>by
    rw[Tryz.params3] at ht
    have hm:t ∈ [31]:=by simpa using Array.mem_of_getElem? ht
    have hall:([31].all fun u=>!Tryz.prog.wantsStandIn u)=true:=by kernel_rfl
    exact(show Tryz.prog.wantsStandIn t=false by simpa using List.all_eq_true.1 hall t hm)⟩)
  (TZ af2 rfl)
#print axioms FnExactSoundOf_holds
end Go.Proofs.YthgnpepchedpbaaGreatDoor
