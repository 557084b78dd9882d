/- Lemmas. -/
import Derived.Test.YthhepeklpgefkaaGreatDoorLk24
import Derived.Test.YthhepeklpgefkaaGreatDoorTabE
import Derived.Test.YthhepeklpgefkaaGreatDoorK3
import Derived.Test.YthhepeklpgefkaaGreatDoorLr3
set_option linter.unusedVariables false
set_option linter.unusedSimpArgs false
namespace Go.Sx
open Go.Proofs
set_option maxRecDepth 100000
set_option maxHeartbeats 1000000
section
variable {h:ab}{b:Option Addr}{l c:Nat}{rs:List bc}
theorem Z5:FW .f32 1065353216 tB:=fK (by decide) (by decide)
theorem ab3{r s d a1 a2 a3:Nat}(hr:FW .f32 r a1)(hs:FW .f32 s a2)(hd:FW .f32 d a3):Fl ai xP #[.float .f32 r,.float .f32 s,.float .f32 d] .f32 (yS (mF .f32 a1 (fP .f32 a2 a3)) tB):=λh=>by
 refine CK.call (fM hs hd λw1 h1=>fA hr h1 λw2 h2=>(Mq h2 Z5).go λh3 y x3 hy=>dv ?_)
 exact ⟨⟨y,rfl,hy⟩,x3⟩
theorem acT{r s d a1 a2 a3:Nat}(hr:FW .f32 r a1)(hs:FW .f32 s a2)(hd:FW .f32 d a3):Fl ai zy #[.float .f32 r,.float .f32 s,.float .f32 d] .f32 (yS (mF .f32 a1 (fP .f32 a2 a3)) tB):=λh=>by
 refine DO.call (fM hs hd λw1 h1=>fA hr h1 λw2 h2=>(FK h2 Z5).go λh3 y x3 hy=>dv ?_)
 exact ⟨⟨y,rfl,hy⟩,x3⟩
theorem Km{cs:Array Value}(hs:cs.size=2):(⟨dN 0 2 cs [.slice none 0 0,.int .i64 (0:Int)]⟩:Array Value)=cs:=by
 rw[Ys (n:=2) rfl]
theorem K8(S:SlR bo h b l c rs)(hr:∀r ∈ rs,r.af.length≤1048576)(hl:l≤1048576):
  ae ai jL #[.slice b l c] (λu h'=>∃b' c' B,u = .slice b' l c'∧SlO aq bo B b' l c' rs∧Mem h h' B) h:=by
 have hls:=S.len
 have hm:(1048577:Nat)≤maxLen:=by decide
 refine gK.call ((Mem.start h).alc λg h1 x1 M=>?_)
 refine loop (λy hh=>∃(n:Nat) (b':Option Addr) (c':Nat) (B:List Blk),y=(b,l,c,b',n,c',(n:Int))∧n≤l∧SlO aq bo B b' n c' (rs.take n)∧Mem h hh B) (λy=>(l-y.2.2.2.2.2.2).toNat)
  ⟨0,_,_,_,rfl,by omega,SlO.empty g,M⟩ ?_
 rintro y hh ⟨n,b',c',B,rfl,hn,O,M⟩
 refine brd (λhc=>?_) λhc=>?_
 ·have hi:n<rs.length:=by omega
  refine (S.ext M.ext).idx lV (by omega) (by omega) λp Rp=>gw.go M (EV Rp (hr _ (by rw[Int.toNat_natCast,getElem!_pos _ n hi];exact List.getElem_mem _))) λh2 cs Bn M O2 s2=>fe (siz s2 ?_)
  rw[Km s2]
  have M:=M.cnt (W:=B++(Bn++[]))
  refine Nl rR O M O2 (by omega) (by omega) λb2 c2 h3 B2 O3 M3=>lZ ⟨⟨n+1,b2,c2,B2,by rw[ag (by omega)],by omega,?_,by simpa using M3⟩,by rw[ag (by omega)];show _<_;simp;omega⟩
  rw[rJ hi];exact O3
 ·obtain rfl:n=l:=by omega
  rw[← hls,List.take_length] at O
  rw[← hls]
  exact ⟨b',c',B,rfl,O,M⟩
theorem Hy(S:SlR bo h b l c rs)(hr:∀r ∈ rs,r.af.length≤1048576)(hl:l≤1048576):
  ae ai o7 #[.slice b l c] (λu h'=>∃b' c' B,u = .slice b' l c'∧SlO aq bo B b' l c' rs∧Mem h h' B) h:=by
 have hls:=S.len
 have hm:(1048577:Nat)≤maxLen:=by decide
 refine fT.call ?_
 refine loop (λy hh=>∃(n:Nat) (b':Option Addr) (c':Nat) (B:List Blk),y=(b',n,c',b,l,c,(l:Int),(n:Int))∧n≤l∧SlO aq bo B b' n c' (rs.take n)∧Mem h hh B) (λy=>(l-y.2.2.2.2.2.2.2).toNat)
  ⟨0,_,_,_,rfl,by omega,SlO.nil,Mem.start h⟩ ?_
 rintro y hh ⟨n,b',c',B,rfl,hn,O,M⟩
 refine brd (λhc=>?_) λhc=>?_
 ·have hi:n<rs.length:=by omega
  refine (S.ext M.ext).idx lV (by omega) (by omega) λp Rp=>Rp.gi rfl λca Ra=>(Mem.start hh).alc λg5 h5 x5 N=>N.dy .here (rsz Ra rfl) (bo.rQ Ra) rfl .here λh6 N=>N.cM .here (rsz Ra rfl) ?_
  have M:=M.join N
  have Ra:bo.rd h6 ca.toList rs[n]!:=bo.ext N.ext Ra
  refine gw.go M (wE Ra (hr _ (by rw[getElem!_pos _ n hi];exact List.getElem_mem _))) λh2 cs Bn M O2 s2=>fe (siz s2 ?_)
  rw[Km s2]
  have M:=M.cnt (W:=B++(Bn++[]))
  refine Nl rR O M O2 (by omega) (by omega) λb2 c2 h3 B2 O3 M3=>lZ ⟨⟨n+1,b2,c2,B2,by rw[ag (by omega)],by omega,?_,by simpa using M3⟩,by rw[ag (by omega)];show _<_;simp;omega⟩
  rw[rJ hi];exact O3
 ·obtain rfl:n=l:=by omega
  rw[← hls,List.take_length] at O
  rw[← hls]
  exact ⟨b',c',B,rfl,O,M⟩
theorem K9(S:SlR bo h b l c rs)(hr:∀r ∈ rs,r.ok=true)(hl:l≤1048576):
  ae ai po #[.slice b l c] (λu h'=>∃b' c' B,u = .slice b' l c'∧SlO au (rF .f32) B b' l c' (rs.map bc.old)∧Mem h h' B) h:=by
 have hls:=S.len
 have hm:(1048577:Nat)≤maxLen:=by decide
 refine gL.call ((Mem.start h).alc λg h1 x1 M=>?_)
 refine loop (λy hh=>∃(n:Nat) (b':Option Addr) (c':Nat) (B:List Blk),y=(b,l,c,b',n,c',(n:Int))∧n≤l∧SlO au (rF .f32) B b' n c' ((rs.take n).map bc.old)∧Mem h hh B) (λy=>(l-y.2.2.2.2.2.2).toNat)
  ⟨0,_,_,_,rfl,by omega,SlO.empty g,M⟩ ?_
 rintro y hh ⟨n,b',c',B,rfl,hn,O,M⟩
 refine brd (λhc=>?_) λhc=>?_
 ·have hi:n<rs.length:=by omega
  have KV:=hr rs[n]! (by rw[getElem!_pos _ n hi];exact List.getElem_mem _)
  obtain⟨k1,k2,k3,k4,k5⟩:=mH KV
  refine (S.ext M.ext).idx lV (by omega) (by omega) λp Rp=>Rp.oL1 λb3 l3 c3 S3=>(S.ext M.ext).idx lV (by omega) (by omega) λp2 Rp2=>Rp2.oI ?_
  have hl3:rs[n]!.af.length=l3:=S3.len
  refine S3.idx (by decide) k1 (by show rs[n]!.At<(l3:Int);omega) λp4 Rp4=>Rp4.oF1 λy hy=>?_
  have hy:FW .f32 y rs[n]!.old:=hy
  refine Nl (Bn:=[]) (L:=[]) pd O (by simpa using M) ⟨rfl,y,rfl,hy⟩ (by omega) (by omega) λb2 c2 h3 B2 O3 M3=>lZ ⟨⟨n+1,b2,c2,B2,by rw[ag (by omega)],by omega,?_,by simpa using M3⟩,by rw[ag (by omega)];show _<_;simp;omega⟩
  rw[rJ hi,List.map_append];exact O3
 ·obtain rfl:n=l:=by omega
  rw[← hls,List.take_length] at O
  rw[← hls]
  exact ⟨b',c',B,rfl,O,M⟩
end
section
variable {h:ab}{q:Addr}{x:cF}
theorem ajG:FW .f32 3212836864 CX:=fK (by decide) (by decide)
theorem kQ(x:cF):x.ok=(inR x.n 1 3&&decide (x.Left.length=x.n)&&decide (x.aG.length+1=x.n)&&x.aY.all bc.okf&&x.Left.all bc.okf&&((List.range x.n).all λi=>x.aY[i]!.af.length==x.Left[i]!.af.length) &&
  (x.aG.all λk=>inside k CX tB)&&x.End.ok&&(x.End.Kind==1)&&fin x.fi&&fin x.Rest&&fin x.fG):=rfl
theorem aid(R:RdP ck h q x):ae ai BL #[.pointer (some q)] (λu h'=>u = .bool x.ok∧Ext h h') h:=by
 have E0:=Ext.refl h
 refine dD.call (R.oL1 λb1 l1 c1 S1=>?_)
 have hl1:x.aY.length=l1:=S1.len
 have hn:x.n=l1:=hl1
 have k1:=S1.2.1
 have k2:=S1.2.2.1
 have k3:=bW
 refine brd (λhc=>⟨?_,E0⟩) λhc=>brd (λXb=>⟨?_,E0⟩) λXb=>R.oL λb4 l4 c4 S4=>?_
 ·rw[kQ,show inR x.n 1 3=false by unfold inR;simp only[Bool.and_eq_false_iff,decide_eq_false_iff_not];omega];rfl
 ·rw[kQ,show inR x.n 1 3=false by unfold inR;simp only[Bool.and_eq_false_iff,decide_eq_false_iff_not];omega];rfl
 have hl4:x.Left.length=l4:=S4.len
 have h1:inR x.n 1 3=true:=by unfold inR;simp only[Bool.and_eq_true,decide_eq_true_eq];omega
 refine br (λhb=>⟨?_,E0⟩) λhb=>?_
 ·have:decide (x.Left.length=x.n)=false:=by simp only[decide_eq_false_iff_not];simp at hb;omega
  rw[kQ,this];simp
 have e4:l4=l1:=by simp at hb;omega
 have h2:decide (x.Left.length=x.n)=true:=by simp only[decide_eq_true_eq];omega
 refine R.oL λb7 l7 c7 S7=>?_
 have hl7:x.aG.length=l7:=S7.len
 rw[wrap64 (n:=(l1:Int)-1) (by omega) (by omega)]
 refine br (λhb=>⟨?_,E0⟩) λhb=>?_
 ·have:decide (x.aG.length+1=x.n)=false:=by simp only[decide_eq_false_iff_not];simp at hb;omega
  rw[kQ,this];simp
 have e7:l7+1=l1:=by simp at hb;omega
 have h3:decide (x.aG.length+1=x.n)=true:=by simp only[decide_eq_true_eq];omega
 refine R.oL1 λb1 l1' c1 S1'=>goX (GK S1') λha xa=>bd (br (λhb=>⟨?_,xa⟩) λhb=>?_)
 ·rw[kQ,nt hb];simp
 have h4:=nf hb
 refine (R.ext xa).oL λb4 l4' c4 S4'=>goX (GK S4') λhd xb=>bd (br (λhb=>⟨?_,xa.trans xb⟩) λhb=>?_)
 ·rw[kQ,nt hb];simp
 have h5:=nf hb
 unfold dD.J4
 have X:=xa.trans xb
 refine loop (λy hh=>∃n:Nat,y=(q,(l1:Int),(n:Int))∧n≤l1∧hh=hd∧∀i,i<n->(x.aY[i]!.af.length==x.Left[i]!.af.length)=true) (λy=>(l1-y.2.2).toNat) ⟨0,rfl,by omega,rfl,λi hi=>by omega⟩ ?_
 rintro y hh ⟨n,rfl,hn',rfl,hz⟩
 refine brd (λhc=>?_) λhc=>?_
 ·refine (R.ext X).oL1 λb l c S=>?_
  have hlS:=S.len
  refine S.idx lV (by omega) (by omega) λp Rp=>Rp.oL1 λb2 l2 c2 S2=>(R.ext X).oL λb3 l3 c3 S3=>?_
  have aDK:=S3.len
  refine S3.idx lV (by omega) (by omega) λp Rp=>Rp.oL1 λb5 l5 c5 S5=>?_
  have f2:x.aY[n]!.af.length=l2:=S2.len
  have f5:x.Left[n]!.af.length=l5:=S5.len
  refine br (λhb=>⟨?_,X⟩) λhb=>?_
  ·have:(x.aY[n]!.af.length==x.Left[n]!.af.length)=false:=by rw[f2,f5];simp at hb ⊢;omega
   rw[kQ,all_false (f:=λi=>x.aY[i]!.af.length==x.Left[i]!.af.length) (i:=n) (by omega) this];simp
  ·refine ⟨⟨n+1,by rw[ag (by omega)],by omega,rfl,λi hi=>?_⟩,by rw[ag (by omega)];show _<_;simp;omega⟩
   by_cases e:i=n
   ·subst e;rw[f2,f5];simp at hb ⊢;omega
   ·exact hz i (by omega)
 have h6:((List.range x.n).all λi=>x.aY[i]!.af.length==x.Left[i]!.af.length)=true:=all_true λi hi=>hz i (by omega)
 refine loop (λy hh'=>∃n:Nat,y=(q,(l1:Int),(n:Int))∧n≤l7∧hh'=hh∧∀i,i<n->inside x.aG[i]! CX tB=true) (λy=>(l7-y.2.2).toNat) ⟨0,rfl,by omega,rfl,λi hi=>by omega⟩ ?_
 rintro y hh' ⟨n,rfl,aDQ,rfl,KW⟩
 rw[dD.B10,wrap64 (n:=(l1:Int)-1) (by omega) (by omega)]
 have no:inside x.aG[n]! CX tB=false->n<l7->(Value.bool false = .bool x.ok∧Ext h hh'):=λe vR=>⟨by
  rw[kQ,jI (λk=>inside k CX tB),all_false (f:=λi=>inside x.aG[i]! CX tB) (i:=n) (by omega) e];simp,X⟩
 refine brd (λhc=>?_) λhc=>?_
 ·refine (R.ext X).oL λb l c S=>?_
  have hlS:=S.len
  refine S.idx (by decide) (by omega) (by omega) λp Rp=>Rp.oF1 λy hy=>?_
  rw[cY hy ajG]
  refine br (λhb=>(R.ext X).oL λb2 l2 c2 S2=>?_) λhb=>no ?_ (by omega)
  ·have aDJ:=S2.len
   refine S2.idx (by decide) (by omega) (by omega) λp2 Rp2=>Rp2.oF1 λz hz3=>?_
   rw[cY hz3 Z5]
   have hb:fge .f32 x.aG[n]! CX=true:=hb
   refine br (λPg=>no ?_ (by omega)) λPg=>?_
   ·have Pg:fle .f32 x.aG[n]! tB=false:=nt Pg
    unfold inside;rw[Pg,Bool.and_false]
   ·have Pg:fle .f32 x.aG[n]! tB=true:=nf Pg
    refine ⟨⟨n+1,by rw[ag (by omega)],by omega,rfl,λi hi=>?_⟩,by rw[ag (by omega)];show _<_;simp;omega⟩
    by_cases e:i=n
    ·subst e;unfold inside;rw[hb,Pg];rfl
    ·exact KW i (by omega)
  ·have hb:fge .f32 x.aG[n]! CX=false:=hb
   unfold inside;rw[hb,Bool.false_and]
 have h7:(x.aG.all λk=>inside k CX tB)=true:=by rw[jI (λk=>inside k CX tB),all_true λi hi=>KW i (by omega)]
 refine goX (Lo ((R.ext X).foc dO)) λhe xe=>bd (br (λhb=>?_) λhb=>⟨?_,X.trans xe⟩)
 ·have RE:=R.ext (X.trans xe)
  refine RE.oI (br (λhk=>?_) λhk=>⟨?_,X.trans xe⟩)
  ·refine RE.oF λy1 j1=>RE.oF λy2 j2=>RE.oF λy3 j3=>?_
   refine Ef (r:=rF .f32) (n:=3) (xs:=[x.fi,x.Rest,x.fG]) ⟨rfl,[_],_,rfl,⟨_,rfl,j1⟩,[_],_,rfl,⟨_,rfl,j2⟩,[_],_,rfl,⟨_,rfl,j3⟩,rfl⟩ (by decide) λg' h4' x4 S=>?_
   refine goX (Mt S) λh5' x5=>bd ⟨?_,((X.trans xe).trans x4).trans x5⟩
   have hk:(x.End.Kind==1)=true:=hk
   rw[kQ,h1,h2,h3,h4,h5,h6,h7,hb,hk];simp[oq,Bool.and_assoc]
  ·have hk:(x.End.Kind==1)=false:=hk
   rw[kQ,hk];simp
 ·rw[kQ,hb];simp
end
section
variable {h:ab}{q:Addr}{x:cF}
theorem Y9:YL ai (.func (.func pG) #[] #[]) λk=>!inside k CX tB:=λx a h hx=>by
 show ae ai pG #[.float .f32 x] _ h
 exact sQ.call ((lS hx ajG Z5).go λh2 x2=>bd ⟨rfl,x2⟩)
theorem TZ{cs:Array Value}(R0:ck.rd h cs.toList x):ae ai tO #[.agg cs] (λu h'=>u = .bool x.ok∧Ext h h') h:=by
 refine dB.call (fj R0 λg h1 x1 R=>R.oL2 λb1 l1 c1 S1=>goX (kJ _ _ _ _) λh2 x2=>bd ?_)
 have hl1:x.aY.length=l1:=S1.len
 have hn:x.n=l1:=hl1
 have k1:=S1.2.1
 have k2:=S1.2.2.1
 have k3:=bW
 have X2:=x1.trans x2
 refine br (λhb=>⟨?_,X2⟩) λhb=>?_
 ·rw[kQ,hn,nt hb];rfl
 have h1':inR x.n 1 3=true:=by rw[hn];exact nf hb
 have hr:1≤l1∧l1≤3:=by rw[hn] at h1';unfold inR at h1';simp at h1';omega
 refine (R.ext x2).oL2 λb4 l4 c4 S4=>?_
 have hl4:x.Left.length=l4:=S4.len
 refine br (λhb=>⟨?_,X2⟩) λhb=>?_
 ·have:decide (x.Left.length=x.n)=false:=by simp only[decide_eq_false_iff_not];simp at hb;omega
  rw[kQ,this];simp
 have e4:l4=l1:=by simp at hb;omega
 have h2':decide (x.Left.length=x.n)=true:=by simp only[decide_eq_true_eq];omega
 refine (R.ext x2).oL2 λb7 l7 c7 S7=>?_
 have hl7:x.aG.length=l7:=S7.len
 rw[wrap64 (n:=(l1:Int)-1) (by omega) (by omega)]
 refine br (λhb=>⟨?_,X2⟩) λhb=>?_
 ·have:decide (x.aG.length+1=x.n)=false:=by simp only[decide_eq_false_iff_not];simp at hb;omega
  rw[kQ,this];simp
 have h3':decide (x.aG.length+1=x.n)=true:=by simp at hb;simp only[decide_eq_true_eq];omega
 refine (R.ext x2).fc dO rfl λcf Rf=>goX (C0 Rf _) λh5 x5=>bd (br (λhb=>⟨?_,X2.trans x5⟩) λhb=>?_)
 ·have:(x.End.ok&&x.End.Kind==1)=false:=nt hb
  rw[kQ,Bool.and_assoc _ x.End.ok,this];simp
 have hE:(x.End.ok&&x.End.Kind==1)=true:=nf hb
 have RE:=R.ext (x2.trans x5)
 refine RE.oF2 λy1 j1=>RE.oF2 λy2 j2=>RE.oF2 λy3 j3=>?_
 refine Ef (r:=rF .f32) (n:=3) (xs:=[x.fi,x.Rest,x.fG]) ⟨rfl,[_],_,rfl,⟨_,rfl,j1⟩,[_],_,rfl,⟨_,rfl,j2⟩,[_],_,rfl,⟨_,rfl,j3⟩,rfl⟩ (by decide) λg' h4' x4 S=>?_
 have X4:=(X2.trans x5).trans x4
 refine goX (Dv S) λh6 x6=>bd (br (λhb=>⟨?_,X4.trans x6⟩) λhb=>?_)
 ·have:(fin x.fi&&fin x.Rest&&fin x.fG)=false:=by have:=nt hb;simpa [oq,Bool.and_assoc] using this
  rw[kQ,Bool.and_assoc _ (fin x.Rest),Bool.and_assoc _ (fin x.fi),← Bool.and_assoc (fin x.fi),this];simp
 have hF:(fin x.fi&&fin x.Rest&&fin x.fG)=true:=by have:=nf hb;simpa [oq,Bool.and_assoc] using this
 unfold dB.J4
 have X6:=X4.trans x6
 have RJ:=R.ext (((x2.trans x5).trans x4).trans x6)
 refine RJ.oL2 λb1' l1' c1' S1'=>?_
 have aDF:=S1'.len
 refine loop (λy hh=>∃n:Nat,y=(⟨g,0,none⟩,b1',l1',c1',(l1':Int),(n:Int))∧n≤l1'∧Ext h6 hh∧∀i,i<n->(x.aY[i]!.okf&&(x.Left[i]!.okf&&(x.aY[i]!.af.length==x.Left[i]!.af.length)))=true) (λy=>(l1'-y.2.2.2.2.2).toNat) ⟨0,rfl,by omega,Ext.refl _,λi hi=>by omega⟩ ?_
 rintro y hh ⟨n,rfl,hn',X,hz⟩
 refine brd (λhc=>?_) λhc=>?_
 ·have no:∀{h'},Ext h6 h'->(x.aY[n]!.okf&&(x.Left[n]!.okf&&(x.aY[n]!.af.length==x.Left[n]!.af.length)))=false->(Value.bool false = .bool x.ok∧Ext h h'):=λX e=>⟨by
   rw[kQ]
   rcases Bool.and_eq_false_iff.1 e with e | e
   ·rw[jI bc.okf x.aY,all_false (f:=λi=>x.aY[i]!.okf) (i:=n) (by omega) e];simp
   ·rcases Bool.and_eq_false_iff.1 e with e | e
    ·rw[jI bc.okf x.Left,all_false (f:=λi=>x.Left[i]!.okf) (i:=n) (by omega) e];simp
    ·rw[all_false (f:=λi=>x.aY[i]!.af.length==x.Left[i]!.af.length) (i:=n) (by omega) e];simp,X6.trans X⟩
  refine (S1'.ext X).idx lV (by omega) (by omega) λp Rp=>Rp.gi rfl λca Ra=>(Mem.start hh).alc λg5 h7 x7 N=>N.dy .here (rsz Ra rfl) (bo.rQ Ra) rfl .here λh8 N=>N.cM .here (rsz Ra rfl) ?_
  have Ra:bo.rd h8 ca.toList x.aY[n]!:=bo.ext N.ext Ra
  have Pa:RdP bo h8 ⟨g5,0,none⟩ x.aY[n]!:=N.rdp .here Ra
  have X8:=X.trans N.ext
  refine goX (HS Ra) λh9 x9=>bd (br (λhb=>no (X8.trans x9) ?_) λhb=>?_)
  ·rw[nt hb];rfl
  have o1:=nf hb
  refine (RJ.ext (X8.trans x9)).oL λb3 l3 c3 S3=>?_
  have hl3:=S3.len
  refine S3.idx lV (by omega) (by omega) λp3 Rp3=>Rp3.gi rfl λcb Rb=>goX (HS Rb) λha xa=>bd (br (λhb=>no ((X8.trans x9).trans xa) ?_) λhb=>?_)
  ·have hb:x.Left[n]!.okf=false:=nt hb
   rw[o1,hb];rfl
  have o2:x.Left[n]!.okf=true:=nf hb
  refine (Pa.ext (x9.trans xa)).oL2 λb5 l5 c5 S5=>(RJ.ext ((X8.trans x9).trans xa)).oL λb6 l6 c6 S6=>?_
  have hl6:=S6.len
  refine S6.idx lV (by omega) (by omega) λp6 Rp6=>Rp6.oL1 λb8 l8 c8 S8=>?_
  have f5:x.aY[n]!.af.length=l5:=S5.len
  have f8:x.Left[n]!.af.length=l8:=S8.len
  refine br (λhb=>no ((X8.trans x9).trans xa) ?_) λhb=>?_
  ·have hb':(l5:Int)≠(l8:Int):=by simpa using hb
   have:(l5==l8)=false:=by rw[beq_eq_false_iff_ne];omega
   rw[o1,o2,f5,f8,this];rfl
  ·have hb':(l5:Int)=(l8:Int):=by simpa using hb
   refine ⟨⟨n+1,by rw[ag (by omega)],by omega,(X8.trans x9).trans xa,λi hi=>?_⟩,by rw[ag (by omega)];show _<_;simp;omega⟩
   by_cases e:i=n
   ·subst e
    have:(l5==l8)=true:=by rw[beq_iff_eq];omega
    rw[o1,o2,f5,f8,this];rfl
   ·exact hz i (by omega)
 have hz':∀i,i<x.n->x.aY[i]!.okf=true∧x.Left[i]!.okf=true∧(x.aY[i]!.af.length==x.Left[i]!.af.length)=true:=λi hi=>by
  have:=hz i (by omega)
  rw[Bool.and_eq_true,Bool.and_eq_true] at this
  exact this
 have h4:x.aY.all bc.okf=true:=by rw[jI bc.okf x.aY];exact all_true λi hi=>(hz' i hi).1
 have h5':x.Left.all bc.okf=true:=by rw[jI bc.okf x.Left];exact all_true λi hi=>(hz' i (by omega)).2.1
 have h6':((List.range x.n).all λi=>x.aY[i]!.af.length==x.Left[i]!.af.length)=true:=all_true λi hi=>(hz' i hi).2.2
 refine (RJ.ext X).oL λb9 l9 c9 S9=>goX (xt S9 Y9) λhf xf=>bd ⟨?_,(X6.trans X).trans xf⟩
 rw[YO,kQ,h1',h2',h3',h4,h5',h6',Bool.and_assoc _ x.End.ok,hE,Bool.and_assoc _ (fin x.Rest),Bool.and_assoc _ (fin x.fi),← Bool.and_assoc (fin x.fi),hF];simp
end
end Go.Sx
