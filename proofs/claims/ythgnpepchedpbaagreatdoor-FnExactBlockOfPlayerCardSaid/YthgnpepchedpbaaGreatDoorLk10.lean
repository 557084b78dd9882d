/- Lemmas. -/
import Derived.Test.YthgnpepchedpbaaGreatDoorLk24
import Derived.Test.YthgnpepchedpbaaGreatDoorTabE
import Derived.Test.YthgnpepchedpbaaGreatDoorK3
import Derived.Test.YthgnpepchedpbaaGreatDoorLr3
set_option linter.unusedVariables false
set_option linter.unusedSimpArgs false
namespace Go.Sx
open Go.Proofs
set_option maxRecDepth 100000
set_option maxHeartbeats 1000000
section
variable {h:ab}{b:Option Addr}{l c:Nat}{rs:List aY}
theorem ad8:FW .f32 1065353216 Eo:=eM (by decide) (by decide)
theorem Us{r s d a1 a2 a3:Nat}(hr:FW .f32 r a1)(hs:FW .f32 s a2)(hd:FW .f32 d a3):Fl ak 190 #[.float .f32 r,.float .f32 s,.float .f32 d] .f32 (tg (jW .f32 a1 (eG .f32 a2 a3)) Eo):=λh=>by
 refine wC.call (fM hs hd λw1 h1=>fA hr h1 λw2 h2=>(Gn h2 ad8).go λh3 y x3 hy=>cW ?_)
 exact⟨⟨y,rfl,hy⟩,x3⟩
theorem W8{r s d a1 a2 a3:Nat}(hr:FW .f32 r a1)(hs:FW .f32 s a2)(hd:FW .f32 d a3):Fl ak 244 #[.float .f32 r,.float .f32 s,.float .f32 d] .f32 (tg (jW .f32 a1 (eG .f32 a2 a3)) Eo):=λh=>by
 refine yz.call (fM hs hd λw1 h1=>fA hr h1 λw2 h2=>(A3 h2 ad8).go λh3 y x3 hy=>cW ?_)
 exact⟨⟨y,rfl,hy⟩,x3⟩
theorem akj{cs:Array Value}(hs:cs.size=2):(⟨eE 0 2 cs [.slice none 0 0,.int .i64 (0:Int)]⟩:Array Value)=cs:=by
 rw[an3 (n:=2) rfl]
theorem akh(S:SlR bQ h b l c rs)(hr:∀r ∈ rs,r.ae.length≤1048576)(hl:l≤1048576):
  af ak 208 #[.slice b l c] (λu h'=>∃b' c' B,u = .slice b' l c'∧SlO 109 bQ B b' l c' rs∧Mem h h' B) h:=by
 have hls:=S.len
 have hm:(1048577:Nat)≤maxLen:=by decide
 refine ac7.call ((Mem.start h).alc λg h1 x1 M=>?_)
 refine loop (λy hh=>∃(n:Nat) (b':Option Addr) (c':Nat) (B:List Blk),y=(b,l,c,b',n,c',(n:Int))∧n≤l∧SlO 109 bQ B b' n c' (rs.take n)∧Mem h hh B) (λy=>(l-y.2.2.2.2.2.2).toNat)
  ⟨0,_,_,_,rfl,by omega,SlO.empty g,M⟩ ?_
 rintro y hh ⟨n,b',c',B,rfl,hn,O,M⟩
 refine brd (λhc=>?_) λhc=>?_
 ·have hi:n<rs.length:=by omega
  refine(S.ext M.ext).idx pz (by omega) (by omega) λp Rp=>mN.go M (Un Rp (hr _ (by rw[Int.toNat_natCast,getElem!_pos _ n hi];exact List.getElem_mem _))) λh2 cs Bn M O2 s2=>gw (siz s2 ?_)
  rw[akj s2]
  have M:=M.cnt (W:=B++(Bn++[]))
  refine Oz xJ O M O2 (by omega) (by omega) λb2 c2 h3 B2 O3 M3=>lR ⟨⟨n+1,b2,c2,B2,by rw[ag (by omega)],by omega,?_,by simpa using M3⟩,by rw[ag (by omega)];show _<_;simp;omega⟩
  rw[vk hi];exact O3
 ·obtain rfl:n=l:=by omega
  rw[← hls,List.take_length] at O
  rw[← hls]
  exact⟨b',c',B,rfl,O,M⟩
theorem ajw(S:SlR bQ h b l c rs)(hr:∀r ∈ rs,r.ae.length≤1048576)(hl:l≤1048576):
  af ak 224 #[.slice b l c] (λu h'=>∃b' c' B,u = .slice b' l c'∧SlO 109 bQ B b' l c' rs∧Mem h h' B) h:=by
 have hls:=S.len
 have hm:(1048577:Nat)≤maxLen:=by decide
 refine abu.call ?_
 refine loop (λy hh=>∃(n:Nat) (b':Option Addr) (c':Nat) (B:List Blk),y=(b',n,c',b,l,c,(l:Int),(n:Int))∧n≤l∧SlO 109 bQ B b' n c' (rs.take n)∧Mem h hh B) (λy=>(l-y.2.2.2.2.2.2.2).toNat)
  ⟨0,_,_,_,rfl,by omega,SlO.nil,Mem.start h⟩ ?_
 rintro y hh ⟨n,b',c',B,rfl,hn,O,M⟩
 refine brd (λhc=>?_) λhc=>?_
 ·have hi:n<rs.length:=by omega
  refine(S.ext M.ext).idx pz (by omega) (by omega) λp Rp=>Rp.jc rfl λca Ra=>(Mem.start hh).alc λg5 h5 x5 N=>N.dH .here (rsz Ra rfl) (bQ.wj Ra) rfl .here λh6 N=>N.df .here (rsz Ra rfl) ?_
  have M:=M.join N
  have Ra:bQ.rd h6 ca.toList rs[n]!:=bQ.ext N.ext Ra
  refine mN.go M (Kr Ra (hr _ (by rw[getElem!_pos _ n hi];exact List.getElem_mem _))) λh2 cs Bn M O2 s2=>gw (siz s2 ?_)
  rw[akj s2]
  have M:=M.cnt (W:=B++(Bn++[]))
  refine Oz xJ O M O2 (by omega) (by omega) λb2 c2 h3 B2 O3 M3=>lR ⟨⟨n+1,b2,c2,B2,by rw[ag (by omega)],by omega,?_,by simpa using M3⟩,by rw[ag (by omega)];show _<_;simp;omega⟩
  rw[vk hi];exact O3
 ·obtain rfl:n=l:=by omega
  rw[← hls,List.take_length] at O
  rw[← hls]
  exact⟨b',c',B,rfl,O,M⟩
theorem Eh(S:SlR bQ h b l c rs)(hr:∀r ∈ rs,r.ok=true)(hl:l≤1048576):
  af ak 189 #[.slice b l c] (λu h'=>∃b' c' B,u = .slice b' l c'∧SlO 22 (rF .f32) B b' l c' (rs.map aY.old)∧Mem h h' B) h:=by
 have hls:=S.len
 have hm:(1048577:Nat)≤maxLen:=by decide
 refine ff.call ((Mem.start h).alc λg h1 x1 M=>?_)
 refine loop (λy hh=>∃(n:Nat) (b':Option Addr) (c':Nat) (B:List Blk),y=(b,l,c,b',n,c',(n:Int))∧n≤l∧SlO 22 (rF .f32) B b' n c' ((rs.take n).map aY.old)∧Mem h hh B) (λy=>(l-y.2.2.2.2.2.2).toNat)
  ⟨0,_,_,_,rfl,by omega,SlO.empty g,M⟩ ?_
 rintro y hh ⟨n,b',c',B,rfl,hn,O,M⟩
 refine brd (λhc=>?_) λhc=>?_
 ·have hi:n<rs.length:=by omega
  have zT:=hr rs[n]! (by rw[getElem!_pos _ n hi];exact List.getElem_mem _)
  obtain⟨k1,k2,k3,k4,k5⟩:=kO zT
  refine(S.ext M.ext).idx pz (by omega) (by omega) λp Rp=>Rp.oL1 λb3 l3 c3 S3=>(S.ext M.ext).idx pz (by omega) (by omega) λp2 Rp2=>Rp2.oI ?_
  have hl3:rs[n]!.ae.length=l3:=S3.len
  refine S3.idx (by decide) k1 (by show rs[n]!.At<(l3:Int);omega) λp4 Rp4=>Rp4.oF1 λy hy=>?_
  have hy:FW .f32 y rs[n]!.old:=hy
  refine Oz (Bn:=[]) (L:=[]) lD O (by simpa using M) ⟨rfl,y,rfl,hy⟩ (by omega) (by omega) λb2 c2 h3 B2 O3 M3=>lR ⟨⟨n+1,b2,c2,B2,by rw[ag (by omega)],by omega,?_,by simpa using M3⟩,by rw[ag (by omega)];show _<_;simp;omega⟩
  rw[vk hi,List.map_append];exact O3
 ·obtain rfl:n=l:=by omega
  rw[← hls,List.take_length] at O
  rw[← hls]
  exact⟨b',c',B,rfl,O,M⟩
end
section
variable {h:ab}{q:Addr}{x:cp}
theorem auq:FW .f32 3212836864 akf:=eM (by decide) (by decide)
theorem acS(x:cp):x.ok=(inR x.n 1 3&&decide (x.Left.length=x.n)&&decide (x.aL.length+1=x.n)&&x.aW.all aY.okf&&x.Left.all aY.okf&&((List.range x.n).all λi=>x.aW[i]!.ae.length==x.Left[i]!.ae.length) &&
  (x.aL.all λk=>inside k akf Eo)&&x.End.ok&&(x.End.Kind==1)&&fin x.fT&&fin x.Rest&&fin x.fX):=rfl
theorem atX(R:RdP dX h q x):af ak 206 #[.pointer (some q)] (λu h'=>u = .bool x.ok∧Ext h h') h:=by
 have E0:=Ext.refl h
 refine aaB.call (R.oL1 λb1 l1 c1 S1=>?_)
 have hl1:x.aW.length=l1:=S1.len
 have hn:x.n=l1:=hl1
 have k1:=S1.2.1
 have k2:=S1.2.2.1
 have k3:=cu
 refine brd (λhc=>⟨?_,E0⟩) λhc=>brd (λhc2=>⟨?_,E0⟩) λhc2=>R.oL λb4 l4 c4 S4=>?_
 ·rw[acS,show inR x.n 1 3=false by unfold inR;simp only[Bool.and_eq_false_iff,decide_eq_false_iff_not];omega];rfl
 ·rw[acS,show inR x.n 1 3=false by unfold inR;simp only[Bool.and_eq_false_iff,decide_eq_false_iff_not];omega];rfl
 have hl4:x.Left.length=l4:=S4.len
 have h1:inR x.n 1 3=true:=by unfold inR;simp only[Bool.and_eq_true,decide_eq_true_eq];omega
 refine br (λhb=>⟨?_,E0⟩) λhb=>?_
 ·have:decide (x.Left.length=x.n)=false:=by simp only[decide_eq_false_iff_not];simp at hb;omega
  rw[acS,this];simp
 have e4:l4=l1:=by simp at hb;omega
 have h2:decide (x.Left.length=x.n)=true:=by simp only[decide_eq_true_eq];omega
 refine R.oL λb7 l7 c7 S7=>?_
 have hl7:x.aL.length=l7:=S7.len
 rw[wrap64 (n:=(l1:Int)-1) (by omega) (by omega)]
 refine br (λhb=>⟨?_,E0⟩) λhb=>?_
 ·have:decide (x.aL.length+1=x.n)=false:=by simp only[decide_eq_false_iff_not];simp at hb;omega
  rw[acS,this];simp
 have e7:l7+1=l1:=by simp at hb;omega
 have h3:decide (x.aL.length+1=x.n)=true:=by simp only[decide_eq_true_eq];omega
 refine R.oL1 λb1 l1' c1 S1'=>goX (Qq S1') λha xa=>bt (br (λhb=>⟨?_,xa⟩) λhb=>?_)
 ·rw[acS,nt hb];simp
 have h4:=nf hb
 refine(R.ext xa).oL λb4 l4' c4 S4'=>goX (Qq S4') λhd xb=>bt (br (λhb=>⟨?_,xa.trans xb⟩) λhb=>?_)
 ·rw[acS,nt hb];simp
 have h5:=nf hb
 unfold aaB.J4
 have X:=xa.trans xb
 refine loop (λy hh=>∃n:Nat,y=(q,(l1:Int),(n:Int))∧n≤l1∧hh=hd∧∀i,i<n->(x.aW[i]!.ae.length==x.Left[i]!.ae.length)=true) (λy=>(l1-y.2.2).toNat) ⟨0,rfl,by omega,rfl,λi hi=>by omega⟩ ?_
 rintro y hh ⟨n,rfl,hn',rfl,hz⟩
 refine brd (λhc=>?_) λhc=>?_
 ·refine(R.ext X).oL1 λb l c S=>?_
  have hlS:=S.len
  refine S.idx pz (by omega) (by omega) λp Rp=>Rp.oL1 λb2 l2 c2 S2=>(R.ext X).oL λb3 l3 c3 S3=>?_
  have aCM:=S3.len
  refine S3.idx pz (by omega) (by omega) λp Rp=>Rp.oL1 λb5 l5 c5 S5=>?_
  have f2:x.aW[n]!.ae.length=l2:=S2.len
  have f5:x.Left[n]!.ae.length=l5:=S5.len
  refine br (λhb=>⟨?_,X⟩) λhb=>?_
  ·have:(x.aW[n]!.ae.length==x.Left[n]!.ae.length)=false:=by rw[f2,f5];simp at hb ⊢;omega
   rw[acS,all_false (f:=λi=>x.aW[i]!.ae.length==x.Left[i]!.ae.length) (i:=n) (by omega) this];simp
  ·refine⟨⟨n+1,by rw[ag (by omega)],by omega,rfl,λi hi=>?_⟩,by rw[ag (by omega)];show _<_;simp;omega⟩
   by_cases e:i=n
   ·subst e;rw[f2,f5];simp at hb ⊢;omega
   ·exact hz i (by omega)
 have h6:((List.range x.n).all λi=>x.aW[i]!.ae.length==x.Left[i]!.ae.length)=true:=all_true λi hi=>hz i (by omega)
 refine loop (λy hh'=>∃n:Nat,y=(q,(l1:Int),(n:Int))∧n≤l7∧hh'=hh∧∀i,i<n->inside x.aL[i]! akf Eo=true) (λy=>(l7-y.2.2).toNat) ⟨0,rfl,by omega,rfl,λi hi=>by omega⟩ ?_
 rintro y hh' ⟨n,rfl,aCR,rfl,HQ⟩
 rw[aaB.B10,wrap64 (n:=(l1:Int)-1) (by omega) (by omega)]
 have no:inside x.aL[n]! akf Eo=false->n<l7->(Value.bool false = .bool x.ok∧Ext h hh'):=λe qR=>⟨by
  rw[acS,lI (λk=>inside k akf Eo),all_false (f:=λi=>inside x.aL[i]! akf Eo) (i:=n) (by omega) e];simp,X⟩
 refine brd (λhc=>?_) λhc=>?_
 ·refine(R.ext X).oL λb l c S=>?_
  have hlS:=S.len
  refine S.idx (by decide) (by omega) (by omega) λp Rp=>Rp.oF1 λy hy=>?_
  rw[cw hy auq]
  refine br (λhb=>(R.ext X).oL λb2 l2 c2 S2=>?_) λhb=>no ?_ (by omega)
  ·have aCL:=S2.len
   refine S2.idx (by decide) (by omega) (by omega) λp2 Rp2=>Rp2.oF1 λz ZT=>?_
   rw[cw ZT ad8]
   have hb:fge .f32 x.aL[n]! akf=true:=hb
   refine br (λU9=>no ?_ (by omega)) λU9=>?_
   ·have U9:fle .f32 x.aL[n]! Eo=false:=nt U9
    unfold inside;rw[U9,Bool.and_false]
   ·have U9:fle .f32 x.aL[n]! Eo=true:=nf U9
    refine⟨⟨n+1,by rw[ag (by omega)],by omega,rfl,λi hi=>?_⟩,by rw[ag (by omega)];show _<_;simp;omega⟩
    by_cases e:i=n
    ·subst e;unfold inside;rw[hb,U9];rfl
    ·exact HQ i (by omega)
  ·have hb:fge .f32 x.aL[n]! akf=false:=hb
   unfold inside;rw[hb,Bool.false_and]
 have h7:(x.aL.all λk=>inside k akf Eo)=true:=by rw[lI (λk=>inside k akf Eo),all_true λi hi=>HQ i (by omega)]
 refine goX (Lt ((R.ext X).foc gK)) λhe xe=>bt (br (λhb=>?_) λhb=>⟨?_,X.trans xe⟩)
 ·have RE:=R.ext (X.trans xe)
  refine RE.oI (br (λhk=>?_) λhk=>⟨?_,X.trans xe⟩)
  ·refine RE.oF λy1 j1=>RE.oF λy2 j2=>RE.oF λy3 j3=>?_
   refine H0 (r:=rF .f32) (n:=3) (xs:=[x.fT,x.Rest,x.fX]) ⟨rfl,[_],_,rfl,⟨_,rfl,j1⟩,[_],_,rfl,⟨_,rfl,j2⟩,[_],_,rfl,⟨_,rfl,j3⟩,rfl⟩ (by decide) λg' h4' x4 S=>?_
   refine goX (Ny S) λh5' x5=>bt ⟨?_,((X.trans xe).trans x4).trans x5⟩
   have hk:(x.End.Kind==1)=true:=hk
   rw[acS,h1,h2,h3,h4,h5,h6,h7,hb,hk];simp[pW,Bool.and_assoc]
  ·have hk:(x.End.Kind==1)=false:=hk
   rw[acS,hk];simp
 ·rw[acS,hb];simp
end
section
variable {h:ab}{q:Addr}{x:cp}
theorem an1:an6 ak (.func (.func 222) #[] #[]) λk=>!inside k akf Eo:=λx a h hx=>by
 show af ak 222 #[.float .f32 x] _ h
 exact adB.call ((jO hx auq ad8).go λh2 x2=>bt ⟨rfl,x2⟩)
theorem alJ{cs:Array Value}(R0:dX.rd h cs.toList x):af ak 146 #[.agg cs] (λu h'=>u = .bool x.ok∧Ext h h') h:=by
 refine aaq.call (gD R0 λg h1 x1 R=>R.oL2 λb1 l1 c1 S1=>goX (js _ _ _ _) λh2 x2=>bt ?_)
 have hl1:x.aW.length=l1:=S1.len
 have hn:x.n=l1:=hl1
 have k1:=S1.2.1
 have k2:=S1.2.2.1
 have k3:=cu
 have X2:=x1.trans x2
 refine br (λhb=>⟨?_,X2⟩) λhb=>?_
 ·rw[acS,hn,nt hb];rfl
 have h1':inR x.n 1 3=true:=by rw[hn];exact nf hb
 have hr:1≤l1∧l1≤3:=by rw[hn] at h1';unfold inR at h1';simp at h1';omega
 refine(R.ext x2).oL2 λb4 l4 c4 S4=>?_
 have hl4:x.Left.length=l4:=S4.len
 refine br (λhb=>⟨?_,X2⟩) λhb=>?_
 ·have:decide (x.Left.length=x.n)=false:=by simp only[decide_eq_false_iff_not];simp at hb;omega
  rw[acS,this];simp
 have e4:l4=l1:=by simp at hb;omega
 have h2':decide (x.Left.length=x.n)=true:=by simp only[decide_eq_true_eq];omega
 refine(R.ext x2).oL2 λb7 l7 c7 S7=>?_
 have hl7:x.aL.length=l7:=S7.len
 rw[wrap64 (n:=(l1:Int)-1) (by omega) (by omega)]
 refine br (λhb=>⟨?_,X2⟩) λhb=>?_
 ·have:decide (x.aL.length+1=x.n)=false:=by simp only[decide_eq_false_iff_not];simp at hb;omega
  rw[acS,this];simp
 have h3':decide (x.aL.length+1=x.n)=true:=by simp at hb;simp only[decide_eq_true_eq];omega
 refine(R.ext x2).jH gK rfl λcf Rf=>goX (Gm Rf _) λh5 x5=>bt (br (λhb=>⟨?_,X2.trans x5⟩) λhb=>?_)
 ·have:(x.End.ok&&x.End.Kind==1)=false:=nt hb
  rw[acS,Bool.and_assoc _ x.End.ok,this];simp
 have hE:(x.End.ok&&x.End.Kind==1)=true:=nf hb
 have RE:=R.ext (x2.trans x5)
 refine RE.oF2 λy1 j1=>RE.oF2 λy2 j2=>RE.oF2 λy3 j3=>?_
 refine H0 (r:=rF .f32) (n:=3) (xs:=[x.fT,x.Rest,x.fX]) ⟨rfl,[_],_,rfl,⟨_,rfl,j1⟩,[_],_,rfl,⟨_,rfl,j2⟩,[_],_,rfl,⟨_,rfl,j3⟩,rfl⟩ (by decide) λg' h4' x4 S=>?_
 have X4:=(X2.trans x5).trans x4
 refine goX (ahH S) λh6 x6=>bt (br (λhb=>⟨?_,X4.trans x6⟩) λhb=>?_)
 ·have:(fin x.fT&&fin x.Rest&&fin x.fX)=false:=by have:=nt hb;simpa [pW,Bool.and_assoc] using this
  rw[acS,Bool.and_assoc _ (fin x.Rest),Bool.and_assoc _ (fin x.fT),← Bool.and_assoc (fin x.fT),this];simp
 have hF:(fin x.fT&&fin x.Rest&&fin x.fX)=true:=by have:=nf hb;simpa [pW,Bool.and_assoc] using this
 unfold aaq.J4
 have X6:=X4.trans x6
 have RJ:=R.ext (((x2.trans x5).trans x4).trans x6)
 refine RJ.oL2 λb1' l1' c1' S1'=>?_
 have aCH:=S1'.len
 refine loop (λy hh=>∃n:Nat,y=(⟨g,0,none⟩,b1',l1',c1',(l1':Int),(n:Int))∧n≤l1'∧Ext h6 hh∧∀i,i<n->(x.aW[i]!.okf&&(x.Left[i]!.okf&&(x.aW[i]!.ae.length==x.Left[i]!.ae.length)))=true) (λy=>(l1'-y.2.2.2.2.2).toNat) ⟨0,rfl,by omega,Ext.refl _,λi hi=>by omega⟩ ?_
 rintro y hh ⟨n,rfl,hn',X,hz⟩
 refine brd (λhc=>?_) λhc=>?_
 ·have no:∀{h'},Ext h6 h'->(x.aW[n]!.okf&&(x.Left[n]!.okf&&(x.aW[n]!.ae.length==x.Left[n]!.ae.length)))=false->(Value.bool false = .bool x.ok∧Ext h h'):=λX e=>⟨by
   rw[acS]
   rcases Bool.and_eq_false_iff.1 e with e | e
   ·rw[lI aY.okf x.aW,all_false (f:=λi=>x.aW[i]!.okf) (i:=n) (by omega) e];simp
   ·rcases Bool.and_eq_false_iff.1 e with e | e
    ·rw[lI aY.okf x.Left,all_false (f:=λi=>x.Left[i]!.okf) (i:=n) (by omega) e];simp
    ·rw[all_false (f:=λi=>x.aW[i]!.ae.length==x.Left[i]!.ae.length) (i:=n) (by omega) e];simp,X6.trans X⟩
  refine(S1'.ext X).idx pz (by omega) (by omega) λp Rp=>Rp.jc rfl λca Ra=>(Mem.start hh).alc λg5 h7 x7 N=>N.dH .here (rsz Ra rfl) (bQ.wj Ra) rfl .here λh8 N=>N.df .here (rsz Ra rfl) ?_
  have Ra:bQ.rd h8 ca.toList x.aW[n]!:=bQ.ext N.ext Ra
  have Pa:RdP bQ h8 ⟨g5,0,none⟩ x.aW[n]!:=N.rdp .here Ra
  have X8:=X.trans N.ext
  refine goX (ajV Ra) λh9 x9=>bt (br (λhb=>no (X8.trans x9) ?_) λhb=>?_)
  ·rw[nt hb];rfl
  have o1:=nf hb
  refine(RJ.ext (X8.trans x9)).oL λb3 l3 c3 S3=>?_
  have hl3:=S3.len
  refine S3.idx pz (by omega) (by omega) λp3 Rp3=>Rp3.jc rfl λcb Rb=>goX (ajV Rb) λha xa=>bt (br (λhb=>no ((X8.trans x9).trans xa) ?_) λhb=>?_)
  ·have hb:x.Left[n]!.okf=false:=nt hb
   rw[o1,hb];rfl
  have o2:x.Left[n]!.okf=true:=nf hb
  refine(Pa.ext (x9.trans xa)).oL2 λb5 l5 c5 S5=>(RJ.ext ((X8.trans x9).trans xa)).oL λb6 l6 c6 S6=>?_
  have hl6:=S6.len
  refine S6.idx pz (by omega) (by omega) λp6 Rp6=>Rp6.oL1 λb8 l8 c8 S8=>?_
  have f5:x.aW[n]!.ae.length=l5:=S5.len
  have f8:x.Left[n]!.ae.length=l8:=S8.len
  refine br (λhb=>no ((X8.trans x9).trans xa) ?_) λhb=>?_
  ·have hb':(l5:Int)≠(l8:Int):=by simpa using hb
   have:(l5==l8)=false:=by rw[beq_eq_false_iff_ne];omega
   rw[o1,o2,f5,f8,this];rfl
  ·have hb':(l5:Int)=(l8:Int):=by simpa using hb
   refine⟨⟨n+1,by rw[ag (by omega)],by omega,(X8.trans x9).trans xa,λi hi=>?_⟩,by rw[ag (by omega)];show _<_;simp;omega⟩
   by_cases e:i=n
   ·subst e
    have:(l5==l8)=true:=by rw[beq_iff_eq];omega
    rw[o1,o2,f5,f8,this];rfl
   ·exact hz i (by omega)
 have hz':∀i,i<x.n->x.aW[i]!.okf=true∧x.Left[i]!.okf=true∧(x.aW[i]!.ae.length==x.Left[i]!.ae.length)=true:=λi hi=>by
  have:=hz i (by omega)
  rw[Bool.and_eq_true,Bool.and_eq_true] at this
  exact this
 have h4:x.aW.all aY.okf=true:=by rw[lI aY.okf x.aW];exact all_true λi hi=>(hz' i hi).1
 have h5':x.Left.all aY.okf=true:=by rw[lI aY.okf x.Left];exact all_true λi hi=>(hz' i (by omega)).2.1
 have h6':((List.range x.n).all λi=>x.aW[i]!.ae.length==x.Left[i]!.ae.length)=true:=all_true λi hi=>(hz' i hi).2.2
 refine(RJ.ext X).oL λb9 l9 c9 S9=>goX (afe S9 an1) λhf xf=>bt ⟨?_,(X6.trans X).trans xf⟩
 rw[ana,acS,h1',h2',h3',h4,h5',h6',Bool.and_assoc _ x.End.ok,hE,Bool.and_assoc _ (fin x.Rest),Bool.and_assoc _ (fin x.fT),← Bool.and_assoc (fin x.fT),hF];simp
end
end Go.Sx
