/- Lemmas. -/
import Derived.Test.YthgnpepchedpbaaGreatDoorLk4
import Derived.Test.YthgnpepchedpbaaGreatDoorLk29
import Derived.Test.YthgnpepchedpbaaGreatDoorK3
import Derived.Test.YthgnpepchedpbaaGreatDoorLr3
import Derived.Test.YthgnpepchedpbaaGreatDoorTab
set_option linter.unusedVariables false
set_option linter.unusedSimpArgs false
namespace Go.Sx
open Go.Proofs
set_option maxRecDepth 100000
set_option maxHeartbeats 1000000
section
variable {h:ab}{b:Option Addr}{l c:Nat}{rs:List aY}
theorem ad8:FW .f32 1065353216 Eo:=eM (by decide) (by decide)
theorem Us{r s d a1 a2 a3:Nat}(hr:FW .f32 r a1)(hs:FW .f32 s a2)(hd:FW .f32 d a3):Fl ak 190 #[.float .f32 r,.float .f32 s,.float .f32 d] .f32 (tg (jW .f32 a1 (eG .f32 a2 a3)) Eo):=λh=>by
 refine wC.call (fM hs hd λw1 h1=>fA hr h1 λw2 h2=>(Gn h2 ad8).go λh3 y x3 hy=>cW ?_)
 exact⟨⟨y,rfl,hy⟩,x3⟩
theorem W8{r s d a1 a2 a3:Nat}(hr:FW .f32 r a1)(hs:FW .f32 s a2)(hd:FW .f32 d a3):Fl ak 244 #[.float .f32 r,.float .f32 s,.float .f32 d] .f32 (tg (jW .f32 a1 (eG .f32 a2 a3)) Eo):=λh=>by
 refine yz.call (fM hs hd λw1 h1=>fA hr h1 λw2 h2=>(A3 h2 ad8).go λh3 y x3 hy=>cW ?_)
 exact⟨⟨y,rfl,hy⟩,x3⟩
theorem akj{cs:Array Value}(hs:cs.size=2):(⟨eE 0 2 cs [.slice none 0 0,.int .i64 (0:Int)]⟩:Array Value)=cs:=by
 rw[an3 (n:=2) rfl]
theorem akh(S:SlR bQ h b l c rs)(hr:∀r ∈ rs,r.ae.length≤1048576)(hl:l≤1048576):
  af ak 208 #[.slice b l c] (λu h'=>∃b' c' B,u = .slice b' l c'∧SlO 109 bQ B b' l c' rs∧Mem h h' B) h:=by
 have hls:=S.len
 have hm:(1048577:Nat)≤maxLen:=by decide
 refine ac7.call ((Mem.start h).alc λg h1 x1 M=>?_)
 refine loop (λy hh=>∃(n:Nat) (b':Option Addr) (c':Nat) (B:List Blk),y=(b,l,c,b',n,c',(n:Int))∧n≤l∧SlO 109 bQ B b' n c' (rs.take n)∧Mem h hh B) (λy=>(l-y.2.2.2.2.2.2).toNat)
  ⟨0,_,_,_,rfl,by omega,SlO.empty g,M⟩ ?_
 rintro y hh ⟨n,b',c',B,rfl,hn,O,M⟩
 refine brd (λhc=>?_) λhc=>?_
 ·have hi:n<rs.length:=by omega
  refine(S.ext M.ext).idx pz (by omega) (by omega) λp Rp=>mN.go M (Un Rp (hr _ (by rw[Int.toNat_natCast,getElem!_pos _ n hi];exact List.getElem_mem _))) λh2 cs Bn M O2 s2=>gw (siz s2 ?_)
  rw[akj s2]
  have M:=M.cnt (W:=B++(Bn++[]))
  refine Oz xJ O M O2 (by omega) (by omega) λb2 c2 h3 B2 O3 M3=>lR ⟨⟨n+1,b2,c2,B2,by rw[ag (by omega)],by omega,?_,by simpa using M3⟩,by rw[ag (by omega)];show _<_;simp;omega⟩
  rw[vk hi];exact O3
 ·obtain rfl:n=l:=by omega
  rw[← hls,List.take_length] at O
  rw[← hls]
  exact⟨b',c',B,rfl,O,M⟩
theorem Eh(S:SlR bQ h b l c rs)(hr:∀r ∈ rs,r.ok=true)(hl:l≤1048576):
  af ak 189 #[.slice b l c] (λu h'=>∃b' c' B,u = .slice b' l c'∧SlO 22 (rF .f32) B b' l c' (rs.map aY.old)∧Mem h h' B) h:=by
 have hls:=S.len
 have hm:(1048577:Nat)≤maxLen:=by decide
 refine ff.call ((Mem.start h).alc λg h1 x1 M=>?_)
 refine loop (λy hh=>∃(n:Nat) (b':Option Addr) (c':Nat) (B:List Blk),y=(b,l,c,b',n,c',(n:Int))∧n≤l∧SlO 22 (rF .f32) B b' n c' ((rs.take n).map aY.old)∧Mem h hh B) (λy=>(l-y.2.2.2.2.2.2).toNat)
  ⟨0,_,_,_,rfl,by omega,SlO.empty g,M⟩ ?_
 rintro y hh ⟨n,b',c',B,rfl,hn,O,M⟩
 refine brd (λhc=>?_) λhc=>?_
 ·have hi:n<rs.length:=by omega
  have zT:=hr rs[n]! (by rw[getElem!_pos _ n hi];exact List.getElem_mem _)
  obtain⟨k1,k2,k3,k4,k5⟩:=kO zT
  refine(S.ext M.ext).idx pz (by omega) (by omega) λp Rp=>Rp.oL1 λb3 l3 c3 S3=>(S.ext M.ext).idx pz (by omega) (by omega) λp2 Rp2=>Rp2.oI ?_
  have hl3:rs[n]!.ae.length=l3:=S3.len
  refine S3.idx (by decide) k1 (by show rs[n]!.At<(l3:Int);omega) λp4 Rp4=>Rp4.oF1 λy hy=>?_
  have hy:FW .f32 y rs[n]!.old:=hy
  refine Oz (Bn:=[]) (L:=[]) lD O (by simpa using M) ⟨rfl,y,rfl,hy⟩ (by omega) (by omega) λb2 c2 h3 B2 O3 M3=>lR ⟨⟨n+1,b2,c2,B2,by rw[ag (by omega)],by omega,?_,by simpa using M3⟩,by rw[ag (by omega)];show _<_;simp;omega⟩
  rw[vk hi,List.map_append];exact O3
 ·obtain rfl:n=l:=by omega
  rw[← hls,List.take_length] at O
  rw[← hls]
  exact⟨b',c',B,rfl,O,M⟩
end
section
variable {h:ab}{q:Addr}{x:cp}
theorem auq:FW .f32 3212836864 akf:=eM (by decide) (by decide)
theorem acS(x:cp):x.ok=(inR x.n 1 3&&decide (x.Left.length=x.n)&&decide (x.aL.length+1=x.n)&&x.aW.all aY.okf&&x.Left.all aY.okf&&((List.range x.n).all λi=>x.aW[i]!.ae.length==x.Left[i]!.ae.length) &&
  (x.aL.all λk=>inside k akf Eo)&&x.End.ok&&(x.End.Kind==1)&&fin x.fT&&fin x.Rest&&fin x.fX):=rfl
theorem atX(R:RdP dX h q x):af ak 206 #[.pointer (some q)] (λu h'=>u = .bool x.ok∧Ext h h') h:=by
 have E0:=Ext.refl h
 refine aaB.call (R.oL1 λb1 l1 c1 S1=>?_)
 have hl1:x.aW.length=l1:=S1.len
 have hn:x.n=l1:=hl1
 have k1:=S1.2.1
 have k2:=S1.2.2.1
 have k3:=cu
 refine brd (λhc=>⟨?_,E0⟩) λhc=>brd (λhc2=>⟨?_,E0⟩) λhc2=>R.oL λb4 l4 c4 S4=>?_
 ·rw[acS,show inR x.n 1 3=false by unfold inR;simp only[Bool.and_eq_false_iff,decide_eq_false_iff_not];omega];rfl
 ·rw[acS,show inR x.n 1 3=false by unfold inR;simp only[Bool.and_eq_false_iff,decide_eq_false_iff_not];omega];rfl
 have hl4:x.Left.length=l4:=S4.len
 have h1:inR x.n 1 3=true:=by unfold inR;simp only[Bool.and_eq_true,decide_eq_true_eq];omega
 refine br (λhb=>⟨?_,E0⟩) λhb=>?_
 ·have:decide (x.Left.length=x.n)=false:=by simp only[decide_eq_false_iff_not];simp at hb;omega
  rw[acS,this];simp
 have e4:l4=l1:=by simp at hb;omega
 have h2:decide (x.Left.length=x.n)=true:=by simp only[decide_eq_true_eq];omega
 refine R.oL λb7 l7 c7 S7=>?_
 have hl7:x.aL.length=l7:=S7.len
 rw[wrap64 (n:=(l1:Int)-1) (by omega) (by omega)]
 refine br (λhb=>⟨?_,E0⟩) λhb=>?_
 ·have:decide (x.aL.length+1=x.n)=false:=by simp only[decide_eq_false_iff_not];simp at hb;omega
  rw[acS,this];simp
 have e7:l7+1=l1:=by simp at hb;omega
 have h3:decide (x.aL.length+1=x.n)=true:=by simp only[decide_eq_true_eq];omega
 refine R.oL1 λb1 l1' c1 S1'=>goX (Qq S1') λha xa=>bt (br (λhb=>⟨?_,xa⟩) λhb=>?_)
 ·rw[acS,nt hb];simp
 have h4:=nf hb
 refine(R.ext xa).oL λb4 l4' c4 S4'=>goX (Qq S4') λhd xb=>bt (br (λhb=>⟨?_,xa.trans xb⟩) λhb=>?_)
 ·rw[acS,nt hb];simp
 have h5:=nf hb
 unfold aaB.J4
 have X:=xa.trans xb
 refine loop (λy hh=>∃n:Nat,y=(q,(l1:Int),(n:Int))∧n≤l1∧hh=hd∧∀i,i<n->(x.aW[i]!.ae.length==x.Left[i]!.ae.length)=true) (λy=>(l1-y.2.2).toNat) ⟨0,rfl,by omega,rfl,λi hi=>by omega⟩ ?_
 rintro y hh ⟨n,rfl,hn',rfl,hz⟩
 refine brd (λhc=>?_) λhc=>?_
 ·refine(R.ext X).oL1 λb l c S=>?_
  have hlS:=S.len
  refine S.idx pz (by omega) (by omega) λp Rp=>Rp.oL1 λb2 l2 c2 S2=>(R.ext X).oL λb3 l3 c3 S3=>?_
  have aCM:=S3.len
  refine S3.idx pz (by omega) (by omega) λp Rp=>Rp.oL1 λb5 l5 c5 S5=>?_
  have f2:x.aW[n]!.ae.length=l2:=S2.len
  have f5:x.Left[n]!.ae.length=l5:=S5.len
  refine br (λhb=>⟨?_,X⟩) λhb=>?_
  ·have:(x.aW[n]!.ae.length==x.Left[n]!.ae.length)=false:=by rw[f2,f5];simp at hb ⊢;omega
   rw[acS,all_false (f:=λi=>x.aW[i]!.ae.length==x.Left[i]!.ae.length) (i:=n) (by omega) this];simp
  ·refine⟨⟨n+1,by rw[ag (by omega)],by omega,rfl,λi hi=>?_⟩,by rw[ag (by omega)];show _<_;simp;omega⟩
   by_cases e:i=n
   ·subst e;rw[f2,f5];simp at hb ⊢;omega
   ·exact hz i (by omega)
 have h6:((List.range x.n).all λi=>x.aW[i]!.ae.length==x.Left[i]!.ae.length)=true:=all_true λi hi=>hz i (by omega)
 refine loop (λy hh'=>∃n:Nat,y=(q,(l1:Int),(n:Int))∧n≤l7∧hh'=hh∧∀i,i<n->inside x.aL[i]! akf Eo=true) (λy=>(l7-y.2.2).toNat) ⟨0,rfl,by omega,rfl,λi hi=>by omega⟩ ?_
 rintro y hh' ⟨n,rfl,aCR,rfl,HQ⟩
 rw[aaB.B10,wrap64 (n:=(l1:Int)-1) (by omega) (by omega)]
 have no:inside x.aL[n]! akf Eo=false->n<l7->(Value.bool false = .bool x.ok∧Ext h hh'):=λe qR=>⟨by
  rw[acS,lI (λk=>inside k akf Eo),all_false (f:=λi=>inside x.aL[i]! akf Eo) (i:=n) (by omega) e];simp,X⟩
 refine brd (λhc=>?_) λhc=>?_
 ·refine(R.ext X).oL λb l c S=>?_
  have hlS:=S.len
  refine S.idx (by decide) (by omega) (by omega) λp Rp=>Rp.oF1 λy hy=>?_
  rw[cw hy auq]
  refine br (λhb=>(R.ext X).oL λb2 l2 c2 S2=>?_) λhb=>no ?_ (by omega)
  ·have aCL:=S2.len
   refine S2.idx (by decide) (by omega) (by omega) λp2 Rp2=>Rp2.oF1 λz ZT=>?_
   rw[cw ZT ad8]
   have hb:fge .f32 x.aL[n]! akf=true:=hb
   refine br (λU9=>no ?_ (by omega)) λU9=>?_
   ·have U9:fle .f32 x.aL[n]! Eo=false:=nt U9
    unfold inside;rw[U9,Bool.and_false]
   ·have U9:fle .f32 x.aL[n]! Eo=true:=nf U9
    refine⟨⟨n+1,by rw[ag (by omega)],by omega,rfl,λi hi=>?_⟩,by rw[ag (by omega)];show _<_;simp;omega⟩
    by_cases e:i=n
    ·subst e;unfold inside;rw[hb,U9];rfl
    ·exact HQ i (by omega)
  ·have hb:fge .f32 x.aL[n]! akf=false:=hb
   unfold inside;rw[hb,Bool.false_and]
 have h7:(x.aL.all λk=>inside k akf Eo)=true:=by rw[lI (λk=>inside k akf Eo),all_true λi hi=>HQ i (by omega)]
 refine goX (Lt ((R.ext X).foc gK)) λhe xe=>bt (br (λhb=>?_) λhb=>⟨?_,X.trans xe⟩)
 ·have RE:=R.ext (X.trans xe)
  refine RE.oI (br (λhk=>?_) λhk=>⟨?_,X.trans xe⟩)
  ·refine RE.oF λy1 j1=>RE.oF λy2 j2=>RE.oF λy3 j3=>?_
   refine H0 (r:=rF .f32) (n:=3) (xs:=[x.fT,x.Rest,x.fX]) ⟨rfl,[_],_,rfl,⟨_,rfl,j1⟩,[_],_,rfl,⟨_,rfl,j2⟩,[_],_,rfl,⟨_,rfl,j3⟩,rfl⟩ (by decide) λg' h4' x4 S=>?_
   refine goX (Ny S) λh5' x5=>bt ⟨?_,((X.trans xe).trans x4).trans x5⟩
   have hk:(x.End.Kind==1)=true:=hk
   rw[acS,h1,h2,h3,h4,h5,h6,h7,hb,hk];simp[pW,Bool.and_assoc]
  ·have hk:(x.End.Kind==1)=false:=hk
   rw[acS,hk];simp
 ·rw[acS,hb];simp
end
def ud.S(n_0:Int)(aa:VH)(h:ab):=af ak 46 #[.int .i64 n_0,.int .i64 1,.int .i64 6] (λa b=> asB a λc=> aa (.bool c) b) h
theorem ud.call{n_0 aa h}(H:ud.S n_0 aa h):af ak 68 #[.int .i64 n_0] aa h:=qk Tryz.func68 H
def nq.S(v_0:Array Value)(aa:VH)(h:ab):=ALC v_0 122 (λb a=> oI .i64 (cell a ⟨b,0,none⟩) λc=> aa (.bool (c==(-1))) a) h
theorem nq.call{v_0 aa h}(H:nq.S v_0 aa h):af ak 97 #[.agg v_0] aa h:=qk Tryz.func97 H
def oG.S(x_0:Array Value)(aa:VH)(h:ab):=ALC x_0 115 (λa d=> LDA 2 d ⟨a,0,none⟩ λe=> af ak 217 #[.agg e] (λf b=> asB f λg=> BIF g (LDA 6 b ⟨a,2,none⟩ λi=> af ak 218 #[.agg i,.int .i64 3] (λj c=> asB j λEF=> BIF EF (LDA 6 c ⟨a,8,none⟩ λzi=> af ak 218 #[.agg zi,.int .i64 2] (λyQ hP=> asB yQ λMH=> BIF MH (oF .f32 (cell hP ⟨a,14,none⟩) λrM=> af ak 144 #[.float .f32 rM] (λLV qQ=> asB LV λWr=> aa (.bool Wr) qQ) hP) (aa (.bool false) hP)) c) (aa (.bool false) c)) b) (aa (.bool false) b)) d) h
theorem oG.call{x_0 aa h}(H:oG.S x_0 aa h):af ak 145 #[.agg x_0] aa h:=qk Tryz.func145 H
def abt.B3(aa:VH)(a:(Addr×Int×Int×Int)->ab->Prop):Addr×Int×Int×Int->ab->Prop |(s_0,ahm,n_5,i_6),h=> oL (cell h (s_0.add 5)) λJN xv QA=> BIF ((decide (i_6<(xv:Int)))) (oL (cell h (s_0.add 5)) λVN UG ZU=> bd VN i_6 UG λb=> oI .i64 (cell h ((Addr.add b (i_6.toNat*6)))) λc=> BIF (decide (c<ahm)) (a (s_0,ahm,((IntKind.i64.wrap (n_5+1))),((IntKind.i64.wrap (i_6+1)))) h) (a (s_0,ahm,n_5,((IntKind.i64.wrap (i_6+1)))) h)) (aa (.int .i64 n_5) h)
def abt.g3(fr:Frame):Addr×Int×Int×Int:=((gP (ah fr 0)),(gI (ah fr 1)),(gI (ah fr 5)),(gI (ah fr 6)))
def abt.l3(aa:VH):=gg (kds 29 [(0,.p),(1,.i .i64),(5,.i .i64),(6,.i .i64)]) λfr=>bk (abt.B3 aa) (abt.g3 fr)
def abt.S(s_0:Addr)(ahm:Int)(aa:VH)(h:ab):=bk (abt.B3 aa) (s_0,ahm,0,0) h
theorem abt.call{s_0 ahm aa h}(H:abt.S s_0 ahm aa h):af ak 131 #[.pointer (some s_0),.int .i64 ahm] aa h:=qc (Λ:=aS [(1000003,abt.l3 aa)]) Tryz.func131 (qs qf (qs qf (qs (qs qf (Rq.block (ql (abt.l3 aa) (qg (g:=abt.g3) (Λ:=λa=>aS []) (λ_ _ _=>by kernel_rfl) (λa=>qf))))) qf))) (qe H)
def aek.S(x_0:Addr)(aa:VH)(h:ab):=oL (cell h x_0) λJN xv QA=> BIF ((xv:Int)==0) (oI .i64 (cell h (x_0.add 1)) λb=> BIF (b==0) (ALC (⟨[.int .i64 0,.float .f32 0,.float .f32 0,.float .f32 0,.float .f32 0,.float .f32 0]⟩:Array Value) 113 (λc d=> af ak 265 #[.pointer (some (x_0.add 2)),.pointer (some ⟨c,0,none⟩)] (λe a=> asB e λf=> BIF f (ALC (⟨[.int .i64 0,.float .f32 0,.float .f32 0,.float .f32 0,.float .f32 0,.float .f32 0]⟩:Array Value) 113 (λg me=> af ak 265 #[.pointer (some (x_0.add 8)),.pointer (some ⟨g,0,none⟩)] (λyQ hP=> asB yQ λMH=> BIF MH (oF .f32 (cell hP (x_0.add 14)) λrM=> af ak 155 #[.float .f32 rM,.float .f32 0] (λLV qQ=> asB LV λWr=> aa (.bool Wr) qQ) hP) (aa (.bool false) hP)) me) a) (aa (.bool false) a)) d) h) (aa (.bool false) h)) (aa (.bool false) h)
theorem aek.call{x_0 aa h}(H:aek.S x_0 aa h):af ak 201 #[.pointer (some x_0)] aa h:=qk Tryz.func201 H
def agr.S(x_0:Addr)(aa:VH)(h:ab):=oL (cell h x_0) λJN xv QA=> BIF ((xv:Int)==0) (oL (cell h (x_0.add 1)) λVN UG ZU=> BIF ((UG:Int)==0) (oL (cell h (x_0.add 2)) λHS Gr IJ=> BIF ((Gr:Int)==0) (ALC (⟨[.int .i64 0,.float .f32 0,.float .f32 0,.float .f32 0,.float .f32 0,.float .f32 0]⟩:Array Value) 113 (λa me=> af ak 265 #[.pointer (some (x_0.add 3)),.pointer (some ⟨a,0,none⟩)] (λyQ hP=> asB yQ λMH=> BIF MH (oB (cell hP (x_0.add 9)) λEG=> BIF (!EG) (oF .f32 (cell hP (x_0.add 10)) λEr=> af ak 155 #[.float .f32 Er,.float .f32 0] (λDJ jF=> asB DJ λMI=> BIF MI (oF .f32 (cell jF (x_0.add 11)) λIW=> af ak 155 #[.float .f32 IW,.float .f32 0] (λHV uD=> asB HV λb=> BIF b (oF .f32 (cell uD (x_0.add 12)) λHW=> af ak 155 #[.float .f32 HW,.float .f32 0] (λRB vD=> asB RB λc=> aa (.bool c) vD) uD) (aa (.bool false) uD)) jF) (aa (.bool false) jF)) hP) (aa (.bool false) hP)) (aa (.bool false) hP)) me) h) (aa (.bool false) h)) (aa (.bool false) h)) (aa (.bool false) h)
theorem agr.call{x_0 aa h}(H:agr.S x_0 aa h):af ak 202 #[.pointer (some x_0)] aa h:=qk Tryz.func202 H
def ahh.S(x_0:Addr)(aa:VH)(h:ab):=oL (cell h x_0) λJN xv QA=> BIF ((xv:Int)==0) (oI .i64 (cell h (x_0.add 1)) λa=> BIF (a==0) (oL (cell h (x_0.add 2)) λII HR PA=> BIF ((HR:Int)==0) (oI .i64 (cell h (x_0.add 3)) λb=> BIF (b==0) (ALC (⟨[.int .i64 0,.float .f32 0,.float .f32 0,.float .f32 0,.float .f32 0,.float .f32 0]⟩:Array Value) 113 (λc gv=> af ak 265 #[.pointer (some (x_0.add 4)),.pointer (some ⟨c,0,none⟩)] (λzX jl=> asB zX λPV=> BIF PV (oF .f32 (cell jl (x_0.add 10)) λDK=> af ak 155 #[.float .f32 DK,.float .f32 0] (λIV kT=> asB IV λd=> BIF d (oF .f32 (cell kT (x_0.add 11)) λvn=> af ak 155 #[.float .f32 vn,.float .f32 0] (λGY jU=> asB GY λe=> aa (.bool e) jU) kT) (aa (.bool false) kT)) jl) (aa (.bool false) jl)) gv) h) (aa (.bool false) h)) (aa (.bool false) h)) (aa (.bool false) h)) (aa (.bool false) h)
theorem ahh.call{x_0 aa h}(H:ahh.S x_0 aa h):af ak 203 #[.pointer (some x_0)] aa h:=qk Tryz.func203 H
def aan.J5(b:(Addr×Int×Addr×Int)->ab->Prop)(aa:VH)(s_0:Addr)(yM:Int)(a:Addr)(i_6:Int)(c:Bool)(h:ab):=BIF c (oL (cell h (s_0.add 5)) λEV Dv IH=> bd EV i_6 Dv λd=> LDA 6 h ((Addr.add d (i_6.toNat*6))) λPL=> STA 6 h a PL λqQ=> LDA 6 qQ a λe=> aa (.tuple ⟨[.agg e,.bool true]⟩) qQ) (b (s_0,yM,a,((IntKind.i64.wrap (i_6+1)))) h)
def aan.j5(a:(Addr×Int×Addr×Int)->ab->Prop)(aa:VH):=gg (kds 45 [(0,.p),(1,.i .i64),(4,.p),(6,.i .i64),(36,.b)]) λfr=>aan.J5 a aa (gP (ah fr 0)) (gI (ah fr 1)) (gP (ah fr 4)) (gI (ah fr 6)) (gB (ah fr 36))
def aan.B2(aa:VH)(a:(Addr×Int×Addr×Int)->ab->Prop):Addr×Int×Addr×Int->ab->Prop |(s_0,yM,t4,i_6),h=> oL (cell h (s_0.add 5)) λNH NI Pz=> BIF ((decide (i_6<(NI:Int)))) (oL (cell h (s_0.add 5)) λUH UI i=> bd UH i_6 UI λb=> oI .i64 (cell h ((Addr.add ((Addr.add b (i_6.toNat*6))) 1))) λc=> BIF (c==2) (oL (cell h (s_0.add 5)) λd e j=> bd d i_6 e λf=> oI .i64 (cell h ((Addr.add ((Addr.add f (i_6.toNat*6))) 2))) λg=> aan.J5 a aa s_0 yM t4 i_6 (g==yM) h) (aan.J5 a aa s_0 yM t4 i_6 false h)) (STA 6 h t4 ⟨[.int .i64 0,.int .i64 0,.int .i64 0,.int .i64 0,.int .i64 0,.float .f32 0]⟩ λjl=> LDA 6 jl t4 λWl=> aa (.tuple ⟨[.agg Wl,.bool false]⟩) jl)
def aan.g2(fr:Frame):Addr×Int×Addr×Int:=((gP (ah fr 0)),(gI (ah fr 1)),(gP (ah fr 4)),(gI (ah fr 6)))
def aan.l2(aa:VH):=gg (kds 45 [(0,.p),(1,.i .i64),(4,.p),(6,.i .i64)]) λfr=>bk (aan.B2 aa) (aan.g2 fr)
def aan.S(s_0:Addr)(yM:Int)(aa:VH)(h:ab):=ALC ⟨jg⟩ 131 (λa b=> bk (aan.B2 aa) (s_0,yM,⟨a,0,none⟩,0) b) h
theorem aan.call{s_0 yM aa h}(H:aan.S s_0 yM aa h):af ak 204 #[.pointer (some s_0),.int .i64 yM] aa h:=qc (Λ:=aS [(1000002,aan.l2 aa)]) Tryz.func204 (qs qf (qs (qs qf (Rq.block (ql (aan.l2 aa) (qg (g:=aan.g2) (Λ:=λa=>aS [(5,aan.j5 a aa)]) (λ_ _ _=>by kernel_rfl) (λa=>(qs qf (qs (Rq.block (qj (aan.j5 a aa) qf qf)) qf))))))) qf)) (qe H)
def Bg.S(x_0:Addr)(aa:VH)(h:ab):=af ak 266 #[.pointer (some x_0)] (λd c=> asB d λe=> BIF e (af ak 261 #[.pointer (some (x_0.add 2))] (λf b=> asB f λg=> BIF g (oI .i64 (cell b (x_0.add 2)) λi=> BIF (i==3) (af ak 261 #[.pointer (some (x_0.add 8))] (λj a=> asB j λEF=> BIF EF (oI .i64 (cell a (x_0.add 8)) λk=> BIF (k==2) (oF .f32 (cell a (x_0.add 14)) λrk=> af ak 154 #[.float .f32 rk] (λxz l=> asB xz λEG=> aa (.bool EG) l) a) (aa (.bool false) a)) (aa (.bool false) a)) b) (aa (.bool false) b)) (aa (.bool false) b)) c) (aa (.bool false) c)) h
theorem Bg.call{x_0 aa h}(H:Bg.S x_0 aa h):af ak 205 #[.pointer (some x_0)] aa h:=qk Tryz.func205 H
def z9.S(x_0:Addr)(aa:VH)(h:ab):=LDA 2 h x_0 λb=> LDA 2 h (x_0.add 2) λc=> SIZ (Array.size b) 2 <|SIZ (Array.size c) 2 <|ALC ⟨(eE 2 2 c (eE 0 2 b [.slice none 0 0,.int .i64 0,.slice none 0 0,.int .i64 0]))⟩ 109 (λe f=> af ak 260 #[.slice (some ⟨e,0,none⟩) 2 2] (λg d=> asB g λi=> BIF i (af ak 261 #[.pointer (some (x_0.add 4))] (λj a=> asB j λEF=> BIF EF (oI .i64 (cell a (x_0.add 4)) λk=> BIF (k==1) (oF .f32 (cell a (x_0.add 10)) λrk=> oF .f32 (cell a (x_0.add 11)) λxB=> ALC ⟨[.float .f32 rk,.float .f32 xB]⟩ 22 (λl kB=> af ak 262 #[.slice (some ⟨l,0,none⟩) 2 2] (λLV qQ=> asB LV λWr=> aa (.bool Wr) qQ) kB) a) (aa (.bool false) a)) (aa (.bool false) a)) d) (aa (.bool false) d)) f) h
theorem z9.call{x_0 aa h}(H:z9.S x_0 aa h):af ak 195 #[.pointer (some x_0)] aa h:=qk Tryz.func195 H
def acg.J9(aa:VH)(s_0:Addr)(v_1:Addr)(a_5:Bool)(b_6:Bool)(c_7:Bool)(h:ab):=oL (cell h (s_0.add 4)) λatZ c ava=> oI .i64 (cell h (v_1.add 1)) λa=> bd atZ a c λd=> oI .i64 (cell h ((Addr.add ((Addr.add d (a.toNat*5))) 1))) λb=> BIF (b==1) (af ak 205 #[.pointer (some (v_1.add 5))] (λe ZN=> asB e λf=> BIF f (BIF b_6 (aa (.bool c_7) ZN) (aa (.bool false) ZN)) (aa (.bool false) ZN)) h) (BIF (b==2) (BIF a_5 (af ak 206 #[.pointer (some (v_1.add 20))] (λg Xa=> asB g λi=> BIF i (aa (.bool c_7) Xa) (aa (.bool false) Xa)) h) (aa (.bool false) h)) (BIF a_5 (BIF b_6 (af ak 195 #[.pointer (some (v_1.add 33))] (λj Pu=> asB j λk=> aa (.bool k) Pu) h) (aa (.bool false) h)) (aa (.bool false) h)))
def acg.j9(aa:VH):=gg (kds 144 [(0,.p),(1,.p),(5,.b),(6,.b),(7,.b)]) λfr=>acg.J9 aa (gP (ah fr 0)) (gP (ah fr 1)) (gB (ah fr 5)) (gB (ah fr 6)) (gB (ah fr 7))
def acg.S(s_0:Addr)(v_1:Addr)(aa:VH)(h:ab):=af ak 201 #[.pointer (some (v_1.add 5))] (λf g=> asB f λc=> af ak 202 #[.pointer (some (v_1.add 20))] (λi j=> asB i λd=> af ak 203 #[.pointer (some (v_1.add 33))] (λk a=> asB k λe=> oI .i64 (cell a v_1) λxn=> BIF (xn==(-1)) (BIF c (BIF d (BIF e (oI .i64 (cell a (v_1.add 1)) λl=> BIF (l==0) (oI .i64 (cell a (v_1.add 2)) λUS=> BIF (US==0) (oB (cell a (v_1.add 3)) λPV=> BIF (!PV) (oF .f32 (cell a (v_1.add 4)) λDK=> af ak 155 #[.float .f32 DK,.float .f32 0] (λIV kT=> asB IV λm=> aa (.bool m) kT) a) (aa (.bool false) a)) (aa (.bool false) a)) (aa (.bool false) a)) (aa (.bool false) a)) (aa (.bool false) a)) (aa (.bool false) a)) (oI .i64 (cell a v_1) λn=> af ak 204 #[.pointer (some s_0),.int .i64 n] (λGY jU=> fV GY λHV GZ=> asA HV λo=> asB GZ λp=> ALC ⟨jg⟩ 131 (λb vD=> STA 6 vD ⟨b,0,none⟩ o λEc=> BIF (!p) (aa (.bool false) Ec) (oI .i64 (cell Ec ⟨b,3,none⟩) λq=> oI .i64 (cell Ec (v_1.add 1)) λr=> BIF (q !=r) (aa (.bool false) Ec) (oI .i64 (cell Ec ⟨b,0,none⟩) λs=> oI .i64 (cell Ec (v_1.add 2)) λt=> BIF (s !=t) (aa (.bool false) Ec) (oF .f32 (cell Ec (v_1.add 4)) λVV=> af ak 154 #[.float .f32 VV] (λu xl=> asB u λv=> BIF (!v) (aa (.bool false) xl) (acg.J9 aa s_0 v_1 c d e xl)) Ec)))) jU) a)) j) g) h
theorem acg.call{s_0 v_1 aa h}(H:acg.S s_0 v_1 aa h):af ak 132 #[.pointer (some s_0),.pointer (some v_1)] aa h:=qc (Λ:=aS [(9,acg.j9 aa)]) Tryz.func132 (qs qf (qs qf (qs qf (qs qf (qs qf (qs qf (qj (acg.j9 aa) qf qf))))))) (qe H)
def aad.J14(e:(Addr×Int)->ab->Prop)(a:(Addr×Int×Addr×Int)->ab->Prop)(aa:VH)(p_0:Addr)(i_3:Int)(v_4:Addr)(k_5:Int)(h:ab):=oL (cell h (p_0.add 6)) λafA afC afB=> bd afA k_5 afC λb=> oI .i64 (cell h ((Addr.add b (k_5.toNat*45)))) λc=> oI .i64 (cell h v_4) λd=> BIF (c==d) (aa (.bool false) h) (a (p_0,i_3,v_4,((IntKind.i64.wrap (k_5+1)))) h)
def aad.j14(a:(Addr×Int)->ab->Prop)(b:(Addr×Int×Addr×Int)->ab->Prop)(aa:VH):=gg (kds 113 [(0,.p),(3,.i .i64),(4,.p),(5,.i .i64)]) λfr=>aad.J14 a b aa (gP (ah fr 0)) (gI (ah fr 3)) (gP (ah fr 4)) (gI (ah fr 5))
def aad.B12(a:(Addr×Int)->ab->Prop)(aa:VH)(b:(Addr×Int×Addr×Int)->ab->Prop):Addr×Int×Addr×Int->ab->Prop |(p_0,i_3,v_4,k_5),h=> BIF (decide (k_5<i_3)) (oI .i64 (cell h v_4) λc=> BIF ((decide (0≤c))) (aad.J14 a b aa p_0 i_3 v_4 k_5 h) (a (p_0,((IntKind.i64.wrap (i_3+1)))) h)) (a (p_0,((IntKind.i64.wrap (i_3+1)))) h)
def aad.g12(fr:Frame):Addr×Int×Addr×Int:=((gP (ah fr 0)),(gI (ah fr 3)),(gP (ah fr 4)),(gI (ah fr 5)))
def aad.l12(a:(Addr×Int)->ab->Prop)(aa:VH):=gg (kds 113 [(0,.p),(3,.i .i64),(4,.p),(5,.i .i64)]) λfr=>bk (aad.B12 a aa) (aad.g12 fr)
def aad.J11(a:(Addr×Int)->ab->Prop)(aa:VH)(p_0:Addr)(i_3:Int)(v_4:Addr)(h:ab):=bk (aad.B12 a aa) (p_0,i_3,v_4,0) h
def aad.j11(a:(Addr×Int)->ab->Prop)(aa:VH):=gg (kds 113 [(0,.p),(3,.i .i64),(4,.p)]) λfr=>aad.J11 a aa (gP (ah fr 0)) (gI (ah fr 3)) (gP (ah fr 4))
def aad.B6(aa:VH)(b:(Addr×Int)->ab->Prop):Addr×Int->ab->Prop |(p_0,i_3),h=> oL (cell h (p_0.add 6)) λQB QC UD=> BIF ((decide (i_3<(QC:Int)))) (oL (cell h (p_0.add 6)) λafs aft ajR=> bd afs i_3 aft λa=> af ak 132 #[.pointer (some p_0),.pointer (some ((Addr.add a (i_3.toNat*45))))] (λc re=> asB c λd=> BIF (!d) (aa (.bool false) re) (oI .i64 (cell re ((Addr.add a (i_3.toNat*45)))) λe=> BIF ((decide (0≤e))) (oI .i64 (cell re ((Addr.add ((Addr.add a (i_3.toNat*45))) 2))) λf=> oI .i64 (cell re (p_0.add 7)) λQZ=> BIF (decide (QZ≤f)) (aa (.bool false) re) (aad.J11 b aa p_0 i_3 ((Addr.add a (i_3.toNat*45))) re)) (aad.J11 b aa p_0 i_3 ((Addr.add a (i_3.toNat*45))) re))) h) (aa (.bool true) h)
def aad.g6(fr:Frame):Addr×Int:=((gP (ah fr 0)),(gI (ah fr 3)))
def aad.l6(aa:VH):=gg (kds 113 [(0,.p),(3,.i .i64)]) λfr=>bk (aad.B6 aa) (aad.g6 fr)
def aad.J3(aa:VH)(p_0:Addr)(h:ab):=oI .i64 (cell h (p_0.add 8)) λa=> oI .i64 (cell h (p_0.add 7)) λb=> af ak 131 #[.pointer (some p_0),.int .i64 b] (λYU vC=> asI .i64 YU λc=> PIN h (p_0.add 8) 1 vC <|BIF (a !=c) (aa (.bool false) vC) (bk (aad.B6 aa) (p_0,0) vC)) h
def aad.j3(aa:VH):=gg (kds 113 [(0,.p)]) λfr=>aad.J3 aa (gP (ah fr 0))
def aad.S(p_0:Addr)(aa:VH)(h:ab):=af ak 64 #[.pointer (some p_0)] (λc a=> asB c λd=> BIF (!d) (aa (.bool false) a) (oL (cell a (p_0.add 6)) λVN UG ZU=> af ak 41 #[.int .i64 (UG:Int),.int .i64 1,.int .i64 6] (λe b=> asB e λf=> BIF (!f) (aa (.bool false) b) (oI .i64 (cell b (p_0.add 7)) λxn=> af ak 41 #[.int .i64 xn,.int .i64 0,.int .i64 200000] (λzX jl=> asB zX λPV=> BIF (!PV) (aa (.bool false) jl) (oI .i64 (cell jl (p_0.add 9)) λHU=> af ak 41 #[.int .i64 HU,.int .i64 0,.int .i64 64] (λIV kT=> asB IV λg=> BIF (!g) (aa (.bool false) kT) (aad.J3 aa p_0 kT)) jl)) b)) a)) h
theorem aad.call{p_0 aa h}(H:aad.S p_0 aa h):af ak 91 #[.pointer (some p_0)] aa h:=qc (Λ:=aS [(3,aad.j3 aa),(1000006,aad.l6 aa)]) Tryz.func91 (qs qf (qj (aad.j3 aa) qf (qs qf (qs (qs qf (Rq.block (ql (aad.l6 aa) (qg (g:=aad.g6) (Λ:=λa=>aS [(11,aad.j11 a aa),(1000012,aad.l12 a aa)]) (λ_ _ _=>by kernel_rfl) (λa=>(qs qf (qs (Rq.block (qs qf (qj (aad.j11 a aa) qf (qs qf (Rq.block (ql (aad.l12 a aa) (qg (g:=aad.g12) (Λ:=λb=>aS [(14,aad.j14 a b aa)]) (λ_ _ _=>by kernel_rfl) (λb=>(qj (aad.j14 a b aa) qf qf))))))))) qf))))))) qf)))) (qe H)
end Go.Sx
