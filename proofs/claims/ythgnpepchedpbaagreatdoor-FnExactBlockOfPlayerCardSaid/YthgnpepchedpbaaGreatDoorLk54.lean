/- Lemmas. -/
import Derived.Test.YthgnpepchedpbaaGreatDoorLm6
import Derived.Test.YthgnpepchedpbaaGreatDoorLk35
import Derived.Test.YthgnpepchedpbaaGreatDoorLk15
import Derived.Test.YthgnpepchedpbaaGreatDoorLk33
import Derived.Test.YthgnpepchedpbaaGreatDoorK10
set_option linter.unusedVariables false
set_option linter.unusedSimpArgs false
namespace Go.Sx
open Go.Proofs Ieee
set_option maxRecDepth 100000
set_option maxHeartbeats 1000000
def W9(h0 h':ab)(q:Addr)(F:Fr)(L:List Blk)(x:bK)(a:Nat)(u:Value):Prop:=(∃y,u = .float .f32 y∧FW .f32 y (x.step a).2)∧Pt bf h0 h' q F L (x.step a).1
def VY(h0 h':ab)(q:Addr)(F:Fr)(L:List Blk)(x:iU)(a:Nat)(u:Value):Prop:=(∃y,u = .float .f32 y∧FW .f32 y (x.step a).2)∧Pt jI h0 h' q F L (x.step a).1
theorem Ws{r:aY}(hr:r.ok=true):r.back r.len=r.old:=by
 obtain⟨k1,k2,k3,k4,k5⟩:=kO hr
 have hl:r.len=(r.ae.length:Int):=rfl
 unfold aY.back aY.old
 rw[show r.At-r.len+r.len=r.At by omega,Int.emod_eq_of_lt k1 (by omega)]
theorem afO{r:aY}(hr:r.ok=true):inR r.len 1 r.len=true:=by
 obtain⟨k1,k2,k3,k4,k5⟩:=kO hr
 have hl:r.len=(r.ae.length:Int):=rfl
 unfold inR
 simp only[Bool.and_eq_true,decide_eq_true_eq]
 omega
section
variable {h0 h:ab}{q:Addr}{F:Fr}{L:List Blk}{y a:Nat}
theorem Ur{x:bK}(P:Pt bf h0 h q F L x)(hr:x.Loop.ok=true)(hy:FW .f32 y a):af ak 119 #[.pointer (some q),.float .f32 y] (λu h'=>W9 h0 h' q F L x a u) h:=by
 obtain⟨k1,k2,k3,k4,k5⟩:=kO hr
 refine wB.call (P.rd.oL1 λb l c S=>P.rd.oI ?_)
 have hl:=S.len
 refine S.idx (by decide) k1 (by omega) λp Rp=>Rp.oF1 λo ho=>?_
 obtain⟨F1,L1,P1,hs1,c1⟩:=P.foc dM
 refine(zw P1 ho).mono ?_
 rintro _ h1 ⟨⟨t,rfl,ht⟩,P1⟩
 have P:=c1 _ _ _ P1
 obtain⟨F2,L2,P2,Fk,c2⟩:=P.foc dK
 refine cW ((zw P2 ht).mono ?_)
 rintro _ h2 ⟨⟨d,rfl,hd⟩,P2⟩
 have P:=c2 _ _ _ P2
 refine cW (P.rd.oF λw hw=>fM hd hw λm hm=>fA hm hy λs hs=>(ic hs).go λh3 k x3 hk=>cW ?_)
 obtain⟨F3,L3,P3,hs3,c3⟩:=(P.grow x3).foc dL
 rw[kW] at P3 c3
 refine(oK P3 hr hk).mono ?_
 rintro _ h4 ⟨⟨y2,rfl,VL⟩,P3⟩
 exact cW ⟨⟨o,rfl,ho⟩,c3 _ _ _ P3⟩
theorem Ia{x:bK}(P:Pt bf h0 h q F L x)(hr:x.Loop.ok=true)(hy:FW .f32 y a):af ak 172 #[.pointer (some q),.float .f32 y] (λu h'=>W9 h0 h' q F L x a u) h:=by
 obtain⟨k1,k2,k3,k4,k5⟩:=kO hr
 have R:=P.rd.fst dL
 refine mA.call (R.jc rfl λcs Rc=>P.rd.oL1 λb l c S=>goX (iK _ _ _ _) λh1 x1=>cN (R.pin rfl x1 ?_))
 have hl:x.Loop.len=(l:Int):=by show((x.Loop.ae.length:Nat):Int)=_;rw[show x.Loop.ae.length=l from S.len]
 have hb:=E1 (bQ.ext x1 Rc) hr (afO hr)
 rw[Ws hr,hl] at hb
 refine hb.mono ?_
 rintro _ h2 ⟨⟨o,rfl,ho⟩,x2⟩
 have P:=P.grow (x1.trans x2)
 obtain⟨F1,L1,P1,hs1,c1⟩:=P.foc dM
 refine cW ((pk P1 ho).mono ?_)
 rintro _ h1 ⟨⟨t,rfl,ht⟩,P1⟩
 have P:=c1 _ _ _ P1
 obtain⟨F2,L2,P2,Fk,c2⟩:=P.foc dK
 refine cW ((pk P2 ht).mono ?_)
 rintro _ h2 ⟨⟨d,rfl,hd⟩,P2⟩
 have P:=c2 _ _ _ P2
 refine cW (P.rd.oF λw hw=>fM hd hw λm hm=>fA hm hy λs hs=>(mz hs).go λh3 k x3 hk=>cW ?_)
 obtain⟨F3,L3,P3,hs3,c3⟩:=(P.grow x3).foc dL
 rw[kW] at P3 c3
 refine(kV P3 hr hk).mono ?_
 rintro _ h4 ⟨⟨y2,rfl,VL⟩,P3⟩
 exact cW ⟨⟨o,rfl,ho⟩,c3 _ _ _ P3⟩
theorem IF{x s d:Nat}(hx:FW .f32 x s)(hy:FW .f32 y d):Fl ak 192 #[.float .f32 x,.float .f32 y] .f32 (yu s d):=λh=>by
 refine pd.call (fM hx hy λr1 h1=>(Nw h1).go λh2 r4 x2 h4=>cW (fA h4 Sy λr5 h5=>fM h5 h5 λr6 h6=>fM h6 h6 λr7 h7=>fD c1 h7 λr8 h8=>?_))
 rw[cw h8 c1]
 unfold yu
 dsimp only
 refine br (λk=>⟨⟨_,rfl,?_⟩,x2⟩) λk=>⟨⟨_,rfl,?_⟩,x2⟩
 ·rw[if_pos (show fgt .f32 _ _=true from k)];exact c1
 ·rw[if_neg (by rw[show fgt .f32 _ _=false from k];decide)];exact h8
theorem Kp{x s d:Nat}(hx:FW .f32 x s)(hy:FW .f32 y d):Fl ak 248 #[.float .f32 x,.float .f32 y] .f32 (yu s d):=λh=>by
 refine qo.call (fM hx hy λr1 h1=>(FH h1).go λh2 r4 x2 h4=>cW (fA h4 Sy λr5 h5=>fM h5 h5 λr6 h6=>fM h6 h6 λr7 h7=>fD c1 h7 λr8 h8=>?_))
 rw[cw h8 c1]
 unfold yu
 dsimp only
 refine br (λk=>⟨⟨_,rfl,?_⟩,x2⟩) λk=>⟨⟨_,rfl,?_⟩,x2⟩
 ·rw[if_pos (show fgt .f32 _ _=true from k)];exact c1
 ·rw[if_neg (by rw[show fgt .f32 _ _=false from k];decide)];exact h8
def acK(h0 h':ab)(q:Addr)(F:Fr)(L:List Blk)(x:iU)(a:Nat)(u:Value):Prop:=
 ∃y1 y2 y3,u = .tuple ⟨[.float .f32 y1,.float .f32 y2,.float .f32 y3]⟩∧FW .f32 y1 x.u∧FW .f32 y2 x.v∧FW .f32 y3 (x.d a)∧Pt jI h0 h' q F L { x with fz:=x.e.1 }
theorem Uu{x:iU}(P:Pt jI h0 h q F L x)(hn:x.bT.ok=true)(hb:x.aH.ok=true)(hy:FW .f32 y a):af ak 191 #[.pointer (some q),.float .f32 y] (λu h'=>acK h0 h' q F L x a u) h:=by
 obtain⟨k1,k2,k3,k4,k5⟩:=kO hb
 obtain⟨j1,j2,j3,j4,j5⟩:=kO hn
 refine wD.call (P.rd.oL λb l c S=>P.rd.oI ?_)
 have hl:=S.len
 refine S.idx (by decide) k1 (by omega) λp Rp=>Rp.oF1 λo ho=>?_
 obtain⟨F1,L1,P1,hs1,cl⟩:=P.foc gj
 refine(zw P1 ho).mono ?_
 rintro _ h1 ⟨⟨t,rfl,ht⟩,P1⟩
 have P:=cl _ _ _ P1
 refine cW (P.rd.oF λw hw=>fM hw ht λm hm=>P.rd.oL1 λb l c S=>P.rd.oI ?_)
 have hl:x.bT.ae.length=l:=S.len
 refine S.idx (by decide) j1 (by show x.bT.At<_;omega) λp Rp=>Rp.oF1 λn hn=>fA (kM hm) (kM hn) λs hs=>fS hy hs λd hd=>?_
 exact⟨_,_,_,rfl,kM hm,kM hn,hd,P⟩
theorem PE{x:iU}(P:Pt jI h0 h q F L x)(hn:x.bT.ok=true)(hb:x.aH.ok=true)(hy:FW .f32 y a):af ak 247 #[.pointer (some q),.float .f32 y] (λu h'=>acK h0 h' q F L x a u) h:=by
 refine qy.call (P.rd.lda fE rfl λc1 R1=>(va R1 hb).mono ?_)
 rintro _ h1 ⟨⟨o,rfl,ho⟩,x1⟩
 have P:=P.grow x1
 obtain⟨F1,L1,P1,hs1,cl⟩:=P.foc gj
 refine cW ((pk P1 ho).mono ?_)
 rintro _ h2 ⟨⟨t,rfl,ht⟩,P1⟩
 have P:=cl _ _ _ P1
 have R:=P.rd.fst ik
 refine cW (P.rd.oF λw hw=>R.jc rfl λc2 R2=>⟨fM hw ht λm hm=>dT ((va R2 hn).mono ?_),(va R2 hn).mono ?_⟩)
 ·rintro _ h3 ⟨⟨n,rfl,hn⟩,x3⟩
  exact cW (P.rd.lN (by decide) x3 (fA (kM hm) (kM hn) λs hs=>fS hy hs λd hd=>⟨_,_,_,rfl,kM hm,kM hn,hd,P.grow x3⟩))
 ·rintro _ h3 ⟨⟨n,rfl,hn⟩,x3⟩
  exact cW (P.rd.lN (by decide) x3 (fM hw ht λm hm=>R.pin rfl x3 (fA (kM hm) (kM hn) λs hs=>fS hy hs λd hd=>⟨_,_,_,rfl,kM hm,kM hn,hd,P.grow x3⟩)))
theorem Lu{x:iU}(P:Pt jI h0 h q F L x)(hn:x.bT.ok=true)(hb:x.aH.ok=true)(hy:FW .f32 y a):af ak 121 #[.pointer (some q),.float .f32 y] (λu h'=>VY h0 h' q F L x a u) h:=by
 obtain⟨k1,k2,k3,k4,k5⟩:=kO hb
 refine qC.call (P.rd.oL λb l c S=>P.rd.oI ?_)
 have hl:=S.len
 refine S.idx (by decide) k1 (by omega) λp Rp=>Rp.oF1 λo ho=>(Uu P hn hb hy).mono ?_
 rintro _ h1 ⟨u1,u2,u3,rfl,q1,q2,q3,P⟩
 refine al1 (cW (cW (cW (P.rd.oF λs hs=>(IF hs q3).go λh2 f x2 hf=>cW (fM q3 hf λw hw=>fA q1 hw λm hm=>(ic hm).go λh3 k x3 hk=>cW ?_)))))
 obtain⟨F3,L3,P3,hs3,c3⟩:=(P.grow (x2.trans x3)).foc ik
 rw[kW] at P3 c3
 refine(oK P3 hn hk).mono ?_
 rintro _ h4 ⟨⟨y2,rfl,VL⟩,P3⟩
 have P:=c3 _ _ _ P3
 refine cW (fA q2 hw λm hm=>(ic hm).go λh5 k x5 hk=>cW ?_)
 obtain⟨F4,L4,P4,hs4,c4⟩:=(P.grow x5).foc fE
 refine(oK P4 hb hk).mono ?_
 rintro _ h6 ⟨⟨y2,rfl,VL⟩,P4⟩
 exact cW ⟨⟨o,rfl,ho⟩,c4 _ _ _ P4⟩
theorem PF{x:iU}(P:Pt jI h0 h q F L x)(hn:x.bT.ok=true)(hb:x.aH.ok=true)(hy:FW .f32 y a):af ak 178 #[.pointer (some q),.float .f32 y] (λu h'=>VY h0 h' q F L x a u) h:=by
 refine qz.call (P.rd.lda fE rfl λc1 R1=>(va R1 hb).mono ?_)
 rintro _ h1 ⟨⟨o,rfl,ho⟩,x1⟩
 refine cW ((PE (P.grow x1) hn hb hy).mono ?_)
 rintro _ h1 ⟨u1,u2,u3,rfl,q1,q2,q3,P⟩
 refine al1 (cW (cW (cW (P.rd.oF λs hs=>(Kp hs q3).go λh2 f x2 hf=>cW (fM q3 hf λw hw=>fA q1 hw λm hm=>(mz hm).go λh3 k x3 hk=>cW ?_)))))
 obtain⟨F3,L3,P3,hs3,c3⟩:=(P.grow (x2.trans x3)).foc ik
 rw[kW] at P3 c3
 refine(kV P3 hn hk).mono ?_
 rintro _ h4 ⟨⟨y2,rfl,VL⟩,P3⟩
 have P:=c3 _ _ _ P3
 refine cW (fA q2 hw λm hm=>(mz hm).go λh5 k x5 hk=>cW ?_)
 obtain⟨F4,L4,P4,hs4,c4⟩:=(P.grow x5).foc fE
 refine(kV P4 hb hk).mono ?_
 rintro _ h6 ⟨⟨y2,rfl,VL⟩,P4⟩
 exact cW ⟨⟨o,rfl,ho⟩,c4 _ _ _ P4⟩
end
end Go.Sx
namespace Go.Sx
open Go.Proofs
set_option maxRecDepth 100000
set_option maxHeartbeats 1000000
theorem ZF{r:aY}{j:Nat}(hj:j<r.ae.length)(e:isZ r.ae[j]! = false):r.zero=false:=by
 unfold aY.zero
 rw[List.all_eq_false]
 exact⟨_,iL hj,by unfold isZ at e;rw[e];simp⟩
theorem ZG{r:aY}(h:∀j,j<r.ae.length->isZ r.ae[j]! = true):r.zero=true:=by
 unfold aY.zero
 rw[lI]
 exact all_true (f:=λj=>isZ r.ae[j]!) λj hj'=>h j hj'
def PR(h:ab)(ps:List Addr)(rs:List aY):Prop:=ps.length=rs.length∧∀i,i<ps.length->RdP bQ h ps[i]! rs[i]! ∧ rs[i]!.ok=true
theorem PR.ext{h h':ab}{ps:List Addr}{rs:List aY}(H:PR h ps rs)(x:Ext h h'):PR h' ps rs:=⟨H.1,λi hi=>⟨(H.2 i hi).1.ext x,(H.2 i hi).2⟩⟩
theorem SG{α:Type}[Inhabited α]{l m:List α}{i:Nat}:(l++m)[i]! = if i<l.length then l[i]! else m[i-l.length]!:=by
 simp only[List.getElem!_eq_getElem?_getD]
 split
 ·next h=>rw[List.getElem?_append_left h]
 ·next h=>rw[List.getElem?_append_right (by omega)]
theorem PR.amW{h:ab}{ps:List Addr}{rs:List aY}{p q:Addr}{r s:aY}(H:PR h ps rs)(h1:RdP bQ h p r)(o1:r.ok=true)(h2:RdP bQ h q s)(o2:s.ok=true):PR h (ps++[p,q]) (rs++[r,s]):=by
 obtain⟨hl,H⟩:=H
 refine⟨by simp[hl],λi hi=>?_⟩
 rw[SG,SG,← hl]
 by_cases h0:i<ps.length
 ·rw[if_pos h0,if_pos h0];exact H i h0
 ·rw[if_neg h0,if_neg h0]
  have Xp:i-ps.length=0∨i-ps.length=1:=by simp only[List.length_append,List.length_cons,List.length_nil] at hi;omega
  rcases Xp with e | e
  ·rw[e];exact⟨h1,o1⟩
  ·rw[e];exact⟨h2,o2⟩
def Se(a b:List aY):Nat->List aY
 | 0=>[]
 | n+1=>Se a b n++[a[n]!,b[n]!]
theorem Pf(a b:List aY)(p:aY->Bool):∀n,n≤a.length->n≤b.length->(Se a b n).all p=((a.take n).all p&&(b.take n).all p)
 | 0,_,_=>by simp[Se]
 | n+1,h1,h2=>by
  rw[Se,List.all_append,Pf a b p n (by omega) (by omega),vk (l:=a) (by omega),vk (l:=b) (by omega),List.all_append,List.all_append]
  simp only[List.all_cons,List.all_nil,Bool.and_true]
  cases (a.take n).all p <;> cases (b.take n).all p <;> simp
section
variable {h0 h:ab}{q:Addr}{F:Fr}{L:List Blk}{y a:Nat}
theorem Nx{x:bK}(R:RdP bf h q x):af ak 122 #[.pointer (some q)] (λu h'=>u = .bool x.nK∧Ext h h') h:=by
 have:=cu
 have k:x.nK=(x.Loop.zero&&x.kS.still&&x.fz.still):=rfl
 have A:∀{hh:ab},Ext h hh->RdP bf hh q x:=λe=>R.ext e
 refine fe.call (loop (λy hh=>∃n:Nat,y=(q,(n:Int))∧n≤x.Loop.ae.length∧hh=h∧∀i,i<n->isZ x.Loop.ae[i]! = true) (λy=>(x.Loop.ae.length-y.2).toNat) ⟨0,rfl,by omega,rfl,λi hi=>by omega⟩ ?_)
 rintro y hh ⟨n,rfl,hn,rfl,hz⟩
 refine R.oL1 λb l c S=>?_
 have hl:x.Loop.ae.length=l:=S.len
 have s1:=S.2.1
 have s2:=S.2.2.1
 refine brd (λhc=>?_) λhc=>?_
 ·refine R.oL1 λb2 l2 c2 S2=>?_
  have hl2:x.Loop.ae.length=l2:=S2.len
  refine S2.idx (by decide) (by omega) (by omega) λp Rp=>Rp.oF1 λy hy=>?_
  rw[agm hy]
  refine br (λhb=>⟨?_,Ext.refl _⟩) λhb=>⟨⟨n+1,by rw[ag (by omega)],by omega,rfl,λi hi=>?_⟩,by rw[ag (by omega)];show(((x.Loop.ae.length:Nat):Int)-((n+1:Nat):Int)).toNat<(((x.Loop.ae.length:Nat):Int)-((n:Nat):Int)).toNat;omega⟩
  ·rw[k,ZF (r:=x.Loop) (j:=n) (by omega) (nt hb)];rfl
  ·by_cases e:i=n
   ·subst e;exact nf hb
   ·exact hz i (by omega)
 ·have z:x.Loop.zero=true:=ZG λj hj=>hz j (by omega)
  refine goX (vM (R.foc dM)) λh1 x1=>bt (br (λhb=>goX (vM ((A x1).foc dK)) λh2 x2=>bt ⟨?_,x1.trans x2⟩) λhb=>⟨?_,x1⟩)
  ·rw[k,z,show x.kS.still=true from hb];rfl
  ·rw[k,z,show x.kS.still=false from hb];rfl
theorem zs{cs:Array Value}{r:aY}(R0:bQ.rd h cs.toList r)(hr:r.ok=true):af ak 179 #[.agg cs] (λu h'=>u = .bool r.zero∧Ext h h') h:=by
 refine nh.call (gD R0 λg h1 x1 R=>R.jc rfl λc2 R2=>R.oL2 λb l c S=>goX (Ks R2 hr) λh2 x2=>cN (R.IT (by decide) x2 (goX (iK _ _ _ _) λh3 x3=>cN ⟨?_,x1.trans (x2.trans x3)⟩)))
 have hl:r.ae.length=l:=S.len
 have:=RH hr
 congr 1
 rw[Bool.eq_iff_iff,← this,beq_iff_eq]
 omega
theorem BB{cs:Array Value}{x:bK}(R0:bf.rd h cs.toList x)(hr:x.Loop.ok=true):af ak 173 #[.agg cs] (λu h'=>u = .bool x.nK∧Ext h h') h:=by
 have k:x.nK=(x.Loop.zero&&x.kS.still&&x.fz.still):=rfl
 refine lp.call (gD R0 λg h1 x1 R=>R.jH dL rfl λc2 R2=>goX (zs R2 hr) λh2 x2=>bt (br (λb1=>?_) λb1=>⟨by rw[k,b1];rfl,x1.trans x2⟩))
 refine(R.ext x2).jH dM rfl λc3 R3=>goX (lF R3) λh3 x3=>bt (br (λb2=>?_) λb2=>⟨by rw[k,b1,b2];rfl,x1.trans (x2.trans x3)⟩)
 exact(R.ext (x2.trans x3)).jH dK rfl λc4 R4=>goX (lF R4) λh4 x4=>bt ⟨by rw[k,b1,b2];rfl,x1.trans (x2.trans (x3.trans x4))⟩
theorem Nz{x:cp}(R:RdP dX h q x):af ak 123 #[.pointer (some q)] (λu h'=>u = .bool x.nK∧Ext h h') h:=by
 have k:x.nK=(x.aW.all aY.zero&&x.Left.all aY.zero&&x.End.still):=rfl
 refine sS.call (R.oL1 λb l c S=>goX (Dt S) λh1 x1=>bt (br (λb1=>?_) λb1=>⟨by rw[k,b1];rfl,x1⟩))
 refine(R.ext x1).oL λb l c S=>goX (Dt S) λh2 x2=>bt (br (λb2=>?_) λb2=>⟨by rw[k,b1,b2];rfl,x1.trans x2⟩)
 exact goX (vM ((R.ext (x1.trans x2)).foc gK)) λh3 x3=>bt ⟨by rw[k,b1,b2];rfl,x1.trans (x2.trans x3)⟩
theorem I4{cs:Array Value}{x:iU}(R0:jI.rd h cs.toList x)(hx:x.ok=true):af ak 124 #[.agg cs] (λu h'=>u = .tuple ⟨[.bool x.nK,.int .i64 (0:Int)]⟩∧Ext h h') h:=by
 have k:x.nK=([x.bT,x.aH].all aY.zero&&x.fz.still):=by unfold iU.nK;simp
 refine oY.call (gD R0 λg h1 x1 R=>goX (XH R) λh2 x2=>bt (brN (λe=>by rw[hx] at e;cases e) λ_=>?_))
 have R:=R.ext x2
 have z0:(iT 2 bQ).rd h2 [Value.slice none 0 0,Value.int .i64 (0:Int),Value.slice none 0 0,Value.int .i64 (0:Int)] [wJ,wJ]:=⟨rfl,[Value.slice none 0 0,Value.int .i64 (0:Int)],[Value.slice none 0 0,Value.int .i64 (0:Int)],rfl,bQ.look pV (Mem.start h2) (List.nil_sublist _),[Value.slice none 0 0,Value.int .i64 (0:Int)],[],rfl,bQ.look pV (Mem.start h2) (List.nil_sublist _),rfl⟩
 refine(R.fst ik).jc rfl λc1 R1=>R.jH fE rfl λc2 R2=>siz (rsz R1 rfl) (siz (rsz R2 rfl) ?_)
 have z1:=zG (put:=λl b=>l.set 0 b) (get:=λl=>l[0]!) z0 (λR=>F9 (i:=0) (by decide) R) R1
 have z2:=zG (put:=λl b=>l.set 1 b) (get:=λl=>l[1]!) z1 (λR=>F9 (i:=1) (by decide) R) R2
 refine H0 (r:=bQ) (n:=2) (xs:=[x.bT,x.aH]) z2 (by decide) λg h3 x3 S=>goX (Dt S) λh4 x4=>bt ?_
 have X:=(x1.trans x2).trans (x3.trans x4)
 refine br (λb1=>?_) λb1=>⟨by rw[k,b1];rfl,X⟩
 exact goX (vM ((R.ext (x3.trans x4)).WJ gj)) λh5 x5=>bt ⟨by rw[k,b1];rfl,X.trans x5⟩
theorem atv{x:cp}(R:RdP dX h q x)(Ru:x.iW):af ak 176 #[.pointer (some q)] (λu h'=>∃b l c B ps,u = .slice b l c∧SlO 268 rP B b l c ps∧Mem h h' B∧PR h ps (Se x.aW x.Left x.aW.length)) h:=by
 have n1:=Ru.n1
 have n3:=Ru.n3
 have nl:=Ru.ll
 have hm:(7:Nat)≤maxLen:=by decide
 obtain⟨v,e1,b4,l4,c4,e2,S4⟩:=R.cell JP.f rfl
 obtain rfl:v = .slice b4 l4 c4:=by simpa using e2
 rw[kW] at e1
 obtain⟨v,e3,b6,l6,c6,e2,S6⟩:=R.cell JQ.f rfl
 obtain rfl:v = .slice b6 l6 c6:=by simpa using e2
 have e4:x.aW.length=l4:=S4.len
 have e6:x.Left.length=l6:=S6.len
 refine dP.call (o_l e1 ?_)
 refine loop (λy hh=>∃(n:Nat) (b:Option Addr) (c:Nat) (B:List Blk) (ps:List Addr),y=(q,b,2*n,c,(l4:Int),(n:Int))∧n≤l4∧SlO 268 rP B b (2*n) c ps∧Mem h hh B∧PR h ps (Se x.aW x.Left n)) (λy=>(l4-y.2.2.2.2.2).toNat)
  ⟨0,_,_,_,[],rfl,by omega,SlO.nil,Mem.start h,rfl,λi hi=>by simp at hi⟩ ?_
 rintro y hh ⟨n,b,c,B,ps,rfl,hn,O,M,H⟩
 refine brd (λhc=>?_) λhc=>?_
 ·refine o_l (M.ext.cell e1) (S4.idx pz (by omega) (by omega) λp5 R5=>o_l (M.ext.cell e3) (S6.idx pz (by omega) (by omega) λp7 R7=>M.alc λg h1 x1 M1=>?_))
  rw[Int.toNat_natCast] at R5 R7
  have M2:Mem h h1 (B++([]++[(g,268,⟨[.pointer (some (p5.add (n*2))),.pointer (some (p7.add (n*2)))]⟩)])):=M1.cnt λp=>by simp only[Int.toNat_natCast,List.append_eq,bN,bu,bZ];omega
  refine O.app (Bn:=[]) (news:=[.pointer (some (p5.add (n*2))),.pointer (some (p7.add (n*2)))]) (ys:=[p5.add (n*2),p7.add (n*2)]) CZ M2 rfl ⟨[],[],[_],[_],rfl,rfl,⟨rfl,rfl⟩,[],[],[_],[],rfl,rfl,⟨rfl,rfl⟩,rfl,rfl⟩ (λj v hj=>?_) (by omega) (by omega) λb' c' h' B' O' M'=>lR ?_
  ·rw[dQ,Nat.zero_add,M1.cell .here,← hj,List.getElem?_toArray];rfl
  exact⟨⟨n+1,b',c',B',_,by rw[ag (by omega)];rfl,by omega,O',M'.cnt (λp=>by simp only[bN,bu,bZ];omega),H.amW R5 (Ru.r _ (iL (by omega))) R7 (Ru.l _ (iL (by omega)))⟩,by rw[ag (by omega)];show _<_;simp;omega⟩
 ·obtain rfl:n=l4:=by omega
  rw[e4]
  exact⟨b,_,c,B,ps,rfl,O,M,H⟩
theorem PQ{b:Option Addr}{l c:Nat}{ps:List Addr}{rs:List aY}(S:SlR rP h b l c ps)(H:PR h ps rs):af ak 175 #[.slice b l c] (λu h'=>u = .bool (rs.all aY.zero)∧Ext h h') h:=by
 have hl:=S.len
 have s1:=S.2.1
 have s2:=S.2.2.1
 have:=cu
 have hlr:=H.1
 have I:af ak 289 #[.slice b l c,.func (.func 246) #[] #[]] (λu h'=>u = .int .i64 (jL (λr:aY=>!r.zero) rs)∧Ext h h') h:=by
  refine bc.call ?_
  refine loop (λx hh=>∃n:Nat,x=(b,l,c,.func (.func 246) #[] #[],(l:Int),(n:Int))∧n≤l∧Ext h hh∧∀i,i<n->(!rs[i]!.zero)=false) (λx=>(l-x.2.2.2.2.2).toNat) ⟨0,rfl,by omega,Ext.refl _,λi hi=>by omega⟩ ?_
  rintro x hh ⟨n,rfl,hn,X,hf⟩
  refine brd (λhc=>?_) λhc=>⟨by rw[qZ λi hi=>hf i (by omega)],X⟩
  refine(S.ext X).idx (by decide) (by omega) (by omega) λa Ra=>Ra.oP1 ?_
  rw[Int.toNat_natCast]
  obtain⟨Rr,ok⟩:=H.2 n (by omega)
  show af ak 246 #[.pointer (some ps[n]!)] _ hh
  refine oH.call ((Rr.ext X).jc rfl λcs Rc=>goE X (zs Rc ok) λh1 x1=>bt (bt (br (λhb=>?_) λhb=>?_)))
  ·exact⟨by rw[ra (by omega) hf hb],x1⟩
  ·refine⟨⟨n+1,by rw[ag (by omega)],by omega,x1,λi hi=>?_⟩,by rw[ag (by omega)];show _<_;simp;omega⟩
   by_cases e:i=n
   ·subst e;exact hb
   ·exact hf i (by omega)
 refine ua.call (goX (eX.call (goX I λh1 x1=>cN ⟨rfl,x1⟩)) λh2 x2=>bt ⟨?_,x2⟩)
 congr 1
 rw[E8,List.any_eq_not_all_not]
 simp
theorem IU{x:cp}(Ru:x.iW):(Se x.aW x.Left x.aW.length).all aY.zero=(x.aW.all aY.zero&&x.Left.all aY.zero):=by
 rw[Pf _ _ _ _ (Nat.le_refl _) (by rw[Ru.ll];exact Nat.le_refl _),List.take_length,← Ru.ll,List.take_length]
end
end Go.Sx
