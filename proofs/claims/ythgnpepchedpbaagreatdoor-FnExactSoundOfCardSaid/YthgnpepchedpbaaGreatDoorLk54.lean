/- Lemmas. -/
import Derived.Test.YthgnpepchedpbaaGreatDoorLm7
import Derived.Test.YthgnpepchedpbaaGreatDoorLk50
import Derived.Test.YthgnpepchedpbaaGreatDoorLk13
import Derived.Test.YthgnpepchedpbaaGreatDoorLk33
import Derived.Test.YthgnpepchedpbaaGreatDoorK10
import Derived.Test.YthgnpepchedpbaaGreatDoorLk4
import Derived.Test.YthgnpepchedpbaaGreatDoorTab
import Derived.Test.YthgnpepchedpbaaGreatDoorLk35
set_option linter.unusedVariables false
set_option linter.unusedSimpArgs false
namespace Go.Sx
open Go.Proofs Ieee
set_option maxRecDepth 100000
set_option maxHeartbeats 1000000
def W9(h0 h':ab)(q:Addr)(F:Fr)(L:List Blk)(x:bK)(a:Nat)(u:Value):Prop:=(∃y,u = .float .f32 y∧FW .f32 y (x.step a).2)∧Pt bf h0 h' q F L (x.step a).1
def VY(h0 h':ab)(q:Addr)(F:Fr)(L:List Blk)(x:iU)(a:Nat)(u:Value):Prop:=(∃y,u = .float .f32 y∧FW .f32 y (x.step a).2)∧Pt jI h0 h' q F L (x.step a).1
theorem Ws{r:aY}(hr:r.ok=true):r.back r.len=r.old:=by
 obtain⟨k1,k2,k3,k4,k5⟩:=kO hr
 have hl:r.len=(r.ae.length:Int):=rfl
 unfold aY.back aY.old
 rw[show r.At-r.len+r.len=r.At by omega,Int.emod_eq_of_lt k1 (by omega)]
theorem afO{r:aY}(hr:r.ok=true):inR r.len 1 r.len=true:=by
 obtain⟨k1,k2,k3,k4,k5⟩:=kO hr
 have hl:r.len=(r.ae.length:Int):=rfl
 unfold inR
 simp only[Bool.and_eq_true,decide_eq_true_eq]
 omega
section
variable {h0 h:ab}{q:Addr}{F:Fr}{L:List Blk}{y a:Nat}
theorem Ur{x:bK}(P:Pt bf h0 h q F L x)(hr:x.Loop.ok=true)(hy:FW .f32 y a):af ak 119 #[.pointer (some q),.float .f32 y] (λu h'=>W9 h0 h' q F L x a u) h:=by
 obtain⟨k1,k2,k3,k4,k5⟩:=kO hr
 refine wB.call (P.rd.oL1 λb l c S=>P.rd.oI ?_)
 have hl:=S.len
 refine S.idx (by decide) k1 (by omega) λp Rp=>Rp.oF1 λo ho=>?_
 obtain⟨F1,L1,P1,hs1,c1⟩:=P.foc dM
 refine(zw P1 ho).mono ?_
 rintro _ h1 ⟨⟨t,rfl,ht⟩,P1⟩
 have P:=c1 _ _ _ P1
 obtain⟨F2,L2,P2,Fk,c2⟩:=P.foc dK
 refine cW ((zw P2 ht).mono ?_)
 rintro _ h2 ⟨⟨d,rfl,hd⟩,P2⟩
 have P:=c2 _ _ _ P2
 refine cW (P.rd.oF λw hw=>fM hd hw λm hm=>fA hm hy λs hs=>(ic hs).go λh3 k x3 hk=>cW ?_)
 obtain⟨F3,L3,P3,hs3,c3⟩:=(P.grow x3).foc dL
 rw[kW] at P3 c3
 refine(oK P3 hr hk).mono ?_
 rintro _ h4 ⟨⟨y2,rfl,VL⟩,P3⟩
 exact cW ⟨⟨o,rfl,ho⟩,c3 _ _ _ P3⟩
theorem Ia{x:bK}(P:Pt bf h0 h q F L x)(hr:x.Loop.ok=true)(hy:FW .f32 y a):af ak 172 #[.pointer (some q),.float .f32 y] (λu h'=>W9 h0 h' q F L x a u) h:=by
 obtain⟨k1,k2,k3,k4,k5⟩:=kO hr
 have R:=P.rd.fst dL
 refine mA.call (R.jc rfl λcs Rc=>P.rd.oL1 λb l c S=>goX (iK _ _ _ _) λh1 x1=>cN (R.pin rfl x1 ?_))
 have hl:x.Loop.len=(l:Int):=by show((x.Loop.ae.length:Nat):Int)=_;rw[show x.Loop.ae.length=l from S.len]
 have hb:=E1 (bQ.ext x1 Rc) hr (afO hr)
 rw[Ws hr,hl] at hb
 refine hb.mono ?_
 rintro _ h2 ⟨⟨o,rfl,ho⟩,x2⟩
 have P:=P.grow (x1.trans x2)
 obtain⟨F1,L1,P1,hs1,c1⟩:=P.foc dM
 refine cW ((pk P1 ho).mono ?_)
 rintro _ h1 ⟨⟨t,rfl,ht⟩,P1⟩
 have P:=c1 _ _ _ P1
 obtain⟨F2,L2,P2,Fk,c2⟩:=P.foc dK
 refine cW ((pk P2 ht).mono ?_)
 rintro _ h2 ⟨⟨d,rfl,hd⟩,P2⟩
 have P:=c2 _ _ _ P2
 refine cW (P.rd.oF λw hw=>fM hd hw λm hm=>fA hm hy λs hs=>(mz hs).go λh3 k x3 hk=>cW ?_)
 obtain⟨F3,L3,P3,hs3,c3⟩:=(P.grow x3).foc dL
 rw[kW] at P3 c3
 refine(kV P3 hr hk).mono ?_
 rintro _ h4 ⟨⟨y2,rfl,VL⟩,P3⟩
 exact cW ⟨⟨o,rfl,ho⟩,c3 _ _ _ P3⟩
theorem IF{x s d:Nat}(hx:FW .f32 x s)(hy:FW .f32 y d):Fl ak 192 #[.float .f32 x,.float .f32 y] .f32 (yu s d):=λh=>by
 refine pd.call (fM hx hy λr1 h1=>(Nw h1).go λh2 r4 x2 h4=>cW (fA h4 Sy λr5 h5=>fM h5 h5 λr6 h6=>fM h6 h6 λr7 h7=>fD c1 h7 λr8 h8=>?_))
 rw[cw h8 c1]
 unfold yu
 dsimp only
 refine br (λk=>⟨⟨_,rfl,?_⟩,x2⟩) λk=>⟨⟨_,rfl,?_⟩,x2⟩
 ·rw[if_pos (show fgt .f32 _ _=true from k)];exact c1
 ·rw[if_neg (by rw[show fgt .f32 _ _=false from k];decide)];exact h8
theorem Kp{x s d:Nat}(hx:FW .f32 x s)(hy:FW .f32 y d):Fl ak 248 #[.float .f32 x,.float .f32 y] .f32 (yu s d):=λh=>by
 refine qo.call (fM hx hy λr1 h1=>(FH h1).go λh2 r4 x2 h4=>cW (fA h4 Sy λr5 h5=>fM h5 h5 λr6 h6=>fM h6 h6 λr7 h7=>fD c1 h7 λr8 h8=>?_))
 rw[cw h8 c1]
 unfold yu
 dsimp only
 refine br (λk=>⟨⟨_,rfl,?_⟩,x2⟩) λk=>⟨⟨_,rfl,?_⟩,x2⟩
 ·rw[if_pos (show fgt .f32 _ _=true from k)];exact c1
 ·rw[if_neg (by rw[show fgt .f32 _ _=false from k];decide)];exact h8
def acK(h0 h':ab)(q:Addr)(F:Fr)(L:List Blk)(x:iU)(a:Nat)(u:Value):Prop:=
 ∃y1 y2 y3,u = .tuple ⟨[.float .f32 y1,.float .f32 y2,.float .f32 y3]⟩∧FW .f32 y1 x.u∧FW .f32 y2 x.v∧FW .f32 y3 (x.d a)∧Pt jI h0 h' q F L { x with fz:=x.e.1 }
theorem Uu{x:iU}(P:Pt jI h0 h q F L x)(hn:x.bT.ok=true)(hb:x.aH.ok=true)(hy:FW .f32 y a):af ak 191 #[.pointer (some q),.float .f32 y] (λu h'=>acK h0 h' q F L x a u) h:=by
 obtain⟨k1,k2,k3,k4,k5⟩:=kO hb
 obtain⟨j1,j2,j3,j4,j5⟩:=kO hn
 refine wD.call (P.rd.oL λb l c S=>P.rd.oI ?_)
 have hl:=S.len
 refine S.idx (by decide) k1 (by omega) λp Rp=>Rp.oF1 λo ho=>?_
 obtain⟨F1,L1,P1,hs1,cl⟩:=P.foc gj
 refine(zw P1 ho).mono ?_
 rintro _ h1 ⟨⟨t,rfl,ht⟩,P1⟩
 have P:=cl _ _ _ P1
 refine cW (P.rd.oF λw hw=>fM hw ht λm hm=>P.rd.oL1 λb l c S=>P.rd.oI ?_)
 have hl:x.bT.ae.length=l:=S.len
 refine S.idx (by decide) j1 (by show x.bT.At<_;omega) λp Rp=>Rp.oF1 λn hn=>fA (kM hm) (kM hn) λs hs=>fS hy hs λd hd=>?_
 exact⟨_,_,_,rfl,kM hm,kM hn,hd,P⟩
theorem PE{x:iU}(P:Pt jI h0 h q F L x)(hn:x.bT.ok=true)(hb:x.aH.ok=true)(hy:FW .f32 y a):af ak 247 #[.pointer (some q),.float .f32 y] (λu h'=>acK h0 h' q F L x a u) h:=by
 refine qy.call (P.rd.lda fE rfl λc1 R1=>(va R1 hb).mono ?_)
 rintro _ h1 ⟨⟨o,rfl,ho⟩,x1⟩
 have P:=P.grow x1
 obtain⟨F1,L1,P1,hs1,cl⟩:=P.foc gj
 refine cW ((pk P1 ho).mono ?_)
 rintro _ h2 ⟨⟨t,rfl,ht⟩,P1⟩
 have P:=cl _ _ _ P1
 have R:=P.rd.fst ik
 refine cW (P.rd.oF λw hw=>R.jc rfl λc2 R2=>⟨fM hw ht λm hm=>dT ((va R2 hn).mono ?_),(va R2 hn).mono ?_⟩)
 ·rintro _ h3 ⟨⟨n,rfl,hn⟩,x3⟩
  exact cW (P.rd.lN (by decide) x3 (fA (kM hm) (kM hn) λs hs=>fS hy hs λd hd=>⟨_,_,_,rfl,kM hm,kM hn,hd,P.grow x3⟩))
 ·rintro _ h3 ⟨⟨n,rfl,hn⟩,x3⟩
  exact cW (P.rd.lN (by decide) x3 (fM hw ht λm hm=>R.pin rfl x3 (fA (kM hm) (kM hn) λs hs=>fS hy hs λd hd=>⟨_,_,_,rfl,kM hm,kM hn,hd,P.grow x3⟩)))
theorem Lu{x:iU}(P:Pt jI h0 h q F L x)(hn:x.bT.ok=true)(hb:x.aH.ok=true)(hy:FW .f32 y a):af ak 121 #[.pointer (some q),.float .f32 y] (λu h'=>VY h0 h' q F L x a u) h:=by
 obtain⟨k1,k2,k3,k4,k5⟩:=kO hb
 refine qC.call (P.rd.oL λb l c S=>P.rd.oI ?_)
 have hl:=S.len
 refine S.idx (by decide) k1 (by omega) λp Rp=>Rp.oF1 λo ho=>(Uu P hn hb hy).mono ?_
 rintro _ h1 ⟨u1,u2,u3,rfl,q1,q2,q3,P⟩
 refine al1 (cW (cW (cW (P.rd.oF λs hs=>(IF hs q3).go λh2 f x2 hf=>cW (fM q3 hf λw hw=>fA q1 hw λm hm=>(ic hm).go λh3 k x3 hk=>cW ?_)))))
 obtain⟨F3,L3,P3,hs3,c3⟩:=(P.grow (x2.trans x3)).foc ik
 rw[kW] at P3 c3
 refine(oK P3 hn hk).mono ?_
 rintro _ h4 ⟨⟨y2,rfl,VL⟩,P3⟩
 have P:=c3 _ _ _ P3
 refine cW (fA q2 hw λm hm=>(ic hm).go λh5 k x5 hk=>cW ?_)
 obtain⟨F4,L4,P4,hs4,c4⟩:=(P.grow x5).foc fE
 refine(oK P4 hb hk).mono ?_
 rintro _ h6 ⟨⟨y2,rfl,VL⟩,P4⟩
 exact cW ⟨⟨o,rfl,ho⟩,c4 _ _ _ P4⟩
theorem PF{x:iU}(P:Pt jI h0 h q F L x)(hn:x.bT.ok=true)(hb:x.aH.ok=true)(hy:FW .f32 y a):af ak 178 #[.pointer (some q),.float .f32 y] (λu h'=>VY h0 h' q F L x a u) h:=by
 refine qz.call (P.rd.lda fE rfl λc1 R1=>(va R1 hb).mono ?_)
 rintro _ h1 ⟨⟨o,rfl,ho⟩,x1⟩
 refine cW ((PE (P.grow x1) hn hb hy).mono ?_)
 rintro _ h1 ⟨u1,u2,u3,rfl,q1,q2,q3,P⟩
 refine al1 (cW (cW (cW (P.rd.oF λs hs=>(Kp hs q3).go λh2 f x2 hf=>cW (fM q3 hf λw hw=>fA q1 hw λm hm=>(mz hm).go λh3 k x3 hk=>cW ?_)))))
 obtain⟨F3,L3,P3,hs3,c3⟩:=(P.grow (x2.trans x3)).foc ik
 rw[kW] at P3 c3
 refine(kV P3 hn hk).mono ?_
 rintro _ h4 ⟨⟨y2,rfl,VL⟩,P3⟩
 have P:=c3 _ _ _ P3
 refine cW (fA q2 hw λm hm=>(mz hm).go λh5 k x5 hk=>cW ?_)
 obtain⟨F4,L4,P4,hs4,c4⟩:=(P.grow x5).foc fE
 refine(kV P4 hb hk).mono ?_
 rintro _ h6 ⟨⟨y2,rfl,VL⟩,P4⟩
 exact cW ⟨⟨o,rfl,ho⟩,c4 _ _ _ P4⟩
end
end Go.Sx
namespace Go.Sx
open Go.Proofs
set_option maxRecDepth 100000
set_option maxHeartbeats 1000000
theorem ZF{r:aY}{j:Nat}(hj:j<r.ae.length)(e:isZ r.ae[j]! = false):r.zero=false:=by
 unfold aY.zero
 rw[List.all_eq_false]
 exact⟨_,iL hj,by unfold isZ at e;rw[e];simp⟩
theorem ZG{r:aY}(h:∀j,j<r.ae.length->isZ r.ae[j]! = true):r.zero=true:=by
 unfold aY.zero
 rw[lI]
 exact all_true (f:=λj=>isZ r.ae[j]!) λj hj'=>h j hj'
def PR(h:ab)(ps:List Addr)(rs:List aY):Prop:=ps.length=rs.length∧∀i,i<ps.length->RdP bQ h ps[i]! rs[i]! ∧ rs[i]!.ok=true
theorem PR.ext{h h':ab}{ps:List Addr}{rs:List aY}(H:PR h ps rs)(x:Ext h h'):PR h' ps rs:=⟨H.1,λi hi=>⟨(H.2 i hi).1.ext x,(H.2 i hi).2⟩⟩
theorem SG{α:Type}[Inhabited α]{l m:List α}{i:Nat}:(l++m)[i]! = if i<l.length then l[i]! else m[i-l.length]!:=by
 simp only[List.getElem!_eq_getElem?_getD]
 split
 ·next h=>rw[List.getElem?_append_left h]
 ·next h=>rw[List.getElem?_append_right (by omega)]
theorem PR.amW{h:ab}{ps:List Addr}{rs:List aY}{p q:Addr}{r s:aY}(H:PR h ps rs)(h1:RdP bQ h p r)(o1:r.ok=true)(h2:RdP bQ h q s)(o2:s.ok=true):PR h (ps++[p,q]) (rs++[r,s]):=by
 obtain⟨hl,H⟩:=H
 refine⟨by simp[hl],λi hi=>?_⟩
 rw[SG,SG,← hl]
 by_cases h0:i<ps.length
 ·rw[if_pos h0,if_pos h0];exact H i h0
 ·rw[if_neg h0,if_neg h0]
  have Xp:i-ps.length=0∨i-ps.length=1:=by simp only[List.length_append,List.length_cons,List.length_nil] at hi;omega
  rcases Xp with e | e
  ·rw[e];exact⟨h1,o1⟩
  ·rw[e];exact⟨h2,o2⟩
def Se(a b:List aY):Nat->List aY
 | 0=>[]
 | n+1=>Se a b n++[a[n]!,b[n]!]
theorem Pf(a b:List aY)(p:aY->Bool):∀n,n≤a.length->n≤b.length->(Se a b n).all p=((a.take n).all p&&(b.take n).all p)
 | 0,_,_=>by simp[Se]
 | n+1,h1,h2=>by
  rw[Se,List.all_append,Pf a b p n (by omega) (by omega),vk (l:=a) (by omega),vk (l:=b) (by omega),List.all_append,List.all_append]
  simp only[List.all_cons,List.all_nil,Bool.and_true]
  cases (a.take n).all p <;> cases (b.take n).all p <;> simp
section
variable {h0 h:ab}{q:Addr}{F:Fr}{L:List Blk}{y a:Nat}
theorem Nx{x:bK}(R:RdP bf h q x):af ak 122 #[.pointer (some q)] (λu h'=>u = .bool x.nK∧Ext h h') h:=by
 have:=cu
 have k:x.nK=(x.Loop.zero&&x.kS.still&&x.fz.still):=rfl
 have A:∀{hh:ab},Ext h hh->RdP bf hh q x:=λe=>R.ext e
 refine fe.call (loop (λy hh=>∃n:Nat,y=(q,(n:Int))∧n≤x.Loop.ae.length∧hh=h∧∀i,i<n->isZ x.Loop.ae[i]! = true) (λy=>(x.Loop.ae.length-y.2).toNat) ⟨0,rfl,by omega,rfl,λi hi=>by omega⟩ ?_)
 rintro y hh ⟨n,rfl,hn,rfl,hz⟩
 refine R.oL1 λb l c S=>?_
 have hl:x.Loop.ae.length=l:=S.len
 have s1:=S.2.1
 have s2:=S.2.2.1
 refine brd (λhc=>?_) λhc=>?_
 ·refine R.oL1 λb2 l2 c2 S2=>?_
  have hl2:x.Loop.ae.length=l2:=S2.len
  refine S2.idx (by decide) (by omega) (by omega) λp Rp=>Rp.oF1 λy hy=>?_
  rw[agm hy]
  refine br (λhb=>⟨?_,Ext.refl _⟩) λhb=>⟨⟨n+1,by rw[ag (by omega)],by omega,rfl,λi hi=>?_⟩,by rw[ag (by omega)];show(((x.Loop.ae.length:Nat):Int)-((n+1:Nat):Int)).toNat<(((x.Loop.ae.length:Nat):Int)-((n:Nat):Int)).toNat;omega⟩
  ·rw[k,ZF (r:=x.Loop) (j:=n) (by omega) (nt hb)];rfl
  ·by_cases e:i=n
   ·subst e;exact nf hb
   ·exact hz i (by omega)
 ·have z:x.Loop.zero=true:=ZG λj hj=>hz j (by omega)
  refine goX (vM (R.foc dM)) λh1 x1=>bt (br (λhb=>goX (vM ((A x1).foc dK)) λh2 x2=>bt ⟨?_,x1.trans x2⟩) λhb=>⟨?_,x1⟩)
  ·rw[k,z,show x.kS.still=true from hb];rfl
  ·rw[k,z,show x.kS.still=false from hb];rfl
theorem zs{cs:Array Value}{r:aY}(R0:bQ.rd h cs.toList r)(hr:r.ok=true):af ak 179 #[.agg cs] (λu h'=>u = .bool r.zero∧Ext h h') h:=by
 refine nh.call (gD R0 λg h1 x1 R=>R.jc rfl λc2 R2=>R.oL2 λb l c S=>goX (Ks R2 hr) λh2 x2=>cN (R.IT (by decide) x2 (goX (iK _ _ _ _) λh3 x3=>cN ⟨?_,x1.trans (x2.trans x3)⟩)))
 have hl:r.ae.length=l:=S.len
 have:=RH hr
 congr 1
 rw[Bool.eq_iff_iff,← this,beq_iff_eq]
 omega
theorem BB{cs:Array Value}{x:bK}(R0:bf.rd h cs.toList x)(hr:x.Loop.ok=true):af ak 173 #[.agg cs] (λu h'=>u = .bool x.nK∧Ext h h') h:=by
 have k:x.nK=(x.Loop.zero&&x.kS.still&&x.fz.still):=rfl
 refine lp.call (gD R0 λg h1 x1 R=>R.jH dL rfl λc2 R2=>goX (zs R2 hr) λh2 x2=>bt (br (λb1=>?_) λb1=>⟨by rw[k,b1];rfl,x1.trans x2⟩))
 refine(R.ext x2).jH dM rfl λc3 R3=>goX (lF R3) λh3 x3=>bt (br (λb2=>?_) λb2=>⟨by rw[k,b1,b2];rfl,x1.trans (x2.trans x3)⟩)
 exact(R.ext (x2.trans x3)).jH dK rfl λc4 R4=>goX (lF R4) λh4 x4=>bt ⟨by rw[k,b1,b2];rfl,x1.trans (x2.trans (x3.trans x4))⟩
theorem Nz{x:cp}(R:RdP dX h q x):af ak 123 #[.pointer (some q)] (λu h'=>u = .bool x.nK∧Ext h h') h:=by
 have k:x.nK=(x.aW.all aY.zero&&x.Left.all aY.zero&&x.End.still):=rfl
 refine sS.call (R.oL1 λb l c S=>goX (Dt S) λh1 x1=>bt (br (λb1=>?_) λb1=>⟨by rw[k,b1];rfl,x1⟩))
 refine(R.ext x1).oL λb l c S=>goX (Dt S) λh2 x2=>bt (br (λb2=>?_) λb2=>⟨by rw[k,b1,b2];rfl,x1.trans x2⟩)
 exact goX (vM ((R.ext (x1.trans x2)).foc gK)) λh3 x3=>bt ⟨by rw[k,b1,b2];rfl,x1.trans (x2.trans x3)⟩
theorem I4{cs:Array Value}{x:iU}(R0:jI.rd h cs.toList x)(hx:x.ok=true):af ak 124 #[.agg cs] (λu h'=>u = .tuple ⟨[.bool x.nK,.int .i64 (0:Int)]⟩∧Ext h h') h:=by
 have k:x.nK=([x.bT,x.aH].all aY.zero&&x.fz.still):=by unfold iU.nK;simp
 refine oY.call (gD R0 λg h1 x1 R=>goX (XH R) λh2 x2=>bt (brN (λe=>by rw[hx] at e;cases e) λ_=>?_))
 have R:=R.ext x2
 have z0:(iT 2 bQ).rd h2 [Value.slice none 0 0,Value.int .i64 (0:Int),Value.slice none 0 0,Value.int .i64 (0:Int)] [wJ,wJ]:=⟨rfl,[Value.slice none 0 0,Value.int .i64 (0:Int)],[Value.slice none 0 0,Value.int .i64 (0:Int)],rfl,bQ.look pV (Mem.start h2) (List.nil_sublist _),[Value.slice none 0 0,Value.int .i64 (0:Int)],[],rfl,bQ.look pV (Mem.start h2) (List.nil_sublist _),rfl⟩
 refine(R.fst ik).jc rfl λc1 R1=>R.jH fE rfl λc2 R2=>siz (rsz R1 rfl) (siz (rsz R2 rfl) ?_)
 have z1:=zG (put:=λl b=>l.set 0 b) (get:=λl=>l[0]!) z0 (λR=>F9 (i:=0) (by decide) R) R1
 have z2:=zG (put:=λl b=>l.set 1 b) (get:=λl=>l[1]!) z1 (λR=>F9 (i:=1) (by decide) R) R2
 refine H0 (r:=bQ) (n:=2) (xs:=[x.bT,x.aH]) z2 (by decide) λg h3 x3 S=>goX (Dt S) λh4 x4=>bt ?_
 have X:=(x1.trans x2).trans (x3.trans x4)
 refine br (λb1=>?_) λb1=>⟨by rw[k,b1];rfl,X⟩
 exact goX (vM ((R.ext (x3.trans x4)).WJ gj)) λh5 x5=>bt ⟨by rw[k,b1];rfl,X.trans x5⟩
theorem atv{x:cp}(R:RdP dX h q x)(Ru:x.iW):af ak 176 #[.pointer (some q)] (λu h'=>∃b l c B ps,u = .slice b l c∧SlO 268 rP B b l c ps∧Mem h h' B∧PR h ps (Se x.aW x.Left x.aW.length)) h:=by
 have n1:=Ru.n1
 have n3:=Ru.n3
 have nl:=Ru.ll
 have hm:(7:Nat)≤maxLen:=by decide
 obtain⟨v,e1,b4,l4,c4,e2,S4⟩:=R.cell JP.f rfl
 obtain rfl:v = .slice b4 l4 c4:=by simpa using e2
 rw[kW] at e1
 obtain⟨v,e3,b6,l6,c6,e2,S6⟩:=R.cell JQ.f rfl
 obtain rfl:v = .slice b6 l6 c6:=by simpa using e2
 have e4:x.aW.length=l4:=S4.len
 have e6:x.Left.length=l6:=S6.len
 refine dP.call (o_l e1 ?_)
 refine loop (λy hh=>∃(n:Nat) (b:Option Addr) (c:Nat) (B:List Blk) (ps:List Addr),y=(q,b,2*n,c,(l4:Int),(n:Int))∧n≤l4∧SlO 268 rP B b (2*n) c ps∧Mem h hh B∧PR h ps (Se x.aW x.Left n)) (λy=>(l4-y.2.2.2.2.2).toNat)
  ⟨0,_,_,_,[],rfl,by omega,SlO.nil,Mem.start h,rfl,λi hi=>by simp at hi⟩ ?_
 rintro y hh ⟨n,b,c,B,ps,rfl,hn,O,M,H⟩
 refine brd (λhc=>?_) λhc=>?_
 ·refine o_l (M.ext.cell e1) (S4.idx pz (by omega) (by omega) λp5 R5=>o_l (M.ext.cell e3) (S6.idx pz (by omega) (by omega) λp7 R7=>M.alc λg h1 x1 M1=>?_))
  rw[Int.toNat_natCast] at R5 R7
  have M2:Mem h h1 (B++([]++[(g,268,⟨[.pointer (some (p5.add (n*2))),.pointer (some (p7.add (n*2)))]⟩)])):=M1.cnt λp=>by simp only[Int.toNat_natCast,List.append_eq,bN,bu,bZ];omega
  refine O.app (Bn:=[]) (news:=[.pointer (some (p5.add (n*2))),.pointer (some (p7.add (n*2)))]) (ys:=[p5.add (n*2),p7.add (n*2)]) CZ M2 rfl ⟨[],[],[_],[_],rfl,rfl,⟨rfl,rfl⟩,[],[],[_],[],rfl,rfl,⟨rfl,rfl⟩,rfl,rfl⟩ (λj v hj=>?_) (by omega) (by omega) λb' c' h' B' O' M'=>lR ?_
  ·rw[dQ,Nat.zero_add,M1.cell .here,← hj,List.getElem?_toArray];rfl
  exact⟨⟨n+1,b',c',B',_,by rw[ag (by omega)];rfl,by omega,O',M'.cnt (λp=>by simp only[bN,bu,bZ];omega),H.amW R5 (Ru.r _ (iL (by omega))) R7 (Ru.l _ (iL (by omega)))⟩,by rw[ag (by omega)];show _<_;simp;omega⟩
 ·obtain rfl:n=l4:=by omega
  rw[e4]
  exact⟨b,_,c,B,ps,rfl,O,M,H⟩
theorem PQ{b:Option Addr}{l c:Nat}{ps:List Addr}{rs:List aY}(S:SlR rP h b l c ps)(H:PR h ps rs):af ak 175 #[.slice b l c] (λu h'=>u = .bool (rs.all aY.zero)∧Ext h h') h:=by
 have hl:=S.len
 have s1:=S.2.1
 have s2:=S.2.2.1
 have:=cu
 have hlr:=H.1
 have I:af ak 289 #[.slice b l c,.func (.func 246) #[] #[]] (λu h'=>u = .int .i64 (jL (λr:aY=>!r.zero) rs)∧Ext h h') h:=by
  refine bc.call ?_
  refine loop (λx hh=>∃n:Nat,x=(b,l,c,.func (.func 246) #[] #[],(l:Int),(n:Int))∧n≤l∧Ext h hh∧∀i,i<n->(!rs[i]!.zero)=false) (λx=>(l-x.2.2.2.2.2).toNat) ⟨0,rfl,by omega,Ext.refl _,λi hi=>by omega⟩ ?_
  rintro x hh ⟨n,rfl,hn,X,hf⟩
  refine brd (λhc=>?_) λhc=>⟨by rw[qZ λi hi=>hf i (by omega)],X⟩
  refine(S.ext X).idx (by decide) (by omega) (by omega) λa Ra=>Ra.oP1 ?_
  rw[Int.toNat_natCast]
  obtain⟨Rr,ok⟩:=H.2 n (by omega)
  show af ak 246 #[.pointer (some ps[n]!)] _ hh
  refine oH.call ((Rr.ext X).jc rfl λcs Rc=>goE X (zs Rc ok) λh1 x1=>bt (bt (br (λhb=>?_) λhb=>?_)))
  ·exact⟨by rw[ra (by omega) hf hb],x1⟩
  ·refine⟨⟨n+1,by rw[ag (by omega)],by omega,x1,λi hi=>?_⟩,by rw[ag (by omega)];show _<_;simp;omega⟩
   by_cases e:i=n
   ·subst e;exact hb
   ·exact hf i (by omega)
 refine ua.call (goX (eX.call (goX I λh1 x1=>cN ⟨rfl,x1⟩)) λh2 x2=>bt ⟨?_,x2⟩)
 congr 1
 rw[E8,List.any_eq_not_all_not]
 simp
theorem IU{x:cp}(Ru:x.iW):(Se x.aW x.Left x.aW.length).all aY.zero=(x.aW.all aY.zero&&x.Left.all aY.zero):=by
 rw[Pf _ _ _ _ (Nat.le_refl _) (by rw[Ru.ll];exact Nat.le_refl _),List.take_length,← Ru.ll,List.take_length]
end
def aK.sound(k:Int)(v:aK):aK×Nat:=
 if k=1 then({ v with String:=(v.String.step 0).1 },(v.String.step 0).2)
 else if k=2 then({ v with aI:=(v.aI.step v.gR).1 },(v.aI.step v.gR).2)
 else({ v with bY:=(v.bY.step v.gR).1 },(v.bY.step v.gR).2)
def aK.quiet(k:Int)(v:aK):Bool:=if k=1 then v.String.nK else if k=2 then v.aI.nK else v.bY.nK
def fB(k:Int)(v:aK):Prop:=if k=1 then v.String.Loop.ok=true else if k=2 then v.aI.iW else v.bY.ok=true
theorem LY{k:Int}(v:aK)(h1:¬k=1)(h2:¬k=2):v.sound k=({ v with bY:=(v.bY.step v.gR).1 },(v.bY.step v.gR).2):=by
 unfold aK.sound;rw[if_neg h1,if_neg h2]
theorem wm(k:Int)(v:aK):(v.sound k).1.Gone=v.Gone∧(v.sound k).1.aT=v.aT∧(v.sound k).1.aq=v.aq:=by
 unfold aK.sound
 split
 ·exact⟨rfl,rfl,rfl⟩
 ·split <;> exact⟨rfl,rfl,rfl⟩
theorem Nu(a:Nat):fin (kept a)=true:=by
 unfold kept
 split
 ·next h=>
  unfold flush
  split
  ·decide +kernel
  ·exact h
 ·decide +kernel
theorem Oy{r:aY}{a:Nat}(h:r.okf=true):(r.push (kept a)).okf=true:=by
 unfold aY.okf at *
 rw[Bool.and_eq_true] at *
 refine⟨(Fq h.1).1,?_⟩
 have h2:=h.2
 unfold pW at *
 rw[List.all_eq_true] at *
 intro x hx
 rcases List.mem_or_eq_of_mem_set hx with hx | rfl
 ·exact h2 x hx
 ·exact Nu a
theorem Vs{l:List Nat}{n:Int}{a:Nat}(h:used l n=true)(hn:1≤n):used (l.set 0 (kept a)) n=true:=by
 unfold used at *
 rw[List.all_eq_true] at *
 intro i hi
 rw[List.mem_range,List.length_set] at hi
 have:=h i (List.mem_range.2 hi)
 rw[Bool.and_eq_true] at *
 by_cases e:i=0
 ·subst e
  rw[getElem!_pos _ 0 (by rw[List.length_set];exact hi),List.getElem_set_self]
  exact⟨Nu a,by rw[decide_eq_true (by omega)];rfl⟩
 ·rw[getElem!_pos _ i (by rw[List.length_set];exact hi),List.getElem_set_ne (by omega),← getElem!_pos l i hi]
  exact this
theorem L5{f:cz}{a:Nat}(h:(f.ok&&f.Kind==1)=true):((f.step a).1.ok&&(f.step a).1.Kind==1)=true:=by
 rw[Bool.and_eq_true,beq_iff_eq] at h
 rw[Zh h.2]
 have h1:=h.1
 unfold cz.ok at *
 simp only[Bool.and_eq_true] at *
 exact⟨⟨h1.1,Vs h1.2 (by unfold o6;rw[if_pos (.inl h.2)];decide)⟩,by rw[h.2];rfl⟩
theorem MJ{x:iU}{a:Nat}(h:x.ok=true):(x.step a).1.ok=true:=by
 unfold iU.ok at *
 rw[Bool.and_eq_true,Bool.and_eq_true,Bool.and_eq_true] at *
 obtain⟨⟨⟨h1,h2⟩,h3⟩,h4⟩:=h
 exact⟨⟨⟨Oy h1,Oy h2⟩,L5 h3⟩,h4⟩
theorem rD{x:iU}(h:x.ok=true):x.bT.ok=true∧x.aH.ok=true:=by
 unfold iU.ok aY.okf at h
 simp only[Bool.and_eq_true] at h
 exact⟨h.1.1.1.1,h.1.1.2.1⟩
theorem wk{k:Int}{v:aK}(h:fB k v):fB k (v.sound k).1:=by
 unfold fB at *
 by_cases h1:k=1
 ·subst h1;exact(Fq h).1
 rw[if_neg h1] at *
 by_cases h2:k=2
 ·subst h2;exact Rz h _
 rw[if_neg h2] at *
 rw[LY v h1 h2]
 exact MJ h
section
variable {h0 h:ab}{q:Addr}{F:Fr}{L:List Blk}{v:aK}{k:Int}
def Wh(h0 h':ab)(q:Addr)(F:Fr)(L:List Blk)(k:Int)(v:aK)(u:Value):Prop:=(∃y,u = .float .f32 y∧FW .f32 y (v.sound k).2)∧Pt aQ h0 h' q F L (v.sound k).1
theorem Qw(P:Pt aQ h0 h q F L v)(B:fB k v):af ak 75 #[.int .i64 k,.pointer (some q)] (λu h'=>Wh h0 h' q F L k v u) h:=by
 unfold fB at B
 refine uz.call (br (λk1=>?_) λk1=>br (λk2=>?_) λk2=>?_)
 ·obtain rfl:k=1:=by simpa using k1
  obtain⟨F1,L1,P1,hs,close⟩:=P.foc bO
  refine(Ur P1 B fw0).mono ?_
  rintro _ h1 ⟨⟨y,rfl,hy⟩,P1⟩
  exact cW ⟨⟨y,rfl,hy⟩,close _ _ _ P1⟩
 ·obtain rfl:k=2:=by simpa using k2
  refine P.rd.oF λd hd=>?_
  obtain⟨F1,L1,P1,hs,close⟩:=P.foc cE
  refine(Ut P1 B hd).mono ?_
  rintro _ h1 ⟨⟨y,rfl,hy⟩,P1⟩
  exact cW ⟨⟨y,rfl,hy⟩,close _ _ _ P1⟩
 ·have n1:¬k=1:=by simpa using k1
  have n2:¬k=2:=by simpa using k2
  rw[if_neg n1,if_neg n2] at B
  unfold Wh
  rw[LY v n1 n2]
  refine P.rd.oF λd hd=>?_
  obtain⟨F1,L1,P1,hs,close⟩:=P.foc cP
  refine(Lu P1 (rD B).1 (rD B).2 hd).mono ?_
  rintro _ h1 ⟨⟨y,rfl,hy⟩,P1⟩
  exact cW ⟨⟨y,rfl,hy⟩,close _ _ _ P1⟩
theorem Qv(R:RdP aQ h q v)(B:fB k v):af ak 76 #[.int .i64 k,.pointer (some q)] (λu h'=>u = .bool (v.quiet k)∧Ext h h') h:=by
 unfold fB at B
 refine uy.call (br (λk1=>?_) λk1=>br (λk2=>?_) λk2=>?_)
 ·obtain rfl:k=1:=by simpa using k1
  exact goX (Nx (R.foc bO)) λh1 x1=>bt ⟨rfl,x1⟩
 ·obtain rfl:k=2:=by simpa using k2
  exact goX (Nz (R.foc cE)) λh1 x1=>bt ⟨rfl,x1⟩
 ·have n1:¬k=1:=by simpa using k1
  have n2:¬k=2:=by simpa using k2
  rw[if_neg n1,if_neg n2] at B
  refine R.lda cP rfl λcs Rc=>goX (I4 Rc B) λh1 x1=>jJ (bt (cN ⟨?_,x1⟩))
  unfold aK.quiet;rw[if_neg n1,if_neg n2]
def Wg(h0 h':ab)(q:Addr)(F:Fr)(L:List Blk)(k:Int)(v:aK)(u:Value):Prop:=(∃y,u = .tuple ⟨[.float .f32 y,.bool (v.Gone&&(v.sound k).1.quiet k)]⟩∧FW .f32 y (v.sound k).2)∧Pt aQ h0 h' q F L (v.sound k).1
theorem Kv(P:Pt aQ h0 h q F L v)(B:fB k v):af ak 115 #[.pointer (some q),.int .i64 k] (λu h'=>Wg h0 h' q F L k v u) h:=by
 have B':=wk B
 unfold fB at B B'
 have hG:=(wm k v).1
 refine nG.call (br (λk1=>?_) λk1=>br (λk2=>?_) λk2=>?_)
 ·obtain rfl:k=1:=by simpa using k1
  obtain⟨F1,L1,P1,hs,close⟩:=P.foc bO
  refine(Ia P1 B fw0).mono ?_
  rintro _ h1 ⟨⟨y,rfl,hy⟩,P1⟩
  have P:Pt aQ h0 h1 q F L (v.sound 1).1:=close _ _ _ P1
  refine cW (P.rd.oB (br (λhb=>?_) λhb=>?_))
  ·have hb:v.Gone=true:=hb
   exact P.rd.lda bO rfl λcs Rc=>goX (BB Rc B') λh2 x2=>bt ⟨⟨y,by rw[hb];rfl,hy⟩,P.grow x2⟩
  ·have hb:v.Gone=false:=hb
   exact⟨⟨y,by rw[hb];rfl,hy⟩,P⟩
 ·obtain rfl:k=2:=by simpa using k2
  refine P.rd.oF λd hd=>?_
  obtain⟨F1,L1,P1,hs,close⟩:=P.foc cE
  refine(Mx P1 B hd).mono ?_
  rintro _ h1 ⟨⟨y,rfl,hy⟩,P1⟩
  have P:Pt aQ h0 h1 q F L (v.sound 2).1:=close _ _ _ P1
  refine cW (P.rd.oB (br (λhb=>?_) λhb=>?_))
  ·have hb:v.Gone=true:=hb
   have Ru:(v.sound 2).1.aI.iW:=B'
   refine(atv (P.rd.foc cE) Ru).mono ?_
   rintro _ h2 ⟨b,l,c,Bp,ps,rfl,O,N,H⟩
   refine lR (goX (PQ (O.look N (List.Sublist.refl _)) (H.ext N.ext)) λh3 x3=>bt ?_)
   have P:=P.grow (N.ext.trans x3)
   have hq:(v.sound 2).1.quiet 2=((v.sound 2).1.aI.aW.all aY.zero&&(v.sound 2).1.aI.Left.all aY.zero&&(v.sound 2).1.aI.End.still):=rfl
   rw[IU Ru]
   refine br (λhz=>P.rd.lda ((cE.trans gK).at rfl) rfl λcs Rc=>goX (lF Rc) λh4 x4=>bt ⟨⟨y,?_,hy⟩,P.grow x4⟩) λhz=>⟨⟨y,?_,hy⟩,P⟩
   ·rw[hb,hq,hz];rfl
   ·rw[hb,hq,hz];rfl
  ·have hb:v.Gone=false:=hb
   exact⟨⟨y,by rw[hb];rfl,hy⟩,P⟩
 ·have n1:¬k=1:=by simpa using k1
  have n2:¬k=2:=by simpa using k2
  rw[if_neg n1,if_neg n2] at B B'
  unfold Wg
  have hq:(v.sound k).1.quiet k=((v.sound k).1.bY.bT.zero&&(v.sound k).1.bY.aH.zero&&(v.sound k).1.bY.fz.still):=by unfold aK.quiet;rw[if_neg n1,if_neg n2];rfl
  have ajz:=LY v n1 n2
  generalize v.sound k=w at *
  refine P.rd.oF λd hd=>?_
  obtain⟨F1,L1,P1,hs,close⟩:=P.foc cP
  refine(PF P1 (rD B).1 (rD B).2 hd).mono ?_
  rintro _ h1 ⟨⟨y,rfl,hy⟩,P1⟩
  have P:Pt aQ h0 h1 q F L w.1:=by rw[ajz];exact close _ _ _ P1
  have hy:FW .f32 y w.2:=by rw[ajz];exact hy
  obtain⟨o1,o2⟩:=rD B'
  refine cW (P.rd.oB (br (λhb=>?_) λhb=>?_))
  ·rw[hG] at hb
   refine P.rd.lda (Foc.at (cP.trans ik) rfl) rfl λc1 R1=>goX (zs R1 o1) λh2 x2=>bt (br (λz1=>?_) λz1=>⟨⟨y,by rw[hb,hq,z1];rfl,hy⟩,P.grow x2⟩)
   refine(P.grow x2).rd.lda (Foc.at (cP.trans fE) rfl) rfl λc1 R1=>goX (zs R1 o2) λh3 x3=>bt (br (λz2=>?_) λz2=>⟨⟨y,by rw[hb,hq,z1,z2];rfl,hy⟩,P.grow (x2.trans x3)⟩)
   exact(P.grow (x2.trans x3)).rd.lda (Foc.at (cP.trans gj) rfl) rfl λc1 R1=>goX (lF R1) λh4 x4=>bt ⟨⟨y,by rw[hb,hq,z1,z2];rfl,hy⟩,P.grow (x2.trans (x3.trans x4))⟩
  ·rw[hG] at hb
   exact⟨⟨y,by rw[hb];rfl,hy⟩,P⟩
end
end Go.Sx
namespace Go.Sx
section
variable {α β:Type}{r:Rep α}{h0 h:ab}{q:Addr}{F:Fr}{L:List Blk}{a:α}{off:Nat}
theorem Pt.aie{p:Rep β}{get:α->β}{put:α->β->α}(P:Pt r h0 h q F L a)(Fc:Foc r p off get put):∃F' C,Pt p h0 h (q.add off) F' (C++L) (get a)∧∀lS h' L' b',Pt p lS h' (q.add off) F' (C++L') b'->Pt r lS h' q F L' (put a b')∧∀k,(k<off∨off+p.sz≤k)->cell h' (q.add k)=cell h (q.add k):=by
 obtain⟨rfl,iS,B,M,O⟩:=P
 obtain⟨pre,md,post,B1,Bm,B2,e1,rfl,rfl,O1,O2⟩:=Fc.fo O
 refine⟨⟨F.g,F.T,F.pre++pre,post++F.post⟩,B1++B2,⟨?_,md,Bm,?_,O1⟩,λlS h' L' b' P'=>?_⟩
 ·rw[dQ];simp[e1]
 ·have:=M.perm (m5 _ _ _ _ _)
  simpa using this
 ·obtain⟨_,vY,B',M',O'⟩:=P'
  have M'':Mem lS h' ((F.g,F.T,⟨(F.pre++pre)++(vY++(post++F.post))⟩) :: (B'++(B1++(B2++L')))):=by simpa using M'
  have M2:=M''.perm (m5 _ _ _ _ _).symm
  refine⟨⟨rfl,pre++(vY++post),B1++(B'++B2),by simpa using M2,O2 B' vY b' O'⟩,λk hk=>?_⟩
  have l1:=p.jX O1
  have l2:=p.jX O'
  rw[dQ,M.cell .here,M2.cell .here]
  simp only[List.getElem?_toArray,List.append_assoc]
  rw[List.getElem?_append_right (Nat.le_add_right _ _),List.getElem?_append_right (Nat.le_add_right _ _)]
  rw[Nat.add_sub_cancel_left]
  rcases hk with hk | hk
  ·rw[List.getElem?_append_left (by omega),List.getElem?_append_left (by omega)]
  ·rw[List.getElem?_append_right (l₁:=pre) (by omega),List.getElem?_append_right (l₁:=pre) (by omega),List.getElem?_append_right (l₁:=vY) (by omega),List.getElem?_append_right (l₁:=md) (by omega),l1,l2]
theorem SlO.JA[Inhabited β]{e:Nat}{s:Rep β}{B:List Blk}{b:Option Addr}{l c i:Nat}{iD:List β}(S:SlO e s B b l c iD)(hi:i<l):
  ∃a0 F' C,b=some a0∧(∀h0 h L,Mem h0 h (B++L)->Pt s h0 h (a0.add (i*s.sz)) F' (C++L) iD[i]!)∧∀lS h' L' x,Pt s lS h' (a0.add (i*s.sz)) F' (C++L') x->∃B',SlO e s B' b l c (iD.set i x)∧Mem lS h' (B'++L'):=by
 obtain⟨h1,ws,B1,B2,rfl,O,h3⟩:=S
 rcases O.2 with⟨_,_,h4,_⟩ | ⟨g,cs,rfl,rfl,h5,h6,h7,h8⟩
 ·omega
 obtain⟨pre,iS,post,C1,Cm,C2,e1,e2,rfl,O1,O2⟩:=h3.at (i:=i) (by omega)
 have hc:cs=⟨pre++(iS++(post++cs.toList.drop (l*s.sz)))⟩:=by
  have:cs.toList=ws++cs.toList.drop (l*s.sz):=by rw[← h8,List.take_append_drop]
  rw[e2] at this
  cases cs;simpa using this
 refine⟨_,⟨g,e,pre,post++cs.toList.drop (l*s.sz)⟩,C1++C2,rfl,λh0 h L M=>⟨?_,iS,Cm,?_,by rw[getElem!_pos _ i (by omega)];exact O1⟩,λlS h' L' x P'=>?_⟩
 ·rw[dQ];simp[e1]
 ·rw[← hc]
  have:Mem h0 h ((g,e,cs) :: ((C1++(Cm++C2))++L)):=by simpa using M
  have:=this.perm (m5 _ _ _ _ _)
  simpa using this
 ·obtain⟨_,vY,B',M',O'⟩:=P'
  have hm:=s.jX O'
  have hm0:=s.jX O1
  have hws:ws.length=l*s.sz:=O.1
  have hlen:(pre++(vY++post)).length=l*s.sz:=by rw[← hws,e2];simp[hm,hm0]
  refine⟨(g,e,⟨pre++(vY++(post++cs.toList.drop (l*s.sz)))⟩) :: (C1++(B'++C2)),⟨by simpa using h1,pre++(vY++post),[_],_,rfl,⟨hlen,.inr ⟨g,_,rfl,rfl,h5,h6,?_,?_⟩⟩,O2 _ _ _ O'⟩,?_⟩
  ·have:cs.toList.length=c*s.sz:=by simpa using h7
   have hle:=Nat.mul_le_mul_right s.sz h5
   simp only[List.size_toArray]
   have:(pre++(vY++(post++cs.toList.drop (l*s.sz)))).length=(pre++(vY++post)).length+(cs.toList.drop (l*s.sz)).length:=by simp;omega
   rw[this,hlen,List.length_drop];omega
  ·show List.take _ (pre++(vY++(post++_)))=_
   have e5:pre++(vY++(post++cs.toList.drop (l*s.sz)))=(pre++(vY++post))++cs.toList.drop (l*s.sz):=by simp
   rw[e5,← hlen]
   exact List.take_left
  ·have M'':Mem lS h' ((g,e,⟨pre++(vY++(post++cs.toList.drop (l*s.sz)))⟩) :: (B'++(C1++(C2++L')))):=by simpa using M'
   have:=M''.perm (m5 _ _ _ _ _).symm
   simpa using this
theorem Pt.JA[Inhabited β]{e:Nat}{s:Rep β}{get:α->List β}{put:α->List β->α}{i l c:Nat}{b:Option Addr}(P:Pt r h0 h q F L a)[Fc:cJ r off (rSl e s) get put](hb:cell h (q.add off)=some (.slice b l c))(hi:i<l):
  ∃a0 F' C,b=some a0∧Pt s h0 h (a0.add (i*s.sz)) F' (C++L) (get a)[i]! ∧ ∀lS h' L' x,Pt s lS h' (a0.add (i*s.sz)) F' (C++L') x->Pt r lS h' q F L' (put a ((get a).set i x))∧∀k,cell h' (q.add k)=cell h (q.add k):=by
 obtain⟨F1,C1,P1,close⟩:=P.aie Fc.f
 obtain⟨eq,iS,B,M,b',l',c',rfl,S⟩:=P1
 have e0:cell h (q.add off)=some (.slice b' l' c'):=by
  rw[eq,M.cell .here];simp
 rw[hb] at e0
 cases e0
 obtain⟨a0,F2,C2,rfl,P2,FO⟩:=S.JA hi
 refine⟨a0,F2,C2++((F1.g,F1.T,⟨F1.pre++([.slice (some a0) l c]++F1.post)⟩) :: C1),rfl,?_,λlS h' L' x P'=>?_⟩
 ·have:=P2 h0 h ((F1.g,F1.T,⟨F1.pre++([.slice (some a0) l c]++F1.post)⟩) :: (C1++L)) (M.perm List.perm_middle.symm)
  simpa using this
 ·have P'':Pt s lS h' (a0.add (i*s.sz)) F2 (C2++((F1.g,F1.T,⟨F1.pre++([.slice (some a0) l c]++F1.post)⟩) :: (C1++L'))) x:=by simpa using P'
  obtain⟨B',S',M'⟩:=FO lS h' _ x P''
  have M2:=M'.perm List.perm_middle
  obtain⟨P3,hk⟩:=close lS h' _ _ ⟨eq,[.slice (some a0) l c],B',M2,_,_,_,rfl,S'⟩
  refine⟨P3,λk=>?_⟩
  by_cases h1:k<off∨off+(rSl e s).sz≤k
  ·exact hk k h1
  ·obtain rfl:k=off:=by
    have:(rSl e s).sz=1:=rfl
    omega
   rw[hb,eq,M2.cell .here];simp
theorem Pt.stE[Inhabited β]{e:Nat}{s:Rep β}{get:α->List β}{put:α->List β->α}{i l c n:Nat}{b:Option Addr}{vs:Array Value}{B':List Blk}{x:β}{K:ab->Prop}(P:Pt r h0 h q F (B'++L) a)[Fc:cJ r off (rSl e s) get put](hb:cell h (q.add off)=some (.slice b l c))(hi:i<l)(hn:s.sz=n)(O:s.ow B' vs.toList x)(H:∀h',Pt r h0 h' q F L (put a ((get a).set i x))->(∀k,cell h' (q.add k)=cell h (q.add k))->K h'):∃a0,b=some a0∧STA n h (a0.add (i*n)) vs K:=by
 subst hn
 obtain⟨a0,F',C,rfl,P1,close⟩:=P.JA hb hi
 refine⟨a0,rfl,?_⟩
 have P2:Pt s h0 h (a0.add (i*s.sz)) F' (B'++(C++L)) (get a)[i]!:=P1.cnt λp=>by simp only[bN];omega
 refine P2.atC (Foc.here s) rfl O λh' P3=>?_
 obtain⟨P4,e4⟩:=close _ _ _ _ P3
 exact H h' P4 e4
end
end Go.Sx
namespace Go.Sx
open Go.Proofs
set_option maxRecDepth 100000
def aX.B2(aa:VH)(b:(Option Addr×Nat×Nat×Value×Int×Int)->ab->Prop):Option Addr×Nat×Nat×Value×Int×Int->ab->Prop |(ja,iN,jz,f_1,t7,t8),h=> BIF (decide (t8<t7)) (bd ja t8 iN λc=> LDA 45 h ((Addr.add c (t8.toNat*45))) λd=> pE ak f_1 #[.agg d] (λe a=> asB e λf=> BIF f (aa (.int .i64 t8) a) (b (ja,iN,jz,f_1,t7,((IntKind.i64.wrap (t8+1)))) a)) h) (aa (.int .i64 (-1)) h)
def aX.g2(fr:Frame):Option Addr×Nat×Nat×Value×Int×Int:=((gLb (ah fr 0)),(gLl (ah fr 0)),(gLc (ah fr 0)),(ah fr 1),(gI (ah fr 7)),(gI (ah fr 8)))
def aX.l2(aa:VH):=gg (kds 19 [(0,.l),(1,.v),(7,.i .i64),(8,.i .i64)]) λfr=>bk (aX.B2 aa) (aX.g2 fr)
def aX.S(ja:Option Addr)(iN jz:Nat)(f_1:Value)(aa:VH)(h:ab):=bk (aX.B2 aa) (ja,iN,jz,f_1,(iN:Int),0) h
theorem aX.call{ja iN jz f_1 aa h}(H:aX.S ja iN jz f_1 aa h):af ak 170 #[.slice ja iN jz,f_1] aa h:=qc (Λ:=aS [(1000002,aX.l2 aa)]) Tryz.func170 (qs qf (qs (qs qf (Rq.block (ql (aX.l2 aa) (qg (g:=aX.g2) (Λ:=λa=>aS []) (λ_ _ _=>by kernel_rfl) (λa=>qf))))) qf)) (qe H)
set_option maxHeartbeats 1000000
section
variable {h:ab}
theorem td{b:Option Addr}{l c:Nat}{xs:List aK}{f:Value}{p:aK->Bool}(S:SlR aQ h b l c xs)(T:FD ak aQ h f p):
  af ak 170 #[.slice b l c,f] (λu h'=>u = .int .i64 (jL p xs)∧Ext h h') h:=by
 refine aX.call ?_
 have Fi:=S.2.2.1
 have VF:=S.2.1
 have:=cu
 have hl:=S.len
 refine loop (λx hh=>∃n:Nat,x=(b,l,c,f,(l:Int),(n:Int))∧n≤l∧Ext h hh∧∀i,i<n->p xs[i]! = false) (λx=>(l-x.2.2.2.2.2).toNat) ⟨0,rfl,by omega,Ext.refl _,λi hi=>by omega⟩ ?_
 rintro x hh ⟨n,rfl,hn,X,hf⟩
 refine brd (λhc=>?_) λhc=>⟨by rw[qZ λi hi=>hf i (by omega)],X⟩
 refine(S.ext X).idx (by decide) (by omega) (by omega) λa Ra=>Ra.jc rfl λcs Rc=>goD X (T _ _ _ X Rc) λh1 x1=>bt (br (λhb=>?_) λhb=>?_)
 ·exact⟨by rw[ra (by omega) hf (by simpa using hb)],x1⟩
 ·refine⟨⟨n+1,by rw[ag (by omega)],by omega,x1,λi hi=>?_⟩,by rw[ag (by omega)];show _<_;simp;omega⟩
  by_cases e:i=n
  ·subst e;simpa using hb
  ·exact hf i (by omega)
end
end Go.Sx
