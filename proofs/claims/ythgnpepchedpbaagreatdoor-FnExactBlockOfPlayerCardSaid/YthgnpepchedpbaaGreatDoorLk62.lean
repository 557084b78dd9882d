/- Lemmas. -/
import Derived.Test.YthgnpepchedpbaaGreatDoorLk58
import Derived.Test.YthgnpepchedpbaaGreatDoorLk35
import Derived.Test.YthgnpepchedpbaaGreatDoorLk56
set_option linter.unusedVariables false
set_option linter.unusedSimpArgs false
namespace Go.Sx
open Go.Proofs
set_option maxRecDepth 100000
set_option maxHeartbeats 2000000
section
variable {h0 h:ab}{q:Addr}{F:Fr}{L:List Blk}{p:aC}
theorem ahW(P:Pt bz h0 h q F L p)(R:p.iW)(Ud:0≤p.mO∧p.mO≤1000000):bk (aV.B6 (λu h'=>AA h0 h' q F L p.pB u)) (q,0,(p.al.length:Int),(0:Int)) h:=by
 have hm:=cu
 refine loop (λy hh=>∃(i sum:Nat),y=(q,sum,(p.al.length:Int),(i:Int))∧i≤p.al.length∧FW .f32 sum (qS p i)∧Pt bz h0 hh q F L (p.upto i)) (λy=>((p.al.length:Int)-y.2.2.2).toNat) ⟨0,0,rfl,by omega,fw0,by unfold aC.upto;rw[DA];exact P⟩ ?_
 rintro y hh ⟨i,sum,rfl,hi,rf,P⟩
 obtain⟨b,l,c,hb,S⟩:=P.hdr (off:=6) (e:=122) (s:=aQ)
 have hl:(p.upto i).al.length=l:=S.len
 rw[HG] at hl
 have s1:=S.2.1
 have s2:=S.2.2.1
 refine brd (λhc=>o_l hb ?_) λhc=>?_
 ·have fin:∀{h':ab}{Zj:Nat},FW .f32 Zj (qS p (i+1))->Pt bz h0 h' q F L (p.upto (i+1))->((∃i' OX:Nat,(q,Zj,(p.al.length:Int),IntKind.i64.wrap ((i:Int)+1))=(q,OX,(p.al.length:Int),(i':Int))∧i'≤p.al.length∧FW .f32 OX (qS p i')∧Pt bz h0 h' q F L (p.upto i'))∧((p.al.length:Int)-IntKind.i64.wrap ((i:Int)+1)).toNat<((p.al.length:Int)-i).toNat):=λhs P=>
   ⟨⟨i+1,_,by rw[ag (by omega)],by omega,hs,P⟩,by rw[ag (by omega)];omega⟩
  obtain⟨a,F',C,rfl,P',close⟩:=P.JA (off:=6) hb (i:=i) (by omega)
  have Nm:=HF (p:=p) (i:=i) (by omega)
  have P':Pt aQ h0 hh (a.add (i*45)) F' (C++L) (p.upto i).al[i]!:=P'
  rw[Nm] at P'
  refine idxs (by omega) (by omega) ?_
  rw[Int.toNat_natCast]
  refine P'.rd.jc rfl λcv Rv=>goX (Ns Rv) λre x29=>bt (br (λk=>?_) λk=>?_)
  ·have k:p.al[i]!.aT = -1:=by simpa using k
   refine fin ?_ ?_
   ·rw[wF (by omega)];unfold PM;rw[if_pos k];exact rf
   ·rw[Kj (by omega) k];exact P.grow x29
  have k:¬p.al[i]!.aT = -1:=by simpa using k
  obtain⟨B,I1,I2⟩:=Ki R (i:=i) (by omega) k
  have P':=P'.grow x29
  refine(P.grow x29).rd.oL (off:=4) λb4 l4 c4 S4=>?_
  have e4:p.Score.az.length=l4:=S4.len
  refine P'.rd.oI (S4.idx (by decide) I1 (by omega) λa4 R4=>?_)
  have R4:RdP aA re (a4.add (p.al[i]!.aq.toNat*5)) p.Score.az[p.al[i]!.aq.toNat]!:=R4
  refine R4.oI ?_
  have hkd:p.Score.az[p.al[i]!.aq.toNat]!.Kind=p.Score.kind p.al[i]!:=rfl
  rw[hkd]
  refine(Kv P' B).mono ?_
  rintro _ h1 ⟨⟨y,rfl,hy⟩,P1⟩
  obtain⟨Pc,hk1⟩:=close _ _ _ _ P1
  have hb1:cell h1 (q.add 6)=some (.slice (some a) l c):=by rw[hk1];exact hb
  have ID:xw p.Score p.al[i]! = if(p.al[i]!.Gone&&(p.al[i]!.sound (p.Score.kind p.al[i]!)).1.quiet (p.Score.kind p.al[i]!))=true then ln else(p.al[i]!.sound (p.Score.kind p.al[i]!)).1:=by unfold xw;rw[if_neg k]
  refine jJ (cW (bt (fA rf hy λs' Qm=>?_)))
  have Qm:FW .f32 s' (qS p (i+1)):=by rw[wF (by omega)];unfold PM;rw[if_neg k];exact Qm
  refine br (λe=>?_) λe=>?_
  ·rw[e,if_pos rfl] at ID
   refine goX DZ λh3 x3=>gw ?_
   have Pc:=Pc.grow x3
   obtain⟨a',ha,st⟩:=Pt.stE (off:=6) (i:=i) (n:=45) (L:=L) (B':=[]) (vs:=⟨u5⟩) Pc (x3.cell hb1) (by omega) rfl HM λh' P' _=>fin Qm (by
    have P':Pt bz h0 h' q F L { p.upto i with al:=((p.upto i).al.set i (p.al[i]!.sound (p.Score.kind p.al[i]!)).1).set i ln }:=P'
    rw[List.set_set,← ID,zf (by omega)] at P'
    exact P')
   cases ha
   exact st
  ·rw[e,if_neg (by decide)] at ID
   refine fin Qm ?_
   rw[← zf (by omega),ID]
   exact Pc
 ·obtain rfl:i=p.al.length:=by omega
  refine P.rd.oI (off:=7) ?_
  have hN:(p.upto p.al.length).mO=p.mO:=rfl
  rw[hN,wrap64 (n:=p.mO+1) (by omega) (by omega)]
  refine P.stI λh1 P1=>(A3 rf c1).go λh2 y x2 hy=>cW ⟨⟨y,rfl,?_⟩,?_⟩
  ·have:p.pB.2=tg (qS p p.al.length) Eo:=by unfold qS;rw[List.take_length];rfl
   rw[this];exact hy
  ·have:p.pB.1={ p.upto p.al.length with mO:=p.mO+1 }:=by unfold aC.upto;rw[Gy rfl];rfl
   rw[this];exact P1.grow x2
theorem I6(P:Pt bz h0 h q F L p)(R:p.iW)(Ud:0≤p.mO∧p.mO≤1000000):af ak 71 #[.pointer (some q)] (λu h'=>AA h0 h' q F L p.step u) h:=by
 have hm:=cu
 refine aV.call (ae3 (λy hh=>∃w:aC,y=q∧AB p w∧Pt bz h0 hh q F L w) (λy hh=>((p.Score.bo.length:Int)-SO hh (q.add 8)).toNat) ⟨p,rfl,⟨R,rfl,rfl,rfl⟩,P⟩ ?_)
 rintro y hh ⟨w,rfl,W,P⟩
 have nx:=W.r.nx
 have sum:∀{h':ab},Ext hh h'->w.yN=false->oL (cell h' (y.add 6)) λpQ nT sH=>bk (aV.B6 (λu h'=>AA h0 h' y F L p.step u)) (y,0,(nT:Int),(0:Int)) h':=λx h=>by
  rw[← W.done h]
  refine(P.grow x).rd.oL (off:=6) λb l c S=>?_
  have e:w.al.length=l:=S.len
  rw[← e]
  exact ahW (P.grow x) W.r (by rw[W.n];exact Ud)
 refine P.rd.oI (off:=8) (P.rd.oL (off:=5) λb0 l0 c0 S0=>goX (yJ _ _ _ _) λh4 x4=>cN (P.rd.lN (by decide) x4 ?_))
 have hl0:w.Score.bo.length=l0:=S0.len
 have P4:=P.grow x4
 obtain⟨b,l,c,hb,S⟩:=P4.hdr (off:=5) (e:=131) (s:=bF)
 have hl:w.Score.bo.length=l:=S.len
 have s1:=S.2.1
 have s2:=S.2.2.1
 have hes:w.Score.bo.length=p.Score.bo.length:=by rw[W.s]
 refine brd (λhc=>o_l hb (P4.rd.oI (off:=8) ?_)) λhc=>sum x4 ?_
 ·obtain⟨a,rfl,Ra⟩:=S.elem (i:=w.Next.toNat) (by omega) (by decide)
  have Ra:RdP bF h4 (a.add (w.Next.toNat*6)) w.Score.bo[w.Next.toNat]!:=Ra
  refine idxs (by omega) (by omega) (Ra.oI1 (P4.rd.oI (off:=7) (br (λk=>?_) λk=>sum x4 ?_)))
  ·have k:w.Score.bo[w.Next.toNat]!.At=w.mO:=by simpa using k
   have hc':w.Next<(w.Score.bo.length:Int):=by rw[hl0];exact hc
   have hn:w.yN=true:=by unfold aC.yN;rw[decide_eq_true hc',k];simp
   unfold aV.J2
   refine o_l hb (P4.rd.oI (off:=8) (idxs (by omega) (by omega) (Ra.jc rfl λce Rc=>(Xf P4 Rc (OH W.r hc')).mono ?_)))
   rintro _ h1 ⟨rfl,P1⟩
   obtain⟨n1,n2⟩:=Ee w w.Score.bo[w.Next.toNat]!
   refine P1.rd.oI (off:=8) ?_
   rw[n1,wrap64 (n:=w.Next+1) (by omega) (by omega)]
   refine P1.stI λh2 P2=>?_
   have P2:Pt bz h0 h2 y F L w.next:=P2
   refine⟨⟨w.next,rfl,W.next hn,P2⟩,?_⟩
   rw[Ca P2,Ca P,(sM w).2.2]
   omega
  ·have k:¬w.Score.bo[w.Next.toNat]!.At=w.mO:=by simpa using k
   unfold aC.yN;rw[beq_eq_false_iff_ne.2 k,Bool.and_false]
 ·unfold aC.yN
  rw[decide_eq_false (by show ¬w.Next<(w.Score.bo.length:Int);omega)];rfl
end
def boL(b1:Option Addr)(l1 c1:Nat)(n1:Int)(b2:Option Addr)(l2 c2:Nat)(n2:Int)(v:Int×Nat×Nat×Nat×Nat×Nat)(y z:Nat):List Value:=
 [.slice b1 l1 c1,.int .i64 n1]++([.slice b2 l2 c2,.int .i64 n2]++(flT v++[.float .f32 y,.float .f32 z]))
theorem ap5{h:ab}{cs:Array Value}{x:iU}(R:jI.rd h cs.toList x):∃b1 l1 c1 b2 l2 c2 v y z,cs=⟨boL b1 l1 c1 x.bT.At b2 l2 c2 x.aH.At v y z⟩∧cx.ow [] (flT v) x.fz∧FW .f32 y x.fX∧FW .f32 z x.fT:=by
 obtain⟨w1,r1,e1,⟨u1,u2,rfl,⟨b1,l1,c1,rfl,S1⟩,av4⟩,w2,r2,rfl,⟨u3,u4,rfl,⟨b2,l2,c2,rfl,S2⟩,av5⟩,w3,r3,rfl,F1,w4,w5,rfl,⟨y,rfl,hy⟩,⟨z,rfl,hz⟩⟩:=R
 have av4:u2=[.int .i64 x.bT.At]:=av4
 have av5:u4=[.int .i64 x.aH.At]:=av5
 subst av4 av5
 obtain⟨v,rfl,O⟩:=qY F1
 exact⟨b1,l1,c1,b2,l2,c2,v,y,z,by cases cs;simpa [boL] using e1,O,hy,hz⟩
theorem aoE{b1 b2:Option Addr}{l1 c1 l2 c2 y z:Nat}{n1 n2:Int}{v:Int×Nat×Nat×Nat×Nat×Nat}:∀w ∈ (⟨boL b1 l1 c1 n1 b2 l2 c2 n2 v y z⟩:Array Value).toList,w.oneCell'=true:=dI rfl
def aK.small(v:aK):Prop:=v.String.Loop.ae.length≤1048576∧v.aI.small∧v.bY.bT.ae.length≤1048576∧v.bY.aH.ae.length≤1048576
section
variable {h:ab}{q:Addr}
theorem alw{x:iU}(R:RdP jI h q x)(h1:x.bT.ae.length≤1048576)(h2:x.aH.ae.length≤1048576):af ak 135 #[.pointer (some q)] (λu h'=>mN jI h h' u x) h:=by
 refine aeG.call ((Mem.start h).alc λg1 h3 x3 M=>?_)
 have A:∀{hh:ab},Ext h hh->RdP jI hh q x:=λe=>R.ext e
 refine(A M.ext).lda gj rfl λa3 R3=>(A M.ext).oF λr4 h4=>(A M.ext).oF λr5 h5=>?_
 obtain⟨v1,e3,O1⟩:=qY R3
 obtain rfl:a3=⟨flT v1⟩:=by cases a3;simpa using e3
 refine mN.go (Mem.start h3) (Un ((A M.ext).fst ik) h1) λh7 a8 B8 N O8 s8=>gw ?_
 obtain⟨b,l,c,rfl,OS⟩:=wh O8
 have P:=A M.ext
 refine P.lN (by decide) N.ext (P.lN (by decide) N.ext (P.lN (by decide) N.ext ?_))
 refine mN.go N (Un ((A (M.ext.trans N.ext)).foc fE) h2) λh8 a9 B9 N O9 s9=>gw ?_
 obtain⟨b',l',c',rfl,OT⟩:=wh O9
 refine P.lN (by decide) N.ext (P.lN (by decide) N.ext (P.lN (by decide) N.ext (siz rfl (siz rfl (siz rfl ?_)))))
 have M:=(M.join N).cnt (W:=(g1,120,⟨dg⟩) :: (B8++B9))
 refine M.dH (vs:=⟨boL b l c x.bT.At b' l' c' x.aH.At v1 r4 r5⟩) .here rfl aoE rfl .here λh9 M=>M.df .here rfl ⟨_,B8++B9,rfl,Wv (x:=x) OS OT O1 h4 h5,M.drop⟩
theorem alI{cs:Array Value}{x:iU}(R0:jI.rd h cs.toList x)(h1:x.bT.ae.length≤1048576)(h2:x.aH.ae.length≤1048576):af ak 150 #[.agg cs] (λu h'=>mN jI h h' u x) h:=by
 obtain⟨b1,l1,c1,b2,l2,c2,v,y,z,rfl,O1,hy,hz⟩:=ap5 R0
 refine age.call ((Mem.start h).alc λg1 h3 x3 M=>M.alc λg3 h4 x4 M=>?_)
 have R:RdP jI h4 ⟨g1,0,none⟩ x:=M.rdp (.there .here) (jI.ext M.ext R0)
 refine(R.fst ik).jc rfl λa5 R5=>R.jH fE rfl λa6 R6=>mN.go (Mem.start h4) (Kr R5 h1) λh7 a8 B8 N O8 s8=>gw (R.IT (by decide) N.ext ?_)
 obtain⟨b,l,c,rfl,OS⟩:=wh O8
 refine mN.go N (Kr (bQ.ext N.ext R6) h2) λh8 a9 B9 N O9 s9=>gw ?_
 obtain⟨b',l',c',rfl,OT⟩:=wh O9
 have M:=(M.join N).cnt (W:=(g1,120,⟨boL b1 l1 c1 x.bT.At b2 l2 c2 x.aH.At v y z⟩) :: (g3,120,⟨dg⟩) :: (B8++B9))
 refine M.sta .here rfl (dI rfl) (by show 0+2≤12;decide) .here λh9 M=>?_
 have M:Mem h h9 ((g1,120,⟨boL b l c x.bT.At b2 l2 c2 x.aH.At v y z⟩) :: (g3,120,⟨dg⟩) :: (B8++B9)):=M
 refine M.sta .here rfl (dI rfl) (by show 2+2≤12;decide) .here λgv M=>?_
 have M:Mem h gv ((g1,120,⟨boL b l c x.bT.At b' l' c' x.aH.At v y z⟩) :: (g3,120,⟨dg⟩) :: (B8++B9)):=M
 exact M.df .here rfl (M.dH (.there .here) rfl aoE rfl (.there .here) λme M=>M.df (.there .here) rfl ⟨_,B8++B9,rfl,Wv (x:=x) OS OT O1 hy hz,M.drop.drop⟩)
theorem akk{cs:Array Value}{x:aK}(R:aQ.rd h cs.toList x):∃hd s p b:List Value,cs=⟨hd++(s++(p++b))⟩∧hd.length=5∧s.length=15∧p.length=13∧b.length=12∧bf.rd h s x.String∧dX.rd h p x.aI∧jI.rd h b x.bY ∧
  ∀B1 B2 B3 s' p' b',bf.ow B1 s' x.String->dX.ow B2 p' x.aI->jI.ow B3 b' x.bY->aQ.ow (B1++(B2++B3)) (hd++(s'++(p'++b'))) x:=by
 obtain⟨w1,r1,e1,F1,w2,r2,rfl,F2,w3,r3,rfl,F3,w4,r4,rfl,F4,w5,r5,rfl,F5,s,r6,rfl,FS,p,b,rfl,FP,FB⟩:=R
 have g1:w1=[.int .i64 x.aT]:=F1
 have g2:w2=[.int .i64 x.aq]:=F2
 have g3:w3=[.int .i64 x.mh]:=F3
 have g4:w4=[.bool x.Gone]:=F4
 obtain⟨y,rfl,hy⟩:=F5
 subst g1 g2 g3 g4
 refine⟨[.int .i64 x.aT,.int .i64 x.aq,.int .i64 x.mh,.bool x.Gone,.float .f32 y],s,p,b,by cases cs;simpa using e1,rfl,bf.tc FS,dX.tc FP,jI.tc FB,FS,FP,FB,λB1 B2 B3 s' p' b' O1 O2 O3=>?_⟩
 exact⟨[],_,[.int .i64 x.aT],_,rfl,rfl,⟨rfl,rfl⟩,[],_,[.int .i64 x.aq],_,rfl,rfl,⟨rfl,rfl⟩,[],_,[.int .i64 x.mh],_,rfl,rfl,⟨rfl,rfl⟩,[],_,[.bool x.Gone],_,rfl,rfl,⟨rfl,rfl⟩,[],_,[.float .f32 y],_,rfl,rfl,⟨rfl,y,rfl,hy⟩,B1,B2++B3,s',p'++b',rfl,rfl,O1,B2,B3,p',b',rfl,rfl,O2,O3⟩
theorem akv{x:aK}(R:RdP aQ h q x)(hs:x.small):af ak 92 #[.pointer (some q)] (λu h'=>mN aQ h h' u x) h:=by
 obtain⟨z1,z2,z3,z4⟩:=hs
 have A:∀{hh:ab},Ext h hh->RdP aQ hh q x:=λe=>R.ext e
 refine ae7.call ((Mem.start h).alc λg1 h1 x1 M=>(A M.ext).jc rfl λcs Rc=>M.alc λg4 h2 x2 M=>M.dH .here (rsz Rc rfl) (aQ.wj Rc) rfl .here λh3 M=>?_)
 obtain⟨hd,s,p,b,rfl,e0,e1,e2,e3,_,_,_,close⟩:=akk Rc
 refine mN.go M (Uq ((A M.ext).foc bO) z1) λh4 c1 B1 M O1 s1=>gw ?_
 have M:=M.cnt (W:=(g4,122,⟨hd++(s++(p++b))⟩) :: (g1,122,⟨bg⟩) :: B1)
 refine M.aqI (pre:=hd) (iS:=s) (post:=p++b) e0 e1 s1 (bf.jy O1) λh5 M=>?_
 refine mN.go M (ap9 ((A M.ext).foc cE) z2) λh4 c2 B2 M O2 s2=>gw ?_
 have M:=M.cnt (W:=(g4,122,⟨(hd++c1.toList)++(p++b)⟩) :: (g1,122,⟨bg⟩) :: (B1++B2)) (λp=>by simp only[List.append_assoc,List.append_eq,bN,bu,bZ] at *;omega)
 have l1:=bf.jX O1
 refine M.aqI (pre:=hd++c1.toList) (iS:=p) (post:=b) (by rw[List.length_append,e0,l1];rfl) e2 s2 (dX.jy O2) λh6 M=>?_
 refine mN.go M (alw ((A M.ext).foc cP) z3 z4) λh4 c3 B3 M O3 s3=>gw ?_
 have M:=M.cnt (W:=(g4,122,⟨(hd++c1.toList++c2.toList)++(b++[])⟩) :: (g1,122,⟨bg⟩) :: (B1++(B2++B3))) (λp=>by simp only[List.append_nil,List.append_assoc,List.append_eq,bN,bu,bZ] at *;omega)
 have l2:=dX.jX O2
 refine M.aqI (pre:=hd++c1.toList++c2.toList) (iS:=b) (post:=[]) (by rw[List.length_append,List.length_append,e0,l1,l2];rfl) e3 s3 (jI.jy O3) λh7 M=>?_
 have OV:=close _ _ _ _ _ _ O1 O2 O3
 have M:Mem h h7 ((g4,122,⟨hd++(c1.toList++(c2.toList++c3.toList))⟩) :: (g1,122,⟨bg⟩) :: (B1++(B2++B3))):=by simpa using M
 have hsz:(⟨hd++(c1.toList++(c2.toList++c3.toList))⟩:Array Value).size=45:=osz (cs:=⟨_⟩) OV rfl
 exact M.df .here hsz (M.dH (.there .here) hsz (aQ.jy OV) rfl (.there .here) λgv M=>M.df (.there .here) hsz ⟨_,_,rfl,OV,M.drop.drop⟩)
theorem akY{cs:Array Value}{x:aK}(R0:aQ.rd h cs.toList x)(hs:x.small):af ak 99 #[.agg cs] (λu h'=>mN aQ h h' u x) h:=by
 obtain⟨z1,z2,z3,z4⟩:=hs
 obtain⟨hd,s,p,b,rfl,e0,e1,e2,e3,_,_,_,close⟩:=akk R0
 refine aeb.call ((Mem.start h).alc λg1 h1 x1 M=>M.alc λg3 h2 x2 M=>?_)
 have R:RdP aQ h2 ⟨g1,0,none⟩ x:=M.rdp (.there .here) (aQ.ext M.ext R0)
 refine R.jH bO rfl λa5 R5=>R.jH cE rfl λa6 R6=>R.jH cP rfl λa7 R7=>?_
 refine mN.go (Mem.start h2) (FB R5 z1) λh4 c1 B1 N O1 s1=>gw (R.IT (by decide) N.ext (R.IT (by decide) N.ext ?_))
 refine mN.go N (alr (dX.ext N.ext R6) z2) λh5 c2 B2 N O2 s2=>gw (R.IT (by decide) N.ext ?_)
 refine mN.go N (alI (jI.ext N.ext R7) z3 z4) λh6 c3 B3 N O3 s3=>gw ?_
 have l1:=bf.jX O1
 have l2:=dX.jX O2
 have M:=(M.join N).cnt (W:=(g1,122,⟨hd++(s++(p++b))⟩) :: (g3,122,⟨bg⟩) :: (B1++(B2++B3)))
 refine M.aqI (pre:=hd) (iS:=s) (post:=p++b) e0 e1 s1 (bf.jy O1) λh5 M=>?_
 have M:Mem h h5 ((g1,122,⟨(hd++c1.toList)++(p++b)⟩) :: (g3,122,⟨bg⟩) :: (B1++(B2++B3))):=by simpa using M
 refine M.aqI (pre:=hd++c1.toList) (iS:=p) (post:=b) (by rw[List.length_append,e0,l1];rfl) e2 s2 (dX.jy O2) λh6 M=>?_
 have M:Mem h h6 ((g1,122,⟨(hd++c1.toList++c2.toList)++(b++[])⟩) :: (g3,122,⟨bg⟩) :: (B1++(B2++B3))):=by simpa using M
 refine M.aqI (pre:=hd++c1.toList++c2.toList) (iS:=b) (post:=[]) (by rw[List.length_append,List.length_append,e0,l1,l2];rfl) e3 s3 (jI.jy O3) λh7 M=>?_
 have OV:=close _ _ _ _ _ _ O1 O2 O3
 have M:Mem h h7 ((g1,122,⟨hd++(c1.toList++(c2.toList++c3.toList))⟩) :: (g3,122,⟨bg⟩) :: (B1++(B2++B3))):=by simpa using M
 have hsz:(⟨hd++(c1.toList++(c2.toList++c3.toList))⟩:Array Value).size=45:=osz (cs:=⟨_⟩) OV rfl
 exact M.df .here hsz (M.dH (.there .here) hsz (aQ.jy OV) rfl (.there .here) λgv M=>M.df (.there .here) hsz ⟨_,_,rfl,OV,M.drop.drop⟩)
end
instance axM:Inhabited (aK ⊕ List Value):=⟨.inr []⟩
def plN(sc:List Value)(b:Option Addr)(l c:Nat)(n7 n8 n9:Int):List Value:=sc++[.slice b l c,.int .i64 n7,.int .i64 n8,.int .i64 n9]
theorem alB{y1 y2 y3:Nat}{b1 b2 b3 b:Option Addr}{l1 c1 l2 c2 l3 c3 l c:Nat}{n7 n8 n9:Int}:∀v ∈ (⟨plN (scC y1 y2 y3 b1 l1 c1 b2 l2 c2 b3 l3 c3) b l c n7 n8 n9⟩:Array Value).toList,v.oneCell'=true:=dI rfl
structure aC.am3 (p:aC):Prop where
 s:p.Score.ok=true
 n6:p.al.length≤6
 v:∀v ∈ p.al,v.small
section
variable {h:ab}{q:Addr}{p:aC}
theorem an2{h0 hh:ab}{L:List Blk}{g T:Nat}{pc cs:List Value}{b:Option Addr}{i c:Nat}{B C:List Blk}{vs:List aK}{v:aK}{K:Value->ab->Prop}{ty:Nat}{hb:ab}(O:SlO 122 aQ B b i c vs)(hi:i<6)(Ov:aQ.ow C cs v)(M:Mem h0 hh ((g,T,⟨pc⟩) :: (B++(C++L))))(Hp:∀(h':ab) (p:Prop),Ext hh h'->p->PIN hb ⟨g,6,none⟩ 1 h' p)(H:∀b' c' h' B',SlO 122 aQ B' b' (i+1) c' (vs++[v])->Mem h0 h' ((g,T,⟨pc⟩) :: (B'++L))->K (.slice b' (i+1) c') h'):
  ALC ⟨cs⟩ 122 (λg1 h1=>PIN hb ⟨g,6,none⟩ 1 h1<|gC ak (Builtin.append_ #[49,49] ty #[.slice b i c,.slice (some ⟨g1,0,none⟩) 1 1]) K h1) hh:=by
 have hm:(7:Nat)≤maxLen:=by decide
 refine M.alc λg1 h1 x1 M1=>Hp _ _ x1 ?_
 have M2:Mem h0 h1 (B++(C++((g1,122,⟨cs⟩) :: (g,T,⟨pc⟩) :: L))):=M1.cnt (λp=>by simp only[bN,bu,bZ] at *;omega)
 refine O.app (news:=cs) (Bn:=C) Ev M2 (ys:=[v]) rfl ⟨C,[],cs,[],by simp,by simp,Ov,rfl,rfl⟩ (λj v hj=>?_) (by omega) (by omega) λb' c' h' B' O' M'=>H b' c' h' B' O' (M'.cnt (λp=>by simp only[bN,bu,bZ] at *;omega))
 rw[dQ,Nat.zero_add,M1.cell .here,← hj];simp
theorem apc(R:RdP bz h q p)(H:p.am3):af ak 59 #[.pointer (some q)] (λu h'=>mN bz h h' u p) h:=by
 have n6:=H.n6
 have A:∀{hh:ab},Ext h hh->RdP bz hh q p:=λe=>R.ext e
 refine aaE.call ((Mem.start h).alc λg1 h1 x1 M=>(A M.ext).oI ((A M.ext).oI ((A M.ext).oI ?_)))
 have A1:=A M.ext
 have key:∀{hh:ab}{g:Nat}{cs:Array Value}{B5:List Blk},bU.ow B5 cs.toList p.Score->Mem h1 hh ((g,51,⟨bm⟩) :: B5) ->
   STA 10 hh ⟨g,0,none⟩ ⟨List.set (List.set (List.set (eE 0 6 cs bm) 7 (.int .i64 p.mO)) 8 (.int .i64 p.Next)) 9 (.int .i64 p.ft)⟩ λh'=>aaE.J2 (λu h'=>mN bz h h' u p) q ⟨g1,0,none⟩ ⟨g,0,none⟩ h':=λ{hh g cs B5} O5 N=>by
  have Rc:=bU.look O5 N (List.sublist_cons_self _ _)
  obtain⟨y1,y2,y3,b1,l1,c1,b2,l2,c2,b3,l3,c3,rfl,_⟩:=tP Rc
  clear Rc
  have M:=(M.join N).cnt (W:=(g,51,⟨bm⟩) :: ([]++(B5++[(g1,51,⟨bm⟩)])))
  refine M.dH (vs:=⟨plN (scC y1 y2 y3 b1 l1 c1 b2 l2 c2 b3 l3 c3) none 0 0 p.mO p.Next p.ft⟩) .here rfl alB rfl .here λh7 M=>?_
  unfold aaE.J2
  refine loop (λy hh=>∃(i:Nat) (b:Option Addr) (c:Nat) (B:List Blk),y=(q,⟨g1,0,none⟩,⟨g,0,none⟩,(i:Int))∧i≤p.al.length∧SlO 122 aQ B b i c (p.al.take i)∧Mem h hh ((g,51,⟨plN (scC y1 y2 y3 b1 l1 c1 b2 l2 c2 b3 l3 c3) b i c p.mO p.Next p.ft⟩) :: (B++(B5++[(g1,51,⟨bm⟩)]))))
   (λy=>((p.al.length:Int)-y.2.2.2).toNat) ⟨0,none,0,[],rfl,by omega,SlO.nil,M⟩ ?_
  rintro y hh ⟨i,b,c,B,rfl,hi,O,M⟩
  unfold aaE.B3
  simp only[mR]
  refine(A M.ext).oL λb1' lA c1' S=>?_
  have e1:=S.len
  refine brd (λhc=>?_) λhc=>?_
  ·refine o_l (M.cell .here 6) ((A M.ext).oL λb2' lB c2' S2=>?_)
   have e2:=S2.len
   refine S2.idn (by decide) (by omega) λa Ra=>(akv Ra (H.v _ (iL (by omega)))).mono ?_
   rintro _ h8 ⟨c8,B8,rfl,O8,N8⟩
   have x8:=N8.ext
   have M8:=M.join N8
   have s8:c8.size=45:=osz O8 rfl
   refine gw (M.Ov .here (by show 6<10;decide) x8 (siz s8 ?_))
   obtain⟨C,Ov,hC⟩:=aln vm (Foc.here aQ) rfl O8
   have M8:=M8.cnt (W:=(g,51,⟨plN (scC y1 y2 y3 b1 l1 c1 b2 l2 c2 b3 l3 c3) b i c p.mO p.Next p.ft⟩) :: (B++(C++(B5++[(g1,51,⟨bm⟩)])))) (λp=>by have:=hC p;simp only[List.append_eq,bN,bu,bZ] at *;omega)
   refine an2 O (by omega) Ov M8 (λh' p x H=>M.Ov .here (by show 6<10;decide) (x8.trans x) H) λb' c' h9 B' O' M=>lR (M.st1 .here (by show 6<10;decide) .here λgv M=>?_)
   rw[← vk (by omega)] at O'
   exact⟨⟨i+1,b',c',B',by rw[ag (by omega)],by omega,O',M⟩,by rw[ag (by omega)];show _<_;simp;omega⟩
  ·obtain rfl:i=p.al.length:=by omega
   rw[List.take_length] at O
   refine M.df .here rfl ?_
   have M:=M.cnt (W:=(g1,51,⟨bm⟩) :: (B5++B))
   exact M.dH .here rfl alB rfl .here λh3 M=>M.df .here rfl ⟨_,B5++B,rfl,K5 O5 O _ _ _,M.drop⟩
 refine⟨?_,?_⟩
 ·refine mN.go (Mem.start h1) (Uw (A1.fst gx) H.s) λh2 c2 B2 N O2 s2=>gw (A1.lN (by decide) N.ext (A1.lN (by decide) N.ext (A1.lN (by decide) N.ext (siz s2 (N.alc λg9 h3 x3 N=>A1.lN (by decide) N.ext (A1.lN (by decide) N.ext (A1.lN (by decide) N.ext ?_)))))))
  exact key O2 (N.cnt λp=>by simp only[List.append_eq,bN,bu,bZ];omega)
 ·refine(Mem.start h1).alc λg9 h2 x2 N=>A1.lN (by decide) N.ext (A1.lN (by decide) N.ext (A1.lN (by decide) N.ext (mN.go N (Uw ((A1.ext N.ext).fst gx) H.s) λh3 c2 B2 N O2 s2=>gw (A1.lN (by decide) N.ext (A1.lN (by decide) N.ext (A1.lN (by decide) N.ext (siz s2 ?_)))))))
  exact key O2 (N.cnt λp=>by simp only[List.append_eq,bN,bu,bZ];omega)
theorem aoP{α:Type}[Inhabited α]{r:Rep α}:∀{iD:List α}{vs:List Value},rds r h vs iD->∃ahp:List (List Value),ahp.length=iD.length∧ows (alT r) [] vs (ahp.map .inr)∧∀i,i<iD.length->r.rd h ahp[i]! iD[i]!
 | [],vs,e=>⟨[],rfl,⟨rfl,e⟩,λi hi=>by simp at hi⟩
 | a :: iD,vs,e=>by
  obtain⟨v1,v2,rfl,h1,h2⟩:=e
  obtain⟨ahp,e1,e2,e3⟩:=aoP h2
  refine⟨v1 :: ahp,by simp[e1],⟨[],[],v1,v2,rfl,rfl,⟨rfl,rfl,r.tc h1,r.wj h1⟩,e2⟩,λi hi=>?_⟩
  cases i with
  | zero=>exact h1
  | succ i=>simpa using e3 i (by simpa using hi)
theorem al9(l:List aK):(List.range l.length).map (λk=>(Sum.inl l[k]! : aK ⊕ List Value))=l.map Sum.inl:=by
 apply List.ext_getElem
 ·simp
 ·intro i h1 h2
  rw[List.getElem_map,List.getElem_range,List.getElem_map,getElem!_pos l i (by simpa using h2)]
theorem aoN{α:Type}{r:Rep α}:∀{iD:List α}{B:List Blk}{vs:List Value},ows (alT r) B vs (iD.map .inl)->ows r B vs iD
 | [],B,vs,e=>e
 | a :: iD,B,vs,e=>by
  obtain⟨B1,B2,v1,v2,rfl,rfl,h1,h2⟩:=e
  exact⟨B1,B2,v1,v2,rfl,rfl,h1,aoN h2⟩
theorem SlO.mix{α:Type}{r:Rep α}{e:Nat}{B:List Blk}{b:Option Addr}{l c:Nat}{iD:List α}(O:SlO e (alT r) B b l c (iD.map .inl)):SlO e r B b l c iD:=by
 obtain⟨h1,ws,B1,B2,rfl,O1,O2⟩:=O
 exact⟨by rw[List.length_map] at h1;exact h1,ws,B1,B2,rfl,O1,aoN O2⟩
theorem SlO.stE{β:Type}[Inhabited β]{e n:Nat}{s:Rep β}{h0 h:ab}{B B' L:List Blk}{b:Option Addr}{l c i:Nat}{iD:List β}{vs:Array Value}{x:β}{K:ab->Prop}(O:SlO e s B b l c iD)(M:Mem h0 h (B++(B'++L)))(hi:i<l)(hn:s.sz=n)(Ox:s.ow B' vs.toList x)(H:∀h' B'',SlO e s B'' b l c (iD.set i x)->Mem h0 h' (B''++L)->K h'):∃a0,b=some a0∧STA n h (a0.add (i*n)) vs K:=by
 subst hn
 obtain⟨a0,F',C,rfl,P1,close⟩:=O.JA hi
 refine⟨a0,rfl,?_⟩
 have P2:Pt s h0 h (a0.add (i*s.sz)) F' (B'++(C++L)) iD[i]!:=(P1 _ _ _ M).cnt λp=>by simp only[bN];omega
 refine P2.atC (Foc.here s) rfl Ox λh' P3=>?_
 obtain⟨B'',O2,M2⟩:=close _ _ _ _ P3
 exact H h' B'' O2 M2
theorem SlO.aAm{β:Type}[Inhabited β]{e n:Nat}{s:Rep β}{h0 h:ab}{B B' L:List Blk}{a0:Addr}{l c i:Nat}{iD:List β}{vs:Array Value}{x:β}{K:ab->Prop}(O:SlO e s B (some a0) l c iD)(M:Mem h0 h (B++(B'++L)))(hi:i<l)(hn:s.sz=n)(Ox:s.ow B' vs.toList x)(H:∀h' B'',SlO e s B'' (some a0) l c (iD.set i x)->Mem h0 h' (B''++L)->K h'):STA n h (a0.add (i*n)) vs K:=by
 obtain⟨a,ha,st⟩:=O.stE M hi hn Ox H
 cases ha
 exact st
theorem akO{h0:ab}{b:Option Addr}{l c:Nat}{vs:List aK}(S:SlR aQ h0 b l c vs)(x0:Ext h0 h)(hl:l≤1000):af ak 98 #[.slice b l c] (λu h'=>∃(b':Option Addr) (c':Nat) (B:List Blk) (ahp:List (List Value)),u = .slice b' l c'∧SlO 122 (alT aQ) B b' l c' (ahp.map .inr)∧Mem h h' B∧ahp.length=vs.length∧∀i,i<vs.length->aQ.rd h0 ahp[i]! vs[i]!) h:=by
 have hm:(1000:Nat)≤maxLen:=by decide
 refine ace.call (KT ako (br (λhb=>?_) λhb=>?_))
 ·obtain rfl:b=none:=by simpa using hb
  obtain⟨rfl,rfl⟩:=Tn (by decide) S
  exact⟨none,0,[],[],rfl,SlO.nil,Mem.start h,rfl,λi hi=>by simp at hi⟩
 ·refine(Mem.start h).alc λg h1 x1 M=>?_
  obtain⟨k1,k2,k3,ws,C,Rw⟩:=S
  obtain⟨ahp,e1,e2,e3⟩:=aoP Rw
  cases b with
  | none=>cases hb
  | some a=>
   refine(SlO.empty (r:=alT aQ) g).app (Bn:=[]) (L:=[]) Ev (by simpa using M) (show(ahp.map Sum.inr).length=l by rw[List.length_map,e1,k1]) e2 (λj v hj=>x1.cell (x0.cell (C.get hj))) (by omega) (by omega) λb' c' h' B' O' M'=>?_
   rw[Nat.zero_add] at O' ⊢
   exact lR ⟨b',c',B',ahp,rfl,by simpa using O',by simpa using M',e1,e3⟩
theorem alC{cs:Array Value}(R:bz.rd h cs.toList p):∃y1 y2 y3 b1 l1 c1 b2 l2 c2 b3 l3 c3 b l c,cs=⟨plN (scC y1 y2 y3 b1 l1 c1 b2 l2 c2 b3 l3 c3) b l c p.mO p.Next p.ft⟩∧bU.rd h (scC y1 y2 y3 b1 l1 c1 b2 l2 c2 b3 l3 c3) p.Score∧SlR aQ h b l c p.al:=by
 obtain⟨sc,r1,e1,FS,w2,r2,rfl,⟨b,l,c,rfl,SV⟩,w3,r3,rfl,F3,w4,w5,rfl,F4,F5⟩:=R
 have g3:w3=[.int .i64 p.mO]:=F3
 have g4:w4=[.int .i64 p.Next]:=F4
 have g5:w5=[.int .i64 p.ft]:=F5
 subst g3 g4 g5
 have ry:bU.rd h (⟨sc⟩:Array Value).toList p.Score:=FS
 obtain⟨y1,y2,y3,b1,l1,c1,b2,l2,c2,b3,l3,c3,e2,_⟩:=tP ry
 have e2:sc=scC y1 y2 y3 b1 l1 c1 b2 l2 c2 b3 l3 c3:=by simpa using e2
 subst e2
 exact⟨y1,y2,y3,b1,l1,c1,b2,l2,c2,b3,l3,c3,b,l,c,by cases cs;simpa [plN] using e1,FS,SV⟩
theorem akr{cs:Array Value}(R0:bz.rd h cs.toList p)(H:p.am3):af ak 63 #[.agg cs] (λu h'=>mN bz h h' u p) h:=by
 have n6:=H.n6
 have hm:(1000:Nat)≤maxLen:=by decide
 have hx:=cu
 obtain⟨y1,y2,y3,b1,l1,c1,b2,l2,c2,b3,l3,c3,b,l,c,rfl,RS,SV⟩:=alC R0
 have hl:p.al.length=l:=SV.len
 refine aaF.call ((Mem.start h).alc λg1 h1 x1 M=>M.alc λg3 h2 x2 M=>?_)
 have R:RdP bz h2 ⟨g1,0,none⟩ p:=M.rdp (.there .here) (bz.ext M.ext R0)
 refine(R.fst gx).jc rfl λa5 R5=>o_l (M.cell (.there .here) 6) (mN.go (Mem.start h2) (I8 R5 H.s) λh3 c5 B5 N O5 s5=>gw (R.IT (by decide) N.ext ?_))
 have Rc:=bU.look O5 N (List.sublist_append_left _ _)
 obtain⟨z1,z2,z3,d1,k1,f1,d2,k2,f2,d3,k3,f3,rfl,_⟩:=tP Rc
 clear Rc
 have X3:=M.ext.trans N.ext
 refine(akO SV X3 (by omega)).mono ?_
 rintro _ h4 ⟨b',c',Bv,ahp,rfl,OV,N4,hrl,Ue⟩
 have M:=((M.join N).join N4).cnt (W:=(g1,51,⟨plN (scC y1 y2 y3 b1 l1 c1 b2 l2 c2 b3 l3 c3) b l c p.mO p.Next p.ft⟩) :: (Bv++(B5++[(g3,51,⟨bm⟩)])))
 refine lR (M.sta .here rfl RO (by show 0+6≤10;decide) .here λh5 M=>?_)
 have M:Mem h h5 ((g1,51,⟨plN (scC z1 z2 z3 d1 k1 f1 d2 k2 f2 d3 k3 f3) b l c p.mO p.Next p.ft⟩) :: (Bv++(B5++[(g3,51,⟨bm⟩)]))):=M
 refine M.st1 .here (by show 6<10;decide) .here λh6 M=>?_
 have M:Mem h h6 ((g1,51,⟨plN (scC z1 z2 z3 d1 k1 f1 d2 k2 f2 d3 k3 f3) b' l c' p.mO p.Next p.ft⟩) :: (Bv++(B5++[(g3,51,⟨bm⟩)]))):=M
 refine o_l (M.cell .here 6) ?_
 refine loop (λy hh=>∃(i:Nat) (Bv:List Blk),y=(⟨g1,0,none⟩,⟨g3,0,none⟩,b',l,c',(l:Int),(i:Int))∧i≤l∧SlO 122 (alT aQ) Bv b' l c' (pR (λk=>Sum.inl p.al[k]!) (ahp.map Sum.inr) i)∧Mem h hh ((g1,51,⟨plN (scC z1 z2 z3 d1 k1 f1 d2 k2 f2 d3 k3 f3) b' l c' p.mO p.Next p.ft⟩) :: (Bv++(B5++[(g3,51,⟨bm⟩)]))))
  (λy=>((l:Int)-y.2.2.2.2.2.2).toNat) ⟨0,Bv,rfl,by omega,by rw[zy];exact OV,M⟩ ?_
 rintro y hh ⟨i,Bv,rfl,hi,O,M⟩
 unfold aaF.B3
 simp only[mR]
 refine brd (λhc=>?_) λhc=>?_
 ·have hlr:i<ahp.length:=by omega
  have S:=O.look M ((List.sublist_append_left _ _).trans (List.sublist_cons_self _ _))
  obtain⟨a,rfl,Ra⟩:=S.elem (i:=i) (by omega) (by decide)
  rw[SW (by rw[List.length_map];exact hlr) (Nat.le_refl _)] at Ra
  have eg:(ahp.map (Sum.inr (α:=aK)))[i]! = Sum.inr ahp[i]!:=nB hlr
  rw[eg] at Ra
  refine idxs (by omega) (by omega) ?_
  rw[Int.toNat_natCast]
  have Ra:RdP (alT aQ) hh (a.add (i*45)) (Sum.inr ahp[i]!):=Ra
  refine Ra.jc rfl λcv Rv=>?_
  have s45:cv.size=45:=rsz Rv rfl
  have hcv:cv.toList=ahp[i]!:=Rv.1
  refine M.alc λg20 h7 x7 M=>M.dH .here s45 ((alT aQ).wj Rv) rfl .here λh8 M=>?_
  refine o_l (M.cell (.there .here) 6) (M.df .here s45 ?_)
  have RV:aQ.rd h8 cv.toList p.al[i]!:=by rw[hcv];exact aQ.ext M.ext (Ue i (by omega))
  refine(akY RV (H.v _ (iL (by omega)))).mono ?_
  rintro _ h9 ⟨c9,B9,rfl,O9,N9⟩
  refine gw (M.Ov (.there .here) (by show 6<10;decide) N9.ext (idxs (by omega) (by omega) ?_))
  have M:=(M.join N9).cnt (W:=Bv++(B9++((g1,51,⟨plN (scC z1 z2 z3 d1 k1 f1 d2 k2 f2 d3 k3 f3) (some a) l c' p.mO p.Next p.ft⟩) :: (B5++[(g3,51,⟨bm⟩)]))))
  refine SlO.aAm (n:=45) (vs:=c9) (x:=Sum.inl p.al[i]!) (i:=i) O M (by omega) rfl O9 λh' B'' O' M'=>?_
  have e1:=Gx (f:=λk=>(Sum.inl p.al[k]! : aK ⊕ List Value)) (l:=ahp.map Sum.inr) (n:=i) (by rw[List.length_map];exact hlr)
  rw[e1] at O'
  exact⟨⟨i+1,B'',by rw[ag (by omega)],by omega,O',M'.cnt (λp=>by simp only[bN,bu,bZ] at *;omega)⟩,by rw[ag (by omega)];show _<_;simp;omega⟩
 ·obtain rfl:i=l:=by omega
  rw[NW (by rw[List.length_map];omega),List.length_map,hrl,al9] at O
  have O:=O.mix
  refine M.df .here rfl ?_
  have M:=M.cnt (W:=(g3,51,⟨bm⟩) :: (B5++Bv))
  exact M.dH .here rfl alB rfl .here λh3 M=>M.df .here rfl ⟨_,B5++Bv,rfl,K5 O5 O _ _ _,M.drop⟩
end
end Go.Sx
