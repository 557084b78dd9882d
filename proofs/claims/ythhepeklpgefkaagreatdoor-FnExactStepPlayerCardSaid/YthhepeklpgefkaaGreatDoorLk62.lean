/- Lemmas. -/
import Derived.Test.YthhepeklpgefkaaGreatDoorLk58
import Derived.Test.YthhepeklpgefkaaGreatDoorLk35
import Derived.Test.YthhepeklpgefkaaGreatDoorLk56
set_option linter.unusedVariables false
set_option linter.unusedSimpArgs false
namespace Go.Sx
open Go.Proofs
set_option maxRecDepth 100000
set_option maxHeartbeats 2000000
section
variable {h0 h:ab}{q:Addr}{F:Fr}{L:List Blk}{p:ay}
theorem ap0(P:Pt aR h0 h q F L p)(R:p.mi)(ae0:0≤p.nJ∧p.nJ≤1000000):bh (bj.B6 (λu h'=>Gj h0 h' q F L p.uS u)) (q,0,(p.al.length:Int),(0:Int)) h:=by
 have hm:=bW
 refine loop (λy hh=>∃(i sum:Nat),y=(q,sum,(p.al.length:Int),(i:Int))∧i≤p.al.length∧FW .f32 sum (wy p i)∧Pt aR h0 hh q F L (p.upto i)) (λy=>((p.al.length:Int)-y.2.2.2).toNat) ⟨0,0,rfl,by omega,fw0,by unfold ay.upto;rw[Jz];exact P⟩ ?_
 rintro y hh ⟨i,sum,rfl,hi,wR,P⟩
 obtain⟨b,l,c,hb,S⟩:=P.hdr (off:=6) (e:=ao) (s:=az)
 have hl:(p.upto i).al.length=l:=S.len
 rw[O6] at hl
 have s1:=S.2.1
 have s2:=S.2.2.1
 refine brd (λhc=>o_l hb ?_) λhc=>?_
 ·have fin:∀{h':ab}{afS:Nat},FW .f32 afS (wy p (i+1))->Pt aR h0 h' q F L (p.upto (i+1))->((∃i' VM:Nat,(q,afS,(p.al.length:Int),IntKind.i64.wrap ((i:Int)+1))=(q,VM,(p.al.length:Int),(i':Int))∧i'≤p.al.length∧FW .f32 VM (wy p i')∧Pt aR h0 h' q F L (p.upto i'))∧((p.al.length:Int)-IntKind.i64.wrap ((i:Int)+1)).toNat<((p.al.length:Int)-i).toNat):=λhs P=>
   ⟨⟨i+1,_,by rw[ag (by omega)],by omega,hs,P⟩,by rw[ag (by omega)];omega⟩
  obtain⟨a,F',C,rfl,P',close⟩:=P.LR (off:=6) hb (i:=i) (by omega)
  have Uw:=NY (p:=p) (i:=i) (by omega)
  have P':Pt az h0 hh (a.add (i*45)) F' (C++L) (p.upto i).al[i]!:=P'
  rw[Uw] at P'
  refine idxs (by omega) (by omega) ?_
  rw[Int.toNat_natCast]
  refine P'.rd.gi rfl λcv Rv=>goX (HQ Rv) λry x29=>bd (br (λk=>?_) λk=>?_)
  ·have k:p.al[i]!.aT = -1:=by simpa using k
   refine fin ?_ ?_
   ·rw[CN (by omega)];unfold Wu;rw[if_pos k];exact wR
   ·rw[QW (by omega) k];exact P.grow x29
  have k:¬p.al[i]!.aT = -1:=by simpa using k
  obtain⟨B,I1,I2⟩:=QV R (i:=i) (by omega) k
  have P':=P'.grow x29
  refine (P.grow x29).rd.oL (off:=4) λb4 l4 c4 S4=>?_
  have e4:p.Score.aI.length=l4:=S4.len
  refine P'.rd.oI (S4.idx (by decide) I1 (by omega) λa4 R4=>?_)
  have R4:RdP aM ry (a4.add (p.al[i]!.ar.toNat*5)) p.Score.aI[p.al[i]!.ar.toNat]!:=R4
  refine R4.oI ?_
  have hkd:p.Score.aI[p.al[i]!.ar.toNat]!.Kind=p.Score.kind p.al[i]!:=rfl
  rw[hkd]
  refine (Ro P' B).mono ?_
  rintro _ h1 ⟨⟨y,rfl,hy⟩,P1⟩
  obtain⟨Pc,hk1⟩:=close _ _ _ _ P1
  have hb1:cell h1 (q.add 6)=some (.slice (some a) l c):=by rw[hk1];exact hb
  have Pl:D9 p.Score p.al[i]! = if (p.al[i]!.Gone&&(p.al[i]!.sound (p.Score.kind p.al[i]!)).1.quiet (p.Score.kind p.al[i]!))=true then Mg else (p.al[i]!.sound (p.Score.kind p.al[i]!)).1:=by unfold D9;rw[if_neg k]
  refine nq (dv (bd (fA wR hy λs' Xe=>?_)))
  have Xe:FW .f32 s' (wy p (i+1)):=by rw[CN (by omega)];unfold Wu;rw[if_neg k];exact Xe
  refine br (λe=>?_) λe=>?_
  ·rw[e,if_pos rfl] at Pl
   refine goX TR λh3 x3=>fe ?_
   have Pc:=Pc.grow x3
   obtain⟨a',ha,st⟩:=Pt.stE (off:=6) (i:=i) (n:=45) (L:=L) (B':=[]) (vs:=⟨Jk⟩) Pc (x3.cell hb1) (by omega) rfl W8 λh' P' _=>fin Xe (by
    have P':Pt aR h0 h' q F L { p.upto i with al:=((p.upto i).al.set i (p.al[i]!.sound (p.Score.kind p.al[i]!)).1).set i Mg }:=P'
    rw[List.set_set,← Pl,EF (by omega)] at P'
    exact P')
   cases ha
   exact st
  ·rw[e,if_neg (by decide)] at Pl
   refine fin Xe ?_
   rw[← EF (by omega),Pl]
   exact Pc
 ·obtain rfl:i=p.al.length:=by omega
  refine P.rd.oI (off:=7) ?_
  have hN:(p.upto p.al.length).nJ=p.nJ:=rfl
  rw[hN,wrap64 (n:=p.nJ+1) (by omega) (by omega)]
  refine P.stI λh1 P1=>(FK wR c1).go λh2 y x2 hy=>dv ⟨⟨y,rfl,?_⟩,?_⟩
  ·have:p.uS.2=yS (wy p p.al.length) tB:=by unfold wy;rw[List.take_length];rfl
   rw[this];exact hy
  ·have:p.uS.1={ p.upto p.al.length with nJ:=p.nJ+1 }:=by unfold ay.upto;rw[MJ rfl];rfl
   rw[this];exact P1.grow x2
theorem OD(P:Pt aR h0 h q F L p)(R:p.mi)(ae0:0≤p.nJ∧p.nJ≤1000000):ae ai oA #[.pointer (some q)] (λu h'=>Gj h0 h' q F L p.step u) h:=by
 have hm:=bW
 refine bj.call (akt (λy hh=>∃w:ay,y=q∧Gk p w∧Pt aR h0 hh q F L w) (λy hh=>((p.Score.aU.length:Int)-Zk hh (q.add 8)).toNat) ⟨p,rfl,⟨R,rfl,rfl,rfl⟩,P⟩ ?_)
 rintro y hh ⟨w,rfl,W,P⟩
 have nx:=W.r.nx
 have sum:∀{h':ab},Ext hh h'->w.Eb=false->oL (cell h' (y.add 6)) λrN qd ui=>bh (bj.B6 (λu h'=>Gj h0 h' y F L p.step u)) (y,0,(qd:Int),(0:Int)) h':=λx h=>by
  rw[← W.done h]
  refine (P.grow x).rd.oL (off:=6) λb l c S=>?_
  have e:w.al.length=l:=S.len
  rw[← e]
  exact ap0 (P.grow x) W.r (by rw[W.n];exact ae0)
 refine P.rd.oI (off:=8) (P.rd.oL (off:=5) λb0 l0 c0 S0=>goX (yj _ _ _ _) λh4 x4=>cX (P.rd.jQ (by decide) x4 ?_))
 have hl0:w.Score.aU.length=l0:=S0.len
 have P4:=P.grow x4
 obtain⟨b,l,c,hb,S⟩:=P4.hdr (off:=5) (e:=bq) (s:=bD)
 have hl:w.Score.aU.length=l:=S.len
 have s1:=S.2.1
 have s2:=S.2.2.1
 have hes:w.Score.aU.length=p.Score.aU.length:=by rw[W.s]
 refine brd (λhc=>o_l hb (P4.rd.oI (off:=8) ?_)) λhc=>sum x4 ?_
 ·obtain⟨a,rfl,Ra⟩:=S.elem (i:=w.Next.toNat) (by omega) (by decide)
  have Ra:RdP bD h4 (a.add (w.Next.toNat*6)) w.Score.aU[w.Next.toNat]!:=Ra
  refine idxs (by omega) (by omega) (Ra.oI1 (P4.rd.oI (off:=7) (br (λk=>?_) λk=>sum x4 ?_)))
  ·have k:w.Score.aU[w.Next.toNat]!.At=w.nJ:=by simpa using k
   have hc':w.Next<(w.Score.aU.length:Int):=by rw[hl0];exact hc
   have hn:w.Eb=true:=by unfold ay.Eb;rw[decide_eq_true hc',k];simp
   unfold bj.J2
   refine o_l hb (P4.rd.oI (off:=8) (idxs (by omega) (by omega) (Ra.gi rfl λce Rc=>(adN P4 Rc (Vv W.r hc')).mono ?_)))
   rintro _ h1 ⟨rfl,P1⟩
   obtain⟨n1,n2⟩:=K3 w w.Score.aU[w.Next.toNat]!
   refine P1.rd.oI (off:=8) ?_
   rw[n1,wrap64 (n:=w.Next+1) (by omega) (by omega)]
   refine P1.stI λh2 P2=>?_
   have P2:Pt aR h0 h2 y F L w.next:=P2
   refine ⟨⟨w.next,rfl,W.next hn,P2⟩,?_⟩
   rw[HP P2,HP P,(yn w).2.2]
   omega
  ·have k:¬w.Score.aU[w.Next.toNat]!.At=w.nJ:=by simpa using k
   unfold ay.Eb;rw[beq_eq_false_iff_ne.2 k,Bool.and_false]
 ·unfold ay.Eb
  rw[decide_eq_false (by show ¬w.Next<(w.Score.aU.length:Int);omega)];rfl
end
def boL(b1:Option Addr)(l1 c1:Nat)(n1:Int)(b2:Option Addr)(l2 c2:Nat)(n2:Int)(v:Int×Nat×Nat×Nat×Nat×Nat)(y z:Nat):List Value:=
 [.slice b1 l1 c1,.int .i64 n1]++([.slice b2 l2 c2,.int .i64 n2]++(flT v++[.float .f32 y,.float .f32 z]))
theorem aaq{h:ab}{cs:Array Value}{x:jh}(R:fQ.rd h cs.toList x):∃b1 l1 c1 b2 l2 c2 v y z,cs=⟨boL b1 l1 c1 x.bX.At b2 l2 c2 x.aK.At v y z⟩∧bQ.ow [] (flT v) x.gl∧FW .f32 y x.fG∧FW .f32 z x.fi:=by
 obtain⟨w1,r1,e1,⟨u1,u2,rfl,⟨b1,l1,c1,rfl,S1⟩,alF⟩,w2,r2,rfl,⟨u3,u4,rfl,⟨b2,l2,c2,rfl,S2⟩,alG⟩,w3,r3,rfl,F1,w4,w5,rfl,⟨y,rfl,hy⟩,⟨z,rfl,hz⟩⟩:=R
 have alF:u2=[.int .i64 x.bX.At]:=alF
 have alG:u4=[.int .i64 x.aK.At]:=alG
 subst alF alG
 obtain⟨v,rfl,O⟩:=pq F1
 exact ⟨b1,l1,c1,b2,l2,c2,v,y,z,by cases cs;simpa [boL] using e1,O,hy,hz⟩
theorem YW{b1 b2:Option Addr}{l1 c1 l2 c2 y z:Nat}{n1 n2:Int}{v:Int×Nat×Nat×Nat×Nat×Nat}:∀w ∈ (⟨boL b1 l1 c1 n1 b2 l2 c2 n2 v y z⟩:Array Value).toList,w.oneCell'=true:=eG rfl
def aJ.small(v:aJ):Prop:=v.String.Loop.af.length≤1048576∧v.aP.small∧v.cz.bX.af.length≤1048576∧v.cz.aK.af.length≤1048576
section
variable {h:ab}{q:Addr}
theorem SI{x:jh}(R:RdP fQ h q x)(h1:x.bX.af.length≤1048576)(h2:x.aK.af.length≤1048576):ae ai sJ #[.pointer (some q)] (λu h'=>gw fQ h h' u x) h:=by
 refine wo.call ((Mem.start h).alc λg1 h3 x3 M=>?_)
 have A:∀{hh:ab},Ext h hh->RdP fQ hh q x:=λe=>R.ext e
 refine (A M.ext).lda eP rfl λa3 R3=>(A M.ext).oF λr4 h4=>(A M.ext).oF λr5 h5=>?_
 obtain⟨v1,e3,O1⟩:=pq R3
 obtain rfl:a3=⟨flT v1⟩:=by cases a3;simpa using e3
 refine gw.go (Mem.start h3) (EV ((A M.ext).fst fa) h1) λh7 a8 B8 N O8 s8=>fe ?_
 obtain⟨b,l,c,rfl,OS⟩:=oT O8
 have P:=A M.ext
 refine P.jQ (by decide) N.ext (P.jQ (by decide) N.ext (P.jQ (by decide) N.ext ?_))
 refine gw.go N (EV ((A (M.ext.trans N.ext)).foc dz) h2) λh8 a9 B9 N O9 s9=>fe ?_
 obtain⟨b',l',c',rfl,OT⟩:=oT O9
 refine P.jQ (by decide) N.ext (P.jQ (by decide) N.ext (P.jQ (by decide) N.ext (siz rfl (siz rfl (siz rfl ?_)))))
 have M:=(M.join N).cnt (W:=(g1,dc,⟨cH⟩) :: (B8++B9))
 refine M.dy (vs:=⟨boL b l c x.bX.At b' l' c' x.aK.At v1 r4 r5⟩) .here rfl YW rfl .here λh9 M=>M.cM .here rfl ⟨_,B8++B9,rfl,Sb (x:=x) OS OT O1 h4 h5,M.drop⟩
theorem TQ{cs:Array Value}{x:jh}(R0:fQ.rd h cs.toList x)(h1:x.bX.af.length≤1048576)(h2:x.aK.af.length≤1048576):ae ai tL #[.agg cs] (λu h'=>gw fQ h h' u x) h:=by
 obtain⟨b1,l1,c1,b2,l2,c2,v,y,z,rfl,O1,hy,hz⟩:=aaq R0
 refine ya.call ((Mem.start h).alc λg1 h3 x3 M=>M.alc λg3 h4 x4 M=>?_)
 have R:RdP fQ h4 ⟨g1,0,none⟩ x:=M.rdp (.there .here) (fQ.ext M.ext R0)
 refine (R.fst fa).gi rfl λa5 R5=>R.fc dz rfl λa6 R6=>gw.go (Mem.start h4) (wE R5 h1) λh7 a8 B8 N O8 s8=>fe (R.Cs (by decide) N.ext ?_)
 obtain⟨b,l,c,rfl,OS⟩:=oT O8
 refine gw.go N (wE (bo.ext N.ext R6) h2) λh8 a9 B9 N O9 s9=>fe ?_
 obtain⟨b',l',c',rfl,OT⟩:=oT O9
 have M:=(M.join N).cnt (W:=(g1,dc,⟨boL b1 l1 c1 x.bX.At b2 l2 c2 x.aK.At v y z⟩) :: (g3,dc,⟨cH⟩) :: (B8++B9))
 refine M.sta .here rfl (eG rfl) (by show 0+2≤12;decide) .here λh9 M=>?_
 have M:Mem h h9 ((g1,dc,⟨boL b l c x.bX.At b2 l2 c2 x.aK.At v y z⟩) :: (g3,dc,⟨cH⟩) :: (B8++B9)):=M
 refine M.sta .here rfl (eG rfl) (by show 2+2≤12;decide) .here λgd M=>?_
 have M:Mem h gd ((g1,dc,⟨boL b l c x.bX.At b' l' c' x.aK.At v y z⟩) :: (g3,dc,⟨cH⟩) :: (B8++B9)):=M
 exact M.cM .here rfl (M.dy (.there .here) rfl YW rfl (.there .here) λkc M=>M.cM (.there .here) rfl ⟨_,B8++B9,rfl,Sb (x:=x) OS OT O1 hy hz,M.drop.drop⟩)
theorem Ku{cs:Array Value}{x:aJ}(R:az.rd h cs.toList x):∃hd s p b:List Value,cs=⟨hd++(s++(p++b))⟩∧hd.length=5∧s.length=15∧p.length=13∧b.length=12∧aX.rd h s x.String∧ck.rd h p x.aP∧fQ.rd h b x.cz ∧
  ∀B1 B2 B3 s' p' b',aX.ow B1 s' x.String->ck.ow B2 p' x.aP->fQ.ow B3 b' x.cz->az.ow (B1++(B2++B3)) (hd++(s'++(p'++b'))) x:=by
 obtain⟨w1,r1,e1,F1,w2,r2,rfl,F2,w3,r3,rfl,F3,w4,r4,rfl,F4,w5,r5,rfl,F5,s,r6,rfl,FS,p,b,rfl,FP,FB⟩:=R
 have g1:w1=[.int .i64 x.aT]:=F1
 have g2:w2=[.int .i64 x.ar]:=F2
 have g3:w3=[.int .i64 x.lq]:=F3
 have g4:w4=[.bool x.Gone]:=F4
 obtain⟨y,rfl,hy⟩:=F5
 subst g1 g2 g3 g4
 refine ⟨[.int .i64 x.aT,.int .i64 x.ar,.int .i64 x.lq,.bool x.Gone,.float .f32 y],s,p,b,by cases cs;simpa using e1,rfl,aX.tt FS,ck.tt FP,fQ.tt FB,FS,FP,FB,λB1 B2 B3 s' p' b' O1 O2 O3=>?_⟩
 exact ⟨[],_,[.int .i64 x.aT],_,rfl,rfl,⟨rfl,rfl⟩,[],_,[.int .i64 x.ar],_,rfl,rfl,⟨rfl,rfl⟩,[],_,[.int .i64 x.lq],_,rfl,rfl,⟨rfl,rfl⟩,[],_,[.bool x.Gone],_,rfl,rfl,⟨rfl,rfl⟩,[],_,[.float .f32 y],_,rfl,rfl,⟨rfl,y,rfl,hy⟩,B1,B2++B3,s',p'++b',rfl,rfl,O1,B2,B3,p',b',rfl,rfl,O2,O3⟩
theorem Mu{x:aJ}(R:RdP az h q x)(hs:x.small):ae ai pO #[.pointer (some q)] (λu h'=>gw az h h' u x) h:=by
 obtain⟨z1,z2,z3,z4⟩:=hs
 have A:∀{hh:ab},Ext h hh->RdP az hh q x:=λe=>R.ext e
 refine th.call ((Mem.start h).alc λg1 h1 x1 M=>(A M.ext).gi rfl λcs Rc=>M.alc λg4 h2 x2 M=>M.dy .here (rsz Rc rfl) (az.rQ Rc) rfl .here λh3 M=>?_)
 obtain⟨hd,s,p,b,rfl,e0,e1,e2,e3,_,_,_,close⟩:=Ku Rc
 refine gw.go M (Ql ((A M.ext).foc bu) z1) λh4 c1 B1 M O1 s1=>fe ?_
 have M:=M.cnt (W:=(g4,ao,⟨hd++(s++(p++b))⟩) :: (g1,ao,⟨aW⟩) :: B1)
 refine M.abX (pre:=hd) (jV:=s) (post:=p++b) e0 e1 s1 (aX.iH O1) λh5 M=>?_
 refine gw.go M (ab2 ((A M.ext).foc bV) z2) λh4 c2 B2 M O2 s2=>fe ?_
 have M:=M.cnt (W:=(g4,ao,⟨(hd++c1.toList)++(p++b)⟩) :: (g1,ao,⟨aW⟩) :: (B1++B2)) (λp=>by simp only[List.append_assoc,List.append_eq,bO,bz,cg] at *;omega)
 have l1:=aX.kF O1
 refine M.abX (pre:=hd++c1.toList) (jV:=p) (post:=b) (by rw[List.length_append,e0,l1];rfl) e2 s2 (ck.iH O2) λh6 M=>?_
 refine gw.go M (SI ((A M.ext).foc cm) z3 z4) λh4 c3 B3 M O3 s3=>fe ?_
 have M:=M.cnt (W:=(g4,ao,⟨(hd++c1.toList++c2.toList)++(b++[])⟩) :: (g1,ao,⟨aW⟩) :: (B1++(B2++B3))) (λp=>by simp only[List.append_nil,List.append_assoc,List.append_eq,bO,bz,cg] at *;omega)
 have l2:=ck.kF O2
 refine M.abX (pre:=hd++c1.toList++c2.toList) (jV:=b) (post:=[]) (by rw[List.length_append,List.length_append,e0,l1,l2];rfl) e3 s3 (fQ.iH O3) λh7 M=>?_
 have OV:=close _ _ _ _ _ _ O1 O2 O3
 have M:Mem h h7 ((g4,ao,⟨hd++(c1.toList++(c2.toList++c3.toList))⟩) :: (g1,ao,⟨aW⟩) :: (B1++(B2++B3))):=by simpa using M
 have hsz:(⟨hd++(c1.toList++(c2.toList++c3.toList))⟩:Array Value).size=45:=osz (cs:=⟨_⟩) OV rfl
 exact M.cM .here hsz (M.dy (.there .here) hsz (az.iH OV) rfl (.there .here) λgd M=>M.cM (.there .here) hsz ⟨_,_,rfl,OV,M.drop.drop⟩)
theorem OM{cs:Array Value}{x:aJ}(R0:az.rd h cs.toList x)(hs:x.small):ae ai qN #[.agg cs] (λu h'=>gw az h h' u x) h:=by
 obtain⟨z1,z2,z3,z4⟩:=hs
 obtain⟨hd,s,p,b,rfl,e0,e1,e2,e3,_,_,_,close⟩:=Ku R0
 refine ud.call ((Mem.start h).alc λg1 h1 x1 M=>M.alc λg3 h2 x2 M=>?_)
 have R:RdP az h2 ⟨g1,0,none⟩ x:=M.rdp (.there .here) (az.ext M.ext R0)
 refine R.fc bu rfl λa5 R5=>R.fc bV rfl λa6 R6=>R.fc cm rfl λa7 R7=>?_
 refine gw.go (Mem.start h2) (Dk R5 z1) λh4 c1 B1 N O1 s1=>fe (R.Cs (by decide) N.ext (R.Cs (by decide) N.ext ?_))
 refine gw.go N (Rk (ck.ext N.ext R6) z2) λh5 c2 B2 N O2 s2=>fe (R.Cs (by decide) N.ext ?_)
 refine gw.go N (TQ (fQ.ext N.ext R7) z3 z4) λh6 c3 B3 N O3 s3=>fe ?_
 have l1:=aX.kF O1
 have l2:=ck.kF O2
 have M:=(M.join N).cnt (W:=(g1,ao,⟨hd++(s++(p++b))⟩) :: (g3,ao,⟨aW⟩) :: (B1++(B2++B3)))
 refine M.abX (pre:=hd) (jV:=s) (post:=p++b) e0 e1 s1 (aX.iH O1) λh5 M=>?_
 have M:Mem h h5 ((g1,ao,⟨(hd++c1.toList)++(p++b)⟩) :: (g3,ao,⟨aW⟩) :: (B1++(B2++B3))):=by simpa using M
 refine M.abX (pre:=hd++c1.toList) (jV:=p) (post:=b) (by rw[List.length_append,e0,l1];rfl) e2 s2 (ck.iH O2) λh6 M=>?_
 have M:Mem h h6 ((g1,ao,⟨(hd++c1.toList++c2.toList)++(b++[])⟩) :: (g3,ao,⟨aW⟩) :: (B1++(B2++B3))):=by simpa using M
 refine M.abX (pre:=hd++c1.toList++c2.toList) (jV:=b) (post:=[]) (by rw[List.length_append,List.length_append,e0,l1,l2];rfl) e3 s3 (fQ.iH O3) λh7 M=>?_
 have OV:=close _ _ _ _ _ _ O1 O2 O3
 have M:Mem h h7 ((g1,ao,⟨hd++(c1.toList++(c2.toList++c3.toList))⟩) :: (g3,ao,⟨aW⟩) :: (B1++(B2++B3))):=by simpa using M
 have hsz:(⟨hd++(c1.toList++(c2.toList++c3.toList))⟩:Array Value).size=45:=osz (cs:=⟨_⟩) OV rfl
 exact M.cM .here hsz (M.dy (.there .here) hsz (az.iH OV) rfl (.there .here) λgd M=>M.cM (.there .here) hsz ⟨_,_,rfl,OV,M.drop.drop⟩)
end
instance atk:Inhabited (aJ ⊕ List Value):=⟨.inr []⟩
def plN(sc:List Value)(b:Option Addr)(l c:Nat)(n7 n8 n9:Int):List Value:=sc++[.slice b l c,.int .i64 n7,.int .i64 n8,.int .i64 n9]
theorem Te{y1 y2 y3:Nat}{b1 b2 b3 b:Option Addr}{l1 c1 l2 c2 l3 c3 l c:Nat}{n7 n8 n9:Int}:∀v ∈ (⟨plN (scC y1 y2 y3 b1 l1 c1 b2 l2 c2 b3 l3 c3) b l c n7 n8 n9⟩:Array Value).toList,v.oneCell'=true:=eG rfl
structure ay.Wj (p:ay):Prop where
 s:p.Score.ok=true
 n6:p.al.length≤6
 v:∀v ∈ p.al,v.small
section
variable {h:ab}{q:Addr}{p:ay}
theorem Ye{h0 hh:ab}{L:List Blk}{g T:Nat}{pc cs:List Value}{b:Option Addr}{i c:Nat}{B C:List Blk}{vs:List aJ}{v:aJ}{K:Value->ab->Prop}{ty:Nat}{hb:ab}(O:SlO ao az B b i c vs)(hi:i<6)(Ov:az.ow C cs v)(M:Mem h0 hh ((g,T,⟨pc⟩) :: (B++(C++L))))(Hp:∀(h':ab) (p:Prop),Ext hh h'->p->PIN hb ⟨g,6,none⟩ 1 h' p)(H:∀b' c' h' B',SlO ao az B' b' (i+1) c' (vs++[v])->Mem h0 h' ((g,T,⟨pc⟩) :: (B'++L))->K (.slice b' (i+1) c') h'):
  ALC ⟨cs⟩ ao (λg1 h1=>PIN hb ⟨g,6,none⟩ 1 h1<|iA ai (Builtin.append_ #[gy,gy] ty #[.slice b i c,.slice (some ⟨g1,0,none⟩) 1 1]) K h1) hh:=by
 have hm:(7:Nat)≤maxLen:=by decide
 refine M.alc λg1 h1 x1 M1=>Hp _ _ x1 ?_
 have M2:Mem h0 h1 (B++(C++((g1,ao,⟨cs⟩) :: (g,T,⟨pc⟩) :: L))):=M1.cnt (λp=>by simp only[bO,bz,cg] at *;omega)
 refine O.app (news:=cs) (Bn:=C) CS M2 (ys:=[v]) rfl ⟨C,[],cs,[],by simp,by simp,Ov,rfl,rfl⟩ (λj v hj=>?_) (by omega) (by omega) λb' c' h' B' O' M'=>H b' c' h' B' O' (M'.cnt (λp=>by simp only[bO,bz,cg] at *;omega))
 rw[eW,Nat.zero_add,M1.cell .here,← hj];simp
theorem ab9(R:RdP aR h q p)(H:p.Wj):ae ai xV #[.pointer (some q)] (λu h'=>gw aR h h' u p) h:=by
 have n6:=H.n6
 have A:∀{hh:ab},Ext h hh->RdP aR hh q p:=λe=>R.ext e
 refine dQ.call ((Mem.start h).alc λg1 h1 x1 M=>(A M.ext).oI ((A M.ext).oI ((A M.ext).oI ?_)))
 have A1:=A M.ext
 have key:∀{hh:ab}{g:Nat}{cs:Array Value}{B5:List Blk},da.ow B5 cs.toList p.Score->Mem h1 hh ((g,aE,⟨bx⟩) :: B5) ->
   STA 10 hh ⟨g,0,none⟩ ⟨List.set (List.set (List.set (dN 0 6 cs bx) 7 (.int .i64 p.nJ)) 8 (.int .i64 p.Next)) 9 (.int .i64 p.eF)⟩ λh'=>dQ.J2 (λu h'=>gw aR h h' u p) q ⟨g1,0,none⟩ ⟨g,0,none⟩ h':=λ{hh g cs B5} O5 N=>by
  have Rc:=da.look O5 N (List.sublist_cons_self _ _)
  obtain⟨y1,y2,y3,b1,l1,c1,b2,l2,c2,b3,l3,c3,rfl,_⟩:=ve Rc
  clear Rc
  have M:=(M.join N).cnt (W:=(g,aE,⟨bx⟩) :: ([]++(B5++[(g1,aE,⟨bx⟩)])))
  refine M.dy (vs:=⟨plN (scC y1 y2 y3 b1 l1 c1 b2 l2 c2 b3 l3 c3) none 0 0 p.nJ p.Next p.eF⟩) .here rfl Te rfl .here λh7 M=>?_
  unfold dQ.J2
  refine loop (λy hh=>∃(i:Nat) (b:Option Addr) (c:Nat) (B:List Blk),y=(q,⟨g1,0,none⟩,⟨g,0,none⟩,(i:Int))∧i≤p.al.length∧SlO ao az B b i c (p.al.take i)∧Mem h hh ((g,aE,⟨plN (scC y1 y2 y3 b1 l1 c1 b2 l2 c2 b3 l3 c3) b i c p.nJ p.Next p.eF⟩) :: (B++(B5++[(g1,aE,⟨bx⟩)]))))
   (λy=>((p.al.length:Int)-y.2.2.2).toNat) ⟨0,none,0,[],rfl,by omega,SlO.nil,M⟩ ?_
  rintro y hh ⟨i,b,c,B,rfl,hi,O,M⟩
  unfold dQ.B3
  simp only[rq]
  refine (A M.ext).oL λb1' lA c1' S=>?_
  have e1:=S.len
  refine brd (λhc=>?_) λhc=>?_
  ·refine o_l (M.cell .here 6) ((A M.ext).oL λb2' lB c2' S2=>?_)
   have e2:=S2.len
   refine S2.idn (by decide) (by omega) λa Ra=>(Mu Ra (H.v _ (jT (by omega)))).mono ?_
   rintro _ h8 ⟨c8,B8,rfl,O8,N8⟩
   have x8:=N8.ext
   have M8:=M.join N8
   have s8:c8.size=45:=osz O8 rfl
   refine fe (M.Ng .here (by show 6<10;decide) x8 (siz s8 ?_))
   obtain⟨C,Ov,hC⟩:=QD rL (Foc.here az) rfl O8
   have M8:=M8.cnt (W:=(g,aE,⟨plN (scC y1 y2 y3 b1 l1 c1 b2 l2 c2 b3 l3 c3) b i c p.nJ p.Next p.eF⟩) :: (B++(C++(B5++[(g1,aE,⟨bx⟩)])))) (λp=>by have:=hC p;simp only[List.append_eq,bO,bz,cg] at *;omega)
   refine Ye O (by omega) Ov M8 (λh' p x H=>M.Ng .here (by show 6<10;decide) (x8.trans x) H) λb' c' h9 B' O' M=>lZ (M.st1 .here (by show 6<10;decide) .here λgd M=>?_)
   rw[← rJ (by omega)] at O'
   exact ⟨⟨i+1,b',c',B',by rw[ag (by omega)],by omega,O',M⟩,by rw[ag (by omega)];show _<_;simp;omega⟩
  ·obtain rfl:i=p.al.length:=by omega
   rw[List.take_length] at O
   refine M.cM .here rfl ?_
   have M:=M.cnt (W:=(g1,aE,⟨bx⟩) :: (B5++B))
   exact M.dy .here rfl Te rfl .here λh3 M=>M.cM .here rfl ⟨_,B5++B,rfl,QH O5 O _ _ _,M.drop⟩
 refine ⟨?_,?_⟩
 ·refine gw.go (Mem.start h1) (Qm (A1.fst cP) H.s) λh2 c2 B2 N O2 s2=>fe (A1.jQ (by decide) N.ext (A1.jQ (by decide) N.ext (A1.jQ (by decide) N.ext (siz s2 (N.alc λg9 h3 x3 N=>A1.jQ (by decide) N.ext (A1.jQ (by decide) N.ext (A1.jQ (by decide) N.ext ?_)))))))
  exact key O2 (N.cnt λp=>by simp only[List.append_eq,bO,bz,cg];omega)
 ·refine (Mem.start h1).alc λg9 h2 x2 N=>A1.jQ (by decide) N.ext (A1.jQ (by decide) N.ext (A1.jQ (by decide) N.ext (gw.go N (Qm ((A1.ext N.ext).fst cP) H.s) λh3 c2 B2 N O2 s2=>fe (A1.jQ (by decide) N.ext (A1.jQ (by decide) N.ext (A1.jQ (by decide) N.ext (siz s2 ?_)))))))
  exact key O2 (N.cnt λp=>by simp only[List.append_eq,bO,bz,cg];omega)
theorem ZI{α:Type}[Inhabited α]{r:Rep α}:∀{ji:List α}{vs:List Value},rds r h vs ji->∃AX:List (List Value),AX.length=ji.length∧ows (Vr r) [] vs (AX.map .inr)∧∀i,i<ji.length->r.rd h AX[i]! ji[i]!
 | [],vs,e=>⟨[],rfl,⟨rfl,e⟩,λi hi=>by simp at hi⟩
 | a :: ji,vs,e=>by
  obtain⟨v1,v2,rfl,h1,h2⟩:=e
  obtain⟨AX,e1,e2,e3⟩:=ZI h2
  refine ⟨v1 :: AX,by simp[e1],⟨[],[],v1,v2,rfl,rfl,⟨rfl,rfl,r.tt h1,r.rQ h1⟩,e2⟩,λi hi=>?_⟩
  cases i with
  | zero=>exact h1
  | succ i=>simpa using e3 i (by simpa using hi)
theorem PH(l:List aJ):(List.range l.length).map (λk=>(Sum.inl l[k]! : aJ ⊕ List Value))=l.map Sum.inl:=by
 apply List.ext_getElem
 ·simp
 ·intro i h1 h2
  rw[List.getElem_map,List.getElem_range,List.getElem_map,getElem!_pos l i (by simpa using h2)]
theorem Zz{α:Type}{r:Rep α}:∀{ji:List α}{B:List Blk}{vs:List Value},ows (Vr r) B vs (ji.map .inl)->ows r B vs ji
 | [],B,vs,e=>e
 | a :: ji,B,vs,e=>by
  obtain⟨B1,B2,v1,v2,rfl,rfl,h1,h2⟩:=e
  exact ⟨B1,B2,v1,v2,rfl,rfl,h1,Zz h2⟩
theorem SlO.mix{α:Type}{r:Rep α}{e:Nat}{B:List Blk}{b:Option Addr}{l c:Nat}{ji:List α}(O:SlO e (Vr r) B b l c (ji.map .inl)):SlO e r B b l c ji:=by
 obtain⟨h1,ws,B1,B2,rfl,O1,O2⟩:=O
 exact ⟨by rw[List.length_map] at h1;exact h1,ws,B1,B2,rfl,O1,Zz O2⟩
theorem SlO.stE{β:Type}[Inhabited β]{e n:Nat}{s:Rep β}{h0 h:ab}{B B' L:List Blk}{b:Option Addr}{l c i:Nat}{ji:List β}{vs:Array Value}{x:β}{K:ab->Prop}(O:SlO e s B b l c ji)(M:Mem h0 h (B++(B'++L)))(hi:i<l)(hn:s.sz=n)(Ox:s.ow B' vs.toList x)(H:∀h' B'',SlO e s B'' b l c (ji.set i x)->Mem h0 h' (B''++L)->K h'):∃a0,b=some a0∧STA n h (a0.add (i*n)) vs K:=by
 subst hn
 obtain⟨a0,F',C,rfl,P1,close⟩:=O.LR hi
 refine ⟨a0,rfl,?_⟩
 have P2:Pt s h0 h (a0.add (i*s.sz)) F' (B'++(C++L)) ji[i]!:=(P1 _ _ _ M).cnt λp=>by simp only[bO];omega
 refine P2.asO (Foc.here s) rfl Ox λh' P3=>?_
 obtain⟨B'',O2,M2⟩:=close _ _ _ _ P3
 exact H h' B'' O2 M2
theorem SlO.aBf{β:Type}[Inhabited β]{e n:Nat}{s:Rep β}{h0 h:ab}{B B' L:List Blk}{a0:Addr}{l c i:Nat}{ji:List β}{vs:Array Value}{x:β}{K:ab->Prop}(O:SlO e s B (some a0) l c ji)(M:Mem h0 h (B++(B'++L)))(hi:i<l)(hn:s.sz=n)(Ox:s.ow B' vs.toList x)(H:∀h' B'',SlO e s B'' (some a0) l c (ji.set i x)->Mem h0 h' (B''++L)->K h'):STA n h (a0.add (i*n)) vs K:=by
 obtain⟨a,ha,st⟩:=O.stE M hi hn Ox H
 cases ha
 exact st
theorem Ot{h0:ab}{b:Option Addr}{l c:Nat}{vs:List aJ}(S:SlR az h0 b l c vs)(x0:Ext h0 h)(hl:l≤1000):ae ai hH #[.slice b l c] (λu h'=>∃(b':Option Addr) (c':Nat) (B:List Blk) (AX:List (List Value)),u = .slice b' l c'∧SlO ao (Vr az) B b' l c' (AX.map .inr)∧Mem h h' B∧AX.length=vs.length∧∀i,i<vs.length->az.rd h0 AX[i]! vs[i]!) h:=by
 have hm:(1000:Nat)≤maxLen:=by decide
 refine iy.call (Lf Kz (br (λhb=>?_) λhb=>?_))
 ·obtain rfl:b=none:=by simpa using hb
  obtain⟨rfl,rfl⟩:=Tp (by decide) S
  exact ⟨none,0,[],[],rfl,SlO.nil,Mem.start h,rfl,λi hi=>by simp at hi⟩
 ·refine (Mem.start h).alc λg h1 x1 M=>?_
  obtain⟨k1,k2,k3,ws,C,Rw⟩:=S
  obtain⟨AX,e1,e2,e3⟩:=ZI Rw
  cases b with
  | none=>cases hb
  | some a=>
   refine (SlO.empty (r:=Vr az) g).app (Bn:=[]) (L:=[]) CS (by simpa using M) (show (AX.map Sum.inr).length=l by rw[List.length_map,e1,k1]) e2 (λj v hj=>x1.cell (x0.cell (C.get hj))) (by omega) (by omega) λb' c' h' B' O' M'=>?_
   rw[Nat.zero_add] at O' ⊢
   exact lZ ⟨b',c',B',AX,rfl,by simpa using O',by simpa using M',e1,e3⟩
theorem Tf{cs:Array Value}(R:aR.rd h cs.toList p):∃y1 y2 y3 b1 l1 c1 b2 l2 c2 b3 l3 c3 b l c,cs=⟨plN (scC y1 y2 y3 b1 l1 c1 b2 l2 c2 b3 l3 c3) b l c p.nJ p.Next p.eF⟩∧da.rd h (scC y1 y2 y3 b1 l1 c1 b2 l2 c2 b3 l3 c3) p.Score∧SlR az h b l c p.al:=by
 obtain⟨sc,r1,e1,FS,w2,r2,rfl,⟨b,l,c,rfl,SV⟩,w3,r3,rfl,F3,w4,w5,rfl,F4,F5⟩:=R
 have g3:w3=[.int .i64 p.nJ]:=F3
 have g4:w4=[.int .i64 p.Next]:=F4
 have g5:w5=[.int .i64 p.eF]:=F5
 subst g3 g4 g5
 have wv:da.rd h (⟨sc⟩:Array Value).toList p.Score:=FS
 obtain⟨y1,y2,y3,b1,l1,c1,b2,l2,c2,b3,l3,c3,e2,_⟩:=ve wv
 have e2:sc=scC y1 y2 y3 b1 l1 c1 b2 l2 c2 b3 l3 c3:=by simpa using e2
 subst e2
 exact ⟨y1,y2,y3,b1,l1,c1,b2,l2,c2,b3,l3,c3,b,l,c,by cases cs;simpa [plN] using e1,FS,SV⟩
theorem Lx{cs:Array Value}(R0:aR.rd h cs.toList p)(H:p.Wj):ae ai pD #[.agg cs] (λu h'=>gw aR h h' u p) h:=by
 have n6:=H.n6
 have hm:(1000:Nat)≤maxLen:=by decide
 have hx:=bW
 obtain⟨y1,y2,y3,b1,l1,c1,b2,l2,c2,b3,l3,c3,b,l,c,rfl,RS,SV⟩:=Tf R0
 have hl:p.al.length=l:=SV.len
 refine ew.call ((Mem.start h).alc λg1 h1 x1 M=>M.alc λg3 h2 x2 M=>?_)
 have R:RdP aR h2 ⟨g1,0,none⟩ p:=M.rdp (.there .here) (aR.ext M.ext R0)
 refine (R.fst cP).gi rfl λa5 R5=>o_l (M.cell (.there .here) 6) (gw.go (Mem.start h2) (OG R5 H.s) λh3 c5 B5 N O5 s5=>fe (R.Cs (by decide) N.ext ?_))
 have Rc:=da.look O5 N (List.sublist_append_left _ _)
 obtain⟨z1,z2,z3,d1,k1,f1,d2,k2,f2,d3,k3,f3,rfl,_⟩:=ve Rc
 clear Rc
 have X3:=M.ext.trans N.ext
 refine (Ot SV X3 (by omega)).mono ?_
 rintro _ h4 ⟨b',c',Bv,AX,rfl,OV,N4,hrl,Uz⟩
 have M:=((M.join N).join N4).cnt (W:=(g1,aE,⟨plN (scC y1 y2 y3 b1 l1 c1 b2 l2 c2 b3 l3 c3) b l c p.nJ p.Next p.eF⟩) :: (Bv++(B5++[(g3,aE,⟨bx⟩)])))
 refine lZ (M.sta .here rfl Tl (by show 0+6≤10;decide) .here λh5 M=>?_)
 have M:Mem h h5 ((g1,aE,⟨plN (scC z1 z2 z3 d1 k1 f1 d2 k2 f2 d3 k3 f3) b l c p.nJ p.Next p.eF⟩) :: (Bv++(B5++[(g3,aE,⟨bx⟩)]))):=M
 refine M.st1 .here (by show 6<10;decide) .here λh6 M=>?_
 have M:Mem h h6 ((g1,aE,⟨plN (scC z1 z2 z3 d1 k1 f1 d2 k2 f2 d3 k3 f3) b' l c' p.nJ p.Next p.eF⟩) :: (Bv++(B5++[(g3,aE,⟨bx⟩)]))):=M
 refine o_l (M.cell .here 6) ?_
 refine loop (λy hh=>∃(i:Nat) (Bv:List Blk),y=(⟨g1,0,none⟩,⟨g3,0,none⟩,b',l,c',(l:Int),(i:Int))∧i≤l∧SlO ao (Vr az) Bv b' l c' (uk (λk=>Sum.inl p.al[k]!) (AX.map Sum.inr) i)∧Mem h hh ((g1,aE,⟨plN (scC z1 z2 z3 d1 k1 f1 d2 k2 f2 d3 k3 f3) b' l c' p.nJ p.Next p.eF⟩) :: (Bv++(B5++[(g3,aE,⟨bx⟩)]))))
  (λy=>((l:Int)-y.2.2.2.2.2.2).toNat) ⟨0,Bv,rfl,by omega,by rw[AP];exact OV,M⟩ ?_
 rintro y hh ⟨i,Bv,rfl,hi,O,M⟩
 unfold ew.B3
 simp only[rq]
 refine brd (λhc=>?_) λhc=>?_
 ·have hlr:i<AX.length:=by omega
  have S:=O.look M ((List.sublist_append_left _ _).trans (List.sublist_cons_self _ _))
  obtain⟨a,rfl,Ra⟩:=S.elem (i:=i) (by omega) (by decide)
  rw[SY (by rw[List.length_map];exact hlr) (Nat.le_refl _)] at Ra
  have eg:(AX.map (Sum.inr (α:=aJ)))[i]! = Sum.inr AX[i]!:=qB hlr
  rw[eg] at Ra
  refine idxs (by omega) (by omega) ?_
  rw[Int.toNat_natCast]
  have Ra:RdP (Vr az) hh (a.add (i*45)) (Sum.inr AX[i]!):=Ra
  refine Ra.gi rfl λcv Rv=>?_
  have s45:cv.size=45:=rsz Rv rfl
  have hcv:cv.toList=AX[i]!:=Rv.1
  refine M.alc λg20 h7 x7 M=>M.dy .here s45 ((Vr az).rQ Rv) rfl .here λh8 M=>?_
  refine o_l (M.cell (.there .here) 6) (M.cM .here s45 ?_)
  have RV:az.rd h8 cv.toList p.al[i]!:=by rw[hcv];exact az.ext M.ext (Uz i (by omega))
  refine (OM RV (H.v _ (jT (by omega)))).mono ?_
  rintro _ h9 ⟨c9,B9,rfl,O9,N9⟩
  refine fe (M.Ng (.there .here) (by show 6<10;decide) N9.ext (idxs (by omega) (by omega) ?_))
  have M:=(M.join N9).cnt (W:=Bv++(B9++((g1,aE,⟨plN (scC z1 z2 z3 d1 k1 f1 d2 k2 f2 d3 k3 f3) (some a) l c' p.nJ p.Next p.eF⟩) :: (B5++[(g3,aE,⟨bx⟩)]))))
  refine SlO.aBf (n:=45) (vs:=c9) (x:=Sum.inl p.al[i]!) (i:=i) O M (by omega) rfl O9 λh' B'' O' M'=>?_
  have e1:=I5 (f:=λk=>(Sum.inl p.al[k]! : aJ ⊕ List Value)) (l:=AX.map Sum.inr) (n:=i) (by rw[List.length_map];exact hlr)
  rw[e1] at O'
  exact ⟨⟨i+1,B'',by rw[ag (by omega)],by omega,O',M'.cnt (λp=>by simp only[bO,bz,cg] at *;omega)⟩,by rw[ag (by omega)];show _<_;simp;omega⟩
 ·obtain rfl:i=l:=by omega
  rw[MI (by rw[List.length_map];omega),List.length_map,hrl,PH] at O
  have O:=O.mix
  refine M.cM .here rfl ?_
  have M:=M.cnt (W:=(g3,aE,⟨bx⟩) :: (B5++Bv))
  exact M.dy .here rfl Te rfl .here λh3 M=>M.cM .here rfl ⟨_,B5++Bv,rfl,QH O5 O _ _ _,M.drop⟩
end
end Go.Sx
