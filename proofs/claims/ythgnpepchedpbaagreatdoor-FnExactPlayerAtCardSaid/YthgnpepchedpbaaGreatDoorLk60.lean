/- Lemmas. -/
import Derived.Test.YthgnpepchedpbaaGreatDoorLk58
import Derived.Test.YthgnpepchedpbaaGreatDoorLk50
import Derived.Test.YthgnpepchedpbaaGreatDoorLk10
import Derived.Test.YthgnpepchedpbaaGreatDoorTab
import Derived.Test.YthgnpepchedpbaaGreatDoorLk4
set_option linter.unusedVariables false
set_option linter.unusedSimpArgs false
namespace Go.Sx
open Go.Proofs
set_option maxRecDepth 100000
set_option maxHeartbeats 1000000
theorem GH{p:aC}(h:p.yN=true):p.Next<p.Score.bo.length∧p.Score.bo[p.Next.toNat]!.At=p.mO:=by
 unfold aC.yN at h
 rw[Bool.and_eq_true,decide_eq_true_iff,beq_iff_eq] at h
 exact h
theorem OH{p:aC}(R:p.iW)(h:p.Next<p.Score.bo.length):W0 p p.Score.bo[p.Next.toNat]!:=by
 have nx:=R.nx
 have hm:=aau R.s
 have hl:p.Next.toNat<p.Score.bo.length:=by omega
 have G:=sP R.s
 have hn:=(G.note _ hl).1
 refine⟨R.s,R.n1,λhk=>?_,?_,λi hi he=>?_,λi j Uc hj h1 h2=>?_⟩
 ·have hs:fF p.Score.bo[p.Next.toNat]! = true:=by unfold fF;rw[hk];rfl
  exact Kg R.s (OP G hs (iL hl))
 ·have:=R.sk;omega
 ·rcases R.v _ (iL hi) with h | h
  ·omega
  ·exact h.ins R.s
 ·have:=R.d i j Uc hj (by rw[h1,h2])
  omega
theorem YE{p:aC}(R:p.iW)(h:p.Next<p.Score.bo.length)(hs:fF p.Score.bo[p.Next.toNat]! = true){v:aK}(hv:v ∈ p.al):¬v.aT=p.Score.bo[p.Next.toNat]!.aT:=λe=>by
 have nx:=R.nx
 have G:=sP R.s
 have hn:=(G.note p.Next.toNat (by omega)).1
 rcases R.v v hv with h1 | ⟨j,h1,h2,h3,h4,_⟩
 ·omega
 ·have:=G.st1 j p.Next.toNat h1 (by omega) h3 hs (by rw[h4,e])
  omega
theorem JG(s:bI)(v:aK):(o5 s v).aT=v.aT∧(o5 s v).aq=v.aq∧s.kind (o5 s v)=s.kind v:=by
 unfold o5
 split <;> exact⟨rfl,rfl,rfl⟩
theorem U0{s:bI}{v:aK}{k:Int}(h:fB k v):fB k (o5 s v):=by
 unfold o5
 split <;> exact h
theorem rz.mono{s:bI}{n m:Int}{v:aK}(h:rz s n v)(hm:n≤m):rz s m v:=by
 obtain⟨j,h1,h2,r⟩:=h
 exact⟨j,h1,by omega,r⟩
theorem JX{p:aC}(R:p.iW)(h:p.Next<p.Score.bo.length):p.next.iW:=by
 have nx:=R.nx
 have sk:=R.sk
 have hl:p.Next.toNat<p.Score.bo.length:=by omega
 have G:=sP R.s
 obtain⟨e,he⟩:∃e,e=p.Score.bo[p.Next.toNat]!:=⟨_,rfl⟩
 unfold aC.next
 rw[← he]
 by_cases hk:e.Kind=2
 ·have hs:fF e=true:=by unfold fF;rw[hk];rfl
  have no:∀{v:aK},v ∈ p.al->¬v.aT=e.aT:=λhv=>by rw[he];exact YE R h (by rw[← he];exact hs) hv
  have hn:0≤e.aT:=by rw[he];exact(G.note _ hl).1
  rw[vE hk]
  cases hv:g0 p.Score e with
  | none=>exact⟨R.s,R.n1,R.n6,⟨by show 0≤p.Next+1;omega,by show p.Next+1≤(p.Score.bo.length:Int);omega⟩,⟨by show 0≤p.ft+1;omega,by show p.ft+1≤64+(p.Next+1);omega⟩,λv hv=>(R.v v hv).imp id λV=>V.mono (by show p.Next≤p.Next+1;omega),R.d⟩
  | some w=>
   obtain⟨w1,w2,w3⟩:=Vu hv
   have hp:=GU R.n1
   refine⟨R.s,by show 1≤(p.al.set _ w).length;rw[List.length_set];exact R.n1,by show(p.al.set _ w).length≤6;rw[List.length_set];exact R.n6,⟨by show 0≤p.Next+1;omega,by show p.Next+1≤(p.Score.bo.length:Int);omega⟩,⟨sk.1,by show p.ft≤64+(p.Next+1);omega⟩,λv hv=>?_,λi j Uc hj CY=>?_⟩
   ·rcases List.mem_or_eq_of_mem_set hv with hv | rfl
    ·exact(R.v v hv).imp id λV=>V.mono (by show p.Next≤p.Next+1;omega)
    ·exact .inr ⟨p.Next.toNat,hl,by show((p.Next.toNat:Nat):Int)<p.Next+1;omega,by show fF p.Score.bo[p.Next.toNat]! = true;rw[← he];exact hs,by show p.Score.bo[p.Next.toNat]!.aT=_;rw[← he,w1],by show p.Score.bo[p.Next.toNat]!.aq=_;rw[← he,w2],w3⟩
   ·have hj:j<(p.al.set (placeOf p.al) w).length:=hj
    rw[List.length_set] at hj
    have CY:(p.al.set (placeOf p.al) w)[i]!.aT=(p.al.set (placeOf p.al) w)[j]!.aT:=CY
    show(p.al.set (placeOf p.al) w)[i]!.aT = -1
    rw[Lb (by omega),Lb (by omega)] at CY
    rw[Lb (by omega)]
    by_cases e1:placeOf p.al=i
    ·rw[if_pos e1] at CY ⊢
     rw[if_neg (by omega)] at CY
     exact absurd (by rw[← CY,w1]) (no (iL hj))
    ·rw[if_neg e1] at CY ⊢
     by_cases e2:placeOf p.al=j
     ·rw[if_pos e2] at CY
      exact absurd (by rw[CY,w1]) (no (iL (show i<p.al.length by omega)))
     ·rw[if_neg e2] at CY
      exact R.d i j Uc hj CY
 ·rw[yw hk]
  have SL:∀v,(ir p.Score e.aT v).aT=v.aT:=λv=>by unfold ir;split <;> first | exact(JG _ v).1 | rfl
  refine⟨R.s,by show 1≤(p.al.map _).length;rw[List.length_map];exact R.n1,by show(p.al.map _).length≤6;rw[List.length_map];exact R.n6,⟨by show 0≤p.Next+1;omega,by show p.Next+1≤(p.Score.bo.length:Int);omega⟩,⟨sk.1,by show p.ft≤64+(p.Next+1);omega⟩,λv hv=>?_,λi j Uc hj CY=>?_⟩
  ·obtain⟨u,hu,rfl⟩:=List.mem_map.1 hv
   rw[SL]
   refine(R.v u hu).imp id λV=>?_
   have V:=V.mono (show p.Next≤p.Next+1 by omega)
   unfold ir
   split
   ·obtain⟨j,h1,h2,h3,h4,h5,h6⟩:=V
    obtain⟨g1,g2,g3⟩:=JG p.Score u
    exact⟨j,h1,h2,h3,by rw[g1];exact h4,by rw[g2];exact h5,by show fB (p.Score.kind (o5 p.Score u)) _;rw[g3];exact U0 h6⟩
   ·exact V
  ·have hj:j<(p.al.map (ir p.Score e.aT)).length:=hj
   rw[List.length_map] at hj
   have CY:(p.al.map (ir p.Score e.aT))[i]!.aT=(p.al.map (ir p.Score e.aT))[j]!.aT:=CY
   show(p.al.map (ir p.Score e.aT))[i]!.aT = -1
   rw[nB (by omega),nB (by omega),SL,SL] at CY
   rw[nB (by omega),SL]
   exact R.d i j Uc hj CY
theorem sM(p:aC):p.next.Score=p.Score∧p.next.mO=p.mO∧p.next.Next=p.Next+1:=by
 unfold aC.next aC.qm
 split
 ·cases g0 p.Score _ <;> exact⟨rfl,rfl,rfl⟩
 ·exact⟨rfl,rfl,rfl⟩
theorem CB:∀(k:Nat){p:aC},p.iW->(aC.run k p).iW∧(aC.run k p).mO=p.mO∧(aC.run k p).Score=p.Score
 | 0,p,R=>⟨R,rfl,rfl⟩
 | k+1,p,R=>by
  unfold aC.run
  split
  ·next h=>
   obtain⟨h1,h2,h3⟩:=CB k (JX R (GH h).1)
   obtain⟨g1,g2,_⟩:=sM p
   exact⟨h1,by rw[h2,g2],by rw[h3,g1]⟩
  ·exact⟨R,rfl,rfl⟩
theorem Z9{p:aC}(R:p.iW)(h:p.yN=true):aC.run (p.Score.bo.length-p.Next.toNat) p=aC.run (p.next.Score.bo.length-p.next.Next.toNat) p.next:=by
 have nx:=R.nx
 obtain⟨h1,h2⟩:=GH h
 obtain⟨g1,g2,g3⟩:=sM p
 rw[g1,g3,show p.Score.bo.length-p.Next.toNat=(p.Score.bo.length-(p.Next+1).toNat)+1 by omega]
 conv=>lhs;unfold aC.run
 rw[if_pos h]
theorem Z7{p:aC}(h:p.yN=false):∀k,aC.run k p=p
 | 0=>rfl
 | k+1=>by unfold aC.run;rw[h,if_neg (by decide)]
theorem JW(s:bI)(v:aK):(xw s v).aT=v.aT∨(xw s v).aT = -1:=by
 unfold xw
 split
 ·exact .inl rfl
 ·split
  ·exact .inr rfl
  ·exact .inl (wm _ v).2.1
theorem LZ{p:aC}(R:p.iW):p.pB.1.iW:=by
 refine⟨R.s,by show 1≤(p.al.map _).length;rw[List.length_map];exact R.n1,by show(p.al.map _).length≤6;rw[List.length_map];exact R.n6,R.nx,R.sk,λv hv=>?_,λi j Uc hj CY=>?_⟩
 ·obtain⟨u,hu,rfl⟩:=List.mem_map.1 hv
  unfold xw
  split
  ·next h=>exact .inl h
  ·next hn=>
   split
   ·exact .inl rfl
   ·rcases R.v u hu with h | ⟨j,h1,h2,h3,h4,h5,h6⟩
    ·exact absurd h hn
    ·obtain⟨g1,g2,g3⟩:=wm (p.Score.kind u) u
     refine .inr ⟨j,h1,h2,h3,by rw[g2];exact h4,by rw[g3];exact h5,?_⟩
     have:p.Score.kind (u.sound (p.Score.kind u)).1=p.Score.kind u:=by show p.Score.az[(u.sound (p.Score.kind u)).1.aq.toNat]!.Kind=_;rw[g3];rfl
     show fB (p.Score.kind _) _
     rw[this];exact wk h6
 ·have hj:j<(p.al.map (xw p.Score)).length:=hj
  rw[List.length_map] at hj
  have CY:(p.al.map (xw p.Score))[i]!.aT=(p.al.map (xw p.Score))[j]!.aT:=CY
  show(p.al.map (xw p.Score))[i]!.aT = -1
  rw[nB (by omega),nB (by omega)] at CY
  rw[nB (by omega)]
  rcases JW p.Score p.al[i]! with h1 | h1
  ·rcases JW p.Score p.al[j]! with h2 | h2
   ·rw[h1];exact R.d i j Uc hj (by rw[← h1,CY,h2])
   ·rw[CY,h2]
  ·exact h1
theorem RV{p:aC}(R:p.iW):p.step.1.iW:=LZ (CB _ R).1
theorem Zi{p:aC}(R:p.iW):p.step.1.mO=p.mO+1:=by
 show(aC.run _ p).mO+1=_
 rw[(CB _ R).2.1]
set_option maxHeartbeats 2000000
theorem ae3{X:Type}{B:(X->ab->Prop)->X->ab->Prop}{x:X}{h:ab}(I:X->ab->Prop)(m:X->ab->Nat)(h0:I x h)(hb:∀x h,I x h->B (λx' h'=>I x' h'∧m x' h'<m x h) x h):bk B x h:=⟨I,m,h0,hb⟩
def SO(h:ab)(a:Addr):Int:=match cell h a with | some (.int _ n)=>n | _=>0
theorem Ca{h0 h:ab}{q:Addr}{F:Fr}{L:List Blk}{p:aC}(P:Pt bz h0 h q F L p):SO h (q.add 8)=p.Next:=by
 obtain⟨v,e,e2⟩:=P.rd.cell xk rfl
 have e2:[v]=[.int .i64 p.Next]:=e2
 obtain rfl:v = .int .i64 p.Next:=by simpa using e2
 unfold SO
 rw[e]
def AA(h0 h':ab)(q:Addr)(F:Fr)(L:List Blk)(r:aC×Nat)(u:Value):Prop:=(∃y,u = .float .f32 y∧FW .f32 y r.2)∧Pt bz h0 h' q F L r.1
def aC.upto(p:aC)(i:Nat):aC:={ p with al:=oN (xw p.Score) p.al i }
def qS(p:aC)(i:Nat):Nat:=(p.al.take i).foldl (PM p.Score) 0
theorem wF{p:aC}{i:Nat}(h:i<p.al.length):qS p (i+1)=PM p.Score (qS p i) p.al[i]!:=by
 unfold qS
 rw[vk h,List.foldl_append];rfl
theorem HF{p:aC}{i:Nat}(h:i<p.al.length):(p.upto i).al[i]! = p.al[i]!:=NY h
theorem zf{p:aC}{i:Nat}(h:i<p.al.length):{ p.upto i with al:=(p.upto i).al.set i (xw p.Score p.al[i]!) }=p.upto (i+1):=by
 unfold aC.upto
 dsimp only
 rw[JS h]
theorem HG(p:aC)(i:Nat):(p.upto i).al.length=p.al.length:=yL
theorem Zc{α:Type}[Inhabited α]{l:List α}{i:Nat}(h:i<l.length):l.set i l[i]! = l:=by
 rw[getElem!_pos l i h,List.set_getElem_self]
theorem Kj{p:aC}{i:Nat}(h:i<p.al.length)(hn:p.al[i]!.aT = -1):p.upto (i+1)=p.upto i:=by
 rw[← zf h]
 have:xw p.Score p.al[i]! = (p.upto i).al[i]!:=by unfold xw;rw[if_pos hn,HF h]
 rw[this,Zc (by rw[HG];exact h)]
section
variable {h0 h:ab}{q:Addr}{F:Fr}{L:List Blk}{p:aC}
theorem Ki(R:p.iW){i:Nat}(hi:i<p.al.length)(hn:¬p.al[i]!.aT = -1):fB (p.Score.kind p.al[i]!) p.al[i]! ∧ 0≤p.al[i]!.aq∧p.al[i]!.aq<p.Score.az.length:=by
 have V:=(R.v _ (iL hi)).resolve_left hn
 exact⟨V.choose_spec.2.2.2.2.2,V.ins R.s⟩
theorem XJ(P:Pt bz h0 h q F L p)(R:p.iW)(Ud:0≤p.mO∧p.mO≤1000000):bk (bw.B6 (λu h'=>AA h0 h' q F L p.pB u)) (q,0,(0:Int)) h:=by
 have hm:=cu
 refine loop (λy hh=>∃(i sum:Nat),y=(q,sum,(i:Int))∧i≤p.al.length∧FW .f32 sum (qS p i)∧Pt bz h0 hh q F L (p.upto i)) (λy=>((p.al.length:Int)-y.2.2).toNat) ⟨0,0,rfl,by omega,fw0,by unfold aC.upto;rw[DA];exact P⟩ ?_
 rintro y hh ⟨i,sum,rfl,hi,rf,P⟩
 obtain⟨b,l,c,hb,S⟩:=P.hdr (off:=6) (e:=122) (s:=aQ)
 have hl:(p.upto i).al.length=l:=S.len
 rw[HG] at hl
 have s1:=S.2.1
 have s2:=S.2.2.1
 refine o_l hb (brd (λhc=>o_l hb ?_) λhc=>?_)
 ·have fin:∀{h':ab}{Zj:Nat},FW .f32 Zj (qS p (i+1))->Pt bz h0 h' q F L (p.upto (i+1))->((∃i' OX:Nat,(q,Zj,IntKind.i64.wrap ((i:Int)+1))=(q,OX,(i':Int))∧i'≤p.al.length∧FW .f32 OX (qS p i')∧Pt bz h0 h' q F L (p.upto i'))∧((p.al.length:Int)-IntKind.i64.wrap ((i:Int)+1)).toNat<((p.al.length:Int)-i).toNat):=λhs P=>
   ⟨⟨i+1,_,by rw[ag (by omega)],by omega,hs,P⟩,by rw[ag (by omega)];omega⟩
  obtain⟨a,F',C,rfl,P',close⟩:=P.JA (off:=6) hb (i:=i) (by omega)
  have Nm:=HF (p:=p) (i:=i) (by omega)
  have P':Pt aQ h0 hh (a.add (i*45)) F' (C++L) (p.upto i).al[i]!:=P'
  rw[Nm] at P'
  refine idxs (by omega) (by omega) ?_
  rw[Int.toNat_natCast]
  refine P'.rd.oI1 (br (λk=>?_) λk=>?_)
  ·have k:p.al[i]!.aT = -1:=by simpa using k
   refine fin ?_ ?_
   ·rw[wF (by omega)];unfold PM;rw[if_pos k];exact rf
   ·rw[Kj (by omega) k];exact P
  have k:¬p.al[i]!.aT = -1:=by simpa using k
  obtain⟨B,I1,I2⟩:=Ki R (i:=i) (by omega) k
  refine P.rd.oL (off:=4) λb4 l4 c4 S4=>?_
  have e4:p.Score.az.length=l4:=S4.len
  refine P'.rd.oI (S4.idx (by decide) I1 (by omega) λa4 R4=>?_)
  have R4:RdP aA hh (a4.add (p.al[i]!.aq.toNat*5)) p.Score.az[p.al[i]!.aq.toNat]!:=R4
  refine R4.oI ?_
  have hkd:p.Score.az[p.al[i]!.aq.toNat]!.Kind=p.Score.kind p.al[i]!:=rfl
  rw[hkd]
  refine(Qw P' B).mono ?_
  rintro _ h1 ⟨⟨y,rfl,hy⟩,P1⟩
  obtain⟨Pc,hk1⟩:=close _ _ _ _ P1
  have hb1:cell h1 (q.add 6)=some (.slice (some a) l c):=by rw[hk1];exact hb
  have B1:=wk B
  have ID:xw p.Score p.al[i]! = if(p.al[i]!.Gone&&(p.al[i]!.sound (p.Score.kind p.al[i]!)).1.quiet (p.Score.kind p.al[i]!))=true then ln else(p.al[i]!.sound (p.Score.kind p.al[i]!)).1:=by unfold xw;rw[if_neg k]
  refine cW (fA rf hy λs' Qm=>P1.rd.oB ?_)
  rw[(wm _ _).1]
  have Qm:FW .f32 s' (qS p (i+1)):=by rw[wF (by omega)];unfold PM;rw[if_neg k];exact Qm
  have J:∀{h2:ab}{t:Bool},Ext h1 h2->t=(p.al[i]!.Gone&&(p.al[i]!.sound (p.Score.kind p.al[i]!)).1.quiet (p.Score.kind p.al[i]!)) ->
    bw.J13 (λx' h'=>(∃i sum:Nat,x'=(q,sum,(i:Int))∧i≤p.al.length∧FW .f32 sum (qS p i)∧Pt bz h0 h' q F L (p.upto i))∧((p.al.length:Int)-x'.2.2).toNat<((p.al.length:Int)-(i:Int)).toNat) (λu h'=>AA h0 h' q F L p.pB u) q s' (i:Int) t h2:=λ{h2 t} x2 ht=>by
   unfold bw.J13
   have Pc:=Pc.grow x2
   rw[← ht] at ID
   refine br (λe=>?_) λe=>?_
   ·rw[e,if_pos rfl] at ID
    refine o_l (x2.cell hb1) (goX vi λh3 x3=>gw (Pc.rd.lN (by decide) x3 ?_))
    have Pc:=Pc.grow x3
    obtain⟨a',ha,st⟩:=Pt.stE (off:=6) (i:=i) (n:=45) (L:=L) (B':=[]) (vs:=⟨u5⟩) Pc (x3.cell (x2.cell hb1)) (by omega) rfl HM λh' P' _=>fin Qm (by
     have P':Pt bz h0 h' q F L { p.upto i with al:=((p.upto i).al.set i (p.al[i]!.sound (p.Score.kind p.al[i]!)).1).set i ln }:=P'
     rw[List.set_set,← ID,zf (by omega)] at P'
     exact P')
    cases ha
    refine idxs (by omega) (by omega) ?_
    rw[Int.toNat_natCast]
    exact st
   ·rw[e,if_neg (by decide)] at ID
    refine fin Qm ?_
    rw[← zf (by omega),ID]
    exact Pc
  refine br (λe=>goX (Qv P1.rd B1) λh2 x2=>bt (J x2 (by rw[e,Bool.true_and]))) λe=>J (Ext.refl _) (by rw[e,Bool.false_and])
 ·obtain rfl:i=p.al.length:=by omega
  refine P.rd.oI (off:=7) ?_
  have hN:(p.upto p.al.length).mO=p.mO:=rfl
  rw[hN,wrap64 (n:=p.mO+1) (by omega) (by omega)]
  refine P.stI λh1 P1=>(Gn rf c1).go λh2 y x2 hy=>cW ⟨⟨y,rfl,?_⟩,?_⟩
  ·have:p.pB.2=tg (qS p p.al.length) Eo:=by unfold qS;rw[List.take_length];rfl
   rw[this];exact hy
  ·have:p.pB.1={ p.upto p.al.length with mO:=p.mO+1 }:=by unfold aC.upto;rw[Gy rfl];rfl
   rw[this];exact P1.grow x2
theorem Ee(p:aC)(e:aZ):(p.qm e).Next=p.Next∧(p.qm e).Score=p.Score:=by
 unfold aC.qm
 split
 ·cases g0 p.Score e <;> exact⟨rfl,rfl⟩
 ·exact⟨rfl,rfl⟩
structure AB (p0 p:aC):Prop where
 r:p.iW
 n:p.mO=p0.mO
 e:aC.run (p.Score.bo.length-p.Next.toNat) p=aC.run (p0.Score.bo.length-p0.Next.toNat) p0
 s:p.Score=p0.Score
theorem AB.next{p0 p:aC}(R:AB p0 p)(h:p.yN=true):AB p0 p.next:=by
 obtain⟨g1,g2,g3⟩:=sM p
 exact⟨JX R.r (GH h).1,by rw[g2,R.n],by rw[← Z9 R.r h,R.e],by rw[g1,R.s]⟩
theorem AB.done{p0 p:aC}(R:AB p0 p)(h:p.yN=false):p.pB=p0.step:=by
 unfold aC.step
 rw[← R.e,Z7 h]
theorem Uz(P:Pt bz h0 h q F L p)(R:p.iW)(Ud:0≤p.mO∧p.mO≤1000000):af ak 42 #[.pointer (some q)] (λu h'=>AA h0 h' q F L p.step u) h:=by
 have hm:=cu
 refine bw.call (ae3 (λy hh=>∃w:aC,y=q∧AB p w∧Pt bz h0 hh q F L w) (λy hh=>((p.Score.bo.length:Int)-SO hh (q.add 8)).toNat) ⟨p,rfl,⟨R,rfl,rfl,rfl⟩,P⟩ ?_)
 rintro y hh ⟨w,rfl,W,P⟩
 have nx:=W.r.nx
 obtain⟨b,l,c,hb,S⟩:=P.hdr (off:=5) (e:=131) (s:=bF)
 have hl:w.Score.bo.length=l:=S.len
 have s1:=S.2.1
 have s2:=S.2.2.1
 have hes:w.Score.bo.length=p.Score.bo.length:=by rw[W.s]
 have sum:w.yN=false->bk (bw.B6 (λu h'=>AA h0 h' y F L p.step u)) (y,0,(0:Int)) hh:=λh=>by
  rw[← W.done h]
  exact XJ P W.r (by rw[W.n];exact Ud)
 refine P.rd.oI (off:=8) (o_l hb (brd (λhc=>o_l hb (P.rd.oI (off:=8) ?_)) λhc=>sum ?_))
 ·obtain⟨a,rfl,Ra⟩:=S.elem (i:=w.Next.toNat) (by omega) (by decide)
  have Ra:RdP bF hh (a.add (w.Next.toNat*6)) w.Score.bo[w.Next.toNat]!:=Ra
  refine idxs (by omega) (by omega) (Ra.oI1 (P.rd.oI (off:=7) (br (λk=>?_) λk=>sum ?_)))
  ·have k:w.Score.bo[w.Next.toNat]!.At=w.mO:=by simpa using k
   have hc':w.Next<(w.Score.bo.length:Int):=by rw[hl];exact hc
   have hn:w.yN=true:=by unfold aC.yN;rw[decide_eq_true hc',k];simp
   have E:HY hh y (a.add (w.Next.toNat*6)) w.Next.toNat:=⟨a,l,c,hb,rfl,by omega⟩
   unfold bw.J2
   refine o_l hb (P.rd.oI (off:=8) (idxs (by omega) (by omega) ((NB P E rfl (OH W.r hc')).mono ?_)))
   rintro _ h1 ⟨rfl,P1⟩
   obtain⟨n1,n2⟩:=Ee w w.Score.bo[w.Next.toNat]!
   refine P1.rd.oI (off:=8) ?_
   rw[n1,wrap64 (n:=w.Next+1) (by omega) (by omega)]
   refine P1.stI λh2 P2=>?_
   have P2:Pt bz h0 h2 y F L w.next:=P2
   refine⟨⟨w.next,rfl,W.next hn,P2⟩,?_⟩
   rw[Ca P2,Ca P,(sM w).2.2]
   omega
  ·have k:¬w.Score.bo[w.Next.toNat]!.At=w.mO:=by simpa using k
   unfold aC.yN;rw[beq_eq_false_iff_ne.2 k,Bool.and_false]
 ·unfold aC.yN
  rw[decide_eq_false (by show ¬w.Next<(w.Score.bo.length:Int);omega)];rfl
end
section
variable {h0 h:ab}{q:Addr}{F:Fr}{L:List Blk}{p:aC}
theorem ahW(P:Pt bz h0 h q F L p)(R:p.iW)(Ud:0≤p.mO∧p.mO≤1000000):bk (aV.B6 (λu h'=>AA h0 h' q F L p.pB u)) (q,0,(p.al.length:Int),(0:Int)) h:=by
 have hm:=cu
 refine loop (λy hh=>∃(i sum:Nat),y=(q,sum,(p.al.length:Int),(i:Int))∧i≤p.al.length∧FW .f32 sum (qS p i)∧Pt bz h0 hh q F L (p.upto i)) (λy=>((p.al.length:Int)-y.2.2.2).toNat) ⟨0,0,rfl,by omega,fw0,by unfold aC.upto;rw[DA];exact P⟩ ?_
 rintro y hh ⟨i,sum,rfl,hi,rf,P⟩
 obtain⟨b,l,c,hb,S⟩:=P.hdr (off:=6) (e:=122) (s:=aQ)
 have hl:(p.upto i).al.length=l:=S.len
 rw[HG] at hl
 have s1:=S.2.1
 have s2:=S.2.2.1
 refine brd (λhc=>o_l hb ?_) λhc=>?_
 ·have fin:∀{h':ab}{Zj:Nat},FW .f32 Zj (qS p (i+1))->Pt bz h0 h' q F L (p.upto (i+1))->((∃i' OX:Nat,(q,Zj,(p.al.length:Int),IntKind.i64.wrap ((i:Int)+1))=(q,OX,(p.al.length:Int),(i':Int))∧i'≤p.al.length∧FW .f32 OX (qS p i')∧Pt bz h0 h' q F L (p.upto i'))∧((p.al.length:Int)-IntKind.i64.wrap ((i:Int)+1)).toNat<((p.al.length:Int)-i).toNat):=λhs P=>
   ⟨⟨i+1,_,by rw[ag (by omega)],by omega,hs,P⟩,by rw[ag (by omega)];omega⟩
  obtain⟨a,F',C,rfl,P',close⟩:=P.JA (off:=6) hb (i:=i) (by omega)
  have Nm:=HF (p:=p) (i:=i) (by omega)
  have P':Pt aQ h0 hh (a.add (i*45)) F' (C++L) (p.upto i).al[i]!:=P'
  rw[Nm] at P'
  refine idxs (by omega) (by omega) ?_
  rw[Int.toNat_natCast]
  refine P'.rd.jc rfl λcv Rv=>goX (Ns Rv) λre x29=>bt (br (λk=>?_) λk=>?_)
  ·have k:p.al[i]!.aT = -1:=by simpa using k
   refine fin ?_ ?_
   ·rw[wF (by omega)];unfold PM;rw[if_pos k];exact rf
   ·rw[Kj (by omega) k];exact P.grow x29
  have k:¬p.al[i]!.aT = -1:=by simpa using k
  obtain⟨B,I1,I2⟩:=Ki R (i:=i) (by omega) k
  have P':=P'.grow x29
  refine(P.grow x29).rd.oL (off:=4) λb4 l4 c4 S4=>?_
  have e4:p.Score.az.length=l4:=S4.len
  refine P'.rd.oI (S4.idx (by decide) I1 (by omega) λa4 R4=>?_)
  have R4:RdP aA re (a4.add (p.al[i]!.aq.toNat*5)) p.Score.az[p.al[i]!.aq.toNat]!:=R4
  refine R4.oI ?_
  have hkd:p.Score.az[p.al[i]!.aq.toNat]!.Kind=p.Score.kind p.al[i]!:=rfl
  rw[hkd]
  refine(Kv P' B).mono ?_
  rintro _ h1 ⟨⟨y,rfl,hy⟩,P1⟩
  obtain⟨Pc,hk1⟩:=close _ _ _ _ P1
  have hb1:cell h1 (q.add 6)=some (.slice (some a) l c):=by rw[hk1];exact hb
  have ID:xw p.Score p.al[i]! = if(p.al[i]!.Gone&&(p.al[i]!.sound (p.Score.kind p.al[i]!)).1.quiet (p.Score.kind p.al[i]!))=true then ln else(p.al[i]!.sound (p.Score.kind p.al[i]!)).1:=by unfold xw;rw[if_neg k]
  refine jJ (cW (bt (fA rf hy λs' Qm=>?_)))
  have Qm:FW .f32 s' (qS p (i+1)):=by rw[wF (by omega)];unfold PM;rw[if_neg k];exact Qm
  refine br (λe=>?_) λe=>?_
  ·rw[e,if_pos rfl] at ID
   refine goX DZ λh3 x3=>gw ?_
   have Pc:=Pc.grow x3
   obtain⟨a',ha,st⟩:=Pt.stE (off:=6) (i:=i) (n:=45) (L:=L) (B':=[]) (vs:=⟨u5⟩) Pc (x3.cell hb1) (by omega) rfl HM λh' P' _=>fin Qm (by
    have P':Pt bz h0 h' q F L { p.upto i with al:=((p.upto i).al.set i (p.al[i]!.sound (p.Score.kind p.al[i]!)).1).set i ln }:=P'
    rw[List.set_set,← ID,zf (by omega)] at P'
    exact P')
   cases ha
   exact st
  ·rw[e,if_neg (by decide)] at ID
   refine fin Qm ?_
   rw[← zf (by omega),ID]
   exact Pc
 ·obtain rfl:i=p.al.length:=by omega
  refine P.rd.oI (off:=7) ?_
  have hN:(p.upto p.al.length).mO=p.mO:=rfl
  rw[hN,wrap64 (n:=p.mO+1) (by omega) (by omega)]
  refine P.stI λh1 P1=>(A3 rf c1).go λh2 y x2 hy=>cW ⟨⟨y,rfl,?_⟩,?_⟩
  ·have:p.pB.2=tg (qS p p.al.length) Eo:=by unfold qS;rw[List.take_length];rfl
   rw[this];exact hy
  ·have:p.pB.1={ p.upto p.al.length with mO:=p.mO+1 }:=by unfold aC.upto;rw[Gy rfl];rfl
   rw[this];exact P1.grow x2
theorem I6(P:Pt bz h0 h q F L p)(R:p.iW)(Ud:0≤p.mO∧p.mO≤1000000):af ak 71 #[.pointer (some q)] (λu h'=>AA h0 h' q F L p.step u) h:=by
 have hm:=cu
 refine aV.call (ae3 (λy hh=>∃w:aC,y=q∧AB p w∧Pt bz h0 hh q F L w) (λy hh=>((p.Score.bo.length:Int)-SO hh (q.add 8)).toNat) ⟨p,rfl,⟨R,rfl,rfl,rfl⟩,P⟩ ?_)
 rintro y hh ⟨w,rfl,W,P⟩
 have nx:=W.r.nx
 have sum:∀{h':ab},Ext hh h'->w.yN=false->oL (cell h' (y.add 6)) λpQ nT sH=>bk (aV.B6 (λu h'=>AA h0 h' y F L p.step u)) (y,0,(nT:Int),(0:Int)) h':=λx h=>by
  rw[← W.done h]
  refine(P.grow x).rd.oL (off:=6) λb l c S=>?_
  have e:w.al.length=l:=S.len
  rw[← e]
  exact ahW (P.grow x) W.r (by rw[W.n];exact Ud)
 refine P.rd.oI (off:=8) (P.rd.oL (off:=5) λb0 l0 c0 S0=>goX (yJ _ _ _ _) λh4 x4=>cN (P.rd.lN (by decide) x4 ?_))
 have hl0:w.Score.bo.length=l0:=S0.len
 have P4:=P.grow x4
 obtain⟨b,l,c,hb,S⟩:=P4.hdr (off:=5) (e:=131) (s:=bF)
 have hl:w.Score.bo.length=l:=S.len
 have s1:=S.2.1
 have s2:=S.2.2.1
 have hes:w.Score.bo.length=p.Score.bo.length:=by rw[W.s]
 refine brd (λhc=>o_l hb (P4.rd.oI (off:=8) ?_)) λhc=>sum x4 ?_
 ·obtain⟨a,rfl,Ra⟩:=S.elem (i:=w.Next.toNat) (by omega) (by decide)
  have Ra:RdP bF h4 (a.add (w.Next.toNat*6)) w.Score.bo[w.Next.toNat]!:=Ra
  refine idxs (by omega) (by omega) (Ra.oI1 (P4.rd.oI (off:=7) (br (λk=>?_) λk=>sum x4 ?_)))
  ·have k:w.Score.bo[w.Next.toNat]!.At=w.mO:=by simpa using k
   have hc':w.Next<(w.Score.bo.length:Int):=by rw[hl0];exact hc
   have hn:w.yN=true:=by unfold aC.yN;rw[decide_eq_true hc',k];simp
   unfold aV.J2
   refine o_l hb (P4.rd.oI (off:=8) (idxs (by omega) (by omega) (Ra.jc rfl λce Rc=>(Xf P4 Rc (OH W.r hc')).mono ?_)))
   rintro _ h1 ⟨rfl,P1⟩
   obtain⟨n1,n2⟩:=Ee w w.Score.bo[w.Next.toNat]!
   refine P1.rd.oI (off:=8) ?_
   rw[n1,wrap64 (n:=w.Next+1) (by omega) (by omega)]
   refine P1.stI λh2 P2=>?_
   have P2:Pt bz h0 h2 y F L w.next:=P2
   refine⟨⟨w.next,rfl,W.next hn,P2⟩,?_⟩
   rw[Ca P2,Ca P,(sM w).2.2]
   omega
  ·have k:¬w.Score.bo[w.Next.toNat]!.At=w.mO:=by simpa using k
   unfold aC.yN;rw[beq_eq_false_iff_ne.2 k,Bool.and_false]
 ·unfold aC.yN
  rw[decide_eq_false (by show ¬w.Next<(w.Score.bo.length:Int);omega)];rfl
end
section
variable {h:ab}{q:Addr}{p:aC}
end
noncomputable def aC.may(p:aC)(count UQ:Int):Int:=if p.ok=true then if inR count 0 UQ=true then if 200000<p.mO+count then 3 else 0 else 2 else 1
set_option maxHeartbeats 1000000
section
variable {α β:Type}{r:Rep α}{s:Rep β}{P:Program}{h0 h:ab}{q:Addr}{F:Fr}{B L:List Blk}{d:α}{t e bytes ty:Nat}{b:Option Addr}{l c:Nat}{xs:List β}{K:Value->ab->Prop}
theorem Pt.push{cs:Array Value}{x:β}(Pa:Pt r h0 h q F (B++L) d)(E:xK P t e s.sz bytes)(O:SlO e s B b l c xs)(Ox:s.ow [] cs.toList x)(Nq:l+1≤maxLen)(yx:(l+1)*bytes≤140737488355328)(H:∀b' c' h' B',SlO e s B' b' (l+1) c' (xs++[x])->Pt r h0 h' q F (B'++L) d->K (.slice b' (l+1) c') h'):
  ALC cs e (λg h=>gC P (Builtin.append_ #[t,t] ty #[.slice b l c,.slice (some ⟨g,0,none⟩) 1 1]) K h) h:=by
 obtain⟨e1,iS,BR,M,OR⟩:=Pa
 refine Oz (Bn:=[]) (L:=(F.g,F.T,⟨F.pre++(iS++F.post)⟩) :: (BR++L)) E O (M.cnt λp=>by simp only[bN,bu,bZ];omega) Ox Nq yx λb' c' h' B' O' M'=>H b' c' h' B' O' ⟨e1,iS,BR,M'.cnt λp=>?_,OR⟩
 simp only[bN,bu,bZ];omega
end
def dC.B3(aa:VH)(a:(Addr×Option Addr×Nat×Nat×Int×Int)->ab->Prop):Addr×Option Addr×Nat×Nat×Int×Int->ab->Prop |(p_0,YI,YK,YJ,t6,t7),h=> BIF (decide (t7<t6)) (af ak 71 #[.pointer (some p_0)] (λb c=> asF .f32 b λd=> ALC ⟨[.float .f32 d]⟩ 22 (λe f=> gC ak (Builtin.append_ #[23,23] 23 #[.slice YI YK YJ,.slice (some ⟨e,0,none⟩) 1 1]) (λg i=> asL g λj k l=> a (p_0,j,k,l,t6,((IntKind.i64.wrap (t7+1)))) i) f) c) h) (aa (.slice YI YK YJ) h)
def dC.g3(fr:Frame):Addr×Option Addr×Nat×Nat×Int×Int:=((gP (ah fr 0)),(gLb (ah fr 5)),(gLl (ah fr 5)),(gLc (ah fr 5)),(gI (ah fr 6)),(gI (ah fr 7)))
def dC.l3(aa:VH):=gg (kds 16 [(0,.p),(5,.l),(6,.i .i64),(7,.i .i64)]) λfr=>bk (dC.B3 aa) (dC.g3 fr)
def dC.S(p_0:Addr)(Fe:Int)(aa:VH)(h:ab):=bk (dC.B3 aa) (p_0,none,0,0,Fe,0) h
theorem dC.call{p_0 Fe aa h}(H:dC.S p_0 Fe aa h):af ak 36 #[.pointer (some p_0),.int .i64 Fe] aa h:=qc (Λ:=aS [(1000003,dC.l3 aa)]) Tryz.func36 (qs qf (qs qf (qs (qs qf (Rq.block (ql (dC.l3 aa) (qg (g:=dC.g3) (Λ:=λa=>aS []) (λ_ _ _=>by kernel_rfl) (λa=>qf))))) qf))) (qe H)
set_option maxHeartbeats 2000000
noncomputable def aC.AX(p:aC):Nat->aC×List Nat
 | 0=>(p,[])
 | k+1=>((p.AX k).1.step.1,(p.AX k).2++[(p.AX k).1.step.2])
theorem oy{p:aC}(R:p.iW):∀k,(p.AX k).1.iW
 | 0=>R
 | k+1=>RV (oy R k)
theorem Dl{p:aC}(R:p.iW):∀k:Nat,(p.AX k).1.mO=p.mO+k
 | 0=>by show p.mO=_;omega
 | k+1=>by
  show(p.AX k).1.step.1.mO=_
  rw[Zi (oy R k),Dl R k];omega
section
variable {h0 h:ab}{q:Addr}{F:Fr}{L:List Blk}{p:aC}{count:Int}
theorem agw{k:Nat}(P:Pt bz h0 h q F L p)(R:p.iW)(Ud:0≤p.mO∧p.mO+k≤1000000)(hk:k≤4096):
  af ak 36 #[.pointer (some q),.int .i64 (k:Int)] (λu h'=>∃b c B,u = .slice b k c∧SlO 22 (rF .f32) B b k c (p.AX k).2∧Pt bz h0 h' q F (B++L) (p.AX k).1) h:=by
 have hm:(4097:Nat)≤maxLen:=by decide
 refine dC.call (loop (λy hh=>∃(n:Nat) (b':Option Addr) (c':Nat) (B:List Blk),y=(q,b',n,c',(k:Int),(n:Int))∧n≤k∧SlO 22 (rF .f32) B b' n c' (p.AX n).2∧Pt bz h0 hh q F (B++L) (p.AX n).1) (λy=>((k:Int)-y.2.2.2.2.2).toNat)
  ⟨0,_,_,[],rfl,by omega,SlO.nil,P⟩ ?_)
 rintro y hh ⟨n,b',c',B,rfl,hn,O,P⟩
 have hw:=Dl R n
 refine brd (λhc=>?_) λhc=>?_
 ·refine(I6 P (oy R n) (by omega)).mono ?_
  rintro _ h8 ⟨⟨y,rfl,hy⟩,P⟩
  exact cW (Pt.push P lD O ⟨rfl,_,rfl,hy⟩ (by omega) (by omega) λb2 c2 h9 B2 O2 P2=>lR ⟨⟨n+1,b2,c2,B2,by rw[ag (by omega)],by omega,O2,P2⟩,by rw[ag (by omega)];show _<_;simp;omega⟩)
 ·obtain rfl:n=k:=by omega
  exact⟨b',c',B,rfl,O,P⟩
end
end Go.Sx
