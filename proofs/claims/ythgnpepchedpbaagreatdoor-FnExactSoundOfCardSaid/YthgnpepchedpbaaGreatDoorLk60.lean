/- Lemmas. -/
import Derived.Test.YthgnpepchedpbaaGreatDoorLk58
import Derived.Test.YthgnpepchedpbaaGreatDoorLk50
set_option linter.unusedVariables false
set_option linter.unusedSimpArgs false
namespace Go.Sx
open Go.Proofs
set_option maxRecDepth 100000
set_option maxHeartbeats 1000000
theorem GH{p:aC}(h:p.yN=true):p.Next<p.Score.bo.length∧p.Score.bo[p.Next.toNat]!.At=p.mO:=by
 unfold aC.yN at h
 rw[Bool.and_eq_true,decide_eq_true_iff,beq_iff_eq] at h
 exact h
theorem OH{p:aC}(R:p.iW)(h:p.Next<p.Score.bo.length):W0 p p.Score.bo[p.Next.toNat]!:=by
 have nx:=R.nx
 have hm:=aau R.s
 have hl:p.Next.toNat<p.Score.bo.length:=by omega
 have G:=sP R.s
 have hn:=(G.note _ hl).1
 refine⟨R.s,R.n1,λhk=>?_,?_,λi hi he=>?_,λi j Uc hj h1 h2=>?_⟩
 ·have hs:fF p.Score.bo[p.Next.toNat]! = true:=by unfold fF;rw[hk];rfl
  exact Kg R.s (OP G hs (iL hl))
 ·have:=R.sk;omega
 ·rcases R.v _ (iL hi) with h | h
  ·omega
  ·exact h.ins R.s
 ·have:=R.d i j Uc hj (by rw[h1,h2])
  omega
theorem YE{p:aC}(R:p.iW)(h:p.Next<p.Score.bo.length)(hs:fF p.Score.bo[p.Next.toNat]! = true){v:aK}(hv:v ∈ p.al):¬v.aT=p.Score.bo[p.Next.toNat]!.aT:=λe=>by
 have nx:=R.nx
 have G:=sP R.s
 have hn:=(G.note p.Next.toNat (by omega)).1
 rcases R.v v hv with h1 | ⟨j,h1,h2,h3,h4,_⟩
 ·omega
 ·have:=G.st1 j p.Next.toNat h1 (by omega) h3 hs (by rw[h4,e])
  omega
theorem JG(s:bI)(v:aK):(o5 s v).aT=v.aT∧(o5 s v).aq=v.aq∧s.kind (o5 s v)=s.kind v:=by
 unfold o5
 split <;> exact⟨rfl,rfl,rfl⟩
theorem U0{s:bI}{v:aK}{k:Int}(h:fB k v):fB k (o5 s v):=by
 unfold o5
 split <;> exact h
theorem rz.mono{s:bI}{n m:Int}{v:aK}(h:rz s n v)(hm:n≤m):rz s m v:=by
 obtain⟨j,h1,h2,r⟩:=h
 exact⟨j,h1,by omega,r⟩
theorem JX{p:aC}(R:p.iW)(h:p.Next<p.Score.bo.length):p.next.iW:=by
 have nx:=R.nx
 have sk:=R.sk
 have hl:p.Next.toNat<p.Score.bo.length:=by omega
 have G:=sP R.s
 obtain⟨e,he⟩:∃e,e=p.Score.bo[p.Next.toNat]!:=⟨_,rfl⟩
 unfold aC.next
 rw[← he]
 by_cases hk:e.Kind=2
 ·have hs:fF e=true:=by unfold fF;rw[hk];rfl
  have no:∀{v:aK},v ∈ p.al->¬v.aT=e.aT:=λhv=>by rw[he];exact YE R h (by rw[← he];exact hs) hv
  have hn:0≤e.aT:=by rw[he];exact(G.note _ hl).1
  rw[vE hk]
  cases hv:g0 p.Score e with
  | none=>exact⟨R.s,R.n1,R.n6,⟨by show 0≤p.Next+1;omega,by show p.Next+1≤(p.Score.bo.length:Int);omega⟩,⟨by show 0≤p.ft+1;omega,by show p.ft+1≤64+(p.Next+1);omega⟩,λv hv=>(R.v v hv).imp id λV=>V.mono (by show p.Next≤p.Next+1;omega),R.d⟩
  | some w=>
   obtain⟨w1,w2,w3⟩:=Vu hv
   have hp:=GU R.n1
   refine⟨R.s,by show 1≤(p.al.set _ w).length;rw[List.length_set];exact R.n1,by show(p.al.set _ w).length≤6;rw[List.length_set];exact R.n6,⟨by show 0≤p.Next+1;omega,by show p.Next+1≤(p.Score.bo.length:Int);omega⟩,⟨sk.1,by show p.ft≤64+(p.Next+1);omega⟩,λv hv=>?_,λi j Uc hj CY=>?_⟩
   ·rcases List.mem_or_eq_of_mem_set hv with hv | rfl
    ·exact(R.v v hv).imp id λV=>V.mono (by show p.Next≤p.Next+1;omega)
    ·exact .inr ⟨p.Next.toNat,hl,by show((p.Next.toNat:Nat):Int)<p.Next+1;omega,by show fF p.Score.bo[p.Next.toNat]! = true;rw[← he];exact hs,by show p.Score.bo[p.Next.toNat]!.aT=_;rw[← he,w1],by show p.Score.bo[p.Next.toNat]!.aq=_;rw[← he,w2],w3⟩
   ·have hj:j<(p.al.set (placeOf p.al) w).length:=hj
    rw[List.length_set] at hj
    have CY:(p.al.set (placeOf p.al) w)[i]!.aT=(p.al.set (placeOf p.al) w)[j]!.aT:=CY
    show(p.al.set (placeOf p.al) w)[i]!.aT = -1
    rw[Lb (by omega),Lb (by omega)] at CY
    rw[Lb (by omega)]
    by_cases e1:placeOf p.al=i
    ·rw[if_pos e1] at CY ⊢
     rw[if_neg (by omega)] at CY
     exact absurd (by rw[← CY,w1]) (no (iL hj))
    ·rw[if_neg e1] at CY ⊢
     by_cases e2:placeOf p.al=j
     ·rw[if_pos e2] at CY
      exact absurd (by rw[CY,w1]) (no (iL (show i<p.al.length by omega)))
     ·rw[if_neg e2] at CY
      exact R.d i j Uc hj CY
 ·rw[yw hk]
  have SL:∀v,(ir p.Score e.aT v).aT=v.aT:=λv=>by unfold ir;split <;> first | exact(JG _ v).1 | rfl
  refine⟨R.s,by show 1≤(p.al.map _).length;rw[List.length_map];exact R.n1,by show(p.al.map _).length≤6;rw[List.length_map];exact R.n6,⟨by show 0≤p.Next+1;omega,by show p.Next+1≤(p.Score.bo.length:Int);omega⟩,⟨sk.1,by show p.ft≤64+(p.Next+1);omega⟩,λv hv=>?_,λi j Uc hj CY=>?_⟩
  ·obtain⟨u,hu,rfl⟩:=List.mem_map.1 hv
   rw[SL]
   refine(R.v u hu).imp id λV=>?_
   have V:=V.mono (show p.Next≤p.Next+1 by omega)
   unfold ir
   split
   ·obtain⟨j,h1,h2,h3,h4,h5,h6⟩:=V
    obtain⟨g1,g2,g3⟩:=JG p.Score u
    exact⟨j,h1,h2,h3,by rw[g1];exact h4,by rw[g2];exact h5,by show fB (p.Score.kind (o5 p.Score u)) _;rw[g3];exact U0 h6⟩
   ·exact V
  ·have hj:j<(p.al.map (ir p.Score e.aT)).length:=hj
   rw[List.length_map] at hj
   have CY:(p.al.map (ir p.Score e.aT))[i]!.aT=(p.al.map (ir p.Score e.aT))[j]!.aT:=CY
   show(p.al.map (ir p.Score e.aT))[i]!.aT = -1
   rw[nB (by omega),nB (by omega),SL,SL] at CY
   rw[nB (by omega),SL]
   exact R.d i j Uc hj CY
theorem sM(p:aC):p.next.Score=p.Score∧p.next.mO=p.mO∧p.next.Next=p.Next+1:=by
 unfold aC.next aC.qm
 split
 ·cases g0 p.Score _ <;> exact⟨rfl,rfl,rfl⟩
 ·exact⟨rfl,rfl,rfl⟩
theorem CB:∀(k:Nat){p:aC},p.iW->(aC.run k p).iW∧(aC.run k p).mO=p.mO∧(aC.run k p).Score=p.Score
 | 0,p,R=>⟨R,rfl,rfl⟩
 | k+1,p,R=>by
  unfold aC.run
  split
  ·next h=>
   obtain⟨h1,h2,h3⟩:=CB k (JX R (GH h).1)
   obtain⟨g1,g2,_⟩:=sM p
   exact⟨h1,by rw[h2,g2],by rw[h3,g1]⟩
  ·exact⟨R,rfl,rfl⟩
theorem Z9{p:aC}(R:p.iW)(h:p.yN=true):aC.run (p.Score.bo.length-p.Next.toNat) p=aC.run (p.next.Score.bo.length-p.next.Next.toNat) p.next:=by
 have nx:=R.nx
 obtain⟨h1,h2⟩:=GH h
 obtain⟨g1,g2,g3⟩:=sM p
 rw[g1,g3,show p.Score.bo.length-p.Next.toNat=(p.Score.bo.length-(p.Next+1).toNat)+1 by omega]
 conv=>lhs;unfold aC.run
 rw[if_pos h]
theorem Z7{p:aC}(h:p.yN=false):∀k,aC.run k p=p
 | 0=>rfl
 | k+1=>by unfold aC.run;rw[h,if_neg (by decide)]
theorem JW(s:bI)(v:aK):(xw s v).aT=v.aT∨(xw s v).aT = -1:=by
 unfold xw
 split
 ·exact .inl rfl
 ·split
  ·exact .inr rfl
  ·exact .inl (wm _ v).2.1
theorem LZ{p:aC}(R:p.iW):p.pB.1.iW:=by
 refine⟨R.s,by show 1≤(p.al.map _).length;rw[List.length_map];exact R.n1,by show(p.al.map _).length≤6;rw[List.length_map];exact R.n6,R.nx,R.sk,λv hv=>?_,λi j Uc hj CY=>?_⟩
 ·obtain⟨u,hu,rfl⟩:=List.mem_map.1 hv
  unfold xw
  split
  ·next h=>exact .inl h
  ·next hn=>
   split
   ·exact .inl rfl
   ·rcases R.v u hu with h | ⟨j,h1,h2,h3,h4,h5,h6⟩
    ·exact absurd h hn
    ·obtain⟨g1,g2,g3⟩:=wm (p.Score.kind u) u
     refine .inr ⟨j,h1,h2,h3,by rw[g2];exact h4,by rw[g3];exact h5,?_⟩
     have:p.Score.kind (u.sound (p.Score.kind u)).1=p.Score.kind u:=by show p.Score.az[(u.sound (p.Score.kind u)).1.aq.toNat]!.Kind=_;rw[g3];rfl
     show fB (p.Score.kind _) _
     rw[this];exact wk h6
 ·have hj:j<(p.al.map (xw p.Score)).length:=hj
  rw[List.length_map] at hj
  have CY:(p.al.map (xw p.Score))[i]!.aT=(p.al.map (xw p.Score))[j]!.aT:=CY
  show(p.al.map (xw p.Score))[i]!.aT = -1
  rw[nB (by omega),nB (by omega)] at CY
  rw[nB (by omega)]
  rcases JW p.Score p.al[i]! with h1 | h1
  ·rcases JW p.Score p.al[j]! with h2 | h2
   ·rw[h1];exact R.d i j Uc hj (by rw[← h1,CY,h2])
   ·rw[CY,h2]
  ·exact h1
theorem RV{p:aC}(R:p.iW):p.step.1.iW:=LZ (CB _ R).1
theorem Zi{p:aC}(R:p.iW):p.step.1.mO=p.mO+1:=by
 show(aC.run _ p).mO+1=_
 rw[(CB _ R).2.1]
theorem ale{s:bI}{v:aK}(h:aeJ s v=true):fB (s.kind v) v:=by
 unfold aeJ at h
 unfold fB bI.kind
 split at h
 ·next k=>
  rw[if_pos k]
  simp only[Bool.and_eq_true] at h
  have:=h.1.1
  unfold bK.ok at this
  simp only[Bool.and_eq_true] at this
  exact this.1.1.1
 ·next k=>
  rw[if_neg k]
  split at h
  ·next k2=>
   rw[if_pos k2]
   simp only[Bool.and_eq_true] at h
   exact alo h.1.2
  ·next k2=>
   rw[if_neg k2]
   simp only[Bool.and_eq_true] at h
   exact h.2
theorem av3{s:bI}(h:s.ok=true){now:Int}{j:Nat}(hj:j<s.bo.length)(hb:s.bo[j]!.At<now):j<hap s.bo now:=by
 have G:=sP h
 obtain⟨h1,h2⟩:=alj (now:=now) G
 rcases yq (λe:aZ=>decide (now≤e.At)) s.bo with⟨e,_⟩ | ⟨m,hm,e,h0,hp⟩
 ·have:=h1 e;omega
 ·have:=h2 m hm e
  rw[decide_eq_true_iff] at hp
  have:j<m:=by
   rcases Nat.lt_or_ge j m with h | h
   ·exact h
   ·have:=G.sorted (i:=m) (j:=j) h hj;omega
  omega
theorem ahn{p:aC}(h:p.ok=true):p.iW∧0≤p.mO∧p.mO≤200000:=by
 unfold aC.ok at h
 simp only[Bool.and_eq_true,beq_iff_eq,inR,decide_eq_true_eq,List.all_eq_true,List.mem_range] at h
 obtain⟨⟨⟨⟨⟨hs,hl⟩,hn⟩,hk⟩,hx⟩,hv⟩:=h
 have hh:hap p.Score.bo p.mO≤p.Score.bo.length:=List.countP_le_length
 refine⟨⟨hs,by omega,by omega,by omega,by omega,λv hvm=>?_,λi j Uc hj CY=>?_⟩,by omega,by omega⟩
 ·obtain⟨i,hi,rfl⟩:=List.mem_iff_getElem.1 hvm
  have:=hv i hi
  unfold Zv at this
  rw[getElem!_pos p.al i hi,Bool.and_eq_true] at this
  obtain⟨ho,hr⟩:=this
  by_cases hn1:p.al[i].aT = -1
  ·exact .inl hn1
  refine .inr ?_
  have hp:0≤p.al[i].aT:=(ajp hs ho).resolve_left hn1
  rw[decide_eq_false (by omega),Bool.false_or,Bool.and_eq_true,decide_eq_true_iff] at hr
  rw[acy,if_neg hn1] at ho
  cases he:tS p.Score.bo p.al[i].aT with
  | none=>rw[he] at ho;cases ho
  | some e=>
   rw[he] at ho
   simp only[Bool.and_eq_true,beq_iff_eq] at ho
   obtain⟨hm,hst,hnt⟩:=aqK he
   obtain⟨j,hj,rfl⟩:=List.mem_iff_getElem.1 hm
   have ej:p.Score.bo[j]! = p.Score.bo[j]:=getElem!_pos _ j hj
   refine⟨j,hj,?_,by rw[ej];exact hst,by rw[ej];exact hnt,by rw[ej];exact ho.1.1.1,ale ho.2⟩
   have:=av3 hs hj (now:=p.mO) (by rw[ej,ho.1.1.2];exact hr.1)
   omega
 ·have h1:=hv j hj
  unfold Zv at h1
  rw[Bool.and_eq_true,Bool.or_eq_true,Bool.and_eq_true,decide_eq_true_iff] at h1
  rcases h1.2 with h2 | h2
  ·have:=(ajp hs h1.1).resolve_right (by omega)
   rw[CY];exact this
  ·have:=List.all_eq_true.1 h2.2 i (List.mem_range.2 Uc)
   rw[CY] at this
   simp at this
set_option maxHeartbeats 2000000
theorem ae3{X:Type}{B:(X->ab->Prop)->X->ab->Prop}{x:X}{h:ab}(I:X->ab->Prop)(m:X->ab->Nat)(h0:I x h)(hb:∀x h,I x h->B (λx' h'=>I x' h'∧m x' h'<m x h) x h):bk B x h:=⟨I,m,h0,hb⟩
def SO(h:ab)(a:Addr):Int:=match cell h a with | some (.int _ n)=>n | _=>0
theorem Ca{h0 h:ab}{q:Addr}{F:Fr}{L:List Blk}{p:aC}(P:Pt bz h0 h q F L p):SO h (q.add 8)=p.Next:=by
 obtain⟨v,e,e2⟩:=P.rd.cell xk rfl
 have e2:[v]=[.int .i64 p.Next]:=e2
 obtain rfl:v = .int .i64 p.Next:=by simpa using e2
 unfold SO
 rw[e]
def AA(h0 h':ab)(q:Addr)(F:Fr)(L:List Blk)(r:aC×Nat)(u:Value):Prop:=(∃y,u = .float .f32 y∧FW .f32 y r.2)∧Pt bz h0 h' q F L r.1
def aC.upto(p:aC)(i:Nat):aC:={ p with al:=oN (xw p.Score) p.al i }
def qS(p:aC)(i:Nat):Nat:=(p.al.take i).foldl (PM p.Score) 0
theorem wF{p:aC}{i:Nat}(h:i<p.al.length):qS p (i+1)=PM p.Score (qS p i) p.al[i]!:=by
 unfold qS
 rw[vk h,List.foldl_append];rfl
theorem HF{p:aC}{i:Nat}(h:i<p.al.length):(p.upto i).al[i]! = p.al[i]!:=NY h
theorem zf{p:aC}{i:Nat}(h:i<p.al.length):{ p.upto i with al:=(p.upto i).al.set i (xw p.Score p.al[i]!) }=p.upto (i+1):=by
 unfold aC.upto
 dsimp only
 rw[JS h]
theorem HG(p:aC)(i:Nat):(p.upto i).al.length=p.al.length:=yL
theorem Zc{α:Type}[Inhabited α]{l:List α}{i:Nat}(h:i<l.length):l.set i l[i]! = l:=by
 rw[getElem!_pos l i h,List.set_getElem_self]
theorem Kj{p:aC}{i:Nat}(h:i<p.al.length)(hn:p.al[i]!.aT = -1):p.upto (i+1)=p.upto i:=by
 rw[← zf h]
 have:xw p.Score p.al[i]! = (p.upto i).al[i]!:=by unfold xw;rw[if_pos hn,HF h]
 rw[this,Zc (by rw[HG];exact h)]
section
variable {h0 h:ab}{q:Addr}{F:Fr}{L:List Blk}{p:aC}
theorem Ki(R:p.iW){i:Nat}(hi:i<p.al.length)(hn:¬p.al[i]!.aT = -1):fB (p.Score.kind p.al[i]!) p.al[i]! ∧ 0≤p.al[i]!.aq∧p.al[i]!.aq<p.Score.az.length:=by
 have V:=(R.v _ (iL hi)).resolve_left hn
 exact⟨V.choose_spec.2.2.2.2.2,V.ins R.s⟩
theorem XJ(P:Pt bz h0 h q F L p)(R:p.iW)(Ud:0≤p.mO∧p.mO≤1000000):bk (bw.B6 (λu h'=>AA h0 h' q F L p.pB u)) (q,0,(0:Int)) h:=by
 have hm:=cu
 refine loop (λy hh=>∃(i sum:Nat),y=(q,sum,(i:Int))∧i≤p.al.length∧FW .f32 sum (qS p i)∧Pt bz h0 hh q F L (p.upto i)) (λy=>((p.al.length:Int)-y.2.2).toNat) ⟨0,0,rfl,by omega,fw0,by unfold aC.upto;rw[DA];exact P⟩ ?_
 rintro y hh ⟨i,sum,rfl,hi,rf,P⟩
 obtain⟨b,l,c,hb,S⟩:=P.hdr (off:=6) (e:=122) (s:=aQ)
 have hl:(p.upto i).al.length=l:=S.len
 rw[HG] at hl
 have s1:=S.2.1
 have s2:=S.2.2.1
 refine o_l hb (brd (λhc=>o_l hb ?_) λhc=>?_)
 ·have fin:∀{h':ab}{Zj:Nat},FW .f32 Zj (qS p (i+1))->Pt bz h0 h' q F L (p.upto (i+1))->((∃i' OX:Nat,(q,Zj,IntKind.i64.wrap ((i:Int)+1))=(q,OX,(i':Int))∧i'≤p.al.length∧FW .f32 OX (qS p i')∧Pt bz h0 h' q F L (p.upto i'))∧((p.al.length:Int)-IntKind.i64.wrap ((i:Int)+1)).toNat<((p.al.length:Int)-i).toNat):=λhs P=>
   ⟨⟨i+1,_,by rw[ag (by omega)],by omega,hs,P⟩,by rw[ag (by omega)];omega⟩
  obtain⟨a,F',C,rfl,P',close⟩:=P.JA (off:=6) hb (i:=i) (by omega)
  have Nm:=HF (p:=p) (i:=i) (by omega)
  have P':Pt aQ h0 hh (a.add (i*45)) F' (C++L) (p.upto i).al[i]!:=P'
  rw[Nm] at P'
  refine idxs (by omega) (by omega) ?_
  rw[Int.toNat_natCast]
  refine P'.rd.oI1 (br (λk=>?_) λk=>?_)
  ·have k:p.al[i]!.aT = -1:=by simpa using k
   refine fin ?_ ?_
   ·rw[wF (by omega)];unfold PM;rw[if_pos k];exact rf
   ·rw[Kj (by omega) k];exact P
  have k:¬p.al[i]!.aT = -1:=by simpa using k
  obtain⟨B,I1,I2⟩:=Ki R (i:=i) (by omega) k
  refine P.rd.oL (off:=4) λb4 l4 c4 S4=>?_
  have e4:p.Score.az.length=l4:=S4.len
  refine P'.rd.oI (S4.idx (by decide) I1 (by omega) λa4 R4=>?_)
  have R4:RdP aA hh (a4.add (p.al[i]!.aq.toNat*5)) p.Score.az[p.al[i]!.aq.toNat]!:=R4
  refine R4.oI ?_
  have hkd:p.Score.az[p.al[i]!.aq.toNat]!.Kind=p.Score.kind p.al[i]!:=rfl
  rw[hkd]
  refine(Qw P' B).mono ?_
  rintro _ h1 ⟨⟨y,rfl,hy⟩,P1⟩
  obtain⟨Pc,hk1⟩:=close _ _ _ _ P1
  have hb1:cell h1 (q.add 6)=some (.slice (some a) l c):=by rw[hk1];exact hb
  have B1:=wk B
  have ID:xw p.Score p.al[i]! = if(p.al[i]!.Gone&&(p.al[i]!.sound (p.Score.kind p.al[i]!)).1.quiet (p.Score.kind p.al[i]!))=true then ln else(p.al[i]!.sound (p.Score.kind p.al[i]!)).1:=by unfold xw;rw[if_neg k]
  refine cW (fA rf hy λs' Qm=>P1.rd.oB ?_)
  rw[(wm _ _).1]
  have Qm:FW .f32 s' (qS p (i+1)):=by rw[wF (by omega)];unfold PM;rw[if_neg k];exact Qm
  have J:∀{h2:ab}{t:Bool},Ext h1 h2->t=(p.al[i]!.Gone&&(p.al[i]!.sound (p.Score.kind p.al[i]!)).1.quiet (p.Score.kind p.al[i]!)) ->
    bw.J13 (λx' h'=>(∃i sum:Nat,x'=(q,sum,(i:Int))∧i≤p.al.length∧FW .f32 sum (qS p i)∧Pt bz h0 h' q F L (p.upto i))∧((p.al.length:Int)-x'.2.2).toNat<((p.al.length:Int)-(i:Int)).toNat) (λu h'=>AA h0 h' q F L p.pB u) q s' (i:Int) t h2:=λ{h2 t} x2 ht=>by
   unfold bw.J13
   have Pc:=Pc.grow x2
   rw[← ht] at ID
   refine br (λe=>?_) λe=>?_
   ·rw[e,if_pos rfl] at ID
    refine o_l (x2.cell hb1) (goX vi λh3 x3=>gw (Pc.rd.lN (by decide) x3 ?_))
    have Pc:=Pc.grow x3
    obtain⟨a',ha,st⟩:=Pt.stE (off:=6) (i:=i) (n:=45) (L:=L) (B':=[]) (vs:=⟨u5⟩) Pc (x3.cell (x2.cell hb1)) (by omega) rfl HM λh' P' _=>fin Qm (by
     have P':Pt bz h0 h' q F L { p.upto i with al:=((p.upto i).al.set i (p.al[i]!.sound (p.Score.kind p.al[i]!)).1).set i ln }:=P'
     rw[List.set_set,← ID,zf (by omega)] at P'
     exact P')
    cases ha
    refine idxs (by omega) (by omega) ?_
    rw[Int.toNat_natCast]
    exact st
   ·rw[e,if_neg (by decide)] at ID
    refine fin Qm ?_
    rw[← zf (by omega),ID]
    exact Pc
  refine br (λe=>goX (Qv P1.rd B1) λh2 x2=>bt (J x2 (by rw[e,Bool.true_and]))) λe=>J (Ext.refl _) (by rw[e,Bool.false_and])
 ·obtain rfl:i=p.al.length:=by omega
  refine P.rd.oI (off:=7) ?_
  have hN:(p.upto p.al.length).mO=p.mO:=rfl
  rw[hN,wrap64 (n:=p.mO+1) (by omega) (by omega)]
  refine P.stI λh1 P1=>(Gn rf c1).go λh2 y x2 hy=>cW ⟨⟨y,rfl,?_⟩,?_⟩
  ·have:p.pB.2=tg (qS p p.al.length) Eo:=by unfold qS;rw[List.take_length];rfl
   rw[this];exact hy
  ·have:p.pB.1={ p.upto p.al.length with mO:=p.mO+1 }:=by unfold aC.upto;rw[Gy rfl];rfl
   rw[this];exact P1.grow x2
theorem Ee(p:aC)(e:aZ):(p.qm e).Next=p.Next∧(p.qm e).Score=p.Score:=by
 unfold aC.qm
 split
 ·cases g0 p.Score e <;> exact⟨rfl,rfl⟩
 ·exact⟨rfl,rfl⟩
structure AB (p0 p:aC):Prop where
 r:p.iW
 n:p.mO=p0.mO
 e:aC.run (p.Score.bo.length-p.Next.toNat) p=aC.run (p0.Score.bo.length-p0.Next.toNat) p0
 s:p.Score=p0.Score
theorem AB.next{p0 p:aC}(R:AB p0 p)(h:p.yN=true):AB p0 p.next:=by
 obtain⟨g1,g2,g3⟩:=sM p
 exact⟨JX R.r (GH h).1,by rw[g2,R.n],by rw[← Z9 R.r h,R.e],by rw[g1,R.s]⟩
theorem AB.done{p0 p:aC}(R:AB p0 p)(h:p.yN=false):p.pB=p0.step:=by
 unfold aC.step
 rw[← R.e,Z7 h]
theorem Uz(P:Pt bz h0 h q F L p)(R:p.iW)(Ud:0≤p.mO∧p.mO≤1000000):af ak 42 #[.pointer (some q)] (λu h'=>AA h0 h' q F L p.step u) h:=by
 have hm:=cu
 refine bw.call (ae3 (λy hh=>∃w:aC,y=q∧AB p w∧Pt bz h0 hh q F L w) (λy hh=>((p.Score.bo.length:Int)-SO hh (q.add 8)).toNat) ⟨p,rfl,⟨R,rfl,rfl,rfl⟩,P⟩ ?_)
 rintro y hh ⟨w,rfl,W,P⟩
 have nx:=W.r.nx
 obtain⟨b,l,c,hb,S⟩:=P.hdr (off:=5) (e:=131) (s:=bF)
 have hl:w.Score.bo.length=l:=S.len
 have s1:=S.2.1
 have s2:=S.2.2.1
 have hes:w.Score.bo.length=p.Score.bo.length:=by rw[W.s]
 have sum:w.yN=false->bk (bw.B6 (λu h'=>AA h0 h' y F L p.step u)) (y,0,(0:Int)) hh:=λh=>by
  rw[← W.done h]
  exact XJ P W.r (by rw[W.n];exact Ud)
 refine P.rd.oI (off:=8) (o_l hb (brd (λhc=>o_l hb (P.rd.oI (off:=8) ?_)) λhc=>sum ?_))
 ·obtain⟨a,rfl,Ra⟩:=S.elem (i:=w.Next.toNat) (by omega) (by decide)
  have Ra:RdP bF hh (a.add (w.Next.toNat*6)) w.Score.bo[w.Next.toNat]!:=Ra
  refine idxs (by omega) (by omega) (Ra.oI1 (P.rd.oI (off:=7) (br (λk=>?_) λk=>sum ?_)))
  ·have k:w.Score.bo[w.Next.toNat]!.At=w.mO:=by simpa using k
   have hc':w.Next<(w.Score.bo.length:Int):=by rw[hl];exact hc
   have hn:w.yN=true:=by unfold aC.yN;rw[decide_eq_true hc',k];simp
   have E:HY hh y (a.add (w.Next.toNat*6)) w.Next.toNat:=⟨a,l,c,hb,rfl,by omega⟩
   unfold bw.J2
   refine o_l hb (P.rd.oI (off:=8) (idxs (by omega) (by omega) ((NB P E rfl (OH W.r hc')).mono ?_)))
   rintro _ h1 ⟨rfl,P1⟩
   obtain⟨n1,n2⟩:=Ee w w.Score.bo[w.Next.toNat]!
   refine P1.rd.oI (off:=8) ?_
   rw[n1,wrap64 (n:=w.Next+1) (by omega) (by omega)]
   refine P1.stI λh2 P2=>?_
   have P2:Pt bz h0 h2 y F L w.next:=P2
   refine⟨⟨w.next,rfl,W.next hn,P2⟩,?_⟩
   rw[Ca P2,Ca P,(sM w).2.2]
   omega
  ·have k:¬w.Score.bo[w.Next.toNat]!.At=w.mO:=by simpa using k
   unfold aC.yN;rw[beq_eq_false_iff_ne.2 k,Bool.and_false]
 ·unfold aC.yN
  rw[decide_eq_false (by show ¬w.Next<(w.Score.bo.length:Int);omega)];rfl
end
section
variable {h0 h:ab}{q:Addr}{F:Fr}{L:List Blk}{p:aC}
theorem ahW(P:Pt bz h0 h q F L p)(R:p.iW)(Ud:0≤p.mO∧p.mO≤1000000):bk (aV.B6 (λu h'=>AA h0 h' q F L p.pB u)) (q,0,(p.al.length:Int),(0:Int)) h:=by
 have hm:=cu
 refine loop (λy hh=>∃(i sum:Nat),y=(q,sum,(p.al.length:Int),(i:Int))∧i≤p.al.length∧FW .f32 sum (qS p i)∧Pt bz h0 hh q F L (p.upto i)) (λy=>((p.al.length:Int)-y.2.2.2).toNat) ⟨0,0,rfl,by omega,fw0,by unfold aC.upto;rw[DA];exact P⟩ ?_
 rintro y hh ⟨i,sum,rfl,hi,rf,P⟩
 obtain⟨b,l,c,hb,S⟩:=P.hdr (off:=6) (e:=122) (s:=aQ)
 have hl:(p.upto i).al.length=l:=S.len
 rw[HG] at hl
 have s1:=S.2.1
 have s2:=S.2.2.1
 refine brd (λhc=>o_l hb ?_) λhc=>?_
 ·have fin:∀{h':ab}{Zj:Nat},FW .f32 Zj (qS p (i+1))->Pt bz h0 h' q F L (p.upto (i+1))->((∃i' OX:Nat,(q,Zj,(p.al.length:Int),IntKind.i64.wrap ((i:Int)+1))=(q,OX,(p.al.length:Int),(i':Int))∧i'≤p.al.length∧FW .f32 OX (qS p i')∧Pt bz h0 h' q F L (p.upto i'))∧((p.al.length:Int)-IntKind.i64.wrap ((i:Int)+1)).toNat<((p.al.length:Int)-i).toNat):=λhs P=>
   ⟨⟨i+1,_,by rw[ag (by omega)],by omega,hs,P⟩,by rw[ag (by omega)];omega⟩
  obtain⟨a,F',C,rfl,P',close⟩:=P.JA (off:=6) hb (i:=i) (by omega)
  have Nm:=HF (p:=p) (i:=i) (by omega)
  have P':Pt aQ h0 hh (a.add (i*45)) F' (C++L) (p.upto i).al[i]!:=P'
  rw[Nm] at P'
  refine idxs (by omega) (by omega) ?_
  rw[Int.toNat_natCast]
  refine P'.rd.jc rfl λcv Rv=>goX (Ns Rv) λre x29=>bt (br (λk=>?_) λk=>?_)
  ·have k:p.al[i]!.aT = -1:=by simpa using k
   refine fin ?_ ?_
   ·rw[wF (by omega)];unfold PM;rw[if_pos k];exact rf
   ·rw[Kj (by omega) k];exact P.grow x29
  have k:¬p.al[i]!.aT = -1:=by simpa using k
  obtain⟨B,I1,I2⟩:=Ki R (i:=i) (by omega) k
  have P':=P'.grow x29
  refine(P.grow x29).rd.oL (off:=4) λb4 l4 c4 S4=>?_
  have e4:p.Score.az.length=l4:=S4.len
  refine P'.rd.oI (S4.idx (by decide) I1 (by omega) λa4 R4=>?_)
  have R4:RdP aA re (a4.add (p.al[i]!.aq.toNat*5)) p.Score.az[p.al[i]!.aq.toNat]!:=R4
  refine R4.oI ?_
  have hkd:p.Score.az[p.al[i]!.aq.toNat]!.Kind=p.Score.kind p.al[i]!:=rfl
  rw[hkd]
  refine(Kv P' B).mono ?_
  rintro _ h1 ⟨⟨y,rfl,hy⟩,P1⟩
  obtain⟨Pc,hk1⟩:=close _ _ _ _ P1
  have hb1:cell h1 (q.add 6)=some (.slice (some a) l c):=by rw[hk1];exact hb
  have ID:xw p.Score p.al[i]! = if(p.al[i]!.Gone&&(p.al[i]!.sound (p.Score.kind p.al[i]!)).1.quiet (p.Score.kind p.al[i]!))=true then ln else(p.al[i]!.sound (p.Score.kind p.al[i]!)).1:=by unfold xw;rw[if_neg k]
  refine jJ (cW (bt (fA rf hy λs' Qm=>?_)))
  have Qm:FW .f32 s' (qS p (i+1)):=by rw[wF (by omega)];unfold PM;rw[if_neg k];exact Qm
  refine br (λe=>?_) λe=>?_
  ·rw[e,if_pos rfl] at ID
   refine goX DZ λh3 x3=>gw ?_
   have Pc:=Pc.grow x3
   obtain⟨a',ha,st⟩:=Pt.stE (off:=6) (i:=i) (n:=45) (L:=L) (B':=[]) (vs:=⟨u5⟩) Pc (x3.cell hb1) (by omega) rfl HM λh' P' _=>fin Qm (by
    have P':Pt bz h0 h' q F L { p.upto i with al:=((p.upto i).al.set i (p.al[i]!.sound (p.Score.kind p.al[i]!)).1).set i ln }:=P'
    rw[List.set_set,← ID,zf (by omega)] at P'
    exact P')
   cases ha
   exact st
  ·rw[e,if_neg (by decide)] at ID
   refine fin Qm ?_
   rw[← zf (by omega),ID]
   exact Pc
 ·obtain rfl:i=p.al.length:=by omega
  refine P.rd.oI (off:=7) ?_
  have hN:(p.upto p.al.length).mO=p.mO:=rfl
  rw[hN,wrap64 (n:=p.mO+1) (by omega) (by omega)]
  refine P.stI λh1 P1=>(A3 rf c1).go λh2 y x2 hy=>cW ⟨⟨y,rfl,?_⟩,?_⟩
  ·have:p.pB.2=tg (qS p p.al.length) Eo:=by unfold qS;rw[List.take_length];rfl
   rw[this];exact hy
  ·have:p.pB.1={ p.upto p.al.length with mO:=p.mO+1 }:=by unfold aC.upto;rw[Gy rfl];rfl
   rw[this];exact P1.grow x2
theorem I6(P:Pt bz h0 h q F L p)(R:p.iW)(Ud:0≤p.mO∧p.mO≤1000000):af ak 71 #[.pointer (some q)] (λu h'=>AA h0 h' q F L p.step u) h:=by
 have hm:=cu
 refine aV.call (ae3 (λy hh=>∃w:aC,y=q∧AB p w∧Pt bz h0 hh q F L w) (λy hh=>((p.Score.bo.length:Int)-SO hh (q.add 8)).toNat) ⟨p,rfl,⟨R,rfl,rfl,rfl⟩,P⟩ ?_)
 rintro y hh ⟨w,rfl,W,P⟩
 have nx:=W.r.nx
 have sum:∀{h':ab},Ext hh h'->w.yN=false->oL (cell h' (y.add 6)) λpQ nT sH=>bk (aV.B6 (λu h'=>AA h0 h' y F L p.step u)) (y,0,(nT:Int),(0:Int)) h':=λx h=>by
  rw[← W.done h]
  refine(P.grow x).rd.oL (off:=6) λb l c S=>?_
  have e:w.al.length=l:=S.len
  rw[← e]
  exact ahW (P.grow x) W.r (by rw[W.n];exact Ud)
 refine P.rd.oI (off:=8) (P.rd.oL (off:=5) λb0 l0 c0 S0=>goX (yJ _ _ _ _) λh4 x4=>cN (P.rd.lN (by decide) x4 ?_))
 have hl0:w.Score.bo.length=l0:=S0.len
 have P4:=P.grow x4
 obtain⟨b,l,c,hb,S⟩:=P4.hdr (off:=5) (e:=131) (s:=bF)
 have hl:w.Score.bo.length=l:=S.len
 have s1:=S.2.1
 have s2:=S.2.2.1
 have hes:w.Score.bo.length=p.Score.bo.length:=by rw[W.s]
 refine brd (λhc=>o_l hb (P4.rd.oI (off:=8) ?_)) λhc=>sum x4 ?_
 ·obtain⟨a,rfl,Ra⟩:=S.elem (i:=w.Next.toNat) (by omega) (by decide)
  have Ra:RdP bF h4 (a.add (w.Next.toNat*6)) w.Score.bo[w.Next.toNat]!:=Ra
  refine idxs (by omega) (by omega) (Ra.oI1 (P4.rd.oI (off:=7) (br (λk=>?_) λk=>sum x4 ?_)))
  ·have k:w.Score.bo[w.Next.toNat]!.At=w.mO:=by simpa using k
   have hc':w.Next<(w.Score.bo.length:Int):=by rw[hl0];exact hc
   have hn:w.yN=true:=by unfold aC.yN;rw[decide_eq_true hc',k];simp
   unfold aV.J2
   refine o_l hb (P4.rd.oI (off:=8) (idxs (by omega) (by omega) (Ra.jc rfl λce Rc=>(Xf P4 Rc (OH W.r hc')).mono ?_)))
   rintro _ h1 ⟨rfl,P1⟩
   obtain⟨n1,n2⟩:=Ee w w.Score.bo[w.Next.toNat]!
   refine P1.rd.oI (off:=8) ?_
   rw[n1,wrap64 (n:=w.Next+1) (by omega) (by omega)]
   refine P1.stI λh2 P2=>?_
   have P2:Pt bz h0 h2 y F L w.next:=P2
   refine⟨⟨w.next,rfl,W.next hn,P2⟩,?_⟩
   rw[Ca P2,Ca P,(sM w).2.2]
   omega
  ·have k:¬w.Score.bo[w.Next.toNat]!.At=w.mO:=by simpa using k
   unfold aC.yN;rw[beq_eq_false_iff_ne.2 k,Bool.and_false]
 ·unfold aC.yN
  rw[decide_eq_false (by show ¬w.Next<(w.Score.bo.length:Int);omega)];rfl
end
def boL(b1:Option Addr)(l1 c1:Nat)(n1:Int)(b2:Option Addr)(l2 c2:Nat)(n2:Int)(v:Int×Nat×Nat×Nat×Nat×Nat)(y z:Nat):List Value:=
 [.slice b1 l1 c1,.int .i64 n1]++([.slice b2 l2 c2,.int .i64 n2]++(flT v++[.float .f32 y,.float .f32 z]))
theorem aoE{b1 b2:Option Addr}{l1 c1 l2 c2 y z:Nat}{n1 n2:Int}{v:Int×Nat×Nat×Nat×Nat×Nat}:∀w ∈ (⟨boL b1 l1 c1 n1 b2 l2 c2 n2 v y z⟩:Array Value).toList,w.oneCell'=true:=dI rfl
def aK.small(v:aK):Prop:=v.String.Loop.ae.length≤1048576∧v.aI.small∧v.bY.bT.ae.length≤1048576∧v.bY.aH.ae.length≤1048576
section
variable {h:ab}{q:Addr}
theorem alw{x:iU}(R:RdP jI h q x)(h1:x.bT.ae.length≤1048576)(h2:x.aH.ae.length≤1048576):af ak 135 #[.pointer (some q)] (λu h'=>mN jI h h' u x) h:=by
 refine aeG.call ((Mem.start h).alc λg1 h3 x3 M=>?_)
 have A:∀{hh:ab},Ext h hh->RdP jI hh q x:=λe=>R.ext e
 refine(A M.ext).lda gj rfl λa3 R3=>(A M.ext).oF λr4 h4=>(A M.ext).oF λr5 h5=>?_
 obtain⟨v1,e3,O1⟩:=qY R3
 obtain rfl:a3=⟨flT v1⟩:=by cases a3;simpa using e3
 refine mN.go (Mem.start h3) (Un ((A M.ext).fst ik) h1) λh7 a8 B8 N O8 s8=>gw ?_
 obtain⟨b,l,c,rfl,OS⟩:=wh O8
 have P:=A M.ext
 refine P.lN (by decide) N.ext (P.lN (by decide) N.ext (P.lN (by decide) N.ext ?_))
 refine mN.go N (Un ((A (M.ext.trans N.ext)).foc fE) h2) λh8 a9 B9 N O9 s9=>gw ?_
 obtain⟨b',l',c',rfl,OT⟩:=wh O9
 refine P.lN (by decide) N.ext (P.lN (by decide) N.ext (P.lN (by decide) N.ext (siz rfl (siz rfl (siz rfl ?_)))))
 have M:=(M.join N).cnt (W:=(g1,120,⟨dg⟩) :: (B8++B9))
 refine M.dH (vs:=⟨boL b l c x.bT.At b' l' c' x.aH.At v1 r4 r5⟩) .here rfl aoE rfl .here λh9 M=>M.df .here rfl ⟨_,B8++B9,rfl,Wv (x:=x) OS OT O1 h4 h5,M.drop⟩
theorem akk{cs:Array Value}{x:aK}(R:aQ.rd h cs.toList x):∃hd s p b:List Value,cs=⟨hd++(s++(p++b))⟩∧hd.length=5∧s.length=15∧p.length=13∧b.length=12∧bf.rd h s x.String∧dX.rd h p x.aI∧jI.rd h b x.bY ∧
  ∀B1 B2 B3 s' p' b',bf.ow B1 s' x.String->dX.ow B2 p' x.aI->jI.ow B3 b' x.bY->aQ.ow (B1++(B2++B3)) (hd++(s'++(p'++b'))) x:=by
 obtain⟨w1,r1,e1,F1,w2,r2,rfl,F2,w3,r3,rfl,F3,w4,r4,rfl,F4,w5,r5,rfl,F5,s,r6,rfl,FS,p,b,rfl,FP,FB⟩:=R
 have g1:w1=[.int .i64 x.aT]:=F1
 have g2:w2=[.int .i64 x.aq]:=F2
 have g3:w3=[.int .i64 x.mh]:=F3
 have g4:w4=[.bool x.Gone]:=F4
 obtain⟨y,rfl,hy⟩:=F5
 subst g1 g2 g3 g4
 refine⟨[.int .i64 x.aT,.int .i64 x.aq,.int .i64 x.mh,.bool x.Gone,.float .f32 y],s,p,b,by cases cs;simpa using e1,rfl,bf.tc FS,dX.tc FP,jI.tc FB,FS,FP,FB,λB1 B2 B3 s' p' b' O1 O2 O3=>?_⟩
 exact⟨[],_,[.int .i64 x.aT],_,rfl,rfl,⟨rfl,rfl⟩,[],_,[.int .i64 x.aq],_,rfl,rfl,⟨rfl,rfl⟩,[],_,[.int .i64 x.mh],_,rfl,rfl,⟨rfl,rfl⟩,[],_,[.bool x.Gone],_,rfl,rfl,⟨rfl,rfl⟩,[],_,[.float .f32 y],_,rfl,rfl,⟨rfl,y,rfl,hy⟩,B1,B2++B3,s',p'++b',rfl,rfl,O1,B2,B3,p',b',rfl,rfl,O2,O3⟩
theorem akv{x:aK}(R:RdP aQ h q x)(hs:x.small):af ak 92 #[.pointer (some q)] (λu h'=>mN aQ h h' u x) h:=by
 obtain⟨z1,z2,z3,z4⟩:=hs
 have A:∀{hh:ab},Ext h hh->RdP aQ hh q x:=λe=>R.ext e
 refine ae7.call ((Mem.start h).alc λg1 h1 x1 M=>(A M.ext).jc rfl λcs Rc=>M.alc λg4 h2 x2 M=>M.dH .here (rsz Rc rfl) (aQ.wj Rc) rfl .here λh3 M=>?_)
 obtain⟨hd,s,p,b,rfl,e0,e1,e2,e3,_,_,_,close⟩:=akk Rc
 refine mN.go M (Uq ((A M.ext).foc bO) z1) λh4 c1 B1 M O1 s1=>gw ?_
 have M:=M.cnt (W:=(g4,122,⟨hd++(s++(p++b))⟩) :: (g1,122,⟨bg⟩) :: B1)
 refine M.aqI (pre:=hd) (iS:=s) (post:=p++b) e0 e1 s1 (bf.jy O1) λh5 M=>?_
 refine mN.go M (ap9 ((A M.ext).foc cE) z2) λh4 c2 B2 M O2 s2=>gw ?_
 have M:=M.cnt (W:=(g4,122,⟨(hd++c1.toList)++(p++b)⟩) :: (g1,122,⟨bg⟩) :: (B1++B2)) (λp=>by simp only[List.append_assoc,List.append_eq,bN,bu,bZ] at *;omega)
 have l1:=bf.jX O1
 refine M.aqI (pre:=hd++c1.toList) (iS:=p) (post:=b) (by rw[List.length_append,e0,l1];rfl) e2 s2 (dX.jy O2) λh6 M=>?_
 refine mN.go M (alw ((A M.ext).foc cP) z3 z4) λh4 c3 B3 M O3 s3=>gw ?_
 have M:=M.cnt (W:=(g4,122,⟨(hd++c1.toList++c2.toList)++(b++[])⟩) :: (g1,122,⟨bg⟩) :: (B1++(B2++B3))) (λp=>by simp only[List.append_nil,List.append_assoc,List.append_eq,bN,bu,bZ] at *;omega)
 have l2:=dX.jX O2
 refine M.aqI (pre:=hd++c1.toList++c2.toList) (iS:=b) (post:=[]) (by rw[List.length_append,List.length_append,e0,l1,l2];rfl) e3 s3 (jI.jy O3) λh7 M=>?_
 have OV:=close _ _ _ _ _ _ O1 O2 O3
 have M:Mem h h7 ((g4,122,⟨hd++(c1.toList++(c2.toList++c3.toList))⟩) :: (g1,122,⟨bg⟩) :: (B1++(B2++B3))):=by simpa using M
 have hsz:(⟨hd++(c1.toList++(c2.toList++c3.toList))⟩:Array Value).size=45:=osz (cs:=⟨_⟩) OV rfl
 exact M.df .here hsz (M.dH (.there .here) hsz (aQ.jy OV) rfl (.there .here) λgv M=>M.df (.there .here) hsz ⟨_,_,rfl,OV,M.drop.drop⟩)
end
end Go.Sx
