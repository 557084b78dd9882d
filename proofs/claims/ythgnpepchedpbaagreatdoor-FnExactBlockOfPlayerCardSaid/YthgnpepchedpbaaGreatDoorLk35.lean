/- Lemmas. -/
import Derived.Test.YthgnpepchedpbaaGreatDoorLk33
import Derived.Test.YthgnpepchedpbaaGreatDoorLpn
import Derived.Test.YthgnpepchedpbaaGreatDoorLk10
set_option linter.unusedVariables false
set_option linter.unusedSimpArgs false
namespace Go.Sx
open Go.Proofs
set_option maxRecDepth 100000
set_option maxHeartbeats 2000000
def hap(es:List aZ)(now:Int):Nat:=es.countP λe=>decide (e.At<now)
theorem kU.sorted{es:List aZ}{ni:Int}(G:kU es ni){i j:Nat}(h1:i≤j)(h2:j<es.length):es[i]!.At≤es[j]!.At:=by
 rcases Nat.lt_or_ge i j with h | h
 ·have:=chain (λk=>keyOf es es[k]!) G.ord h h2
  unfold keyOf ET at this
  rw[uY] at this
  omega
 ·rw[show i=j by omega];exact Int.le_refl _
theorem alj{es:List aZ}{ni now:Int}(G:kU es ni):((jL (λe:aZ=>decide (now≤e.At)) es = -1->(hap es now:Int)=es.length)∧∀m:Nat,m<es.length->jL (λe:aZ=>decide (now≤e.At)) es=m->(hap es now:Int)=m):=by
 rcases yq (λe:aZ=>decide (now≤e.At)) es with⟨e,hall⟩ | ⟨m,hm,e,h0,hp⟩
 ·refine⟨λ_=>?_,λm _ h=>by rw[e] at h;omega⟩
  unfold hap
  rw[List.countP_eq_length.2]
  intro x hx
  obtain⟨i,hi,rfl⟩:=List.mem_iff_getElem.1 hx
  have:=hall i hi
  rw[getElem!_pos es i hi,decide_eq_false_iff_not] at this
  exact decide_eq_true (by omega)
 ·refine⟨λh=>by rw[e] at h;omega,λk _ h=>?_⟩
  rw[e] at h
  obtain rfl:m=k:=by omega
  unfold hap
  rw[← List.take_append_drop m es,List.countP_append]
  have e1:(es.take m).countP (λe=>decide (e.At<now))=m:=by
   have hl:(es.take m).length=m:=by rw[List.length_take];omega
   conv=>rhs;rw[← hl]
   rw[List.countP_eq_length]
   intro x hx
   obtain⟨i,hi,rfl⟩:=List.mem_iff_getElem.1 hx
   have:=h0 i (by omega)
   rw[getElem!_pos es i (by omega),decide_eq_false_iff_not] at this
   rw[List.getElem_take]
   exact decide_eq_true (by omega)
  have e2:(es.drop m).countP (λe=>decide (e.At<now))=0:=by
   rw[List.countP_eq_zero]
   intro x hx
   obtain⟨i,hi,rfl⟩:=List.mem_iff_getElem.1 hx
   rw[List.length_drop] at hi
   rw[List.getElem_drop]
   have:=G.sorted (i:=m) (j:=m+i) (by omega) (by omega)
   rw[getElem!_pos es (m+i) (by omega)] at this
   rw[decide_eq_true_iff] at hp
   rw[decide_eq_true_iff]
   omega
  rw[e1,e2];rfl
section
variable {h:ab}
theorem amP{cs:Array Value}{s:bI}(R0:bU.rd h cs.toList s)(hs:s.ok=true)(now:Int):af ak 95 #[.agg cs,.int .i64 now] (λu h'=>u = .int .i64 (hap s.bo now:Int)∧Ext h h') h:=by
 have hf:=alj (now:=now) (sP hs)
 refine adf.call (gD R0 λg1 h1 x1 R=>gD (r:=rI .i64) auK λg3 h3 x3 RN=>(R.ext x3).oL2 λb l c S=>?_)
 have T:FD ak bF h3 (.func (.func 140) #[] #[.pointer (some ⟨g3,0,none⟩)]) (λe=>decide (now≤e.At)):=λce e hx xx Re=>by
  show af ak 140 #[.agg ce,.pointer (some ⟨g3,0,none⟩)] _ hx
  exact acY.call (gD Re λg h' x' R'=>R'.oI2 ((RN.ext (xx.trans x')).oI1 ⟨rfl,x'⟩))
 refine goX (agt S T) λh4 x4=>cN ?_
 have X:=x1.trans (x3.trans x4)
 rcases yq (λe:aZ=>decide (now≤e.At)) s.bo with⟨e,hall⟩ | ⟨m,hm,e,h0,hp⟩
 ·have:=hf.1 e
  rw[e]
  refine brd (λ_=>(R.ext (x3.trans x4)).oL2 λb1 l1 c1 S1=>goE X (yJ _ _ _ _) λh5 x5=>cN ⟨?_,x5⟩) λk=>by omega
  rw[this,S1.len]
 ·have:=hf.2 m hm e
  rw[e]
  exact brd (λk=>by omega) λ_=>⟨by rw[this],X⟩
theorem al6{q:Addr}{s:bI}(R:RdP bU h q s)(now:Int):af ak 131 #[.pointer (some q),.int .i64 now] (λu h'=>u = .int .i64 (hap s.bo now:Int)∧Ext h h') h:=by
 have hm:=cu
 refine abt.call ?_
 refine loop (λx hh=>∃i:Nat,x=(q,now,(hap (s.bo.take i) now:Int),(i:Int))∧i≤s.bo.length∧hh=h) (λx=>((s.bo.length:Int)-x.2.2.2).toNat) ⟨0,rfl,by omega,rfl⟩ ?_
 rintro x hh ⟨i,rfl,hi,rfl⟩
 refine R.oL λb l c S=>?_
 have hl:=S.len
 have s1:=S.2.1
 have s2:=S.2.2.1
 refine brd (λhc=>R.oL λb1 l1 c1 S1=>?_) λhc=>⟨by rw[List.take_of_length_le (by omega)],Ext.refl _⟩
 have e1:=S1.len
 have hle:hap (s.bo.take i) now≤i:=by
  unfold hap
  have:=List.countP_le_length (p:=λe:aZ=>decide (e.At<now)) (l:=s.bo.take i)
  rw[List.length_take] at this
  omega
 have aoF:hap (s.bo.take (i+1)) now=hap (s.bo.take i) now+if s.bo[i]!.At<now then 1 else 0:=by
  unfold hap
  rw[List.take_succ_eq_append_getElem (by omega),List.countP_append,List.countP_singleton,getElem!_pos _ i (by omega)]
  simp
 refine S1.idn tk (by omega) λa Ra=>Ra.oI1 (brd (λk=>?_) λk=>?_)
 ·rw[if_pos k] at aoF
  exact⟨⟨i+1,by rw[ag (by omega),ag (by omega),aoF],by omega,rfl⟩,by show((s.bo.length:Int)-IntKind.i64.wrap ((i:Int)+1)).toNat<((s.bo.length:Int)-i).toNat;rw[ag (by omega)];omega⟩
 ·rw[if_neg k] at aoF
  exact⟨⟨i+1,by rw[ag (by omega),aoF];rfl,by omega,rfl⟩,by rw[ag (by omega)];show _<_;simp;omega⟩
theorem ap7{cs:Array Value}{v:aK}(R0:aQ.rd h cs.toList v):af ak 141 #[.agg cs] (λu h'=>u = .tuple ⟨[.bool (same v.String iw),.bool (same v.aI wI),.bool (same v.bY vl)]⟩∧Ext h h') h:=by
 refine adt.call (gD R0 λg h1 x1 R=>R.jH bO rfl λc1 R1=>R.jH cE rfl λc2 R2=>R.jH cP rfl λc3 R3=>?_)
 refine goX (als R1 (bf.look wL (Mem.start h1) (List.nil_sublist _))) λh2 x2=>bt (R.IT (by decide) x2 (R.IT (by decide) x2 ?_))
 refine goE x2 (am4 (dX.ext x2 R2) (dX.look Pr (Mem.start h2) (List.nil_sublist _))) λh3 x3=>bt (R.IT (by decide) x3 ?_)
 exact goE x3 (aoX (jI.ext x3 R3) (jI.look Tz (Mem.start h3) (List.nil_sublist _))) λh4 x4=>bt ⟨rfl,x1.trans x4⟩
theorem Ns{cs:Array Value}{v:aK}(R0:aQ.rd h cs.toList v):af ak 97 #[.agg cs] (λu h'=>u = .bool (v.aT == -1)∧Ext h h') h:=
 nq.call (gD R0 λg h1 x1 R=>R.oI2 ⟨rfl,x1⟩)
theorem amR{h0:ab}{p q:Addr}{s:bI}{v:aK}(R:RdP bU h p s)(V:RdP aQ h q v)(X:Ext h0 h)(hi:0≤v.aq∧v.aq<s.az.length){r:Bool}(k:aeJ s v=r):
  ack.J7 (λu h'=>u = .bool r∧Ext h0 h') p q (same v.String iw) (same v.aI wI) (same v.bY vl) h:=by
 unfold ack.J7
 refine R.oL λb l c S=>V.oI (S.idx (by decide) hi.1 (by rw[← S.len];exact hi.2) λa Ra=>Ra.oI (br (λk1=>?_) λk1=>br (λk2=>?_) λk2=>?_))
 ·have k:(v.String.ok&&same v.aI wI&&same v.bY vl)=r:=by rw[← k,aeJ,if_pos (by simpa using k1)]
  refine V.lda bO rfl λcv Rv=>goE X (Ie Rv) λh1 x1=>bt (br (λe=>br (λe2=>⟨?_,x1⟩) λe2=>⟨?_,x1⟩) λe=>⟨?_,x1⟩)
  all_goals (rw[← k];simp[*])
 ·have k:(same v.String iw&&v.aI.ok&&same v.bY vl)=r:=by rw[← k,aeJ,if_neg (by simpa using k1),if_pos (by simpa using k2)]
  refine br (λe=>V.lda cE rfl λcv Rv=>goE X (alJ Rv) λh1 x1=>bt (br (λe2=>⟨?_,x1⟩) λe2=>⟨?_,x1⟩)) λe=>⟨?_,X⟩
  all_goals (rw[← k];simp[*])
 ·have k:(same v.String iw&&same v.aI wI&&v.bY.ok)=r:=by rw[← k,aeJ,if_neg (by simpa using k1),if_neg (by simpa using k2)]
  refine br (λe=>br (λe2=>V.lda cP rfl λcv Rv=>goE X (am5 Rv) λh1 x1=>bt ⟨?_,x1⟩) λe2=>⟨?_,X⟩) λe=>⟨?_,X⟩
  all_goals (rw[← k];simp[*])
theorem ap8{cs cv:Array Value}{s:bI}{v:aK}(R0:bU.rd h cs.toList s)(V0:aQ.rd h cv.toList v)(hs:s.ok=true):af ak 96 #[.agg cs,.agg cv] (λu h'=>u = .bool (acy s v)∧Ext h h') h:=by
 refine ack.call (gD R0 λg1 h1 x1 R=>gD (aQ.ext x1 V0) λg3 h4 x4 V=>?_)
 have X0:=x1.trans x4
 have A:∀{hh:ab},Ext h4 hh->RdP bU hh ⟨g1,0,none⟩ s:=λe=>R.ext (x4.trans e)
 have B:∀{hh:ab},Ext h4 hh->RdP aQ hh ⟨g3,0,none⟩ v:=λe=>V.ext e
 refine V.jc rfl λc1 V1=>goX (ap7 V1) λh5 x5=>?_
 refine al1 (bt (bt (bt ?_)))
 refine(B x5).jc rfl λc2 V2=>goE x5 (Ns V2) λh6 x6=>bt (br (λkn=>?_) λkn=>?_)
 ·have k:acy s v=aeU v:=by rw[acy,if_pos (by simpa using kn)]
  rw[k]
  refine br (λe1=>br (λe2=>br (λe3=>(B x6).oI2 (br (λe4=>(B x6).oI2 (br (λe5=>(B x6).oB2 (brN (λe6=>(B x6).oF2 λy hy=>goE x6 (FK hy _) λh7 x7=>cN ⟨?_,X0.trans x7⟩) λe6=>⟨?_,X0.trans x6⟩)) λe5=>⟨?_,X0.trans x6⟩)) λe4=>⟨?_,X0.trans x6⟩)) λe3=>⟨?_,X0.trans x6⟩) λe2=>⟨?_,X0.trans x6⟩) λe1=>⟨?_,X0.trans x6⟩
  ·rw[aeU,e1,e2,e3,e4,e5,e6]
   congr 1
   simp only[Bool.not_false,Bool.and_true,Bool.true_and]
   rw[Bool.eq_iff_iff,beq_iff_eq,beq_iff_eq]
   omega
  all_goals (rw[aeU];simp[*])
 ·refine(A x6).jc rfl λc3 R3=>(B x6).oI2 ?_
  refine(aqJ R3 v.aT).mono ?_
  rintro _ h7 ⟨⟨ce,rfl,Re⟩,y7⟩
  have x7:=x6.trans y7
  refine jJ (gw (bt (QU Re rfl rfl λg h8 y8 E=>?_)))
  have x8:=x7.trans y8
  cases he:tS s.bo v.aT with
  | none=>
   exact vu rfl ⟨by rw[acy,if_neg (by simpa using kn),he],X0.trans x8⟩
  | some e=>
   rw[he] at E
   have E:RdP bF h8 ⟨g,0,none⟩ e:=E
   have k0:acy s v=((e.aq==v.aq)&&(e.At==v.mh)&&fin v.gR&&aeJ s v):=by rw[acy,if_neg (by simpa using kn),he]
   refine cM rfl ((B x8).oI2 (E.oI2 (br (λe1=>⟨?_,X0.trans x8⟩) λe1=>(B x8).oI2 (E.oI2 (br (λe2=>⟨?_,X0.trans x8⟩) λe2=>(B x8).oF2 λy hy=>goE x8 (mw hy _) λh9 x9=>bt (brN (λe3=>⟨?_,X0.trans x9⟩) λe3=>?_))))))
   ·rw[k0,show(e.aq==v.aq)=false from by rw[bne_iff_ne] at e1;rw[beq_eq_false_iff_ne];exact λh=>e1 h.symm];rfl
   ·rw[k0,show(e.At==v.mh)=false from by rw[bne_iff_ne] at e2;rw[beq_eq_false_iff_ne];exact λh=>e2 h.symm];simp
   ·rw[k0,e3];simp
   ·have hi:=Kg hs he
    have ei:e.aq=v.aq:=by rw[bne_eq_false_iff_eq] at e1;exact e1.symm
    have ea:e.At=v.mh:=by rw[bne_eq_false_iff_eq] at e2;exact e2.symm
    rw[ei] at hi
    refine amR (A x9) (B x9) (X0.trans x9) hi ?_
    rw[k0,e3,ei,ea];simp
end
noncomputable def Zv(p:aC)(i:Nat):Bool:=acy p.Score p.al[i]! && (decide (p.al[i]!.aT<0)||(decide (p.al[i]!.mh<p.mO)&&(List.range i).all λk=>!(p.al[k]!.aT==p.al[i]!.aT)))
noncomputable def aC.ok(p:aC):Bool:=p.Score.ok&&inR p.al.length 1 6&&inR p.mO 0 200000&&inR p.ft 0 64&&(p.Next==(hap p.Score.bo p.mO:Int))&&(List.range p.al.length).all (Zv p)
theorem ajp{s:bI}{v:aK}(h:s.ok=true)(hv:acy s v=true):v.aT = -1∨0≤v.aT:=by
 by_cases hn:v.aT = -1
 ·exact .inl hn
 ·right
  rw[acy,if_neg hn] at hv
  cases he:tS s.bo v.aT with
  | none=>rw[he] at hv;cases hv
  | some e=>
   have G:=sP h
   have hm:=List.mem_of_find?_eq_some he
   have hp:=List.find?_some he
   obtain⟨i,hi,rfl⟩:=List.mem_iff_getElem.1 hm
   have:=(G.note i hi).1
   rw[getElem!_pos _ i hi] at this
   rw[Bool.and_eq_true,beq_iff_eq] at hp
   omega
section
variable {h:ab}
theorem atY{q:Addr}{p:aC}(R:RdP bz h q p):af ak 91 #[.pointer (some q)] (λu h'=>u = .bool p.ok∧Ext h h') h:=by
 have hm:=cu
 have A:∀{hh:ab},Ext h hh->RdP bz hh q p:=λe=>R.ext e
 refine aad.call (goX (abB (R.fst gx)) λh1 x1=>bt (brN (λe=>⟨by rw[aC.ok,e];rfl,x1⟩) λe1=>(A x1).oL λb l c S=>?_))
 have hl:=S.len
 have s1:=S.2.1
 have s2:=S.2.2.1
 refine goE x1 (kQ _ _ _ _) λh2 x2=>bt (brN (λe=>⟨by rw[aC.ok,hl,e];simp,x2⟩) λe2=>(A x2).oI (goE x2 (kQ _ _ _ _) λh3 x3=>bt (brN (λe=>⟨by rw[aC.ok,e];simp,x3⟩) λe3=>(A x3).oI (goE x3 (kQ _ _ _ _) λh4 x4=>bt (brN (λe=>⟨by rw[aC.ok,e];simp,x4⟩) λe4=>?_)))))
 unfold aad.J3
 refine(A x4).oI ((A x4).oI (goX (al6 ((A x4).fst gx) _) λh5 y5=>cN ((A x4).lN (by decide) y5 ?_)))
 have x5:=x4.trans y5
 refine br (λe=>⟨?_,x5⟩) λe5=>?_
 ·rw[aC.ok,show(p.Next==(hap p.Score.bo p.mO:Int))=false from by rw[bne_iff_ne] at e;rw[beq_eq_false_iff_ne];exact e];simp
 have e5:(p.Next==(hap p.Score.bo p.mO:Int))=true:=by rw[bne_eq_false_iff_eq] at e5;rw[beq_iff_eq];exact e5
 have k:p.ok=(List.range p.al.length).all (Zv p):=by rw[aC.ok,e1,hl,e2,e3,e4,e5];rfl
 refine loop (λx hh=>∃i:Nat,x=(q,(i:Int))∧i≤l∧Ext h hh∧∀j,j<i->Zv p j=true) (λx=>((l:Int)-x.2).toNat) ⟨0,rfl,by omega,x5,λj hj=>by omega⟩ ?_
 rintro x hh ⟨i,rfl,hi,X,hd⟩
 have no:∀{h':ab},i<l->Zv p i=false->Ext h h'->(Value.bool false = .bool p.ok∧Ext h h'):=λe hf x=>⟨by rw[k,all_false (f:=Zv p) (by omega) hf],x⟩
 refine(A X).oL λb1 l1 c1 S1=>?_
 have hl1:=S1.len
 refine brd (λhc=>(A X).oL λb2 l2 c2 S2=>?_) λhc=>⟨by rw[k,all_true λj hj=>hd j (by omega)],X⟩
 have hl2:=S2.len
 have next:∀{h':ab},Ext h h'->Zv p i=true->((∃i':Nat,(q,IntKind.i64.wrap ((i:Int)+1))=(q,(i':Int))∧i'≤l∧Ext h h'∧∀j,j<i'->Zv p j=true)∧((l:Int)-IntKind.i64.wrap ((i:Int)+1)).toNat<((l:Int)-i).toNat):=λx hn=>
  ⟨⟨i+1,by rw[ag (by omega)],by omega,x,λj hj=>by
   by_cases e:j=i
   ·subst e;exact hn
   ·exact hd j (by omega)⟩,by rw[ag (by omega)];omega⟩
 refine S2.idn (by decide) (by omega) λa Ra=>?_
 have B:∀{hx:ab},Ext hh hx->RdP aQ hx _ p.al[i]!:=λe=>Ra.ext e
 refine goX (amU ((A X).fst gx) Ra e1) λh6 y6=>bt (brN (λe=>no (by omega) (by rw[Zv,e,Bool.false_and]) (X.trans y6)) λev=>(B y6).oI1 (brd (λhn=>?_) λhn=>?_))
 ·refine(B y6).oI ((A (X.trans y6)).oI (brd (λhb=>no (by omega) ?_ (X.trans y6)) λhb=>?_))
  ·rw[Zv,decide_eq_false (p:=p.al[i]!.aT<0) (by omega),decide_eq_false (p:=p.al[i]!.mh<p.mO) (by omega)];simp
  have hv:Zv p i=(List.range i).all λk=>!(p.al[k]!.aT==p.al[i]!.aT):=by
   rw[Zv,ev,decide_eq_false (p:=p.al[i]!.aT<0) (by omega),decide_eq_true (p:=p.al[i]!.mh<p.mO) (by omega)];simp
  unfold aad.J11
  refine loop (λx hx=>∃n:Nat,x=(q,(i:Int),_,(n:Int))∧n≤i∧Ext hh hx∧∀j,j<n->(p.al[j]!.aT==p.al[i]!.aT)=false) (λx=>((i:Int)-x.2.2.2).toNat) ⟨0,rfl,by omega,y6,λj hj=>by omega⟩ ?_
  rintro x h7 ⟨n,rfl,hn2,Y,By⟩
  refine brd (λhc2=>(B Y).oI1 (brd (λhn3=>?_) λhn3=>by omega)) λhc2=>next (X.trans Y) (by rw[hv,all_true λj hj=>by rw[By j (by omega)];rfl])
  unfold aad.J14
  refine(A (X.trans Y)).oL λb3 l3 c3 S3=>?_
  have hl3:=S3.len
  refine S3.idn (by decide) (by omega) λa3 Ra3=>Ra3.oI1 ((B Y).oI1 (br (λe=>no (by omega) ?_ (X.trans Y)) λe=>⟨⟨n+1,by rw[ag (by omega)],by omega,Y,λj hj=>?_⟩,by rw[ag (by omega)];show _<_;simp;omega⟩))
  ·rw[hv,all_false (f:=λk=>!(p.al[k]!.aT==p.al[i]!.aT)) (i:=n) (by omega) (by rw[show(p.al[n]!.aT==p.al[i]!.aT)=true from e];rfl)]
  ·by_cases ej:j=n
   ·subst ej;exact e
   ·exact By j (by omega)
 ·have Xq:Zv p i=true:=by rw[Zv,ev,decide_eq_true (p:=p.al[i]!.aT<0) (by omega)];rfl
  unfold aad.J11
  refine loop (λx hx=>x=(q,(i:Int),_,0)∧Ext hh hx) (λx=>0) ⟨rfl,y6⟩ ?_
  rintro x h7 ⟨rfl,Y⟩
  exact brd (λhc2=>(B Y).oI1 (brd (λhn3=>by omega) λhn3=>next (X.trans Y) Xq)) λhc2=>next (X.trans Y) Xq
theorem aku{h0:ab}{g1:Nat}{p:aC}(R:RdP bz h ⟨g1,0,none⟩ p)(X0:Ext h0 h)(k:p.ok=(List.range p.al.length).all (Zv p))(hs:p.Score.ok=true):
  aal.J3 (λu h'=>u = .bool p.ok∧Ext h0 h') ⟨g1,0,none⟩ h:=by
 have hm:=cu
 have hq:oL (cell h ((⟨g1,0,none⟩:Addr).add 6)) (λb l c=>SlR aQ h b l c p.al):=R.oL λb l c S=>S
 obtain⟨b,l,c,hc0,S⟩:=LL hq
 have hl:=S.len
 have s1:=S.2.1
 have s2:=S.2.2.1
 unfold aal.J3
 refine NV λgs h1 x1 hg M=>?_
 rw[xT hc0 x1]
 show bk _ _ _
 refine loop (λx hh=>∃(i:Nat) (mm:List (Int×Value)),x=(⟨g1,0,none⟩,.map (some gs),b,l,c,(l:Int),(i:Int))∧i≤l∧Ext h hh∧xL hh gs mm∧(∀n,(jE mm n).isSome=true↔∃k,k<i∧p.al[k]!.aT=n∧n≠-1)∧(∀n,jE mm n=none∨jE mm n=some (.bool true))∧∀j,j<i->Zv p j=true) (λx=>((l:Int)-x.2.2.2.2.2.2).toNat)
  ⟨0,[],rfl,by omega,x1,M,λn=>⟨λe=>(by cases e),λ⟨k,hk,_⟩=>absurd hk (Nat.not_lt_zero k)⟩,λn=>.inl rfl,λj hj=>by omega⟩ ?_
 rintro x hh ⟨i,mm,rfl,hi,X,M,ajm,hval,hd⟩
 refine brd (λhc=>?_) λhc=>⟨by rw[k,all_true λj hj=>hd j (by omega)],X0.trans X⟩
 have no:∀{h':ab},Zv p i=false->Ext h0 h'->(Value.bool false = .bool p.ok∧Ext h0 h'):=λhf x=>⟨by rw[k,all_false (f:=Zv p) (by omega) hf],x⟩
 have step:∀{h':ab}{m':List (Int×Value)},Ext h h'->xL h' gs m'->(∀n,(jE m' n).isSome=true↔∃k,k<i+1∧p.al[k]!.aT=n∧n≠-1)->(∀n,jE m' n=none∨jE m' n=some (.bool true))->Zv p i=true->((∃(i':Nat) (mm:List (Int×Value)),((⟨g1,0,none⟩:Addr),Value.map (some gs),b,l,c,(l:Int),IntKind.i64.wrap ((i:Int)+1))=(⟨g1,0,none⟩,.map (some gs),b,l,c,(l:Int),(i':Int))∧i'≤l∧Ext h h'∧xL h' gs mm∧(∀n,(jE mm n).isSome=true↔∃k,k<i'∧p.al[k]!.aT=n∧n≠-1)∧(∀n,jE mm n=none∨jE mm n=some (.bool true))∧∀j,j<i'->Zv p j=true)∧((l:Int)-IntKind.i64.wrap ((i:Int)+1)).toNat<((l:Int)-i).toNat):=λ{h' m'} y my he hv hn=>
  ⟨⟨i+1,m',by rw[ag (by omega)],by omega,y,my,he,hv,λj hj=>by
   by_cases e:j=i
   ·subst e;exact hn
   ·exact hd j (by omega)⟩,by rw[ag (by omega)];omega⟩
 refine(S.ext X).idn (by decide) (by omega) λa Ra=>Ra.jc rfl λcs Rc=>QU Rc rfl rfl λg2 h2 x2 V=>?_
 have A:∀{hx:ab},Ext h2 hx->RdP bz hx ⟨g1,0,none⟩ p:=λe=>R.ext (X.trans (x2.trans e))
 have B:∀{hx:ab},Ext h2 hx->RdP aQ hx ⟨g2,0,none⟩ p.al[i]!:=λe=>V.ext e
 have X2:∀{hx:ab},Ext h2 hx->Ext h0 hx:=λe=>X0.trans (X.trans (x2.trans e))
 refine((A (Ext.refl h2)).fst gx).jc rfl λc3 R3=>V.jc rfl λc4 V4=>goX (ap8 R3 V4 hs) λh3 x3=>bt (brN (λe=>no (by rw[Zv,e,Bool.false_and]) (X2 x3)) λev=>?_)
 have M3:=M.ext (x2.trans x3)
 refine(B x3).jc rfl λc5 V5=>goE x3 (Ns V5) λh4 x4=>bt (br (λkf=>?_) λkf=>?_)
 ·have hn:p.al[i]!.aT = -1:=by simpa using kf
  refine step (X.trans (x2.trans x4)) (M.ext (x2.trans x4)) (λn=>?_) hval (by rw[Zv,ev,hn];rfl)
  rw[ajm n]
  constructor
  ·rintro⟨k,hk,e⟩;exact⟨k,by omega,e⟩
  ·rintro⟨k,hk,e1,e2⟩
   by_cases ek:k=i
   ·subst ek;omega
   ·exact⟨k,by omega,e1,e2⟩
 ·have hn:p.al[i]!.aT≠-1:=by simpa using kf
  have VG:0≤p.al[i]!.aT:=(ajp hs ev).resolve_left hn
  have hB:(jE mm p.al[i]!.aT).getD (.bool false) = .bool (jE mm p.al[i]!.aT).isSome:=by
   rcases hval p.al[i]!.aT with e | e <;> rw[e] <;> rfl
  refine(B x4).oI2 (UO (M.ext (x2.trans x4)) Wf m8 Vz _ ?_)
  rw[hB]
  refine bt (br (λks=>no ?_ (X2 x4)) λks=>(B x4).oI2 ((A x4).oI (brd (λkb=>no ?_ (X2 x4)) λkb=>(B x4).oI2 (T9 (M.ext (x2.trans x4)) (X.trans (x2.trans x4)) (by omega) Wf m8 _ _ λq h5 x5 M5 _=>step x5 M5 (λn=>?_) (λn=>?_) ?_))))
  ·obtain⟨k,hk,e1,e2⟩:=(ajm _).1 ks
   rw[Zv,decide_eq_false (p:=p.al[i]!.aT<0) (by omega),all_false (f:=λk=>!(p.al[k]!.aT==p.al[i]!.aT)) hk (by rw[e1];simp)];simp
  ·rw[Zv,decide_eq_false (p:=p.al[i]!.aT<0) (by omega),decide_eq_false (p:=p.al[i]!.mh<p.mO) (by omega)];simp
  ·rw[QX]
   split
   ·next e=>exact⟨λ_=>⟨i,by omega,e.symm,by rw[e];exact hn⟩,λ_=>rfl⟩
   ·next e=>
    rw[ajm n]
    constructor
    ·rintro⟨k,hk,e⟩;exact⟨k,by omega,e⟩
    ·rintro⟨k,hk,e1,e2⟩
     by_cases ek:k=i
     ·subst ek;exact absurd e1.symm e
     ·exact⟨k,by omega,e1,e2⟩
  ·rw[QX]
   split
   ·exact .inr rfl
   ·exact hval n
  ·rw[Zv,ev,decide_eq_false (p:=p.al[i]!.aT<0) (by omega),decide_eq_true (p:=p.al[i]!.mh<p.mO) (by omega),all_true λk hk=>?_]
   ·rfl
   ·rw[Bool.not_eq_true',beq_eq_false_iff_ne]
    intro e
    have:=(ajm _).2 ⟨k,hk,e,hn⟩
    rw[ks] at this;cases this
theorem Qo(n:Int):Ret ak 68 #[.int .i64 n] (.bool (inR n 1 6)):=λh=>ud.call ((js _ _ _).go λh1 x1=>bt ⟨rfl,x1⟩)
theorem akw(b:Option Addr)(l c:Nat):Ret ak 94 #[.slice b l c] (.int .i64 l):=λh=>acZ.call ⟨rfl,Ext.refl _⟩
theorem akQ{cs:Array Value}{p:aC}(R0:bz.rd h cs.toList p):af ak 61 #[.agg cs] (λu h'=>u = .bool p.ok∧Ext h h') h:=by
 refine aal.call (gD R0 λg h0 x0 R=>?_)
 have A:∀{hh:ab},Ext h0 hh->RdP bz hh ⟨g,0,none⟩ p:=λe=>R.ext e
 refine R.jH gx rfl λc1 R1=>goX (Ku R1) λh1 x1=>bt (brN (λe=>⟨by rw[aC.ok,e];rfl,x0.trans x1⟩) λe1=>(A x1).oL2 λb l c S=>?_)
 have hl:=S.len
 refine goE x1 (akw _ _ _ _) λh2 x2=>cN (goE x2 (Qo _ _) λh3 x3=>bt (brN (λe=>⟨by rw[aC.ok,hl,e];simp,x0.trans x3⟩) λe2=>(A x3).oI2 (goE x3 (js _ _ _ _) λh4 x4=>bt (brN (λe=>⟨by rw[aC.ok,e];simp,x0.trans x4⟩) λe3=>?_))))
 refine(A x4).oI2 ((A x4).jH gx rfl λc2 R2=>(A x4).oI2 (goX (amP R2 e1 _) λh5 y5=>cN ((A x4).IT (by decide) y5 ?_)))
 have x5:=x4.trans y5
 refine br (λe=>⟨?_,x0.trans x5⟩) λe5=>?_
 ·rw[aC.ok,show(p.Next==(hap p.Score.bo p.mO:Int))=false from by rw[bne_iff_ne] at e;rw[beq_eq_false_iff_ne];exact e];simp
 have e5:(p.Next==(hap p.Score.bo p.mO:Int))=true:=by rw[bne_eq_false_iff_eq] at e5;rw[beq_iff_eq];exact e5
 refine(A x5).oI2 (goE x5 (js _ _ _ _) λh6 x6=>bt (brN (λe=>⟨by rw[aC.ok,e];simp,x0.trans x6⟩) λe6=>?_))
 refine aku (A x6) (x0.trans x6) ?_ e1
 rw[aC.ok,e1,hl,e2,e3,e5,e6];rfl
end
end Go.Sx
namespace Go.Sx
open Go.Proofs Ieee
set_option maxRecDepth 100000
set_option maxHeartbeats 1000000
theorem YP{a m:Nat}{e:Int}(h:FloatKind.f32.format.read a = .number false m e)(ha:a<2 ^ 32):Pos a:=by
 have e1:FloatKind.f32.format.signWeight=2 ^ 31:=rfl
 unfold Format.read at h
 dsimp only at h
 rw[e1] at h
 have key:(a / 2 ^ 31 % 2==1)=false:=by
  split at h
  ·simp only[Datum.number.injEq] at h;exact h.1
  ·split at h
   ·simp only[Datum.number.injEq] at h;exact h.1
   ·split at h <;> cases h
 have:¬a / 2 ^ 31 % 2=1:=by simpa using key
 unfold Pos
 omega
theorem Gl{a d k:Nat}{i:Int}(hd:FloatKind.f32.format.read d = .number false k i)(h:inside a 1065353216 d=true)(ha:a<2 ^ 32):Pos a:=by
 have c:FloatKind.f32.format.read 1065353216 = .number false (2 ^ 23) (-23):=by decide +kernel
 obtain⟨B,hB⟩:∃B:Nat,1100≤B:=⟨1100,Nat.le_refl _⟩
 obtain⟨s,m,e,hr,hs,h1,_⟩:=pP hB c hd h
 have:s=false:=by
  cases s
  ·rfl
  ·exfalso
   rw[hs rfl] at h1
   unfold sv at h1
   rw[Nat.zero_mul] at h1
   have:=Nat.mul_pos (show 0<2 ^ 23 by decide) (Nat.two_pow_pos ((-23:Int)+(B:Int)).toNat)
   omega
 subst this
 exact YP hr ha
theorem abX{w:Nat}{j:Int}(h:Up .f64 w j):Pos (nar w):=by
 obtain⟨m,p,hr,_⟩:=h
 unfold nar
 refine YO ?_
 split
 ·show qn .f32<2 ^ 31;decide
 ·unfold FloatKind.decode
  rw[hr,og]
  exact Of m p
theorem two_pos{x:Nat}(h:kC x=true):Pos (HE x):=by
 obtain⟨_,k1,k2,_,_,hM,_⟩:=zJ h
 have hp:Up .f64 (ur (Bv x)) (Bv x):=⟨_,_,rL (by omega) (by omega),.inr ⟨by omega,Nat.pow_le_pow_right (by decide) (by omega)⟩⟩
 exact abX (CU hM.up hp (by omega) (by omega))
theorem GR{t:bC}{key:Int}{H2:Nat}(hb:t.xH<2 ^ 32)(hr:H2<2 ^ 32)(h:(t.period key H2).2=0):Pos (t.period key H2).1:=by
 have c2:FloatKind.f32.format.read 1184645120 = .number false 10240000 (-9):=by decide +kernel
 unfold bC.period at h ⊢
 by_cases e:(t.asked key).2=0
 ·rw[if_pos e] at h ⊢
  by_cases e2:inside H2 1065353216 1232348160=true
  ·rw[if_pos e2]
   refine LU (Gl Cz e2 hr) ?_
   unfold bC.asked at e ⊢
   split at e
   ·next h1=>
    split at e
    ·next h2=>
     split at e
     ·next h3=>
      rw[if_pos h1,if_pos h2,if_pos h3]
      refine ac5 (Gl c2 ?_ hb) (two_pos h3)
      unfold bC.ok at h1
      simp only[Bool.and_eq_true] at h1
      exact h1.1.1.1.1
     ·exact absurd e (by decide)
    ·exact absurd e (by decide)
   ·exact absurd e (by decide)
  ·rw[if_neg e2] at h;exact absurd h (by decide)
 ·rw[if_neg e] at h;exact absurd h e
def by2(c:Nat):Nat:=if feq .f32 c 1065353216 then 1073741824 else 1082130432
theorem Wx(c:Nat):Pos (by2 c):=by unfold by2 Pos;split <;> decide
def nW(e:aZ):aK:={ CW with aT:=e.aT,aq:=e.aq,mh:=e.At }
def g0(s:bI)(e:aZ):Option aK:=
 let x:=s.az[e.aq.toNat]!
 let p:=s.dv.period e.Key s.sY
 if p.2=0 then
  if x.Kind=1 then
   if(ck p.1 x.A x.B).2=0 then
    if((ck p.1 x.A x.B).1.iH x.C e.gd).2=0 then some { nW e with String:=((ck p.1 x.A x.B).1.iH x.C e.gd).1 } else none
   else none
  else if x.Kind=2 then
   if(eR (ia (fdiv .f32 p.1 (by2 x.C))) (feq .f32 x.C 1065353216) x.A x.B).2=0 then some { nW e with aI:=(eR (ia (fdiv .f32 p.1 (by2 x.C))) (feq .f32 x.C 1065353216) x.A x.B).1,gR:=e.gd } else none
  else if(fp (ia p.1) x.A x.B x.C).2=0 then some { nW e with bY:=(fp (ia p.1) x.A x.B x.C).1,gR:=e.gd } else none
 else none
theorem V7{a:Nat}{op:Bool}{k l:Nat}(h:Pos a):eR (ox a) op k l=eR (ia a) op k l:=by
 rcases G4 h with e | ⟨e1,e2,_⟩
 ·rw[e]
 ·unfold eR mB
  rw[e1,e2,Bool.and_false];rfl
theorem Ww{a:Nat}{k l s:Nat}(h:Pos a):fp (ox a) k l s=fp (ia a) k l s:=by
 rcases G4 h with e | ⟨_,_,e1,e2⟩
 ·rw[e]
 ·unfold fp
  rw[e1,e2];rfl
def vcC(n i b:Int):List Value:=[.int .i64 n,.int .i64 i,.int .i64 b,.bool false,.float .f32 0,.slice none 0 0,.int .i64 (0:Int),.int .i64 (0:Int),.float .f32 0,.float .f32 0,.float .f32 0,.float .f32 0,.float .f32 0,.int .i64 (0:Int),.float .f32 0,.float .f32 0,.float .f32 0,.float .f32 0,.float .f32 0,.float .f32 0,.slice none 0 0,.slice none 0 0,.slice none 0 0,.int .i64 (0:Int),.float .f32 0,.float .f32 0,.float .f32 0,.float .f32 0,.float .f32 0,.bool false,.float .f32 0,.float .f32 0,.float .f32 0,.slice none 0 0,.int .i64 (0:Int),.slice none 0 0,.int .i64 (0:Int),.int .i64 (0:Int),.float .f32 0,.float .f32 0,.float .f32 0,.float .f32 0,.float .f32 0,.float .f32 0,.float .f32 0]
theorem BO(e:aZ):aQ.ow [] (vcC e.aT e.aq e.At) (nW e):=by
 obtain⟨B1,B2,v1,v2,hB,hv,⟨rfl,rfl⟩,B3,B4,v3,v4,rfl,rfl,⟨rfl,rfl⟩,B5,B6,v5,v6,rfl,rfl,⟨rfl,rfl⟩,h6⟩:=vm
 obtain rfl:B6=[]:=by simpa using hB.symm
 exact⟨[],[],[.int .i64 e.aT],[.int .i64 e.aq]++([.int .i64 e.At]++v6),rfl,by have:=congrArg (List.drop 3) hv;rw[show v6=_ from this.symm];rfl,⟨rfl,rfl⟩,
  [],[],[.int .i64 e.aq],[.int .i64 e.At]++v6,rfl,rfl,⟨rfl,rfl⟩,[],[],[.int .i64 e.At],v6,rfl,rfl,⟨rfl,rfl⟩,h6⟩
end Go.Sx
namespace Go.Sx
open Go.Proofs
set_option maxRecDepth 100000
set_option maxHeartbeats 1000000
structure cp.small (x:cp):Prop where
 r:∀r ∈ x.aW,r.ae.length≤1048576
 l:∀r ∈ x.Left,r.ae.length≤1048576
 nr:x.aW.length≤1048576
 nl:x.Left.length≤1048576
 ns:x.aL.length≤1048576
theorem aiJ{l:List aY}(h:l.all aY.okf=true):∀r ∈ l,r.ok=true∧r.ae.length≤1048576:=λr hr=>by
 have:=List.all_eq_true.1 h r hr
 unfold aY.okf at this
 rw[Bool.and_eq_true] at this
 have k:=kO this.1
 exact⟨this.1,by omega⟩
theorem akz{x:cp}(h:x.ok=true):1≤x.aW.length∧x.aW.length≤3∧x.Left.length=x.aW.length∧x.aL.length+1=x.aW.length∧x.aW.all aY.okf=true∧x.Left.all aY.okf=true:=by
 rw[acS] at h
 unfold inR cp.n at h
 simp only[Bool.and_eq_true,decide_eq_true_eq] at h
 obtain⟨⟨⟨⟨⟨⟨⟨⟨⟨⟨⟨h1,h2⟩,h3⟩,h4⟩,h5⟩,_⟩,_⟩,_⟩,_⟩,_⟩,_⟩,_⟩:=h
 exact⟨by omega,by omega,h2,h3,h4,h5⟩
theorem an0{x:cp}(h:x.ok=true):x.small:=by
 obtain⟨h1,h2,h3,h4,h5,h6⟩:=akz h
 exact⟨λr hr=>(aiJ h5 r hr).2,λr hr=>(aiJ h6 r hr).2,by omega,by omega,by omega⟩
section
variable {h:ab}{q:Addr}{x:cp}
theorem ap9(R:RdP dX h q x)(hs:x.small):af ak 134 #[.pointer (some q)] (λu h'=>mN dX h h' u x) h:=by
 refine ahu.call ((Mem.start h).alc λg1 h2 x2 M0=>?_)
 have R2:=R.ext x2
 refine R2.oL1 λb1 l1 c1 S1=>R2.oL λb2 l2 c2 S2=>R2.oL λb3 l3 c3 S3=>R2.lda gK rfl λcE RE=>R2.oB (R2.oF λy1 k1=>R2.oF λy2 k2=>R2.oF λy3 k3=>?_)
 have n1:=S1.len
 have n2:=S2.len
 have n3:=S3.len
 have m1:=hs.nr
 have m2:=hs.nl
 have m3:=hs.ns
 have m1':l1≤1048576:=by omega
 have m2':l2≤1048576:=by omega
 have m3':l3*4≤140737488355328:=by omega
 have hr:=hs.r
 have hl:=hs.l
 have sE:cE.size=6:=rsz RE rfl
 have fE:cx.ow [] cE.toList x.End:=G3 (lh (AM _) (lh (Nd 3 (u0 _)) (Nd 2 (u0 _)))) _ _ _ RE
 have key:∀{hh:ab}{B1 B2 B3:List Blk}{d1 d2 d3:Option Addr}{e1 e2 e3:Nat},SlO 109 bQ B1 d1 l1 e1 x.aW->SlO 109 bQ B2 d2 l2 e2 x.Left->SlO 22 (rF .f32) B3 d3 l3 e3 x.aL->Mem h2 hh (B1++(B2++B3)) ->
   STA 13 hh ⟨g1,0,none⟩ ⟨(List.set (List.set (List.set (List.set (eE 3 6 cE [.slice d1 l1 e1,.slice d2 l2 e2,.slice d3 l3 e3,.int .i64 (0:Int),.float .f32 0,.float .f32 0,.float .f32 0,.float .f32 0,.float .f32 0,.bool false,.float .f32 0,.float .f32 0,.float .f32 0]) 9 (.bool x.Open)) 10 (.float .f32 y1)) 11 (.float .f32 y2)) 12 (.float .f32 y3))⟩ λuD=>
    LDA 13 uD ⟨g1,0,none⟩ λa23=>mN dX h uD (.agg a23) x:=by
  intro hh B1 B2 B3 d1 d2 d3 e1 e2 e3 O1 O2 O3 N
  have O0:dX.ow (B1++(B2++(B3++[]))) [.slice d1 l1 e1,.slice d2 l2 e2,.slice d3 l3 e3,.int .i64 (0:Int),.float .f32 0,.float .f32 0,.float .f32 0,.float .f32 0,.float .f32 0,.bool false,.float .f32 0,.float .f32 0,.float .f32 0] { wI with aW:=x.aW,Left:=x.Left,aL:=x.aL }:=by
   obtain⟨_,_,_,_,e1,e2,_,_,_,_,_,e3,e4,_,_,_,_,_,e5,e6,_,RR⟩:=Pr
   exact⟨_,_,[_],_,rfl,rfl,⟨_,_,_,rfl,O1⟩,_,_,[_],_,rfl,rfl,⟨_,_,_,rfl,O2⟩,_,[],[_],_,rfl,rfl,⟨_,_,_,rfl,O3⟩,[],[],[_,_,_,_,_,_],[_,_,_,_],rfl,rfl,pj,[],[],[_],[_,_,_],rfl,rfl,⟨rfl,rfl⟩,[],[],[_],[_,_],rfl,rfl,⟨rfl,0,rfl,fw0⟩,[],[],[_],[_],rfl,rfl,⟨rfl,0,rfl,fw0⟩,⟨rfl,0,rfl,fw0⟩⟩
  obtain⟨C1,P1,c1⟩:=aln O0 gK rfl fE
  obtain⟨C2,P2,c2⟩:=alA P1 Iv rfl ⟨rfl,rfl⟩
  obtain⟨C3,P3,c3⟩:=alA P2 Iu rfl ⟨rfl,y1,rfl,k1⟩
  obtain⟨C4,P4,c4⟩:=alA P3 Iw rfl ⟨rfl,y2,rfl,k2⟩
  obtain⟨C5,P5,c5⟩:=alA P4 G8 rfl ⟨rfl,y3,rfl,k3⟩
  have M:=(M0.join N).cnt (W:=(g1,118,⟨aJ⟩) :: C5) (λp=>by have:=c1 p;have:=c2 p;have:=c3 p;have:=c4 p;have:=c5 p;simp only[bN,bu,bZ] at *;omega)
  refine M.dH .here (osz (cs:=⟨_⟩) P5 rfl) (dX.jy P5) rfl .here λh3 M=>M.df .here (osz (cs:=⟨_⟩) P5 rfl) ?_
  exact⟨_,C5,rfl,P5,M.drop⟩
 have nil:=Mem.start h2
 have pz:∀{hh:ab}{p:Prop},Ext h2 hh->p->PIN h2 q 1 hh p:=λX H=>(kW q) ▸ R2.lN (off:=0) (n:=1) (by decide) X H
 (repeat' (first
  | refine RdP.lN R2 (by decide) (Mem.ext (by assumption)) ?_
  | refine pz (Mem.ext (by assumption)) ?_
  | refine siz (by assumption) ?_
  | refine lR ?_
  | refine goS (by assumption) (akh (SlR.ext (Mem.ext (by assumption)) S1) hr m1') λ_ _ _ _ _ _=>?_
  | refine goS (by assumption) (akh (SlR.ext (Mem.ext (by assumption)) S2) hl m2') λ_ _ _ _ _ _=>?_
  | refine Mem.alc (by assumption) λ_ _ _ _=>?_
  | refine alv lD (by decide) (u0 _) S3 (by assumption) (by repeat (first | exact Ew.here | apply Ew.there | apply Ew.skip)) m3' λ_ _ _ _ _ _=>?_
  | exact key (by assumption) (by assumption) (by assumption) (Mem.cnt (by assumption) (λp=>by simp only[bN,bu,bZ] at *;omega))
  | refine And.intro ?_ ?_))
theorem alr{cs:Array Value}(R0:dX.rd h cs.toList x)(hs:x.small):af ak 149 #[.agg cs] (λu h'=>mN dX h h' u x) h:=by
 obtain⟨_,v1,e1,⟨b1,l1,c1,rfl,S1⟩,_,v2,rfl,⟨b2,l2,c2,rfl,S2⟩,_,v3,rfl,⟨b3,l3,c3,rfl,S3⟩,RR⟩:=R0
 dsimp only at S1 S2 S3 RR
 have eC:cs=⟨[.slice b1 l1 c1]++([.slice b2 l2 c2]++([.slice b3 l3 c3]++v3))⟩:=by cases cs;simpa using e1
 have n1:=S1.len
 have n2:=S2.len
 have n3:=S3.len
 have m1:=hs.nr
 have m2:=hs.nl
 have m3:=hs.ns
 have oR:=(lh (G3 (lh (AM .i64) (lh (Nd 3 (u0 .f32)) (Nd 2 (u0 .f32))))) (lh auZ (lh (u0 .f32) (lh (u0 .f32) (u0 .f32))))) h v3 (x.End,x.Open,x.fT,x.Rest,x.fX) RR
 have h3:v3.length=10:=(Rep.seq cx (Rep.seq rB (Rep.seq (rF .f32) (Rep.seq (rF .f32) (rF .f32))))).jX oR
 subst eC
 refine aey.call ((Mem.start h).alc λg1 h1 x1 M=>M.alc λg3 h2 x2 M=>?_)
 have M1:Mem h h2 ((g1,118,⟨[]++([.slice b1 l1 c1]++([.slice b2 l2 c2]++([.slice b3 l3 c3]++v3)))⟩) :: [(g3,118,⟨aJ⟩)]):=M.perm (.swap _ _ _)
 have X2:=M1.ext
 refine o_l (M1.alf (pre:=[]) rfl) (o_l (M1.alf (pre:=[.slice b1 l1 c1]) rfl) (o_l (M1.alf (pre:=[.slice b1 l1 c1,.slice b2 l2 c2]) rfl) ?_))
 refine goS (Mem.start h2) (ajw (S1.ext X2) hs.r (by omega)) λh3 d1 e1 B1 N O1=>lR ?_
 refine Ov N.ext (M1.alf (pre:=[.slice b1 l1 c1,.slice b2 l2 c2]) rfl) (Ov N.ext (M1.alf (pre:=[.slice b1 l1 c1]) rfl) ?_)
 refine goS N (ajw (S2.ext (X2.trans N.ext)) hs.l (by omega)) λh4 d2 e2 B2 N O2=>lR ?_
 refine Ov N.ext (M1.alf (pre:=[.slice b1 l1 c1,.slice b2 l2 c2]) rfl) ?_
 refine goS N (xI (S3.ext (X2.trans N.ext)) (by omega)) λh5 d3 e3 B3 N O3=>lR ?_
 have M:=M1.join N
 have M:=M.cnt (W:=(g1,118,⟨[]++([.slice b1 l1 c1]++([.slice b2 l2 c2]++([.slice b3 l3 c3]++v3)))⟩) :: ((B1++(B2++(B3++[])))++[(g3,118,⟨aJ⟩)]))
 refine M.avt (pre:=[]) rfl λh6 M=>M.avt (pre:=[.slice d1 l1 e1]) (u:=.slice b2 l2 c2) (post:=[.slice b3 l3 c3]++v3) rfl λh7 M=>M.avt (pre:=[.slice d1 l1 e1,.slice d2 l2 e2]) (u:=.slice b3 l3 c3) (post:=v3) rfl λh8 M=>?_
 have O:dX.ow (B1++(B2++(B3++[]))) ([.slice d1 l1 e1]++([.slice d2 l2 e2]++([.slice d3 l3 e3]++v3))) x:=
  ⟨_,_,_,_,rfl,rfl,⟨_,_,_,rfl,O1⟩,_,_,_,_,rfl,rfl,⟨_,_,_,rfl,O2⟩,_,_,_,_,rfl,rfl,⟨_,_,_,rfl,O3⟩,oR⟩
 have hsz:(⟨[.slice d1 l1 e1]++([.slice d2 l2 e2]++([.slice d3 l3 e3]++v3))⟩:Array Value).size=13:=osz (cs:=⟨_⟩) O rfl
 have M:Mem h h8 ((g1,118,⟨[.slice d1 l1 e1]++([.slice d2 l2 e2]++([.slice d3 l3 e3]++v3))⟩) :: ((B1++(B2++(B3++[])))++[(g3,118,⟨aJ⟩)])):=M
 refine M.df .here hsz ?_
 have M:=M.cnt (W:=(g3,118,⟨aJ⟩) :: (B1++(B2++(B3++[]))))
 refine M.dH .here hsz (dX.jy O) rfl .here λh9 M=>M.df .here hsz ?_
 exact⟨_,_,rfl,O,M.drop⟩
end
end Go.Sx
