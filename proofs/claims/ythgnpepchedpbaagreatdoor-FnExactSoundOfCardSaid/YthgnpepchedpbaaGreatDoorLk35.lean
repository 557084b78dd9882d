/- Lemmas. -/
import Derived.Test.YthgnpepchedpbaaGreatDoorLk33
import Derived.Test.YthgnpepchedpbaaGreatDoorTab
import Derived.Test.YthgnpepchedpbaaGreatDoorLk29
import Derived.Test.YthgnpepchedpbaaGreatDoorLk24
import Derived.Test.YthgnpepchedpbaaGreatDoorLk4
import Derived.Test.YthgnpepchedpbaaGreatDoorLk0b
set_option linter.unusedVariables false
set_option linter.unusedSimpArgs false
namespace Go.Sx
open FloatKind (f32 f64)
open IntKind (i64)
open Go.Proofs
set_option maxRecDepth 100000
set_option maxHeartbeats 2000000
def hap(es:List aZ)(now:Int):Nat:=es.countP λe=>decide (e.At<now)
theorem kU.sorted{es:List aZ}{ni:Int}(G:kU es ni){i j:Nat}(h1:i≤j)(h2:j<es.length):es[i]!.At≤es[j]!.At:=by
 rcases Nat.lt_or_ge i j with h | h
 ·have:=chain (λk=>keyOf es es[k]!) G.ord h h2
  unfold keyOf ET at this
  rw[uY] at this
  omega
 ·rw[show i=j by omega];exact Int.le_refl _
theorem alj{es:List aZ}{ni now:Int}(G:kU es ni):((jL (λe:aZ=>decide (now≤e.At)) es = -1->(hap es now:Int)=es.length)∧∀m:Nat,m<es.length->jL (λe:aZ=>decide (now≤e.At)) es=m->(hap es now:Int)=m):=by
 rcases yq (λe:aZ=>decide (now≤e.At)) es with⟨e,hall⟩ | ⟨m,hm,e,h0,hp⟩
 ·refine⟨λ_=>?_,λm _ h=>by rw[e] at h;omega⟩
  unfold hap
  rw[List.countP_eq_length.2]
  intro x hx
  obtain⟨i,hi,rfl⟩:=List.mem_iff_getElem.1 hx
  have:=hall i hi
  rw[getElem!_pos es i hi,decide_eq_false_iff_not] at this
  exact decide_eq_true (by omega)
 ·refine⟨λh=>by rw[e] at h;omega,λk _ h=>?_⟩
  rw[e] at h
  obtain rfl:m=k:=by omega
  unfold hap
  rw[← List.take_append_drop m es,List.countP_append]
  have e1:(es.take m).countP (λe=>decide (e.At<now))=m:=by
   have hl:(es.take m).length=m:=by rw[List.length_take];omega
   conv=>rhs;rw[← hl]
   rw[List.countP_eq_length]
   intro x hx
   obtain⟨i,hi,rfl⟩:=List.mem_iff_getElem.1 hx
   have:=h0 i (by omega)
   rw[getElem!_pos es i (by omega),decide_eq_false_iff_not] at this
   rw[List.getElem_take]
   exact decide_eq_true (by omega)
  have e2:(es.drop m).countP (λe=>decide (e.At<now))=0:=by
   rw[List.countP_eq_zero]
   intro x hx
   obtain⟨i,hi,rfl⟩:=List.mem_iff_getElem.1 hx
   rw[List.length_drop] at hi
   rw[List.getElem_drop]
   have:=G.sorted (i:=m) (j:=m+i) (by omega) (by omega)
   rw[getElem!_pos es (m+i) (by omega)] at this
   rw[decide_eq_true_iff] at hp
   rw[decide_eq_true_iff]
   omega
  rw[e1,e2];rfl
section
variable {h:ab}
theorem al6{q:Addr}{s:bI}(R:RdP bU h q s)(now:Int):af ak 131 #[.pointer (some q),.int .i64 now] (λu h'=>u = .int .i64 (hap s.bo now:Int)∧Ext h h') h:=by
 have hm:=cu
 refine abt.call ?_
 refine loop (λx hh=>∃i:Nat,x=(q,now,(hap (s.bo.take i) now:Int),(i:Int))∧i≤s.bo.length∧hh=h) (λx=>((s.bo.length:Int)-x.2.2.2).toNat) ⟨0,rfl,by omega,rfl⟩ ?_
 rintro x hh ⟨i,rfl,hi,rfl⟩
 refine R.oL λb l c S=>?_
 have hl:=S.len
 have s1:=S.2.1
 have s2:=S.2.2.1
 refine brd (λhc=>R.oL λb1 l1 c1 S1=>?_) λhc=>⟨by rw[List.take_of_length_le (by omega)],Ext.refl _⟩
 have e1:=S1.len
 have hle:hap (s.bo.take i) now≤i:=by
  unfold hap
  have:=List.countP_le_length (p:=λe:aZ=>decide (e.At<now)) (l:=s.bo.take i)
  rw[List.length_take] at this
  omega
 have aoF:hap (s.bo.take (i+1)) now=hap (s.bo.take i) now+if s.bo[i]!.At<now then 1 else 0:=by
  unfold hap
  rw[List.take_succ_eq_append_getElem (by omega),List.countP_append,List.countP_singleton,getElem!_pos _ i (by omega)]
  simp
 refine S1.idn tk (by omega) λa Ra=>Ra.oI1 (brd (λk=>?_) λk=>?_)
 ·rw[if_pos k] at aoF
  exact⟨⟨i+1,by rw[ag (by omega),ag (by omega),aoF],by omega,rfl⟩,by show((s.bo.length:Int)-i64.wrap ((i:Int)+1)).toNat<((s.bo.length:Int)-i).toNat;rw[ag (by omega)];omega⟩
 ·rw[if_neg k] at aoF
  exact⟨⟨i+1,by rw[ag (by omega),aoF];rfl,by omega,rfl⟩,by rw[ag (by omega)];show _<_;simp;omega⟩
theorem Ns{cs:Array Value}{v:aK}(R0:aQ.rd h cs.toList v):af ak 97 #[.agg cs] (λu h'=>u = .bool (v.aT == -1)∧Ext h h') h:=
 nq.call (gD R0 λg h1 x1 R=>R.oI2 ⟨rfl,x1⟩)
end
noncomputable def Zv(p:aC)(i:Nat):Bool:=acy p.Score p.al[i]! && (decide (p.al[i]!.aT<0)||(decide (p.al[i]!.mh<p.mO)&&(List.range i).all λk=>!(p.al[k]!.aT==p.al[i]!.aT)))
noncomputable def aC.ok(p:aC):Bool:=p.Score.ok&&inR p.al.length 1 6&&inR p.mO 0 200000&&inR p.ft 0 64&&(p.Next==(hap p.Score.bo p.mO:Int))&&(List.range p.al.length).all (Zv p)
theorem ajp{s:bI}{v:aK}(h:s.ok=true)(hv:acy s v=true):v.aT = -1∨0≤v.aT:=by
 by_cases hn:v.aT = -1
 ·exact .inl hn
 ·right
  rw[acy,if_neg hn] at hv
  cases he:tS s.bo v.aT with
  | none=>rw[he] at hv;cases hv
  | some e=>
   have G:=sP h
   have hm:=List.mem_of_find?_eq_some he
   have hp:=List.find?_some he
   obtain⟨i,hi,rfl⟩:=List.mem_iff_getElem.1 hm
   have:=(G.note i hi).1
   rw[getElem!_pos _ i hi] at this
   rw[Bool.and_eq_true,beq_iff_eq] at hp
   omega
section
variable {h:ab}
theorem atY{q:Addr}{p:aC}(R:RdP bz h q p):af ak 91 #[.pointer (some q)] (λu h'=>u = .bool p.ok∧Ext h h') h:=by
 have hm:=cu
 have A:∀{hh:ab},Ext h hh->RdP bz hh q p:=λe=>R.ext e
 refine aad.call (goX (abB (R.fst gx)) λh1 x1=>bt (brN (λe=>⟨by rw[aC.ok,e];rfl,x1⟩) λe1=>(A x1).oL λb l c S=>?_))
 have hl:=S.len
 have s1:=S.2.1
 have s2:=S.2.2.1
 refine goE x1 (kQ _ _ _ _) λh2 x2=>bt (brN (λe=>⟨by rw[aC.ok,hl,e];simp,x2⟩) λe2=>(A x2).oI (goE x2 (kQ _ _ _ _) λh3 x3=>bt (brN (λe=>⟨by rw[aC.ok,e];simp,x3⟩) λe3=>(A x3).oI (goE x3 (kQ _ _ _ _) λh4 x4=>bt (brN (λe=>⟨by rw[aC.ok,e];simp,x4⟩) λe4=>?_)))))
 unfold aad.J3
 refine(A x4).oI ((A x4).oI (goX (al6 ((A x4).fst gx) _) λh5 y5=>cN ((A x4).lN (by decide) y5 ?_)))
 have x5:=x4.trans y5
 refine br (λe=>⟨?_,x5⟩) λe5=>?_
 ·rw[aC.ok,show(p.Next==(hap p.Score.bo p.mO:Int))=false from by rw[bne_iff_ne] at e;rw[beq_eq_false_iff_ne];exact e];simp
 have e5:(p.Next==(hap p.Score.bo p.mO:Int))=true:=by rw[bne_eq_false_iff_eq] at e5;rw[beq_iff_eq];exact e5
 have k:p.ok=(List.range p.al.length).all (Zv p):=by rw[aC.ok,e1,hl,e2,e3,e4,e5];rfl
 refine loop (λx hh=>∃i:Nat,x=(q,(i:Int))∧i≤l∧Ext h hh∧∀j,j<i->Zv p j=true) (λx=>((l:Int)-x.2).toNat) ⟨0,rfl,by omega,x5,λj hj=>by omega⟩ ?_
 rintro x hh ⟨i,rfl,hi,X,hd⟩
 have no:∀{h':ab},i<l->Zv p i=false->Ext h h'->(Value.bool false = .bool p.ok∧Ext h h'):=λe hf x=>⟨by rw[k,all_false (f:=Zv p) (by omega) hf],x⟩
 refine(A X).oL λb1 l1 c1 S1=>?_
 have hl1:=S1.len
 refine brd (λhc=>(A X).oL λb2 l2 c2 S2=>?_) λhc=>⟨by rw[k,all_true λj hj=>hd j (by omega)],X⟩
 have hl2:=S2.len
 have next:∀{h':ab},Ext h h'->Zv p i=true->((∃i':Nat,(q,i64.wrap ((i:Int)+1))=(q,(i':Int))∧i'≤l∧Ext h h'∧∀j,j<i'->Zv p j=true)∧((l:Int)-i64.wrap ((i:Int)+1)).toNat<((l:Int)-i).toNat):=λx hn=>
  ⟨⟨i+1,by rw[ag (by omega)],by omega,x,λj hj=>by
   by_cases e:j=i
   ·subst e;exact hn
   ·exact hd j (by omega)⟩,by rw[ag (by omega)];omega⟩
 refine S2.idn (by decide) (by omega) λa Ra=>?_
 have B:∀{hx:ab},Ext hh hx->RdP aQ hx _ p.al[i]!:=λe=>Ra.ext e
 refine goX (amU ((A X).fst gx) Ra e1) λh6 y6=>bt (brN (λe=>no (by omega) (by rw[Zv,e,Bool.false_and]) (X.trans y6)) λev=>(B y6).oI1 (brd (λhn=>?_) λhn=>?_))
 ·refine(B y6).oI ((A (X.trans y6)).oI (brd (λhb=>no (by omega) ?_ (X.trans y6)) λhb=>?_))
  ·rw[Zv,decide_eq_false (p:=p.al[i]!.aT<0) (by omega),decide_eq_false (p:=p.al[i]!.mh<p.mO) (by omega)];simp
  have hv:Zv p i=(List.range i).all λk=>!(p.al[k]!.aT==p.al[i]!.aT):=by
   rw[Zv,ev,decide_eq_false (p:=p.al[i]!.aT<0) (by omega),decide_eq_true (p:=p.al[i]!.mh<p.mO) (by omega)];simp
  unfold aad.J11
  refine loop (λx hx=>∃n:Nat,x=(q,(i:Int),_,(n:Int))∧n≤i∧Ext hh hx∧∀j,j<n->(p.al[j]!.aT==p.al[i]!.aT)=false) (λx=>((i:Int)-x.2.2.2).toNat) ⟨0,rfl,by omega,y6,λj hj=>by omega⟩ ?_
  rintro x h7 ⟨n,rfl,hn2,Y,By⟩
  refine brd (λhc2=>(B Y).oI1 (brd (λhn3=>?_) λhn3=>by omega)) λhc2=>next (X.trans Y) (by rw[hv,all_true λj hj=>by rw[By j (by omega)];rfl])
  unfold aad.J14
  refine(A (X.trans Y)).oL λb3 l3 c3 S3=>?_
  have hl3:=S3.len
  refine S3.idn (by decide) (by omega) λa3 Ra3=>Ra3.oI1 ((B Y).oI1 (br (λe=>no (by omega) ?_ (X.trans Y)) λe=>⟨⟨n+1,by rw[ag (by omega)],by omega,Y,λj hj=>?_⟩,by rw[ag (by omega)];show _<_;simp;omega⟩))
  ·rw[hv,all_false (f:=λk=>!(p.al[k]!.aT==p.al[i]!.aT)) (i:=n) (by omega) (by rw[show(p.al[n]!.aT==p.al[i]!.aT)=true from e];rfl)]
  ·by_cases ej:j=n
   ·subst ej;exact e
   ·exact By j (by omega)
 ·have Xq:Zv p i=true:=by rw[Zv,ev,decide_eq_true (p:=p.al[i]!.aT<0) (by omega)];rfl
  unfold aad.J11
  refine loop (λx hx=>x=(q,(i:Int),_,0)∧Ext hh hx) (λx=>0) ⟨rfl,y6⟩ ?_
  rintro x h7 ⟨rfl,Y⟩
  exact brd (λhc2=>(B Y).oI1 (brd (λhn3=>by omega) λhn3=>next (X.trans Y) Xq)) λhc2=>next (X.trans Y) Xq
theorem Qo(n:Int):Ret ak 68 #[.int .i64 n] (.bool (inR n 1 6)):=λh=>ud.call ((js _ _ _).go λh1 x1=>bt ⟨rfl,x1⟩)
end
def wE.S(s_0:Addr)(aa:VH)(h:ab):=ALC ⟨dw⟩ 39 (λb c=> LDA 6 c s_0 λe=> ALC ⟨dw⟩ 39 (λa f=> STA 6 f ⟨a,0,none⟩ e λg=> ALC ⟨[]⟩ 22 (λi d=> oL (cell d (s_0.add 3)) λj k l=> gC ak (Builtin.append_ #[23,23] 23 #[.slice (some ⟨i,0,none⟩) 0 0,.slice j k l]) (λCx me=> asL Cx λXK XM XL=> ST1 me ⟨a,3,none⟩ (.slice XK XM XL) λhP=> ALC ⟨[]⟩ 135 (λm kB=> oL (cell kB (s_0.add 4)) λLw Lx ND=> gC ak (Builtin.append_ #[36,36] 36 #[.slice (some ⟨m,0,none⟩) 0 0,.slice Lw Lx ND]) (λDJ jF=> asL DJ λNF Ly Qz=> ST1 jF ⟨a,4,none⟩ (.slice NF Ly Qz) λjU=> ALC ⟨[]⟩ 131 (λn uD=> oL (cell uD (s_0.add 5)) λQB QC UD=> gC ak (Builtin.append_ #[37,37] 37 #[.slice (some ⟨n,0,none⟩) 0 0,.slice QB QC UD]) (λRA pw=> asL RA λafs aft ajR=> ST1 pw ⟨a,5,none⟩ (.slice afs aft ajR) λEc=> LDA 6 Ec ⟨a,0,none⟩ λo=> STA 6 Ec ⟨b,0,none⟩ o λre=> LDA 6 re ⟨b,0,none⟩ λp=> aa (.agg p) re) uD) jU) kB) hP) d) g) c) h
theorem wE.call{s_0 aa h}(H:wE.S s_0 aa h):af ak 65 #[.pointer (some s_0)] aa h:=qk Tryz.func65 H
def sQ.S(aa:VH)(h:ab):=ALC ⟨bg⟩ 122 (λa c=> STA 45 c ⟨a,0,none⟩ ⟨[.int .i64 (-1),.int .i64 0,.int .i64 0,.bool false,.float .f32 0,.slice none 0 0,.int .i64 0,.int .i64 0,.float .f32 0,.float .f32 0,.float .f32 0,.float .f32 0,.float .f32 0,.int .i64 0,.float .f32 0,.float .f32 0,.float .f32 0,.float .f32 0,.float .f32 0,.float .f32 0,.slice none 0 0,.slice none 0 0,.slice none 0 0,.int .i64 0,.float .f32 0,.float .f32 0,.float .f32 0,.float .f32 0,.float .f32 0,.bool false,.float .f32 0,.float .f32 0,.float .f32 0,.slice none 0 0,.int .i64 0,.slice none 0 0,.int .i64 0,.int .i64 0,.float .f32 0,.float .f32 0,.float .f32 0,.float .f32 0,.float .f32 0,.float .f32 0,.float .f32 0]⟩ λb=> LDA 45 b ⟨a,0,none⟩ λd=> aa (.agg d) b) h
theorem sQ.call{aa h}(H:sQ.S  aa h):af ak 66 #[] aa h:=qk Tryz.func66 H
def ew.S(ja:Option Addr)(iN jz:Nat)(aa:VH)(h:ab):=CMP ak .eql 36 (.tmp 3) (.const (.slice none 0 0)) (.slice ja iN jz) (.slice none 0 0) (λb a=> BIF b (aa (.slice none 0 0) a) (ALC ⟨[]⟩ 135 (λc d=> gC ak (Builtin.append_ #[36,36] 36 #[.slice (some ⟨c,0,none⟩) 0 0,.slice ja iN jz]) (λe f=> asL e λHS Gr IJ=> aa (.slice HS Gr IJ) f) d) a)) h
theorem ew.call{ja iN jz aa h}(H:ew.S ja iN jz aa h):af ak 112 #[.slice ja iN jz] aa h:=qk Tryz.func112 H
def fW.S(ja:Option Addr)(iN jz:Nat)(aa:VH)(h:ab):=CMP ak .eql 37 (.tmp 3) (.const (.slice none 0 0)) (.slice ja iN jz) (.slice none 0 0) (λb a=> BIF b (aa (.slice none 0 0) a) (ALC ⟨[]⟩ 131 (λc d=> gC ak (Builtin.append_ #[37,37] 37 #[.slice (some ⟨c,0,none⟩) 0 0,.slice ja iN jz]) (λe f=> asL e λHS Gr IJ=> aa (.slice HS Gr IJ) f) d) a)) h
theorem fW.call{ja iN jz aa h}(H:fW.S ja iN jz aa h):af ak 113 #[.slice ja iN jz] aa h:=qk Tryz.func113 H
def oD.S(s_0:Array Value)(aa:VH)(h:ab):=ALC s_0 39 (λa e=> ALC ⟨dw⟩ 39 (λd b=> oL (cell b ⟨a,3,none⟩) λII HR PA=> oL (cell b ⟨a,4,none⟩) λUH UI f=> oL (cell b ⟨a,5,none⟩) λHS Gr IJ=> af ak 111 #[.slice II HR PA] (λg c=> asL g λzU uf Du=> PIN b ⟨a,5,none⟩ 1 c <|PIN b ⟨a,4,none⟩ 1 c <|af ak 112 #[.slice UH UI f] (λzX jl=> asL zX λXN XO afp=> PIN b ⟨a,5,none⟩ 1 jl <|af ak 113 #[.slice HS Gr IJ] (λDI kB=> asL DI λLw Lx ND=> ST1 kB ⟨a,3,none⟩ (.slice zU uf Du) λqQ=> ST1 qQ ⟨a,4,none⟩ (.slice XN XO afp) λjF=> ST1 jF ⟨a,5,none⟩ (.slice Lw Lx ND) λta=> LDA 6 ta ⟨a,0,none⟩ λMF=> STA 6 ta ⟨d,0,none⟩ MF λvC=> LDA 6 vC ⟨d,0,none⟩ λi=> aa (.agg i) vC) jl) c) b) e) h
theorem oD.call{s_0 aa h}(H:oD.S s_0 aa h):af ak 69 #[.agg s_0] aa h:=qk Tryz.func69 H
def sD.S(aa:VH)(h:ab):=ALC ⟨bg⟩ 122 (λa c=> STA 45 c ⟨a,0,none⟩ ⟨[.int .i64 (-1),.int .i64 0,.int .i64 0,.bool false,.float .f32 0,.slice none 0 0,.int .i64 0,.int .i64 0,.float .f32 0,.float .f32 0,.float .f32 0,.float .f32 0,.float .f32 0,.int .i64 0,.float .f32 0,.float .f32 0,.float .f32 0,.float .f32 0,.float .f32 0,.float .f32 0,.slice none 0 0,.slice none 0 0,.slice none 0 0,.int .i64 0,.float .f32 0,.float .f32 0,.float .f32 0,.float .f32 0,.float .f32 0,.bool false,.float .f32 0,.float .f32 0,.float .f32 0,.slice none 0 0,.int .i64 0,.slice none 0 0,.int .i64 0,.int .i64 0,.float .f32 0,.float .f32 0,.float .f32 0,.float .f32 0,.float .f32 0,.float .f32 0,.float .f32 0]⟩ λb=> LDA 45 b ⟨a,0,none⟩ λd=> aa (.agg d) b) h
theorem sD.call{aa h}(H:sD.S  aa h):af ak 70 #[] aa h:=qk Tryz.func70 H
set_option maxHeartbeats 1000000
theorem mb:Flat aA:=G3 (lh aeS (lh (AM _) (lh (u0 _) (lh (u0 _) (u0 _)))))
theorem Qn:0<aA.sz:=by decide
def scC(y1 y2 y3:Nat)(b1:Option Addr)(l1 c1:Nat)(b2:Option Addr)(l2 c2:Nat)(b3:Option Addr)(l3 c3:Nat):List Value:=[.float .f32 y1,.float .f32 y2,.float .f32 y3,.slice b1 l1 c1,.slice b2 l2 c2,.slice b3 l3 c3]
section
variable {h:ab}
theorem tP{cs:Array Value}{s:bI}(R:bU.rd h cs.toList s):∃y1 y2 y3 b1 l1 c1 b2 l2 c2 b3 l3 c3,cs=⟨scC y1 y2 y3 b1 l1 c1 b2 l2 c2 b3 l3 c3⟩∧FW .f32 y1 s.sY∧FW .f32 y2 s.dv.xH∧FW .f32 y3 s.dv.iV ∧
  SlR (rF .f32) h b1 l1 c1 s.dv.bG∧SlR aA h b2 l2 c2 s.az∧SlR bF h b3 l3 c3 s.bo:=by
 obtain⟨v1,r1,e1,⟨y1,rfl,F1⟩,vT,r2,rfl,⟨v2,r3,rfl,⟨y2,rfl,F2⟩,v3,r4,rfl,⟨y3,rfl,F3⟩,b1,l1,c1,rfl,S1⟩,v5,v6,rfl,⟨b2,l2,c2,rfl,S2⟩,b3,l3,c3,rfl,S3⟩:=R
 exact⟨y1,y2,y3,b1,l1,c1,b2,l2,c2,b3,l3,c3,by cases cs;simpa [scC] using e1,F1,F2,F3,S1,S2,S3⟩
theorem OJ{s:bI}{y1 y2 y3:Nat}{b1 b2 b3:Option Addr}{l1 c1 l2 c2 l3 c3:Nat}{B1 B2 B3:List Blk}(F1:FW .f32 y1 s.sY)(F2:FW .f32 y2 s.dv.xH)(F3:FW .f32 y3 s.dv.iV)(O1:SlO 22 (rF .f32) B1 b1 l1 c1 s.dv.bG)(O2:SlO 135 aA B2 b2 l2 c2 s.az)(O3:SlO 131 bF B3 b3 l3 c3 s.bo):bU.ow (B1++(B2++B3)) (scC y1 y2 y3 b1 l1 c1 b2 l2 c2 b3 l3 c3) s:=
 ⟨[],B1++(B2++B3),[.float .f32 y1],_,rfl,rfl,⟨rfl,y1,rfl,F1⟩,B1,B2++B3,[.float .f32 y2,.float .f32 y3,.slice b1 l1 c1],[.slice b2 l2 c2,.slice b3 l3 c3],rfl,rfl,
  ⟨[],B1,[.float .f32 y2],[.float .f32 y3,.slice b1 l1 c1],rfl,rfl,⟨rfl,y2,rfl,F2⟩,[],B1,[.float .f32 y3],[.slice b1 l1 c1],rfl,rfl,⟨rfl,y3,rfl,F3⟩,b1,l1,c1,rfl,O1⟩,
  B2,B3,[.slice b2 l2 c2],[.slice b3 l3 c3],rfl,rfl,⟨b2,l2,c2,rfl,O2⟩,b3,l3,c3,rfl,O3⟩
theorem RO{y1 y2 y3:Nat}{b1 b2 b3:Option Addr}{l1 c1 l2 c2 l3 c3:Nat}:∀v ∈ (⟨scC y1 y2 y3 b1 l1 c1 b2 l2 c2 b3 l3 c3⟩:Array Value).toList,v.oneCell'=true:=λv hv=>by
 simp only[scC,List.mem_cons,List.mem_nil_iff,or_false] at hv
 rcases hv with rfl | rfl | rfl | rfl | rfl | rfl <;> rfl
theorem Tn{α:Type}{r:Rep α}{l c:Nat}{xs:List α}(hz:0<r.sz)(S:SlR r h none l c xs):xs=[]∧l=0:=by
 obtain⟨h1,h2,h3,ws,C,R⟩:=S
 have hw:ws=[]:=by
  cases ws with
  | nil=>rfl
  | cons w ws=>obtain⟨a,e,_⟩:=C 0 (by simp);cases e
 subst hw
 have hx:xs.length*r.sz=0:=by rw[← R.len];rfl
 have hl:xs.length=0:=by
  rcases Nat.mul_eq_zero.1 hx with h | h <;> omega
 exact⟨List.eq_nil_of_length_eq_zero hl,by omega⟩
theorem Az{b:Option Addr}{l c:Nat}{xs:List bh}(S:SlR aA h b l c xs)(hl:l≤1048576):
  af ak 112 #[.slice b l c] (λu h'=>∃b' c' B,u = .slice b' l c'∧SlO 135 aA B b' l c' xs∧Mem h h' B) h:=by
 refine ew.call (KT xO (br (λhb=>?_) λhb=>?_))
 ·obtain rfl:b=none:=by simpa using hb
  obtain⟨rfl,rfl⟩:=Tn Qn S
  exact⟨none,0,[],rfl,SlO.nil,Mem.start h⟩
 ·exact(Mem.start h).alc λg h1 x1 M=>jZ pF Qn mb (S.ext x1) M (by omega) λb' c' h' B' O' M'=>lR ⟨b',c',B',rfl,O',by simpa using M'⟩
theorem HX{b:Option Addr}{l c:Nat}{xs:List aZ}(S:SlR bF h b l c xs)(hl:l≤1048576):
  af ak 113 #[.slice b l c] (λu h'=>∃b' c' B,u = .slice b' l c'∧SlO 131 bF B b' l c' xs∧Mem h h' B) h:=by
 refine fW.call (KT Ey (br (λhb=>?_) λhb=>?_))
 ·obtain rfl:b=none:=by simpa using hb
  obtain⟨rfl,rfl⟩:=Tn tk S
  exact⟨none,0,[],rfl,SlO.nil,Mem.start h⟩
 ·exact(Mem.start h).alc λg h1 x1 M=>jZ wM tk G1 (S.ext x1) M (by omega) λb' c' h' B' O' M'=>lR ⟨b',c',B',rfl,O',by simpa using M'⟩
theorem yU{s:bI}(h:s.ok=true):s.dv.bG.length≤31∧s.az.length≤6∧s.bo.length≤128:=by
 have G:=sP h
 have g1:=G.even
 have g2:=G.UQ
 unfold bI.ok at h
 simp only[Bool.and_eq_true,decide_eq_true_eq] at h
 have ht:=h.1.1.2
 unfold bC.ok at ht
 simp only[Bool.and_eq_true,inR,decide_eq_true_eq] at ht
 exact⟨by omega,h.1.2.1,by omega⟩
theorem Uw{q:Addr}{s:bI}(R:RdP bU h q s)(hs:s.ok=true):af ak 65 #[.pointer (some q)] (λu h'=>mN bU h h' u s) h:=by
 obtain⟨z1,z2,z3⟩:=yU hs
 refine wE.call ((Mem.start h).alc λg1 h1 x1 M=>(R.ext M.ext).jc rfl λcs Rc=>?_)
 obtain⟨y1,y2,y3,b1,l1,c1,b2,l2,c2,b3,l3,c3,rfl,F1,F2,F3,S1,S2,S3⟩:=tP Rc
 refine M.alc λg4 h2 x2 M=>M.dH .here rfl RO rfl .here λh3 M=>M.alc λg7 h4 x4 M=>?_
 have A:∀{hh:ab},Ext h hh->RdP bU hh q s:=λe=>R.ext e
 refine(A M.ext).oL λb lA c S=>jZ lD (by decide) (u0 _) S M (by have:=S.len;omega) λb1' c1' h5 B1 O1 M=>lR ?_
 have e1:=S.len
 have M:=M.cnt (W:=(g4,39,⟨scC y1 y2 y3 b1 l1 c1 b2 l2 c2 b3 l3 c3⟩) :: (B1++[(g1,39,⟨dw⟩)]))
 refine M.st1 .here (by show 3<6;decide) .here λh6 M=>?_
 have M:Mem h h6 ((g4,39,⟨scC y1 y2 y3 b1' lA c1' b2 l2 c2 b3 l3 c3⟩) :: (B1++[(g1,39,⟨dw⟩)])):=M
 refine M.alc λg8 h7 x7 M=>(A M.ext).oL λb lB c S=>jZ pF Qn mb S M (by have:=S.len;omega) λb2' c2' h8 B2 O2 M=>lR ?_
 have e2:=S.len
 have M:=M.cnt (W:=(g4,39,⟨scC y1 y2 y3 b1' lA c1' b2 l2 c2 b3 l3 c3⟩) :: (B2++(B1++[(g1,39,⟨dw⟩)])))
 refine M.st1 .here (by show 4<6;decide) .here λh9 M=>?_
 have M:Mem h h9 ((g4,39,⟨scC y1 y2 y3 b1' lA c1' b2' lB c2' b3 l3 c3⟩) :: (B2++(B1++[(g1,39,⟨dw⟩)]))):=M
 refine M.alc λg9 gv Tw M=>(A M.ext).oL λb lC c S=>jZ wM tk G1 S M (by have:=S.len;omega) λb3' c3' me B3 O3 M=>lR ?_
 have e3:=S.len
 have M:=M.cnt (W:=(g4,39,⟨scC y1 y2 y3 b1' lA c1' b2' lB c2' b3 l3 c3⟩) :: (B3++(B2++(B1++[(g1,39,⟨dw⟩)]))))
 refine M.st1 .here (by show 5<6;decide) .here λjl M=>?_
 have M:Mem h jl ((g4,39,⟨scC y1 y2 y3 b1' lA c1' b2' lB c2' b3' lC c3'⟩) :: (B3++(B2++(B1++[(g1,39,⟨dw⟩)])))):=M
 refine M.df .here rfl ?_
 have M:=M.cnt (W:=(g1,39,⟨dw⟩) :: (B1++(B2++B3)))
 exact M.dH .here rfl RO rfl .here λhP M=>M.df .here rfl ⟨_,B1++(B2++B3),rfl,OJ F1 F2 F3 O1 O2 O3,M.drop⟩
theorem I8{cs:Array Value}{s:bI}(R0:bU.rd h cs.toList s)(hs:s.ok=true):af ak 69 #[.agg cs] (λu h'=>mN bU h h' u s) h:=by
 obtain⟨z1,z2,z3⟩:=yU hs
 obtain⟨y1,y2,y3,b1,l1,c1,b2,l2,c2,b3,l3,c3,rfl,F1,F2,F3,S1,S2,S3⟩:=tP R0
 have e1:=S1.len
 have e2:=S2.len
 have e3:=S3.len
 refine oD.call ((Mem.start h).alc λg1 h1 x1 M=>M.alc λg3 h2 x2 M=>?_)
 have M:=M.cnt (W:=(g1,39,⟨scC y1 y2 y3 b1 l1 c1 b2 l2 c2 b3 l3 c3⟩) :: [(g3,39,⟨dw⟩)])
 have P:RdP bU h2 ⟨g1,0,none⟩ s:=M.rdp .here (bU.ext M.ext R0)
 refine o_l (M.cell .here 3) (o_l (M.cell .here 4) (o_l (M.cell .here 5) ?_))
 refine(xI (S1.ext M.ext) (by omega)).mono ?_
 rintro _ h3 ⟨b1',c1',B1,rfl,O1,N⟩
 refine lR (P.IT (by decide) N.ext (P.IT (by decide) N.ext ?_))
 have x3:=N.ext
 have M:=M.join N
 refine(Az (S2.ext M.ext) (by omega)).mono ?_
 rintro _ h4 ⟨b2',c2',B2,rfl,O2,N⟩
 refine lR (P.IT (by decide) (x3.trans N.ext) ?_)
 have M:=M.join N
 refine(HX (S3.ext M.ext) (by omega)).mono ?_
 rintro _ h5 ⟨b3',c3',B3,rfl,O3,N⟩
 refine lR ?_
 have M:=(M.join N).cnt (W:=(g1,39,⟨scC y1 y2 y3 b1 l1 c1 b2 l2 c2 b3 l3 c3⟩) :: (B1++(B2++(B3++[(g3,39,⟨dw⟩)]))))
 refine M.st1 .here (by show 3<6;decide) .here λh6 M=>M.st1 .here (by show 4<6;decide) .here λh7 M=>M.st1 .here (by show 5<6;decide) .here λh8 M=>?_
 have M:Mem h h8 ((g1,39,⟨scC y1 y2 y3 b1' l1 c1' b2' l2 c2' b3' l3 c3'⟩) :: (B1++(B2++(B3++[(g3,39,⟨dw⟩)])))):=M
 refine M.df .here rfl ?_
 have M:=M.cnt (W:=(g3,39,⟨dw⟩) :: (B1++(B2++B3)))
 exact M.dH .here rfl RO rfl .here λhP M=>M.df .here rfl ⟨_,B1++(B2++B3),rfl,OJ F1 F2 F3 O1 O2 O3,M.drop⟩
end
end Go.Sx
namespace Go.Sx
open FloatKind (f32 f64)
open IntKind (i64)
section
variable {h:ab}
theorem Mem.Ov{h0 h':ab}{L:List Blk}{g j:Nat}{cs:Array Value}{p:Prop}(M:Mem h0 h L)(l:gi L g cs)(hj:j<cs.size)(X:Ext h h')(H:p):PIN h ⟨g,j,none⟩ 1 h' p:=by
 refine Sx.pin X (λk hk=>⟨cs[j],?_⟩) H
 obtain rfl:k=0:=by omega
 rw[kW,M.cell l]
 simp[hj]
theorem Upd.skip{B L L':List Blk}{g:Nat}{cs:Array Value}(k:Upd L g cs L'):Upd (B++L) g cs (B++L'):=by
 induction B with
 | nil=>exact k
 | cons p B ih=>exact .there ih
end
end Go.Sx
namespace Go.Sx
open FloatKind (f32 f64)
open IntKind (i64)
open Go.Proofs
set_option maxRecDepth 100000
def cI.J4(aa:VH)(a_0:Nat)(b_1:Nat)(a:Bool)(h:ab):=BIF a (FOP .f64 (f64.format.div 4607182418800017408 a_0) λb=> FOP .f64 (f64.format.div 4607182418800017408 b_1) λc=> aa (.bool ((f64.format.order b 0==some .gt)==(f64.format.order c 0==some .gt))) h) (aa (.bool (f64.format.order a_0 b_1==some .eq)) h)
def cI.j4(aa:VH):=gg (kds 37 [(0,.f .f64),(1,.f .f64),(26,.b)]) λfr=>cI.J4 aa (gF (ah fr 0)) (gF (ah fr 1)) (gB (ah fr 26))
def cI.J3(aa:VH)(a_0:Nat)(b_1:Nat)(h:ab):=BIF (f64.format.order a_0 0==some .eq) (cI.J4 aa a_0 b_1 (f64.format.order b_1 0==some .eq) h) (cI.J4 aa a_0 b_1 false h)
def cI.j3(aa:VH):=gg (kds 37 [(0,.f .f64),(1,.f .f64)]) λfr=>cI.J3 aa (gF (ah fr 0)) (gF (ah fr 1))
def cI.S(a_0:Nat)(b_1:Nat)(aa:VH)(h:ab):=BIF (f64.format.order a_0 a_0 !=some .eq) (BIF (f64.format.order a_0 a_0 !=some .eq) (aa (.bool (f64.format.order b_1 b_1 !=some .eq)) h) (aa (.bool false) h)) (BIF (f64.format.order b_1 b_1 !=some .eq) (BIF (f64.format.order a_0 a_0 !=some .eq) (aa (.bool (f64.format.order b_1 b_1 !=some .eq)) h) (aa (.bool false) h)) (cI.J3 aa a_0 b_1 h))
theorem cI.call{a_0 b_1 aa h}(H:cI.S a_0 b_1 aa h):af ak 37 #[.float .f64 a_0,.float .f64 b_1] aa h:=qc (Λ:=aS [(3,cI.j3 aa),(4,cI.j4 aa)]) Tryz.func37 (qs qf (qj (cI.j3 aa) qf (qs (qj (cI.j4 aa) qf qf) qf))) (qe H)
def mf.S(aO:Option Addr)(aB bH:Nat)(fy:Int)(aa:VH)(h:ab):=BIF ((decide ((i64.wrap (fy-(aB:Int)))<0))) (aa (.int .i64 (-1)) h) (aa (.int .i64 ((i64.wrap (fy-(aB:Int))))) h)
theorem mf.call{aO aB bH fy aa h}(H:mf.S aO aB bH fy aa h):af ak 72 #[.slice aO aB bH,.int .i64 fy] aa h:=qk Tryz.func72 H
def eL.B3(aa:VH)(a:(Option Addr×Nat×Nat×Option Addr×Nat×Nat×Int)->ab->Prop):Option Addr×Nat×Nat×Option Addr×Nat×Nat×Int->ab->Prop |(aO,aB,bH,lu,lv,nF,i_4),h=> BIF ((decide (i_4<(aB:Int)))) (bd aO i_4 aB λb=> oF .f32 (cell h ((Addr.add b (i_4.toNat*1)))) λc=> bd lu i_4 lv λd=> ST1 h ((Addr.add d (i_4.toNat*1))) (.float .f32 c) λgv=> a (aO,aB,bH,lu,lv,nF,((i64.wrap (i_4+1)))) gv) (aa (.slice lu lv nF) h)
def eL.g3(fr:Frame):Option Addr×Nat×Nat×Option Addr×Nat×Nat×Int:=((gLb (ah fr 0)),(gLl (ah fr 0)),(gLc (ah fr 0)),(gLb (ah fr 3)),(gLl (ah fr 3)),(gLc (ah fr 3)),(gI (ah fr 4)))
def eL.l3(aa:VH):=gg (kds 22 [(0,.l),(3,.l),(4,.i .i64)]) λfr=>bk (eL.B3 aa) (eL.g3 fr)
def eL.S(aO:Option Addr)(aB bH:Nat)(aa:VH)(h:ab):=MKS eC 22 (aB:Int) (aB:Int) (λa b=> bk (eL.B3 aa) (aO,aB,bH,(some ⟨a,0,none⟩),aB,aB,0) b) h
theorem eL.call{aO aB bH aa h}(H:eL.S aO aB bH aa h):af ak 78 #[.slice aO aB bH] aa h:=qc (Λ:=aS [(1000003,eL.l3 aa)]) Tryz.func78 (qs qf (qs qf (qs (qs qf (Rq.block (ql (eL.l3 aa) (qg (g:=eL.g3) (Λ:=λa=>aS []) (λ_ _ _=>by kernel_rfl) (λa=>qf))))) qf))) (qe H)
def eI.B4(aa:VH)(c:(Option Addr×Nat×Nat×Option Addr×Nat×Nat×Int)->ab->Prop):Option Addr×Nat×Nat×Option Addr×Nat×Nat×Int->ab->Prop |(aO,aB,bH,jV,jb,kY,i_5),h=> BIF ((decide (i_5<(aB:Int)))) (bd aO i_5 aB λa=> oF .f32 (cell h ((Addr.add a (i_5.toNat*1)))) λd=> bd jV i_5 jb λb=> oF .f32 (cell h ((Addr.add b (i_5.toNat*1)))) λxA=> (FFC .f32 d .f64 λxG=> PIN h ((Addr.add b (i_5.toNat*1))) 1 h <|FFC .f32 xA .f64 λrk=> PIN h ((Addr.add a (i_5.toNat*1))) 1 h <|af ak 37 #[.float .f64 xG,.float .f64 rk] (λxz e=> asB xz λEG=> BIF (!EG) (aa (.bool false) e) (c (aO,aB,bH,jV,jb,kY,((i64.wrap (i_5+1)))) e)) h)∧(FFC .f32 xA .f64 λEr=> PIN h ((Addr.add a (i_5.toNat*1))) 1 h <|FFC .f32 d .f64 λCy=> PIN h ((Addr.add b (i_5.toNat*1))) 1 h <|af ak 37 #[.float .f64 Cy,.float .f64 Er] (λf ta=> asB f λg=> BIF (!g) (aa (.bool false) ta) (c (aO,aB,bH,jV,jb,kY,((i64.wrap (i_5+1)))) ta)) h)) (aa (.bool true) h)
def eI.g4(fr:Frame):Option Addr×Nat×Nat×Option Addr×Nat×Nat×Int:=((gLb (ah fr 0)),(gLl (ah fr 0)),(gLc (ah fr 0)),(gLb (ah fr 1)),(gLl (ah fr 1)),(gLc (ah fr 1)),(gI (ah fr 5)))
def eI.l4(aa:VH):=gg (kds 29 [(0,.l),(1,.l),(5,.i .i64)]) λfr=>bk (eI.B4 aa) (eI.g4 fr)
def eI.S(aO:Option Addr)(aB bH:Nat)(jV:Option Addr)(jb kY:Nat)(aa:VH)(h:ab):=BIF ((aB:Int) !=(jb:Int)) (aa (.bool false) h) (bk (eI.B4 aa) (aO,aB,bH,jV,jb,kY,0) h)
theorem eI.call{aO aB bH jV jb kY aa h}(H:eI.S aO aB bH jV jb kY aa h):af ak 11 #[.slice aO aB bH,.slice jV jb kY] aa h:=qc (Λ:=aS [(1000004,eI.l4 aa)]) Tryz.func11 (qs qf (qs qf (qs (qs qf (Rq.block (ql (eI.l4 aa) (qg (g:=eI.g4) (Λ:=λa=>aS []) (λ_ _ _=>by kernel_rfl) (λa=>qf))))) qf))) (qe H)
def dO.B2(aa:VH)(a:(Option Addr×Nat×Nat×Int×Int)->ab->Prop):Option Addr×Nat×Nat×Int×Int->ab->Prop |(aO,aB,bH,k_1,i_5),h=> BIF ((decide (i_5<(aB:Int)))) (bd aO i_5 aB λb=> ST1 h ((Addr.add b (i_5.toNat*1))) (.float .f32 (f32.nearest k_1)) λc=> a (aO,aB,bH,((i64.wrap (k_1+1))),((i64.wrap (i_5+1)))) c) (aa (.int .i64 k_1) h)
def dO.g2(fr:Frame):Option Addr×Nat×Nat×Int×Int:=((gLb (ah fr 0)),(gLl (ah fr 0)),(gLc (ah fr 0)),(gI (ah fr 1)),(gI (ah fr 5)))
def dO.l2(aa:VH):=gg (kds 20 [(0,.l),(1,.i .i64),(5,.i .i64)]) λfr=>bk (dO.B2 aa) (dO.g2 fr)
def dO.S(aO:Option Addr)(aB bH:Nat)(k_1:Int)(aa:VH)(h:ab):=bk (dO.B2 aa) (aO,aB,bH,k_1,0) h
theorem dO.call{aO aB bH k_1 aa h}(H:dO.S aO aB bH k_1 aa h):af ak 14 #[.slice aO aB bH,.int .i64 k_1] aa h:=qc (Λ:=aS [(1000002,dO.l2 aa)]) Tryz.func14 (qs qf (qs (qs qf (Rq.block (ql (dO.l2 aa) (qg (g:=dO.g2) (Λ:=λa=>aS []) (λ_ _ _=>by kernel_rfl) (λa=>qf))))) qf)) (qe H)
def dN.B2(aa:VH)(a:(Option Addr×Nat×Nat×Int×Int)->ab->Prop):Option Addr×Nat×Nat×Int×Int->ab->Prop |(aO,aB,bH,k_1,i_5),h=> BIF ((decide (i_5<(aB:Int)))) (bd aO i_5 aB λb=> oF .f32 (cell h ((Addr.add b (i_5.toNat*1)))) λc=> BIF (f32.format.order c (f32.nearest k_1) !=some .eq) (aa (.int .i64 (-1)) h) (a (aO,aB,bH,((i64.wrap (k_1+1))),((i64.wrap (i_5+1)))) h)) (aa (.int .i64 k_1) h)
def dN.g2(fr:Frame):Option Addr×Nat×Nat×Int×Int:=((gLb (ah fr 0)),(gLl (ah fr 0)),(gLc (ah fr 0)),(gI (ah fr 1)),(gI (ah fr 5)))
def dN.l2(aa:VH):=gg (kds 22 [(0,.l),(1,.i .i64),(5,.i .i64)]) λfr=>bk (dN.B2 aa) (dN.g2 fr)
def dN.S(aO:Option Addr)(aB bH:Nat)(k_1:Int)(aa:VH)(h:ab):=bk (dN.B2 aa) (aO,aB,bH,k_1,0) h
theorem dN.call{aO aB bH k_1 aa h}(H:dN.S aO aB bH k_1 aa h):af ak 15 #[.slice aO aB bH,.int .i64 k_1] aa h:=qc (Λ:=aS [(1000002,dN.l2 aa)]) Tryz.func15 (qs qf (qs (qs qf (Rq.block (ql (dN.l2 aa) (qg (g:=dN.g2) (Λ:=λa=>aS []) (λ_ _ _=>by kernel_rfl) (λa=>qf))))) qf)) (qe H)
end Go.Sx
