/- Lemmas. -/
import Derived.Test.YthgnpepchedpbaaGreatDoorLk17
import Derived.Test.YthgnpepchedpbaaGreatDoorLm6
set_option linter.unusedVariables false
set_option linter.unusedSimpArgs false
namespace Go.Sx
open Go.Proofs
set_option maxRecDepth 100000
set_option maxHeartbeats 1000000
def jG(l:List Int):Array Value:=⟨l.map (.int .i64)⟩
theorem yG{l:List Int}{i:Nat}(hi:i<l.length):(jG l)[i]? = some (.int .i64 l[i]!):=by
 unfold jG
 simp[hi]
theorem zt(l:List Int):(jG l).size=l.length:=by unfold jG;simp
theorem kD(l:List Int):∀v ∈ (jG l).toList,v.oneCell'=true:=λv hv=>by
 obtain⟨n,_,rfl⟩:=List.mem_map.1 (show v ∈ l.map (Value.int .i64) from hv)
 rfl
theorem XC{l:List Int}{i:Nat}(n:Int):(jG l).setIfInBounds i (.int .i64 n)=jG (l.set i n):=by
 unfold jG
 simp[List.map_set]
theorem QV:∀{n:Nat}{a b:List Int},n<a.length->n<b.length->(∀i,i<n->a[i]! = b[i]!)->a[n]! ≠ b[n]!->lt4 a b=decide (a[n]! < b[n]!)
 | _,[],_,h,_,_,_=>by simp at h
 | _,_ :: _,[],_,h,_,_=>by simp at h
 | 0,x :: a,y :: b,_,_,_,h=>by
  rw[lt4,if_neg (by simpa using h)]
  simp
 | n+1,x :: a,y :: b,h1,h2,h3,h=>by
  have e:=h3 0 (by omega)
  rw[lt4,if_pos (by simpa using e),QV (n:=n) (by simpa using h1) (by simpa using h2) (λi hi=>by simpa using h3 (i+1) (by omega)) (by simpa using h)]
  simp
theorem NU{a b:List Int}(hl:a.length=b.length)(h:∀i,i<a.length->a[i]! = b[i]!):a=b:=by
 apply List.ext_getElem hl
 intro i h1 h2
 have:=h i h1
 rwa [getElem!_pos a i h1,getElem!_pos b i h2] at this
section
variable {h:ab}
theorem Ux{a b:List Int}(ha:a.length=4)(hb:b.length=4):af ak 158 #[.agg (jG a),.agg (jG b)] (λu h'=>u = .bool (lt4 a b)∧Ext h h') h:=by
 refine gm.call ((Mem.start h).alc λg1 h1 x1 M=>M.alc λg2 h2 x2 M=>?_)
 refine loop (λx hh=>∃n:Nat,x=(⟨g1,0,none⟩,⟨g2,0,none⟩,(n:Int))∧n≤4∧hh=h2∧∀i,i<n->a[i]! = b[i]!) (λx=>(4-x.2.2).toNat) ⟨0,rfl,by omega,rfl,λi hi=>by omega⟩ ?_
 rintro x hh ⟨n,rfl,hn,rfl,hs⟩
 refine brd (λhc=>?_) λhc=>⟨by rw[NU (by omega) λi hi=>hs i (by omega),vV],M.ext⟩
 rw[Int.toNat_natCast,Nat.mul_one,dQ,dQ,Nat.zero_add]
 refine idx (by omega) (by omega) (M.oI (.there .here) (yG (by omega)) (idx (by omega) (by omega) (M.oI .here (yG (by omega)) ?_)))
 refine br (λBy=>idx (by omega) (by omega) (M.oI (.there .here) (yG (by omega)) (idx (by omega) (by omega) (M.oI .here (yG (by omega)) ⟨?_,M.ext⟩)))) λhe=>?_
 ·rw[QV (n:=n) (by omega) (by omega) hs (by simpa using By)]
 ·refine⟨⟨n+1,by rw[ag (by omega)],by omega,rfl,λi hi=>?_⟩,by rw[ag (by omega)];show _<_;simp;omega⟩
  by_cases e:i=n
  ·subst e;simpa using he
  ·exact hs i (by omega)
theorem RU{es:List aZ}{note:Int}{n:Nat}(hn:n<es.length)(h0:∀i,i<n->(fF es[i]! && es[i]!.aT==note)=false)(h1:(fF es[n]! && es[n]!.aT==note)=true):tR es note=es[n]!.At:=by
 unfold tR tS
 have e:es.find? (λe=>fF e&&e.aT==note)=some es[n]!:=by
  rw[getElem!_pos es n hn] at h1 ⊢
  rw[List.find?_eq_some_iff_getElem]
  refine⟨h1,n,hn,rfl,λj hj=>?_⟩
  have:=h0 j hj
  rw[getElem!_pos es j (by omega)] at this
  rw[this];rfl
 rw[e]
theorem M5{es:List aZ}{note:Int}(h0:∀i,i<es.length->(fF es[i]! && es[i]!.aT==note)=false):tR es note = -1:=by
 unfold tR tS
 have e:es.find? (λe=>fF e&&e.aT==note)=none:=by
  rw[List.find?_eq_none]
  intro x hx
  obtain⟨i,hi,rfl⟩:=List.mem_iff_getElem.1 hx
  have:=h0 i hi
  rw[getElem!_pos es i hi] at this
  simpa using this
 rw[e]
theorem tk:0<bF.sz:=by decide
theorem vN{b:Option Addr}{l c:Nat}{es:List aZ}(S:SlR bF h b l c es)(note:Int):af ak 157 #[.slice b l c,.int .i64 note] (λu h'=>u = .int .i64 (tR es note)∧Ext h h') h:=by
 have Fi:=S.2.2.1
 have VF:=S.2.1
 have:=cu
 have hl:=S.len
 refine fQ.call ?_
 refine loop (λx hh=>∃n:Nat,x=(b,l,c,note,(n:Int))∧n≤l∧Ext h hh∧∀i,i<n->(fF es[i]! && es[i]!.aT==note)=false) (λx=>(l-x.2.2.2.2).toNat) ⟨0,rfl,by omega,Ext.refl _,λi hi=>by omega⟩ ?_
 rintro x hh ⟨n,rfl,hn,X,hf⟩
 refine brd (λhc=>?_) λhc=>⟨by rw[M5 λi hi=>hf i (by omega)],X⟩
 have S':=S.ext X
 have next:(fF es[n]! && es[n]!.aT==note)=false->((∃m:Nat,(b,l,c,note,IntKind.i64.wrap ((n:Int)+1))=(b,l,c,note,(m:Int))∧m≤l∧Ext h hh∧∀i,i<m->(fF es[i]! && es[i]!.aT==note)=false)∧((l:Int)-IntKind.i64.wrap ((n:Int)+1)).toNat<((l:Int)-n).toNat):=λhn1=>
  ⟨⟨n+1,by rw[ag (by omega)],by omega,X,λi hi=>by
   by_cases e:i=n
   ·subst e;exact hn1
   ·exact hf i (by omega)⟩,by rw[ag (by omega)];omega⟩
 refine S'.idn tk (by omega) λa Ra=>Ra.oI (br (λk1=>?_) λk1=>next (by rw[show fF es[n]! = false from k1];rfl))
 refine S'.idn tk (by omega) λa Ra=>Ra.oI (br (λk2=>?_) λk2=>next (by rw[show(es[n]!.aT==note)=false from k2,Bool.and_false]))
 exact S'.idn tk (by omega) λa Ra=>Ra.oI1 ⟨by rw[RU (by omega) hf (by rw[show fF es[n]! = true from k1,show(es[n]!.aT==note)=true from k2];rfl)],X⟩
theorem uX{q:Addr}{e:aZ}(R:RdP bF h q e)(st:Int):af ak 156 #[.pointer (some q),.int .i64 st] (λu h'=>u = .agg (jG (ET (gL e&&decide (st<e.At)) e))∧Ext h h') h:=by
 have z:(⟨cV⟩:Array Value)=jG [0,0,0,0]:=by rfl
 refine tQ.call ?_
 rw[tQ.S,z]
 refine(Mem.start h).alc λg1 h1 x1 M=>(R.ext M.ext).oI1 ((R.ext M.ext).oI (M.alc λg2 h2 x2 M2=>(R.ext M.ext).lN (by decide) x2 ((R.ext M.ext).xy (by decide) x2 ?_)))
 refine M2.dH .here (vs:=jG [e.At,1,e.aT,0]) rfl (kD _) rfl .here λh3 M=>(R.ext M.ext).oI (br (λk1=>?_) λk1=>?_)
 ·have hk:e.Kind=1:=by simpa using k1
  refine idx (by omega) (by omega) (M.st1 .here (by show 3<4;decide) .here λh4 M=>(R.ext M.ext).oI1 (brd (λk2=>?_) λk2=>?_))
  ·refine idx (by omega) (by omega) (M.st1 .here (by rw[Array.size_setIfInBounds];show 1<4;decide) .here λh5 M=>M.df .here rfl (M.dH (.there .here) rfl ?_ rfl (.there .here) λh6 M=>M.df (.there .here) rfl ⟨?_,M.ext⟩))
   ·exact kD [e.At,0,e.aT,1]
   ·rw[ET,show gL e=true from k1,decide_eq_true k2,if_pos hk];rfl
  ·refine M.df .here rfl (M.dH (.there .here) rfl ?_ rfl (.there .here) λh6 M=>M.df (.there .here) rfl ⟨?_,M.ext⟩)
   ·exact kD [e.At,1,e.aT,1]
   ·rw[ET,show gL e=true from k1,decide_eq_false k2,if_pos hk];rfl
 ·have hk:¬e.Kind=1:=by simpa using k1
  refine M.df .here rfl (M.dH (.there .here) rfl ?_ rfl (.there .here) λh6 M=>M.df (.there .here) rfl ⟨?_,M.ext⟩)
  ·exact kD [e.At,1,e.aT,0]
  ·rw[ET,show gL e=false from k1,if_neg hk];rfl
end
theorem MA:ak.underlying 176=some (.map 2 2):=by kernel_rfl
theorem Wf:ak.underlying 165=some (.map 2 4):=by kernel_rfl
theorem Tx{P:Program}{t:TypeId}{z:Value}(h:(P.info? t).bind (·.zero)=some z)(w:World):(zeroValue t).run P w = .ok z w:=by
 cases e:P.info? t with
 | none=>rw[e] at h;cases h
 | some i=>
  rw[e] at h
  have h:i.zero=some z:=h
  simp[zeroValue,typeInfo,e,h]
theorem Bw(w:World):(zeroValue 2).run ak w = .ok (.int .i64 0) w:=Tx (by kernel_rfl) w
theorem Vz(w:World):(zeroValue 4).run ak w = .ok (.bool false) w:=Tx (by kernel_rfl) w
section
variable {h:ab}
theorem Zg{b:Option Addr}{l c:Nat}{es:List aZ}(S:SlR bF h b l c es):af ak 107 #[.slice b l c] (λu h'=>∃g,u = .map (some g)∧h.size≤g∧xL h' g (vb es)∧Ext h h') h:=by
 have Fi:=S.2.2.1
 have VF:=S.2.1
 have:=cu
 have hl:=S.len
 refine gY.call (NV λg h1 x1 hg M=>?_)
 refine loop (λx hh=>∃n:Nat,x=(.map (some g),b,l,c,(l:Int),(n:Int))∧n≤l∧Ext h hh∧xL hh g (vb (es.take n))) (λx=>(l-x.2.2.2.2.2).toNat) ⟨0,rfl,by omega,x1,by rw[List.take_zero];exact M⟩ ?_
 rintro x hh ⟨n,rfl,hn,X,M⟩
 refine brd (λhc=>?_) λhc=>⟨g,rfl,by omega,by rw[List.take_of_length_le (by omega)] at M;exact M,X⟩
 have hs:=V6 (es:=es) (i:=n) (by omega)
 refine(S.ext X).idn tk (by omega) λa Ra=>Ra.jc rfl λcs Rc=>QU Rc rfl rfl λg1 h2 x2 R=>R.oI2 (br (λk=>?_) λk=>?_)
 ·rw[if_pos (show fF es[n]! = true from k)] at hs
  refine R.oI2 (R.oI2 (T9 (M.ext x2) (X.trans x2) (by omega) MA m8 _ _ λq h3 x3 M3 _=>⟨⟨n+1,by rw[ag (by omega)],by omega,x3,by rw[hs];exact M3⟩,by rw[ag (by omega)];show _<_;simp;omega⟩))
 ·rw[if_neg (by rw[show fF es[n]! = false from k];decide)] at hs
  exact⟨⟨n+1,by rw[ag (by omega)],by omega,X.trans x2,by rw[hs];exact M.ext x2⟩,by rw[ag (by omega)];show _<_;simp;omega⟩
theorem T4{cs:Array Value}{e:aZ}{g:Nat}{es:List aZ}(R:bF.rd h cs.toList e)(M:xL h g (vb es)):af ak 165 #[.agg cs,.map (some g)] (λu h'=>u = .agg (jG (qq es e))∧Ext h h') h:=by
 have z:(⟨cV⟩:Array Value)=jG [0,0,0,0]:=by rfl
 have fin:∀{h1 h2:ab}{g1 g3:Nat}{late stop:Int},Ext h h1->Mem h1 h2 [(g3,236,jG [0,0,0,0])]->RdP bF h2 ⟨g1,0,none⟩ e->[e.At,late,e.aT,stop]=qq es e->dh.J7 (λu h'=>u = .agg (jG (qq es e))∧Ext h h') ⟨g1,0,none⟩ ⟨g3,0,none⟩ late stop h2:=λ{h1 h2 g1 g3 late stop} X M R k=>by
  unfold dh.J7
  refine R.oI1 (R.oI (M.dH .here (vs:=jG [e.At,late,e.aT,stop]) rfl (kD _) rfl .here λh6 M=>M.df .here rfl ⟨by rw[k],X.trans M.ext⟩))
 refine dh.call ?_
 rw[dh.S,z]
 refine gD R λg1 h1 x1 R1=>(Mem.start h1).alc λg3 h2 x2 M2=>(R1.ext x2).oI2 (br (λk=>?_) λk=>?_)
 ·have hk:e.Kind=1:=by simpa using k
  have hp:gL e=true:=k
  have hf:=K3 es e.aT
  have hM:=M.ext (x1.trans x2)
  cases ho:EW es e.aT with
  | none=>
   rw[ho] at hf
   refine(R1.ext x2).oI2 (Gu hM MA m8 Bw _ ?_)
   rw[show jE (vb es) e.aT=none from hf]
   refine jJ (cN (bt (cM rfl (fin x1 M2 (R1.ext x2) ?_))))
   rw[qq,JO,hp,ho,ET,if_pos hk];rfl
  | some a=>
   rw[ho] at hf
   refine(R1.ext x2).oI2 (Gu hM MA m8 Bw _ ?_)
   rw[show jE (vb es) e.aT=some (.int .i64 a) from hf]
   refine jJ (cN (bt (vu rfl ((R1.ext x2).oI2 (brd (λk2=>fin x1 M2 (R1.ext x2) ?_) λk2=>fin x1 M2 (R1.ext x2) ?_)))))
   ·rw[qq,JO,hp,ho,ET,if_pos hk]
    show _=[e.At,if(true&&decide (a<e.At))=true then 0 else 1,e.aT,1]
    rw[decide_eq_true k2];rfl
   ·rw[qq,JO,hp,ho,ET,if_pos hk]
    show _=[e.At,if(true&&decide (a<e.At))=true then 0 else 1,e.aT,1]
    rw[decide_eq_false k2];rfl
 ·have hk:¬e.Kind=1:=by simpa using k
  have hp:gL e=false:=k
  refine fin x1 M2 (R1.ext x2) ?_
  rw[qq,JO,hp,ET,if_neg hk];rfl
def PW(x y:Int):Int:=if x<y then -1 else if y<x then 1 else 0
noncomputable def PX(a b:List Int):Int:=if lt4 a b=true then -1 else @ite _ (a=b) (Classical.propDecidable _) 0 1
theorem aas(a b:List Int):decide (0≤PX a b) = !lt4 a b:=by
 unfold PX
 cases lt4 a b with
 | true=>rfl
 | false=>
  rw[if_neg (by decide)]
  split <;> rfl
theorem Io(x y:Int):Ret ak 232 #[.int .i64 x,.int .i64 y] (.int .i64 (PW x y)):=λh=>by
 have nan:∀(x:Int) h,af ak 278 #[.int .i64 x] (λu h'=>u = .bool false∧Ext h h') h:=λx h=>pX.call ⟨by simp,Ext.refl _⟩
 refine mT.call (goX (nan x h) λh1 x1=>bt (goX (nan y h1) λh2 x2=>bt (cM rfl (cM rfl (brd (λk=>⟨by rw[PW,if_pos k],x1.trans x2⟩) λk=>brd (λk2=>⟨by rw[PW,if_neg k,if_pos k2],x1.trans x2⟩) λk2=>⟨by rw[PW,if_neg k,if_neg k2],x1.trans x2⟩)))))
theorem TA{b1 b2:Option Addr}{l c1 c2:Nat}{xs ys:List Int}(S1:SlR (rI .i64) h b1 l c1 xs)(S2:SlR (rI .i64) h b2 l c2 ys):af ak 166 #[.slice b1 l c1,.slice b2 l c2] (λu h'=>u = .int .i64 (PX xs ys)∧Ext h h') h:=by
 have Fi:=S1.2.2.1
 have VF:=S1.2.1
 have:=cu
 have e1:=S1.len
 have e2:=S2.len
 refine bM.call ?_
 refine loop (λx hh=>∃n:Nat,x=(b1,l,c1,b2,l,c2,b1,l,c1,(l:Int),(n:Int))∧n≤l∧Ext h hh∧∀i,i<n->xs[i]! = ys[i]!) (λx=>(l-x.2.2.2.2.2.2.2.2.2.2).toNat) ⟨0,rfl,by omega,Ext.refl _,λi hi=>by omega⟩ ?_
 rintro x hh ⟨n,rfl,hn,X,hs⟩
 refine brd (λhc=>?_) λhc=>?_
 ·refine(S1.ext X).idn (by decide) (by omega) λa Ra=>Ra.oI1 (brd (λk=>by omega) λ_=>(S2.ext X).idn (by decide) (by omega) λa' Rb=>Rb.oI1 (goE X (Io _ _ _) λh2 x2=>cN (br (λk=>⟨?_,x2⟩) λk=>?_)))
  ·have By:xs[n]! ≠ ys[n]!:=λe=>by
    rw[PW,e,if_neg (by omega),if_neg (by omega)] at k;cases k
   rw[PX,QV (n:=n) (by omega) (by omega) hs By,PW]
   have hab:¬xs=ys:=λe=>By (by rw[e])
   by_cases qR:xs[n]! < ys[n]!
   ·rw[if_pos qR,if_pos (by rw[decide_eq_true qR])]
   ·rw[if_neg qR,if_pos (by omega),if_neg (by rw[decide_eq_false qR];decide),if_neg hab]
  ·have he:xs[n]! = ys[n]!:=by
    unfold PW at k
    by_cases h1:xs[n]! < ys[n]!
    ·rw[if_pos h1] at k;cases k
    ·by_cases h2:ys[n]! < xs[n]!
     ·rw[if_neg h1,if_pos h2] at k;cases k
     ·omega
   refine⟨⟨n+1,by rw[ag (by omega)],by omega,x2,λi hi=>?_⟩,by rw[ag (by omega)];show _<_;simp;omega⟩
   by_cases e:i=n
   ·subst e;exact he
   ·exact hs i (by omega)
 ·have hxy:xs=ys:=NU (by omega) λi hi=>hs i (by omega)
  subst hxy
  refine brd (λk=>by omega) λ_=>⟨?_,X⟩
  rw[PX,vV,if_neg (by decide),if_pos rfl]
theorem Mem.slI{h0:ab}{L:List Blk}{g:Nat}{ks:List Int}(M:Mem h0 h L)(l:gi L g (jG ks))(hn:ks.length≤maxLen):SlR (rI .i64) h (some ⟨g,0,none⟩) ks.length ks.length ks:=by
 refine⟨rfl,Nat.le_refl _,hn,(jG ks).toList,λi hi=>⟨_,rfl,?_⟩,?_⟩
 ·rw[dQ,Nat.zero_add,M.cell l,Array.getElem?_toList]
 ·show rds (rI .i64) h (ks.map (.int .i64)) ks
  clear hn l
  induction ks with
  | nil=>rfl
  | cons k ks ih=>exact⟨[.int .i64 k],_,rfl,rfl,ih⟩
end
set_option maxHeartbeats 2000000
section
variable {h:ab}
theorem EH(g:Nat):af ak 108 #[.map (some g)] (λu h'=>∃gc,u = .func (.func 164) #[] #[.pointer (some ⟨gc,0,none⟩)]∧h.size≤gc∧cell h' ⟨gc,0,none⟩=some (.map (some g))∧Ext h h') h:=
 mv.call ((Mem.start h).alc λg1 h1 x1 M=>⟨g1,rfl,(M.at_ _ (.head _)).1,M.cell .here 0,x1⟩)
theorem xT{h h':ab}{a:Addr}{v:Value}(e:cell h a=some v)(x:Ext h h'):cell h' a=some v:=x.cell e
theorem KV{es:List aZ}{gc g:Nat}{ca cb:Array Value}{x y:aZ}(hc:cell h ⟨gc,0,none⟩=some (.map (some g)))(M0:xL h g (vb es))(Rx:bF.rd h ca.toList x)(Ry:bF.rd h cb.toList y):
  af ak 164 #[.agg ca,.agg cb,.pointer (some ⟨gc,0,none⟩)] (λu h'=>u = .int .i64 (PX (qq es x) (qq es y))∧Ext h h') h:=by
 have z:(⟨cV⟩:Array Value)=jG [0,0,0,0]:=by rfl
 refine j6.call ?_
 rw[j6.S,z]
 refine gD Rx λg1 h1 x1 A=>gD (bF.ext x1 Ry) λg3 h4 x4 B=>?_
 have A:=A.ext x4
 have X0:=x1.trans x4
 have hcc:=xT hc X0
 have MM:=M0.ext X0
 clear hc M0 Rx Ry
 refine A.jc rfl λa5 R5=>?_
 rw[hcc]
 refine B.jc rfl λa7 R7=>?_
 have pt:∀{hx:ab}{L:List Blk}{p:Prop},Mem h4 hx L->p->PIN h4 ⟨gc,0,none⟩ 1 hx p:=λM H=>pin M.ext (λj hj=>⟨.map (some g),by rw[show j=0 by omega,kW];exact hcc⟩) H
 have pa:∀{hx:ab}{L:List Blk}{p:Prop},Mem h4 hx L->p->PIN h4 ⟨g1,0,none⟩ 6 hx p:=λM H=>A.xy (by decide) M.ext H
 have pb:∀{hx:ab}{L:List Blk}{p:Prop},Mem h4 hx L->p->PIN h4 ⟨g3,0,none⟩ 6 hx p:=λM H=>B.xy (by decide) M.ext H
 have oa:∀{hx:ab}{L:List Blk}{K:Array Value->ab->Prop},Mem h4 hx L->(∀h',Mem h4 h' L->K (jG (qq es x)) h')->af ak 165 #[.agg a5,.map (some g)] (λq h'=>asA q λa=>K a h') hx:=λM H=>goM M (T4 (bF.ext M.ext R5) (MM.ext M.ext)) λh' M'=>gw (H h' M')
 have ob:∀{hx:ab}{L:List Blk}{K:Array Value->ab->Prop},Mem h4 hx L->(∀h',Mem h4 h' L->K (jG (qq es y)) h')->af ak 165 #[.agg a7,.map (some g)] (λq h'=>asA q λa=>K a h') hx:=λM H=>goM M (T4 (bF.ext M.ext R7) (MM.ext M.ext)) λh' M'=>gw (H h' M')
 have fin:∀{hx:ab}{L:List Blk}{ga gb:Nat},Mem h4 hx L->gi L ga (jG (qq es x))->gi L gb (jG (qq es y)) ->
   af ak 166 #[.slice (some (slP ⟨ga,0,none⟩ 4 0 1)) (4-0) (4-0),.slice (some (slP ⟨gb,0,none⟩ 4 0 1)) (4-0) (4-0)] (λq h'=>asI .i64 q λn=>(Value.int .i64 n = .int .i64 (PX (qq es x) (qq es y))∧Ext h h')) hx:=λM l1 l2=>by
  rw[CH,CH]
  exact goE (X0.trans M.ext) (TA (M.slI l1 (show 4≤maxLen by decide)) (M.slI l2 (show 4≤maxLen by decide))) λh' x'=>cN ⟨rfl,x'⟩
 have kx:(qq es x).length=4:=rfl
 have ky:(qq es y).length=4:=rfl
 have st:∀{hx:ab}{L L':List Blk}{gq:Nat}{k:List Int}{K:ab->Prop},Mem h4 hx L->k.length=4->gi L gq (jG [0,0,0,0])->Upd L gq (jG k) L'->(∀h',Mem h4 h' L'->K h')->STA 4 hx ⟨gq,0,none⟩ (jG k) K:=λM hk l u H=>M.dH l (by rw[zt,hk]) (kD _) rfl u H
 have M:=Mem.start h4
 show _∧_
 (repeat' (first
  | with_reducible refine And.intro ?_ ?_
  | with_reducible refine Mem.alc (by assumption) λ_ _ _ _=>?_
  | with_reducible refine pt (by assumption) ?_
  | with_reducible refine pb (by assumption) ?_
  | with_reducible refine pa (by assumption) ?_
  | with_reducible refine oa (by assumption) λ_ _=>?_
  | with_reducible refine ob (by assumption) λ_ _=>?_
  | with_reducible refine slb (by decide) (by decide) (by decide) ?_
  | with_reducible refine st (by assumption) (by first | exact kx | exact ky) (by first | exact .here | exact .there .here) (by first | exact .here | exact .there .here) λ_ _=>?_
  | with_reducible exact fin (by assumption) (by first | exact .here | exact .there .here) (by first | exact .here | exact .there .here)))
end
set_option maxHeartbeats 1000000
def vw(p:aZ->Bool)(es:List aZ)(i m:Nat):List Int:=(List.range m).map λk:Nat=>((ml p es i (k:Int):Nat):Int)
theorem ku(p:aZ->Bool)(es:List aZ)(i m:Nat):(vw p es i m).length=m:=by unfold vw;simp
theorem Fa{p:aZ->Bool}{es:List aZ}{i m:Nat}{k:Int}(h1:0≤k)(h2:k<m):(vw p es i m)[k.toNat]! = (ml p es i k:Int):=by
 have e:((k.toNat:Nat):Int)=k:=by omega
 rw[getElem!_pos (vw p es i m) k.toNat (by rw[ku];omega)]
 unfold vw
 simp[e]
theorem MQ{p:aZ->Bool}{es:List aZ}{i m k:Nat}(h:k<(vw p es i m).length):(vw p es i m)[k]=((ml p es i (k:Int):Nat):Int):=by
 simp[vw]
theorem MR{p:aZ->Bool}{es:List aZ}{i m:Nat}(hi:i<es.length)(hp:p es[i]! = true)(h1:0≤es[i]!.aT)(h2:es[i]!.aT<m):(vw p es i m).set es[i]!.aT.toNat ((ml p es i es[i]!.aT:Int)+1)=vw p es (i+1) m:=by
 apply List.ext_getElem
 ·rw[List.length_set,ku,ku]
 intro k k1 k2
 rw[ku] at k2
 rw[List.getElem_set]
 rw[MQ,MQ,uH p hi,hp,Bool.true_and]
 split
 ·next e=>
  have:es[i]!.aT=(k:Int):=by omega
  rw[this];simp
 ·next e=>
  have:(es[i]!.aT==(k:Int))=false:=by rw[beq_eq_false_iff_ne];omega
  rw[this];simp
theorem zn{p:aZ->Bool}{es:List aZ}{i m:Nat}(hi:i<es.length)(hp:p es[i]! = false):vw p es (i+1) m=vw p es i m:=by
 unfold vw
 congr 1
 funext k
 rw[uH p hi,hp,Bool.false_and];simp
theorem Jv(p:aZ->Bool)(es:List aZ)(m:Nat):(⟨(List.replicate m [Value.int .i64 0]).flatten⟩:Array Value)=jG (vw p es 0 m):=by
 unfold jG vw
 congr 1
 induction m with
 | zero=>rfl
 | succ m ih=>
  rw[List.replicate_succ',List.flatten_append,ih,List.range_succ]
  simp[Da]
section
variable {h0 h hb:ab}{g n:Nat}{L L':List Blk}{xs:List Int}{k:Int}
theorem Jr{F:Int->Prop}(M:Mem h0 h L)(l:gi L g (jG xs))(h1:0≤k)(h2:k<n)(hn:xs.length=n)(H:F xs[k.toNat]!):bd (some ⟨g,0,none⟩) k n λp=>oI .i64 (cell h (p.add (k.toNat*1))) F:=by
 refine idxs h1 h2 ?_
 rw[Nat.mul_one,dQ,Nat.zero_add]
 exact M.oI l (yG (by omega)) H
theorem ad0{F:ab->Prop}{v:Int}(M:Mem h0 h L)(l:gi L g (jG xs))(h1:0≤k)(h2:k<n)(hn:xs.length=n)(u:Upd L g (jG (xs.set k.toNat v)) L')(H:∀h',Mem h0 h' L'->F h'):bd (some ⟨g,0,none⟩) k n λp=>ST1 h (p.add (k.toNat*1)) (.int .i64 v) F:=by
 refine idxs h1 h2 ?_
 rw[Nat.mul_one,dQ,Nat.zero_add]
 exact M.st1 l (by rw[zt];omega) (by rw[XC];exact u) H
theorem ahT{N:(Option Addr×Nat×Nat×Int)->ab->Prop}{aa:Value->ab->Prop}{b:Option Addr}{l c i g1:Nat}{es:List aZ}{k1:List Int}(S:SlR bF h b l c es)(hi:i<l)(M:Mem hb h [(g1,236,jG k1)])(hk:k1.length=4)(no:∀h',Ext h h'->lt4 k1 (keyOf es es[i]!)=false->aa (.bool false) h')(yes:∀h',Ext h h'->lt4 k1 (keyOf es es[i]!)=true->N (b,l,c,IntKind.i64.wrap ((i:Int)+1)) h'):
  av.J28 N aa b l c (i:Int) ⟨g1,0,none⟩ h:=by
 have z:(⟨cV⟩:Array Value)=jG [0,0,0,0]:=by rfl
 have fin:∀{hx hy:ab}{g2:Nat},Ext h hx->Mem hx hy [(g2,236,jG (keyOf es es[i]!))]->av.J29 N aa b l c (i:Int) ⟨g1,0,none⟩ ⟨g2,0,none⟩ hy:=λX M2=>by
  have M1:=M.grow (X.trans M2.ext)
  refine M1.df .here (by rw[zt];exact hk) (M2.df .here (by rw[zt];rfl) (goE (X.trans M2.ext) (Ux hk rfl) λh3 x3=>bt (brN (λe=>no _ x3 e) λe=>yes _ x3 e)))
 unfold av.J28
 rw[z]
 refine S.idn tk hi λa Ra=>S.idn tk hi λa' Ra'=>Ra'.oI ⟨goX (vN S _) λh3 x3=>cN ⟨goX (uX (Ra.ext x3) _) λh4 x4=>gw ((Mem.start h4).alc λg2 h5 x5 M2=>?_),(Mem.start h3).alc λg2 h4 x4 M2=>?_⟩,(Mem.start h).alc λg2 h3 x3 M2=>?_⟩
 ·exact Ra'.lN (by decide) ((x3.trans x4).trans x5) (M2.dH .here rfl (kD _) rfl .here λh6 M2=>fin (x3.trans x4) M2)
 ·refine Ra'.lN (by decide) (x3.trans x4) (goM M2 (uX (Ra.ext (x3.trans M2.ext)) _) λh5 M2=>gw (M2.dH .here rfl (kD _) rfl .here λh6 M2=>fin x3 M2))
 ·exact Ra'.lN (by decide) x3 (goM M2 (vN (S.ext M2.ext) _) λh4 M2=>cN (goM M2 (uX (Ra.ext M2.ext) _) λh5 M2=>gw (M2.dH .here rfl (kD _) rfl .here λh6 M2=>fin (Ext.refl _) M2)))
theorem ahN{aa:Value->ab->Prop}{b:Option Addr}{l c:Nat}{es:List aZ}(S:SlR bF h b l c es)(no:∀h' i,Ext h h'->i+1<l->lt4 (keyOf es es[i]!) (keyOf es es[i+1]!)=false->aa (.bool false) h')(yes:∀h',Ext h h'->(∀i,i+1<l->lt4 (keyOf es es[i]!) (keyOf es es[i+1]!)=true)->aa (.bool true) h'):bk (av.B25 aa) (b,l,c,(1:Int)) h:=by
 have z:(⟨cV⟩:Array Value)=jG [0,0,0,0]:=by rfl
 have Fi:=S.2.2.1
 have VF:=S.2.1
 have:=cu
 refine loop (λx hh=>∃n:Nat,x=(b,l,c,((n+1:Nat):Int))∧n≤l∧Ext h hh∧∀i,i<n->i+1<l->lt4 (keyOf es es[i]!) (keyOf es es[i+1]!)=true) (λx=>(l-x.2.2.2).toNat) ⟨0,rfl,by omega,Ext.refl _,λi hi=>by omega⟩ ?_
 rintro x hh ⟨n,rfl,hn,X,hd⟩
 refine brd (λhc=>?_) λhc=>yes _ X λi hi=>hd i (by omega) hi
 have S':=S.ext X
 have e1:IntKind.i64.wrap (((n+1:Nat):Int)-1)=(n:Int):=by rw[wrap64 (by omega) (by omega)];omega
 rw[e1,z]
 have fin:∀{hx hy:ab}{g1:Nat},Ext hh hx->Mem hx hy [(g1,236,jG (keyOf es es[n]!))]->av.J28 (λx' h'=>(∃n:Nat,x'=(b,l,c,((n+1:Nat):Int))∧n≤l∧Ext h h'∧∀i,i<n->i+1<l->lt4 (keyOf es es[i]!) (keyOf es es[i+1]!)=true)∧((l:Int)-x'.2.2.2).toNat<((l:Int)-((n+1:Nat):Int)).toNat) aa b l c ((n+1:Nat):Int) ⟨g1,0,none⟩ hy:=λY M1=>by
  have Z:=X.trans (Y.trans M1.ext)
  refine ahT (S.ext Z) (by omega) M1 rfl (λh' x' e=>no h' n (Z.trans x') (by omega) e) λh' x' e=>⟨⟨n+1,by rw[ag (by omega)],by omega,Z.trans x',λi hi hl=>?_⟩,by rw[ag (by omega)];show _<_;simp;omega⟩
  by_cases e:i=n
  ·subst e;assumption
  ·exact hd i (by omega) hl
 refine S'.idn tk (by omega) λa Ra=>S'.idn tk (by omega) λa' Ra'=>Ra'.oI ⟨goX (vN S' _) λh3 x3=>cN ⟨goX (uX (Ra.ext x3) _) λh4 x4=>gw ((Mem.start h4).alc λg2 h5 x5 M2=>?_),(Mem.start h3).alc λg2 h4 x4 M2=>?_⟩,(Mem.start hh).alc λg2 h3 x3 M2=>?_⟩
 ·exact Ra'.lN (by decide) ((x3.trans x4).trans x5) (M2.dH .here rfl (kD _) rfl .here λh6 M2=>fin (x3.trans x4) M2)
 ·refine Ra'.lN (by decide) (x3.trans x4) (goM M2 (uX (Ra.ext (x3.trans M2.ext)) _) λh5 M2=>gw (M2.dH .here rfl (kD _) rfl .here λh6 M2=>fin x3 M2))
 ·exact Ra'.lN (by decide) x3 (goM M2 (vN (S'.ext M2.ext) _) λh4 M2=>cN (goM M2 (uX (Ra.ext M2.ext) _) λh5 M2=>gw (M2.dH .here rfl (kD _) rfl .here λh6 M2=>fin (Ext.refl _) M2)))
end
end Go.Sx
