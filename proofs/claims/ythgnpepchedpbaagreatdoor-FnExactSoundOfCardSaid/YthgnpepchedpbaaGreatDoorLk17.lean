/- Lemmas. -/
import Derived.Test.YthgnpepchedpbaaGreatDoorLk4
import Derived.Test.YthgnpepchedpbaaGreatDoorLk0b
import Derived.Test.YthgnpepchedpbaaGreatDoorLr7
import Derived.Test.YthgnpepchedpbaaGreatDoorLk24
import Derived.Test.YthgnpepchedpbaaGreatDoorLg
import Derived.MapKept
set_option linter.unusedVariables false
set_option linter.unusedSimpArgs false
namespace Go.Sx
open Go.Proofs
set_option maxRecDepth 100000
set_option maxHeartbeats 1000000
noncomputable def same{α:Type}(x y:α):Bool:=@decide (x=y) (Classical.propDecidable _)
section
variable {α:Type}{x y:α}
theorem acj:same x y=true↔x=y:=by unfold same;exact @decide_eq_true_iff _ (Classical.propDecidable _)
theorem aqH:same x x=true:=acj.2 rfl
theorem aoQ(h:x≠y):same x y=false:=by
 rw[Bool.eq_false_iff];intro e;exact h (acj.1 e)
theorem ak6(a b:Nat):(a==b)=same a b:=by rw[Bool.eq_iff_iff,acj,beq_iff_eq]
variable {xs ys:List α}
variable [Inhabited α]
theorem alD{i:Nat}(h:same xs[i]! ys[i]! = false):same xs ys=false:=aoQ λe=>by
 rw[e,aqH] at h;cases h
theorem akA(hl:xs.length=ys.length)(h:∀i,i<xs.length->same xs[i]! ys[i]! = true):same xs ys=true:=by
 rw[acj]
 apply List.ext_getElem hl
 intro i h1 h2
 have:=acj.1 (h i h1)
 rwa [getElem!_pos xs i h1,getElem!_pos ys i h2] at this
end
theorem auh{xs ys:List Nat}(h1:xs.length=2)(h2:ys.length=2):same xs ys=((xs[0]! == ys[0]!)&&(xs[1]! == ys[1]!)):=by
 obtain⟨a,b,rfl⟩:=is2 h1
 obtain⟨c,d,rfl⟩:=is2 h2
 rw[Bool.eq_iff_iff]
 simp[acj]
theorem brN{b:Bool}{p q:Prop}(ht:b=false->p)(hf:b=true->q):BIF (!b) p q:=br (λh=>ht (nt h)) λh=>hf (nf h)
theorem goE{P:Program}{f:FuncId}{args:Array Value}{v:Value}{h0 h:ab}{K:Value->ab->Prop}(E:Ext h0 h)(c:af P f args (λu h'=>u=v∧Ext h h') h)(H:∀h',Ext h0 h'->K v h'):af P f args K h:=
 c.mono λu h' ⟨e,x⟩=>by subst e;exact H h' (E.trans x)
theorem goD{P:Program}{f:Value}{args:Array Value}{v:Value}{h0 h:ab}{K:Value->ab->Prop}(E:Ext h0 h)(c:pE P f args (λu h'=>u=v∧Ext h h') h)(H:∀h',Ext h0 h'->K v h'):pE P f args K h:=
 pE.mono (λu h' ⟨e,x⟩=>by subst e;exact H h' (E.trans x)) c
theorem aiK(x y:aY):same x y=(same x.ae y.ae&&(x.At==y.At)):=by
 rw[Bool.eq_iff_iff]
 simp only[acj,Bool.and_eq_true,beq_iff_eq]
 cases x;cases y;simp[and_assoc]
theorem aew(x y:cz):same x y=((x.Kind==y.Kind)&&same x.C y.C&&same x.S y.S):=by
 rw[Bool.eq_iff_iff]
 simp only[acj,Bool.and_eq_true,beq_iff_eq]
 cases x;cases y;simp[and_assoc]
theorem aki(x y:bK):same x y=(same x.Loop y.Loop&&same x.kS y.kS&&same x.fz y.fz&&(x.fT==y.fT)):=by
 rw[Bool.eq_iff_iff]
 simp only[acj,Bool.and_eq_true,beq_iff_eq]
 cases x;cases y;simp[and_assoc]
theorem alp(x y:cp):same x y=(same x.aW y.aW&&same x.Left y.Left&&same x.aL y.aL&&same x.End y.End&&(x.Open==y.Open)&&(x.fT==y.fT)&&(x.Rest==y.Rest)&&(x.fX==y.fX)):=by
 rw[Bool.eq_iff_iff]
 simp only[acj,Bool.and_eq_true,beq_iff_eq]
 cases x;cases y;simp[and_assoc]
theorem alU(x y:iU):same x y=(same x.bT y.bT&&same x.aH y.aH&&same x.fz y.fz&&(x.fX==y.fX)&&(x.fT==y.fT)):=by
 rw[Bool.eq_iff_iff]
 simp only[acj,Bool.and_eq_true,beq_iff_eq]
 cases x;cases y;simp[and_assoc]
theorem QU{α:Type}{r:Rep α}{h:ab}{x:α}{T n:Nat}{z cs:Array Value}{F:Nat->ab->Prop}(R:r.rd h cs.toList x)(hz:z.size=n)(hn:r.sz=n)(H:∀g h',Ext h h'->RdP r h' ⟨g,0,none⟩ x->F g h'):ALC z T (λg h1=>STA n h1 ⟨g,0,none⟩ cs λh2=>F g h2) h:=
 (Mem.start h).alc λg h1 x1 M=>M.dH .here (rsz R hn) (r.wj R) hz .here λh2 M=>H g h2 M.ext (M.rdp .here (r.ext M.ext R))
def mE(t:bC)(i:Nat):Bool:=flt .f32 t.bG[i]! t.iV&&(i==0||fgt .f32 t.bG[i]! t.bG[i-1]!)
def bC.ok(t:bC):Bool:=inside t.xH 1065353216 1184645120&&inside t.iV 1065353216 1167458304&&inR t.bG.length 1 31&&(t.bG[0]! == 0)&&(List.range t.bG.length).all (mE t)
def place(a:Nat):Bool:=fge .f32 a 0&&flt .f32 a 1065353216
def bh.ok(x:bh):Bool:=uo x.Name&&inside x.B 0 1065353216 &&
 if x.Kind=1 then inside x.A 0 1056964608&&place x.C else if x.Kind=2 then place x.A&&(feq .f32 x.C 0||feq .f32 x.C 1065353216) else if x.Kind=3 then place x.A&&fin x.C else false
section
variable {h:ab}{x a:Nat}
theorem c1:FW .f32 1065353216 1065353216:=eM (by decide) (by decide)
theorem c05:FW .f32 1056964608 1056964608:=eM (by decide) (by decide)
theorem cB:FW .f32 1184645120 1184645120:=eM (by decide) (by decide)
theorem cO:FW .f32 1167458304 1167458304:=eM (by decide) (by decide)
theorem cR:FW .f32 1232348160 1232348160:=eM (by decide) (by decide)
theorem SlR.at0{α:Type}{r:Rep α}{b:Option Addr}{l c:Nat}{xs:List α}[Inhabited α]{F:Addr->Prop}(S:SlR r h b l c xs)(hz:0<r.sz)(h2:0<l)(H:∀a,RdP r h a xs[0]!->F a):bd b (0:Int) l F:=
 S.idx hz (by omega) (by omega) λa R=>by
  have e:a.add ((0:Int).toNat*r.sz)=a:=by rw[show(0:Int).toNat=0 from rfl,Nat.zero_mul,kW]
  rw[e] at R
  exact H a R
theorem SlR.idn{α:Type}{r:Rep α}{b:Option Addr}{l c n:Nat}{xs:List α}[Inhabited α]{F:Addr->Prop}(S:SlR r h b l c xs)(hz:0<r.sz)(h2:n<l)(H:∀a,RdP r h (a.add ((n:Int).toNat*r.sz)) xs[n]!->F a):bd b (n:Int) l F:=
 S.idx hz (by omega) (by omega) H
theorem Uv(hx:FW .f32 x a):Ret ak 225 #[.float .f32 x] (.bool (inside a 1065353216 1184645120)):=λh=>by
 refine rr.call ?_
 rw[rr.S,cw hx c1,cw hx cB]
 exact br (λhb=>⟨by rw[inside,fge,hb];rfl,Ext.refl _⟩) λhb=>⟨by rw[inside,fge,hb];rfl,Ext.refl _⟩
theorem Xy(hx:FW .f32 x a):Ret ak 160 #[.float .f32 x] (.bool (inside a 1065353216 1184645120)):=λh=>
 yA.call ((jO hx c1 cB).go λh1 x1=>bt ⟨rfl,x1⟩)
theorem XA(hx:FW .f32 x a):Ret ak 103 #[.float .f32 x] (.bool (inside a 1065353216 1232348160)):=λh=>
 yC.call ((jO hx c1 cR).go λh1 x1=>bt ⟨rfl,x1⟩)
theorem JL(hx:FW .f32 x a):Ret ak 228 #[.float .f32 x] (.bool (place a)):=λh=>by
 refine ri.call ?_
 rw[ri.S,cw hx fw0,cw hx c1]
 exact br (λhb=>⟨by rw[place,fge,hb];rfl,Ext.refl _⟩) λhb=>⟨by rw[place,fge,hb];rfl,Ext.refl _⟩
theorem Cb(hx:FW .f32 x a):Ret ak 229 #[.float .f32 x] (.bool (place a)):=λh=>by
 refine tL.call ?_
 rw[tL.S,cw hx fw0,cw hx c1]
 exact br (λhb=>⟨by rw[place,fge,hb];rfl,Ext.refl _⟩) λhb=>⟨by rw[place,fge,hb];rfl,Ext.refl _⟩
theorem Js{m n:Nat}(hx:FW .f32 x a)(hm:FW .f32 m n):Ret ak 153 #[.float .f32 x,.float .f32 m,.bool false] (.bool (inside a 0 n)):=λh=>by
 refine jf.call ?_
 rw[jf.S,cw hx fw0,cw hx hm]
 exact cM rfl (br (λhb=>⟨by rw[inside,fge,hb];rfl,Ext.refl _⟩) λhb=>⟨by rw[inside,fge,hb];rfl,Ext.refl _⟩)
theorem KM(hx:FW .f32 x a):Ret ak 153 #[.float .f32 x,.float .f32 1065353216,.bool true] (.bool (place a)):=λh=>by
 refine jf.call ?_
 rw[jf.S,cw hx fw0,cw hx c1]
 exact vu rfl (br (λhb=>⟨by rw[place,fge,hb];rfl,Ext.refl _⟩) λhb=>⟨by rw[place,fge,hb];rfl,Ext.refl _⟩)
theorem zK{n:Nat}(h0:0<n)(h:n<9223372036854775808):IntKind.i64.wrap ((n:Int)-1)=((n-1:Nat):Int):=by rw[wrap64 (by omega) (by omega)];omega
theorem SR{q:Addr}{t:bC}(R:RdP dD h q t):af ak 151 #[.pointer (some q)] (λu h'=>u = .bool t.ok∧Ext h h') h:=by
 have hm:=cu
 refine fq.call (R.oL λb l c S=>R.oF1 λy hy=>goX (Uv hy h) λh1 x1=>bt ?_)
 have hl:=S.len
 have s1:=S.2.1
 have s2:=S.2.2.1
 refine brN (λhb=>⟨by rw[bC.ok,hb];rfl,x1⟩) λhb=>(R.ext x1).oF λz hz=>?_
 rw[cw hz c1]
 refine br (λk1=>(R.ext x1).oF λw hw=>?_) λk1=>⟨by rw[bC.ok,inside,inside,fge,fge,k1];simp,x1⟩
 rw[cw hw cO]
 refine brN (λk2=>⟨by rw[bC.ok,inside,inside,fle,fle,k2];simp,x1⟩) λk2=>?_
 have ho:inside t.iV 1065353216 1167458304=true:=by rw[inside,fge,fle,k1,k2];rfl
 refine brd (λe1=>⟨by rw[bC.ok,hl,inR,decide_eq_false (p:=(1:Int)≤(l:Int)) (by omega)];simp,x1⟩) λe1=>brd (λe2=>⟨by rw[bC.ok,hl,inR,decide_eq_false (p:=(l:Int)≤31) (by omega)];simp,x1⟩) λe2=>?_
 have hlen:inR (t.bG.length:Int) 1 31=true:=by rw[hl,inR,decide_eq_true (by omega),decide_eq_true (by omega)];rfl
 refine(R.ext x1).oL λb1 l1 c1' S1=>?_
 have e3:=S1.len
 refine S1.at0 (by decide) (by omega) λp Rp=>Rp.oF1 λy hy=>goE x1 (zu hy fw0 _) λh2 x2=>bt (brN (λhb=>⟨by rw[bC.ok,hb];simp,x2⟩) λh0=>?_)
 refine loop (λx hh=>∃n:Nat,x=(q,(l:Int),(n:Int))∧n≤l∧Ext h hh∧∀i,i<n->mE t i=true) (λx=>((l:Int)-x.2.2).toNat) ⟨0,rfl,by omega,x2,λi hi=>by omega⟩ ?_
 rintro x hh ⟨n,rfl,hn,X,hd⟩
 have R':=R.ext X
 have no:n<l->mE t n=false->(Value.bool false = .bool t.ok∧Ext h hh):=λe hf=>⟨by rw[bC.ok,all_false (f:=mE t) (by rw[hl];exact e) hf,Bool.and_false],X⟩
 refine brd (λhc=>?_) λhc=>⟨by rw[bC.ok,hb,ho,hlen,h0,all_true λi hi=>hd i (by omega)];rfl,X⟩
 have next:mE t n=true->((∃m:Nat,(q,(l:Int),IntKind.i64.wrap ((n:Int)+1))=(q,(l:Int),(m:Int))∧m≤l∧Ext h hh∧∀i,i<m->mE t i=true)∧((l:Int)-IntKind.i64.wrap ((n:Int)+1)).toNat<((l:Int)-n).toNat):=λhn1=>
  ⟨⟨n+1,by rw[ag (by omega)],by omega,X,λi hi=>by
   by_cases e:i=n
   ·subst e;exact hn1
   ·exact hd i (by omega)⟩,by rw[ag (by omega)];omega⟩
 refine brd (λh0=>?_) λh0=>?_
 ·rw[zK (by omega) (by omega)]
  refine R'.oL λb1 l1 c1 S1=>?_
  have e1:=S1.len
  refine S1.idx (by decide) (by omega) (by omega) λp Rp=>Rp.oF1 λy hy=>R'.oL λb2 l2 c2 S2=>?_
  have e2:=S2.len
  refine S2.idx (by decide) (by omega) (by omega) λp Rp=>Rp.oF1 λz hz=>?_
  rw[cw hy hz]
  have en:(n==0)=false:=by simp;omega
  refine brN (λk=>no (by omega) (by rw[mE,en,Bool.false_or,show fgt .f32 t.bG[n]! t.bG[n-1]! = false from k,Bool.and_false])) λk1=>R'.oL λb3 l3 c3 S3=>?_
  have e3:=S3.len
  refine S3.idx (by decide) (by omega) (by omega) λp Rp=>Rp.oF1 λy hy=>R'.oF λz hz=>?_
  rw[cw hy hz]
  refine brN (λk=>no (by omega) (by rw[mE,show flt .f32 t.bG[n]! t.iV=false from k,Bool.false_and])) λk2=>next ?_
  rw[mE,show flt .f32 t.bG[n]! t.iV=true from k2,show fgt .f32 t.bG[n]! t.bG[n-1]! = true from k1,Bool.or_true];rfl
 ·obtain rfl:n=0:=by omega
  refine R'.oL λb3 l3 c3 S3=>?_
  have e3:=S3.len
  refine S3.idx (by decide) (by omega) (by omega) λp Rp=>Rp.oF1 λy hy=>R'.oF λz hz=>?_
  rw[cw hy hz]
  refine brN (λk=>no (by omega) (by rw[mE,show flt .f32 t.bG[0]! t.iV=false from k,Bool.false_and])) λk2=>next ?_
  rw[mE,show flt .f32 t.bG[0]! t.iV=true from k2];rfl
theorem Be{cs:Array Value}{t:bC}(R:dD.rd h cs.toList t):af ak 100 #[.agg cs] (λu h'=>u = .bool t.ok∧Ext h h') h:=
 pc.call (gD R λg h1 x1 R1=>goE x1 (SR R1) λh2 x2=>bt ⟨rfl,x2⟩)
theorem A6{cs:Array Value}{t:bC}(R:dD.rd h cs.toList t):af ak 104 #[.agg cs] (λu h'=>u = .bool t.ok∧Ext h h') h:=by
 have hm:=cu
 refine cq.call (gD R λg h1 x1 R1=>R1.oF2 λy hy=>goE (Ext.refl h1) (Xy hy _) λh2 x2=>bt (brN (λhb=>⟨by rw[bC.ok,hb];rfl,x1.trans x2⟩) λhb=>(R1.ext x2).oF2 λz hz=>goE x2 (jO hz c1 cO _) λh3 x3=>bt (brN (λho=>⟨by rw[bC.ok,ho];simp,x1.trans x3⟩) λho=>(R1.ext x3).oL2 λb l c S=>goE x3 (iK _ _ _ _) λh4 x4=>cN (goE x4 (js _ _ _ _) λh5 x5=>bt (brN (λe=>⟨?_,x1.trans x5⟩) λe=>?_)))))
 ·rw[← S.len] at e
  rw[bC.ok,e];simp
 rw[← S.len] at e
 have hl:=S.len
 have hp:1≤l:=by
  unfold inR at e
  simp only[Bool.and_eq_true,decide_eq_true_eq] at e
  omega
 refine(R1.ext x5).oL2 λb1 l1 c1' S1=>?_
 have e1:=S1.len
 refine S1.at0 (by decide) (by omega) λp Rp=>Rp.oF1 λy hy=>goE x5 (FK hy _) λh6 x6=>cN (br (λk=>⟨?_,x1.trans x6⟩) λk=>?_)
 ·have:(t.bG[0]! == 0)=false:=by
   rw[beq_eq_false_iff_ne]
   simp only[bne_iff_ne,ne_eq] at k
   omega
  rw[bC.ok,this];simp
 have h0:(t.bG[0]! == 0)=true:=by
  rw[beq_iff_eq]
  simp only[bne_eq_false_iff_eq] at k
  omega
 unfold cq.J3
 refine(R1.ext x6).oL λb2 l2 c2 S2=>?_
 have e2:=S2.len
 have s1:=S2.2.1
 have s2:=S2.2.2.1
 refine loop (λx hh=>∃n:Nat,x=(⟨g,0,none⟩,b2,l2,c2,(l2:Int),(n:Int))∧n≤l2∧Ext h6 hh∧∀i,i<n->mE t i=true) (λx=>((l2:Int)-x.2.2.2.2.2).toNat) ⟨0,rfl,by omega,Ext.refl _,λi hi=>by omega⟩ ?_
 rintro x hh ⟨n,rfl,hn,X,hd⟩
 have R':=R1.ext (x6.trans X)
 have X':=x1.trans (x6.trans X)
 have no:n<l2->mE t n=false->(Value.bool false = .bool t.ok∧Ext h hh):=λe hf=>⟨by rw[bC.ok,all_false (f:=mE t) (by rw[e2];exact e) hf,Bool.and_false],X'⟩
 refine brd (λhc=>?_) λhc=>⟨by rw[bC.ok,hb,ho,e,h0,all_true λi hi=>hd i (by omega)];rfl,X'⟩
 have next:mE t n=true->((∃m:Nat,((⟨g,0,none⟩:Addr),b2,l2,c2,(l2:Int),IntKind.i64.wrap ((n:Int)+1))=(⟨g,0,none⟩,b2,l2,c2,(l2:Int),(m:Int))∧m≤l2∧Ext h6 hh∧∀i,i<m->mE t i=true)∧((l2:Int)-IntKind.i64.wrap ((n:Int)+1)).toNat<((l2:Int)-n).toNat):=λhn1=>
  ⟨⟨n+1,by rw[ag (by omega)],by omega,X,λi hi=>by
   by_cases e:i=n
   ·subst e;exact hn1
   ·exact hd i (by omega)⟩,by rw[ag (by omega)];omega⟩
 refine(S2.ext X).idx (by decide) (by omega) (by omega) λp Rp=>Rp.oF1 λy hy=>R'.oF λz hz=>?_
 rw[cw hy hz]
 refine brN (λk=>no (by omega) (by rw[mE,show flt .f32 t.bG[n]! t.iV=false from k,Bool.false_and])) λk2=>brd (λh0=>?_) λh0=>?_
 ·rw[zK (by omega) (by omega)]
  refine R'.oL λb3 l3 c3 S3=>?_
  have e3:=S3.len
  refine S3.idx (by decide) (by omega) (by omega) λp Rp=>Rp.oF1 λz hz=>?_
  rw[cw hy hz]
  have en:(n==0)=false:=by simp;omega
  refine brN (λk=>no (by omega) (by rw[mE,en,Bool.false_or,show fgt .f32 t.bG[n]! t.bG[n-1]! = false from k,Bool.and_false])) λk1=>next ?_
  rw[mE,show flt .f32 t.bG[n]! t.iV=true from k2,show fgt .f32 t.bG[n]! t.bG[n-1]! = true from k1,Bool.or_true];rfl
 ·obtain rfl:n=0:=by omega
  refine next ?_
  rw[mE,show flt .f32 t.bG[0]! t.iV=true from k2];rfl
theorem EU{q:Addr}{x:bh}(R:RdP aA h q x):af ak 101 #[.pointer (some q)] (λu h'=>u = .bool x.ok∧Ext h h') h:=by
 refine eY.call (R.oS1 λhs=>goE (Ext.refl h) (Uy _ hs _) λh1 x1=>bt (brN (λhn=>⟨by rw[bh.ok,hn];rfl,x1⟩) λhn=>(R.ext x1).oF λy hy=>goE x1 (Js hy c1 _) λh2 x2=>bt (brN (λhb=>⟨by rw[bh.ok,hb];simp,x2⟩) λhb=>?_)))
 have R2:=R.ext x2
 have k:x.ok=if x.Kind=1 then inside x.A 0 1056964608&&place x.C else if x.Kind=2 then place x.A&&(feq .f32 x.C 0||feq .f32 x.C 1065353216) else if x.Kind=3 then place x.A&&fin x.C else false:=by rw[bh.ok,hn,hb];rfl
 refine R2.oI (br (λe1=>?_) λe1=>br (λe2=>?_) λe2=>br (λe3=>?_) λe3=>?_)
 ·rw[if_pos (by simpa using e1)] at k
  refine R2.oF λy hy=>goE x2 (Js hy c05 _) λh3 x3=>bt (br (λd=>?_) λd=>⟨by rw[k,d];rfl,x3⟩)
  exact(R.ext x3).oF λy hy=>goE x3 (KM hy _) λh4 x4=>bt ⟨by rw[k,d];rfl,x4⟩
 ·rw[if_neg (by simpa using e1),if_pos (by simpa using e2)] at k
  refine R2.oF λy hy=>goE x2 (KM hy _) λh3 x3=>bt (br (λd=>?_) λd=>⟨by rw[k,d];rfl,x3⟩)
  refine(R.ext x3).oF λy hy=>?_
  rw[cw hy fw0]
  refine br (λd2=>⟨by rw[k,d,show feq .f32 x.C 0=true from d2];rfl,x3⟩) λd2=>(R.ext x3).oF λy hy=>?_
  rw[cw hy c1]
  exact⟨by rw[k,d,show feq .f32 x.C 0=false from d2];rfl,x3⟩
 ·rw[if_neg (by simpa using e1),if_neg (by simpa using e2),if_pos (by simpa using e3)] at k
  refine R2.oF λy hy=>goE x2 (KM hy _) λh3 x3=>bt (br (λd=>?_) λd=>⟨by rw[k,d];rfl,x3⟩)
  exact(R.ext x3).oF λy hy=>goE x3 (jm hy _) λh4 x4=>bt ⟨by rw[k,d];rfl,x4⟩
 ·rw[if_neg (by simpa using e1),if_neg (by simpa using e2),if_neg (by simpa using e3)] at k
  exact⟨by rw[k],x2⟩
theorem BE{cs:Array Value}{x:bh}(R0:aA.rd h cs.toList x):af ak 162 #[.agg cs] (λu h'=>u = .bool x.ok∧Ext h h') h:=by
 refine er.call (gD R0 λg h0 x0 R=>R.oS2 λhs=>goE (Ext.refl h0) (Xz _ hs _) λh1 x1=>bt (brN (λhn=>⟨by rw[bh.ok,hn];rfl,x0.trans x1⟩) λhn=>(R.ext x1).oF2 λy hy=>goE x1 (jO hy fw0 c1 _) λh2 x2=>bt (brN (λhb=>⟨by rw[bh.ok,hb];simp,x0.trans x2⟩) λhb=>?_)))
 have R2:=R.ext x2
 have k:x.ok=if x.Kind=1 then inside x.A 0 1056964608&&place x.C else if x.Kind=2 then place x.A&&(feq .f32 x.C 0||feq .f32 x.C 1065353216) else if x.Kind=3 then place x.A&&fin x.C else false:=by rw[bh.ok,hn,hb];rfl
 refine R2.oI (br (λe1=>?_) λe1=>br (λe2=>?_) λe2=>br (λe3=>?_) λe3=>?_)
 ·rw[if_pos (by simpa using e1)] at k
  refine R2.oF λy hy=>goE x2 (jO hy fw0 c05 _) λh3 x3=>bt (br (λd=>?_) λd=>⟨by rw[k,d];rfl,x0.trans x3⟩)
  exact(R.ext x3).oF λy hy=>goE x3 (JL hy _) λh4 x4=>bt ⟨by rw[k,d];rfl,x0.trans x4⟩
 ·rw[if_neg (by simpa using e1),if_pos (by simpa using e2)] at k
  refine R2.oF λy hy=>goE x2 (Cb hy _) λh3 x3=>bt (br (λd=>?_) λd=>⟨by rw[k,d];rfl,x0.trans x3⟩)
  refine(R.ext x3).oF λy hy=>?_
  rw[cw hy fw0]
  refine br (λd2=>⟨by rw[k,d,show feq .f32 x.C 0=true from d2];rfl,x0.trans x3⟩) λd2=>(R.ext x3).oF λy hy=>?_
  rw[cw hy c1]
  exact⟨by rw[k,d,show feq .f32 x.C 0=false from d2];rfl,x0.trans x3⟩
 ·rw[if_neg (by simpa using e1),if_neg (by simpa using e2),if_pos (by simpa using e3)] at k
  refine R2.oF λy hy=>goE x2 (Cb hy _) λh3 x3=>bt (br (λd=>?_) λd=>⟨by rw[k,d];rfl,x0.trans x3⟩)
  exact(R.ext x3).oF λy hy=>goE x3 (mw hy _) λh4 x4=>bt ⟨by rw[k,d];rfl,x0.trans x4⟩
 ·rw[if_neg (by simpa using e1),if_neg (by simpa using e2),if_neg (by simpa using e3)] at k
  exact⟨by rw[k],x0.trans x2⟩
end
def nv(xs:List bh)(i:Nat):Bool:=xs[i]!.ok&&(List.range i).all λk=>!decide (xs[k]!.Name=xs[i]!.Name)
def vJ(xs:List bh):Bool:=(List.range xs.length).all (nv xs)
def FD{α:Type}(P:Program)(r:Rep α)(h0:ab)(f:Value)(p:α->Bool):Prop:=∀(cs:Array Value) (x:α) h,Ext h0 h->r.rd h cs.toList x->pE P f #[.agg cs] (λu h'=>u = .bool (p x)∧Ext h h') h
theorem SlR.pre{α:Type}{r:Rep α}{h:ab}{b:Option Addr}{l c i:Nat}{xs:List α}(S:SlR r h b l c xs)(hi:i<l)(sz:Nat):SlR r h (slA b c 0 sz) (i-0) (c-0) (xs.take i):=by
 obtain⟨h1,h2,h3,ws,C,R⟩:=S
 obtain⟨pre,iS,post,e1,rfl,_,R1,_⟩:=R.at (i:=i) (by omega)
 have hb:slA b c 0 sz=b:=by
  unfold slA
  split
  ·rfl
  ·cases b with
   | none=>rfl
   | some a=>rw[Option.map_some,Nat.zero_mul,kW]
 refine⟨by rw[List.length_take];omega,by omega,h3,pre,λk hk=>?_,R1⟩
 rw[hb]
 obtain⟨a,ha,e⟩:=C k (by rw[List.length_append];omega)
 exact⟨a,ha,by rw[e,List.getElem?_append_left hk]⟩
section
variable {h:ab}
theorem vo{b:Option Addr}{l c:Nat}{xs:List bh}{f:Value}{p:bh->Bool}(S:SlR aA h b l c xs)(T:FD ak aA h f p):
  af ak 230 #[.slice b l c,f] (λu h'=>u = .int .i64 (jL p xs)∧Ext h h') h:=by
 refine aG.call ?_
 have Fi:=S.2.2.1
 have VF:=S.2.1
 have:=cu
 have hl:=S.len
 refine loop (λx hh=>∃n:Nat,x=(b,l,c,f,(l:Int),(n:Int))∧n≤l∧Ext h hh∧∀i,i<n->p xs[i]! = false) (λx=>(l-x.2.2.2.2.2).toNat) ⟨0,rfl,by omega,Ext.refl _,λi hi=>by omega⟩ ?_
 rintro x hh ⟨n,rfl,hn,X,hf⟩
 refine brd (λhc=>?_) λhc=>⟨by rw[qZ λi hi=>hf i (by omega)],X⟩
 refine(S.ext X).idx (by decide) (by omega) (by omega) λa Ra=>Ra.jc rfl λcs Rc=>goD X (T _ _ _ X Rc) λh1 x1=>bt (br (λhb=>?_) λhb=>?_)
 ·exact⟨by rw[ra (by omega) hf (by simpa using hb)],x1⟩
 ·refine⟨⟨n+1,by rw[ag (by omega)],by omega,x1,λi hi=>?_⟩,by rw[ag (by omega)];show _<_;simp;omega⟩
  by_cases e:i=n
  ·subst e;simpa using hb
  ·exact hf i (by omega)
theorem akR{s:ByteArray}(hs:s.size≤maxLen):rS.rd h (#[.string s]:Array Value).toList s:=⟨rfl,hs⟩
theorem YC{b:Option Addr}{l c:Nat}{xs:List bh}{s:ByteArray}(S:SlR aA h b l c xs)(hs:s.size≤maxLen):
  af ak 163 #[.slice b l c,.string s] (λu h'=>u = .int .i64 (jL (λx:bh=>decide (x.Name=s)) xs)∧Ext h h') h:=by
 refine yE.call (gD (r:=rS) (akR hs) λg h1 x1 R=>?_)
 have T:FD ak aA h1 (.func (.func 231) #[] #[.pointer (some ⟨g,0,none⟩)]) (λx:bh=>decide (x.Name=s)):=λcs x h2 x2 Rc=>by
  show af ak 231 #[.agg cs,.pointer (some ⟨g,0,none⟩)] _ h2
  exact sG.call (gD Rc λg3 h3 x3 R3=>R3.oS2 λ_=>(R.ext (x2.trans x3)).oS2 λ_=>⟨by rw[Hl],x3⟩)
 exact goE x1 (vo (S.ext x1) T) λh2 x2=>cN ⟨rfl,x2⟩
theorem Oe{xs:List bh}{i:Nat}(hi:i<xs.length)(s:ByteArray):decide ((0:Int)≤jL (λx:bh=>decide (x.Name=s)) (xs.take i)) = !(List.range i).all λk=>!decide (xs[k]!.Name=s):=by
 rw[E8,Bool.eq_iff_iff]
 simp only[List.any_eq_true,Bool.not_eq_true',List.all_eq_false,List.mem_range,decide_eq_true_eq,Bool.not_eq_true,Bool.not_eq_false',Bool.not_not]
 constructor
 ·rintro⟨x,hx,rfl⟩
  obtain⟨k,hk,rfl⟩:=List.mem_iff_getElem.1 hx
  rw[List.length_take] at hk
  exact⟨k,by omega,by rw[List.getElem_take,getElem!_pos xs k (by omega)];simp⟩
 ·rintro⟨k,hk,e⟩
  refine⟨xs[k]!,?_,by simpa using e⟩
  rw[getElem!_pos xs k (by omega)]
  exact List.mem_iff_getElem.2 ⟨k,by rw[List.length_take];omega,by rw[List.getElem_take]⟩
theorem D6{b:Option Addr}{l c:Nat}{xs:List bh}(S:SlR aA h b l c xs):
  af ak 105 #[.slice b l c] (λu h'=>u = .bool (decide (xs.length≤6)&&vJ xs)∧Ext h h') h:=by
 have Fi:=S.2.2.1
 have VF:=S.2.1
 have:=cu
 have hl:=S.len
 refine dn.call (brd (λh6=>⟨by rw[decide_eq_false (by omega)];rfl,Ext.refl _⟩) λh6=>?_)
 rw[decide_eq_true (p:=xs.length≤6) (by omega),Bool.true_and]
 refine loop (λx hh=>∃n:Nat,x=(b,l,c,b,l,c,(l:Int),(n:Int))∧n≤l∧Ext h hh∧∀i,i<n->nv xs i=true) (λx=>(l-x.2.2.2.2.2.2.2).toNat) ⟨0,rfl,by omega,Ext.refl _,λi hi=>by omega⟩ ?_
 rintro x hh ⟨n,rfl,hn,X,hd⟩
 have no:∀{h'},n<l->nv xs n=false->Ext h h'->(Value.bool false = .bool (vJ xs)∧Ext h h'):=λe hf x=>⟨by rw[vJ,all_false (f:=nv xs) (by omega) hf],x⟩
 refine brd (λhc=>?_) λhc=>⟨by rw[vJ,all_true λi hi=>hd i (by omega)],X⟩
 refine(S.ext X).idn (by decide) (by omega) λa Ra=>Ra.jc rfl λcs Rc=>QU Rc rfl rfl λg h1 x1 R1=>R1.jc rfl λBP Rc'=>goX (BE Rc') λh2 y2=>bt (brN (λhb=>?_) λhb=>?_)
 ·exact no (by omega) (by rw[nv,show xs[n]!.ok=false from hb,Bool.false_and]) ((X.trans x1).trans y2)
 have hb:xs[n]!.ok=true:=hb
 have x2:=(X.trans x1).trans y2
 refine slb (by omega) (by omega) (by omega) ((R1.ext y2).oS2 λhs=>goE x2 (YC ((S.ext x2).pre (i:=n) (by omega) 5) hs) λh3 x3=>cN ?_)
 rw[Oe (by omega)]
 refine br (λhk=>no (by omega) (by rw[nv,nt hk,Bool.and_false]) x3) λhk=>⟨⟨n+1,by rw[ag (by omega)],by omega,x3,λi hi=>?_⟩,by rw[ag (by omega)];show _<_;simp;omega⟩
 by_cases e:i=n
 ·subst e
  rw[nv,hb,nf hk];rfl
 ·exact hd i (by omega)
end
end Go.Sx
namespace Go.Sx
open Go.MapKept
def Q2(p:Int×Value):Value×Value:=(.int .i64 p.1,p.2)
def GO(e:MapEntry):Value×Value:=(e.key,e.val)
def xL(h:ab)(g:Nat)(m:List (Int×Value)):Prop:=∃(es:Array MapEntry) (clock:Nat),h[g]? = some (.map es clock)∧es.toList.map GO=m.map Q2
def tI:List (Int×Value)->Int->Option (Nat×Value)
 | [],_=>none
 | (k,u) :: m,n=>if n=k then some (0,u) else(tI m n).map λp=>(p.1+1,p.2)
def jE(m:List (Int×Value))(n:Int):Option Value:=(tI m n).map (·.2)
def zW:List (Int×Value)->Int->Value->List (Int×Value)
 | [],n,v=>[(n,v)]
 | (k,u) :: m,n,v=>if n=k then(n,v) :: m else(k,u) :: zW m n v
theorem oO(k n:Int)(u:Value)(m:List (Int×Value)):jE ((k,u) :: m) n=if n=k then some u else jE m n:=by
 unfold jE
 rw[tI]
 split
 ·rfl
 ·rw[Option.map_map];rfl
theorem QX(m:List (Int×Value))(k n:Int)(v:Value):jE (zW m k v) n=if n=k then some v else jE m n:=by
 induction m with
 | nil=>rw[zW,oO]
 | cons p m ih=>
  obtain⟨a,u⟩:=p
  rw[zW]
  split
  ·next e=>
   subst e
   rw[oO,oO]
   split
   ·rfl
   ·rfl
  ·next e=>
   rw[oO,oO,ih]
   by_cases h1:n=a
   ·subst h1
    rw[if_pos rfl,if_pos rfl]
    rw[if_neg (λh=>e h.symm)]
   ·rw[if_neg h1,if_neg h1]
theorem Yy(m:List (Int×Value))(k:Int)(v:Value):(zW m k v).length=if(jE m k).isSome then m.length else m.length+1:=by
 induction m with
 | nil=>rfl
 | cons p m ih=>
  obtain⟨a,u⟩:=p
  rw[zW,oO]
  split
  ·rfl
  ·rw[List.length_cons,ih]
   split <;> simp
section
variable {P:Program}{h hb:ab}{g:Nat}{m:List (Int×Value)}{t k e:TypeId}{K:Value->ab->Prop}
theorem tG(n:Int):∀{L:List MapEntry}{m:List (Int×Value)}(i:Nat),L.map GO=m.map Q2->Instr.findNow (.int .i64) (.int .i64 n) L i=some ((tI m n).map λp=>(i+p.1,p.2))
 | [],[],i,_=>rfl
 | [],_ :: _,i,h=>by cases h
 | _ :: _,[],i,h=>by cases h
 | x :: L,(a,u) :: m,i,h=>by
  simp only[List.map_cons,List.cons.injEq] at h
  obtain⟨h1,h2⟩:=h
  have hk:x.key = .int .i64 a:=congrArg Prod.fst h1
  have hv:x.val=u:=congrArg Prod.snd h1
  have ih:=tG n (i+1) h2
  unfold Instr.findNow
  rw[hk]
  simp only[Instr.sameNow,if_pos]
  by_cases e:n=a
  ·subst e
   rw[show(n==n)=true by simp]
   simp[tI,hv]
  ·rw[show(n==a)=false by simpa using e]
   simp only[]
   rw[ih]
   simp only[tI,if_neg e,Option.map_map]
   congr 1
   congr 1
   funext p
   simp only[Function.comp_apply,Prod.mk.injEq,and_true]
   omega
theorem xL.ext{h':ab}(M:xL h g m)(x:Ext h h'):xL h' g m:=by
 obtain⟨es,c,e1,e2⟩:=M
 have qR:g<h.size:=(Array.getElem?_eq_some_iff.1 e1).1
 exact⟨es,c,by rw[x.2 g qR];exact e1,e2⟩
theorem NV{t:TypeId}(H:∀g h',Ext h h'->g=h.size->xL h' g []->K (.map (some g)) h'):gC P (Instr.makeMap t none) K h:=by
 refine RP λw hw=>⟨.map (some w.heap.size),w.alloc (.map #[] 0),by simp[Instr.makeMap,newObj,Sem.run],⟨rfl,rfl,rfl⟩,?_⟩
 have e:(w.alloc (.map #[] 0)).heap=w.heap.push (.map #[] 0):=rfl
 rw[e,hw]
 exact H _ _ (Ext.push _ _) rfl ⟨#[],0,by simp,rfl⟩
theorem Gu{z:Value}(M:xL h g m)(ht:P.underlying t=some (.map k e))(hk:P.underlying k=some (.int .i64))(hz:∀w:World,(zeroValue e).run P w = .ok z w)(n:Int)(H:K (.tuple #[(jE m n).getD z,.bool (jE m n).isSome]) h):gC P (Instr.lookup t (.map (some g)) (.int .i64 n) true) K h:=by
 obtain⟨es,c,e1,e2⟩:=M
 refine RP λw hw=>⟨.tuple #[(jE m n).getD z,.bool (jE m n).isSome],w,?_,hZ.refl _,by rw[hw];exact H⟩
 have hb:w.heap[g]? = some (.map es c):=by rw[hw];exact e1
 have hf:=tG n 0 e2
 have hc:=MapKept.run_checkKey (P:=P) (w:=w) (k:=.int .i64 n) hk (by exact rfl) es.isEmpty 9999
 simp only[Instr.lookup,Sem.run_bind,run_underlying ht,Result.andThen_ok,MapKept.run_getObj_map hb,Sem.run_pure]
 rw[show(10000:Nat)=9999+1 from rfl,hc]
 simp only[Result.andThen_ok]
 rw[MapKept.run_findKey hk hf]
 unfold jE
 cases tI m n with
 | none=>simp[hz w,Result.andThen]
 | some p=>simp[Result.andThen]
theorem UO{z:Value}(M:xL h g m)(ht:P.underlying t=some (.map k e))(hk:P.underlying k=some (.int .i64))(hz:∀w:World,(zeroValue e).run P w = .ok z w)(n:Int)(H:K ((jE m n).getD z) h):gC P (Instr.lookup t (.map (some g)) (.int .i64 n) false) K h:=by
 obtain⟨es,c,e1,e2⟩:=M
 refine RP λw hw=>⟨(jE m n).getD z,w,?_,hZ.refl _,by rw[hw];exact H⟩
 have hb:w.heap[g]? = some (.map es c):=by rw[hw];exact e1
 have hf:=tG n 0 e2
 have hc:=MapKept.run_checkKey (P:=P) (w:=w) (k:=.int .i64 n) hk (by exact rfl) es.isEmpty 9999
 simp only[Instr.lookup,Sem.run_bind,run_underlying ht,Result.andThen_ok,MapKept.run_getObj_map hb,Sem.run_pure]
 rw[show(10000:Nat)=9999+1 from rfl,hc]
 simp only[Result.andThen_ok]
 rw[MapKept.run_findKey hk hf]
 unfold jE
 cases tI m n with
 | none=>simp[hz w,Result.andThen]
 | some p=>simp[Result.andThen]
theorem Oc{L:List MapEntry}{n:Int}{v:Value}:∀{m:List (Int×Value)}{j:Nat}{u:Value},L.map GO=m.map Q2->tI m n=some (j,u) ->
  ((L.modify j λx=>{ x with key:=.int .i64 n,val:=v }).map GO=(zW m n v).map Q2∧L[j]?.map (·.key)=some (.int .i64 n)):=by
 induction L with
 | nil=>
  intro m j u h1 h2
  cases m with
  | nil=>cases h2
  | cons _ _=>cases h1
 | cons x L ih=>
  intro m j u h1 h2
  cases m with
  | nil=>cases h1
  | cons p m=>
   obtain⟨a,b⟩:=p
   simp only[List.map_cons,List.cons.injEq] at h1
   obtain⟨h3,h4⟩:=h1
   rw[tI] at h2
   rw[zW]
   split at h2
   ·next e=>
    subst e
    obtain⟨rfl,rfl⟩:j=0∧u=b:=by simpa [eq_comm] using h2
    rw[if_pos rfl]
    refine⟨?_,?_⟩
    ·simp only[List.modify_zero_cons,List.map_cons,h4]
     rfl
    ·have:x.key = .int .i64 n:=congrArg Prod.fst h3
     simp[this]
   ·next e=>
    rw[if_neg e]
    cases hf:tI m n with
    | none=>rw[hf] at h2;cases h2
    | some q=>
     obtain⟨j',u'⟩:=q
     rw[hf] at h2
     obtain⟨rfl,rfl⟩:j'+1=j∧u'=u:=by simpa using h2
     obtain⟨k1,k2⟩:=ih h4 hf
     exact⟨by simp only[List.modify_succ_cons,List.map_cons,k1,h3],by simpa using k2⟩
theorem V9{L:List MapEntry}{n:Int}{v:Value}{x:MapEntry}(hx:GO x=Q2 (n,v)){m:List (Int×Value)}(h1:L.map GO=m.map Q2)(h2:tI m n=none):(L++[x]).map GO=(zW m n v).map Q2:=by
 have:zW m n v=m++[(n,v)]:=by
  clear h1
  induction m with
  | nil=>rfl
  | cons p m ih=>
   obtain⟨a,b⟩:=p
   rw[tI] at h2
   split at h2
   ·cases h2
   ·next e=>
    rw[zW,if_neg e,ih (by simpa using h2)]
    rfl
 rw[this,List.map_append,List.map_append,h1]
 simp[hx]
theorem T9(M:xL h g m)(X:Ext hb h)(hg:hb.size≤g)(ht:P.underlying t=some (.map k e))(hk:P.underlying k=some (.int .i64))(n:Int)(v:Value)(H:∀q h',Ext hb h'->xL h' g (zW m n v)->(∀i,i≠g->h'[i]? = h[i]?)->K q h'):jt P (do Instr.mapUpdate t (.map (some g)) (.int .i64 n) v;pure .skip) K h:=by
 obtain⟨es,c,e1,e2⟩:=M
 have qR:g<h.size:=(Array.getElem?_eq_some_iff.1 e1).1
 refine DM λw hw=>?_
 have hbb:w.heap[g]? = some (.map es c):=by rw[hw];exact e1
 have hf:=tG n 0 e2
 have hc:=MapKept.run_checkKey (P:=P) (w:=w) (k:=.int .i64 n) hk (by exact rfl) false 9999
 have key:∀o:Obj,Ext hb (h.setIfInBounds g o):=λo=>⟨by rw[Array.size_setIfInBounds];exact X.1,λi hi=>by rw[Array.getElem?_setIfInBounds,if_neg (by omega)];exact X.2 i hi⟩
 have other:∀(o:Obj) i,i≠g->(h.setIfInBounds g o)[i]? = h[i]?:=λo i hi=>by rw[Array.getElem?_setIfInBounds,if_neg (λe=>hi e.symm)]
 have self:∀o:Obj,(h.setIfInBounds g o)[g]? = some o:=λo=>by rw[Array.getElem?_setIfInBounds,if_pos rfl,if_pos qR]
 cases hi:tI m n with
 | none=>
  refine⟨{ w with heap:=w.heap.setIfInBounds g (.map (es.push { key:=.int .i64 n,val:=v,born:=c }) (c+1)) },?_,⟨rfl,rfl,rfl⟩,?_⟩
  ·rw[hi] at hf
   simp only[Instr.mapUpdate,Sem.run_bind,run_underlying ht,Result.andThen_ok,MapKept.run_getObj_map hbb,Sem.run_pure]
   rw[show(10000:Nat)=9999+1 from rfl,hc]
   simp only[Result.andThen_ok]
   rw[MapKept.run_findKey hk hf]
   simp[MapKept.run_setObj_map _ hbb,Result.andThen]
  ·simp only[hw]
   exact H _ _ (key _) ⟨_,_,self _,by rw[Array.toList_push];exact V9 rfl e2 hi⟩ (other _)
 | some p=>
  obtain⟨j,u⟩:=p
  obtain⟨k1,k2⟩:=Oc (v:=v) e2 hi
  refine⟨{ w with heap:=w.heap.setIfInBounds g (.map (es.modify j λx=>{ x with key:=.int .i64 n,val:=v }) c) },?_,⟨rfl,rfl,rfl⟩,?_⟩
  ·rw[hi] at hf
   simp only[Instr.mapUpdate,Sem.run_bind,run_underlying ht,Result.andThen_ok,MapKept.run_getObj_map hbb,Sem.run_pure]
   rw[show(10000:Nat)=9999+1 from rfl,hc]
   simp only[Result.andThen_ok]
   rw[MapKept.run_findKey hk hf]
   have hj:(es[j]?.map (·.key)).getD (.int .i64 n) = .int .i64 n:=by
    rw[Array.getElem?_toList] at k2
    rw[k2];rfl
   simp only[Option.map_some,Nat.zero_add,Sem.run_bind,Result.andThen_ok]
   rw[hj,MapKept.run_keyThatStays (d:=.int .i64) (k:=.int .i64 n) (show IsKey (.int .i64) (.int .i64 n) from rfl)]
   simp[MapKept.run_setObj_map _ hbb,Result.andThen]
  ·simp only[hw]
   exact H _ _ (key _) ⟨_,_,self _,by rw[Array.toList_modify];exact k1⟩ (other _)
theorem SU{ty:TypeId}(M:xL h g m)(ht:P.underlying t=some (.map k e))(H:K (.int .i64 (m.length:Int)) h):gC P (Builtin.len_ #[t] ty #[.map (some g)]) K h:=by
 obtain⟨es,c,e1,e2⟩:=M
 have hl:es.size=m.length:=by have:=congrArg List.length e2;simpa using this
 refine RP λw hw=>⟨.int .i64 (m.length:Int),w,?_,hZ.refl _,by rw[hw];exact H⟩
 have hbb:w.heap[g]? = some (.map es c):=by rw[hw];exact e1
 simp[Builtin.len_,run_underlying ht,MapKept.run_getObj_map hbb,Result.andThen,goInt,hl]
end
end Go.Sx
