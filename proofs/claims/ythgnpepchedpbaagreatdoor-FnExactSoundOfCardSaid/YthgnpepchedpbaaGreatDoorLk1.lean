/- Lemmas. -/
import Derived.Test.YthgnpepchedpbaaGreatDoorLk0b
import Derived.Test.YthgnpepchedpbaaGreatDoorTabE
import Derived.Test.YthgnpepchedpbaaGreatDoorK1
set_option linter.unusedVariables false
set_option linter.unusedSimpArgs false
namespace Go.Sx
open Go.Proofs
set_option maxRecDepth 100000
theorem cu:(maxLen:Nat)<9223372036854775808:=by decide
theorem Ft{r:aY}{l:Nat}(hl:r.ae.length=l):r.ok=(inR (l:Int) 1 1024&&inR r.At 0 ((l:Int)-1)):=by simp[aY.ok,aY.len,hl]
theorem JM{h:ab}{q:Addr}{r:aY}(R:RdP bQ h q r):af ak 266 #[.pointer (some q)] (λu h'=>u = .bool r.ok∧Ext h h') h:=by
 refine wy.call (R.oL1 λb l c S=>?_)
 have hm:=S.2.1
 have Fi:=S.2.2.1
 have:=cu
 rw[wrap64 (n:=(l:Int)-1) (by omega) (by omega)]
 refine(kQ _ _ _).go λh1 x1=>bt (br (λhb=>?_) λhb=>⟨by rw[Ft S.len,hb];rfl,x1⟩)
 refine(R.ext x1).oI ?_
 exact(kQ _ _ _).go λh2 x2=>bt ⟨by rw[Ft S.len,hb];rfl,x1.trans x2⟩
theorem MC{h:ab}{cs:Array Value}{r:aY}(R:bQ.rd h cs.toList r):af ak 217 #[.agg cs] (λu h'=>u = .bool r.ok∧Ext h h') h:=by
 refine sF.call (gD R λg h1 x1 R1=>R1.oL2 λb l c S=>?_)
 have hm:=S.2.1
 have Fi:=S.2.2.1
 have:=cu
 refine(iK _ _ _).go λh2 x2=>cN ((js _ _ _).go λh3 x3=>bt ?_)
 have R3:=R1.ext (x2.trans x3)
 refine br (λhb=>?_) λhb=>⟨by rw[Ft S.len,hb];rfl,(x1.trans x2).trans x3⟩
 refine R3.oI2 (R3.oL2 λb' l' c' S'=>?_)
 have VF:=S'.2.1
 have hm4:=S'.2.2.1
 refine(iK _ _ _).go λh4 x4=>cN ?_
 refine(R3.WJ mG).pin rfl x4 ?_
 rw[wrap64 (n:=(l':Int)-1) (by omega) (by omega)]
 refine(js _ _ _).go λh5 x5=>bt ⟨?_,(((x1.trans x2).trans x3).trans x4).trans x5⟩
 rw[Ft S.len,hb,show l'=l by rw[← S.len,← S'.len]];rfl
theorem Ny{h:ab}{b:Option Addr}{l c:Nat}{xs:List Nat}(S:SlR (rF .f32) h b l c xs):af ak 262 #[.slice b l c] (λu h'=>u = .bool (pW xs)∧Ext h h') h:=by
 refine gZ.call ?_
 have Fi:=S.2.2.1
 have VF:=S.2.1
 have:=cu
 have hl:=S.len
 refine loop (λx hh=>∃n:Nat,x=(b,l,c,(n:Int))∧n≤l∧Ext h hh∧∀i,i<n->fin xs[i]! = true) (λx=>(l-x.2.2.2).toNat) ⟨0,rfl,by omega,Ext.refl _,λi hi=>by omega⟩ ?_
 rintro x hh ⟨n,rfl,hn,X,hf⟩
 refine brd (λhc=>?_) λhc=>?_
 ·refine(S.ext X).idx (by decide) (by omega) (by omega) λa Ra=>Ra.oF1 λy hy=>?_
  refine(jm hy).go λh1 x1=>bt (br (λhb=>?_) λhb=>?_)
  ·refine⟨?_,X.trans x1⟩
   rw[pW,lI,all_false (i:=n) (by omega) (by simpa using hb)]
  ·refine⟨⟨n+1,by rw[ag (by omega)],by omega,X.trans x1,λi hi=>?_⟩,by rw[ag (by omega)];show _<_;simp;omega⟩
   by_cases e:i=n
   ·subst e;simpa using hb
   ·exact hf i (by omega)
 ·refine⟨?_,X⟩
  rw[pW,lI,all_true λi hi=>hf i (by omega)]
def jL{α:Type}(p:α->Bool)(l:List α):Int:=if l.any p then(l.findIdx p:Nat) else -1
theorem qZ{α:Type}[Inhabited α]{p:α->Bool}{l:List α}(h:∀i,i<l.length->p l[i]! = false):jL p l = -1:=by
 unfold jL
 rw[if_neg]
 rw[Bool.not_eq_true,List.any_eq_false]
 intro x hx
 obtain⟨i,hi,rfl⟩:=List.mem_iff_getElem.1 hx
 have:=h i hi
 rw[getElem!_pos l i hi] at this
 rw[this];decide
theorem ra{α:Type}[Inhabited α]{p:α->Bool}{l:List α}{n:Nat}(hn:n<l.length)(h:∀i,i<n->p l[i]! = false)(hp:p l[n]! = true):jL p l=n:=by
 unfold jL
 rw[getElem!_pos l n hn] at hp
 rw[if_pos (List.any_eq_true.2 ⟨_,List.getElem_mem hn,hp⟩)]
 congr 1
 rw[List.findIdx_eq hn]
 refine⟨hp,λj hj=>?_⟩
 have:=h j hj
 rw[getElem!_pos l j (by omega)] at this
 simpa using this
theorem E8{α:Type}(p:α->Bool)(l:List α):decide (0≤jL p l)=l.any p:=by
 unfold jL
 split
 ·next h=>rw[h];exact decide_eq_true (by omega)
 ·next h=>rw[Bool.not_eq_true] at h;rw[h];rfl
theorem pE.mono{P:Program}{f:Value}{args:Array Value}{K K':Value->ab->Prop}{h:ab}(hk:∀v h,K v h->K' v h)(H:pE P f args K h):pE P f args K' h:=by
 unfold pE at H ⊢
 split at H
 ·exact af.mono hk H
 ·exact jt.mono hk H
theorem pz:0<bQ.sz:=by decide
theorem Qq{h:ab}{b:Option Addr}{l c:Nat}{rs:List aY}(S:SlR bQ h b l c rs):af ak 260 #[.slice b l c] (λu h'=>u = .bool (rs.all aY.okf)∧Ext h h') h:=by
 refine fP.call ?_
 have Fi:=S.2.2.1
 have VF:=S.2.1
 have:=cu
 have hl:=S.len
 refine loop (λx hh=>∃n:Nat,x=(b,l,c,(n:Int))∧n≤l∧Ext h hh∧∀i,i<n->rs[i]!.okf=true) (λx=>(l-x.2.2.2).toNat) ⟨0,rfl,by omega,Ext.refl _,λi hi=>by omega⟩ ?_
 rintro x hh ⟨n,rfl,hn,X,hf⟩
 refine brd (λhc=>?_) λhc=>?_
 ·refine(S.ext X).idx pz (by omega) (by omega) λa Ra=>?_
  refine(JM Ra).mono λu h1 ⟨e,x1⟩=>?_
  subst e
  have X1:=X.trans x1
  refine bt (br (λhb=>?_) λhb=>?_)
  ·refine⟨?_,X1⟩
   rw[lI,all_false (i:=n) (by omega)]
   show(rs[n]!.ok&&_)=false
   rw[show rs[n]!.ok=false by simpa using hb];rfl
  refine(S.ext X1).idx pz (by omega) (by omega) λa Ra=>Ra.oL1 λb' l' c' S'=>?_
  refine(Ny S').mono λu h2 ⟨e,x2⟩=>?_
  subst e
  refine bt (br (λU9=>?_) λU9=>?_)
  ·refine⟨?_,X1.trans x2⟩
   rw[lI,all_false (i:=n) (by omega)]
   show(rs[n]!.ok&&pW rs[n]!.ae)=false
   rw[show pW rs[n]!.ae=false by simpa using U9,Bool.and_false]
  ·refine⟨⟨n+1,by rw[ag (by omega)],by omega,X1.trans x2,λi hi=>?_⟩,by rw[ag (by omega)];show _<_;simp;omega⟩
   by_cases e:i=n
   ·subst e
    show(rs[i]!.ok&&pW rs[i]!.ae)=true
    rw[show rs[i]!.ok=true by simpa using hb,show pW rs[i]!.ae=true by simpa using U9];rfl
   ·exact hf i (by omega)
 ·refine⟨?_,X⟩
  rw[lI,all_true λi hi=>hf i (by omega)]
end Go.Sx
