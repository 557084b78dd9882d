/- Lemmas. -/
import Derived.Test.YthhepeklpgefkaaGreatDoorLp4
import Derived.Test.YthhepeklpgefkaaGreatDoorTabE
import Derived.Test.YthhepeklpgefkaaGreatDoorK1
set_option linter.unusedVariables false
set_option linter.unusedSimpArgs false
namespace Go.Sx
open Go.Proofs
set_option maxRecDepth 100000
theorem bW:(maxLen:Nat)<9223372036854775808:=by decide
theorem Ls{r:bc}{l:Nat}(hl:r.af.length=l):r.ok=(inR (l:Int) 1 1024&&inR r.At 0 ((l:Int)-1)):=by simp[bc.ok,bc.len,hl]
theorem Qk{h:ab}{q:Addr}{r:bc}(R:RdP bo h q r):ae ai sH #[.pointer (some q)] (λu h'=>u = .bool r.ok∧Ext h h') h:=by
 refine CF.call (R.oL1 λb l c S=>?_)
 have hm:=S.2.1
 have K7:=S.2.2.1
 have:=bW
 rw[wrap64 (n:=(l:Int)-1) (by omega) (by omega)]
 refine (mg _ _ _).go λh1 x1=>bd (br (λhb=>?_) λhb=>⟨by rw[Ls S.len,hb];rfl,x1⟩)
 refine (R.ext x1).oI ?_
 exact (mg _ _ _).go λh2 x2=>bd ⟨by rw[Ls S.len,hb];rfl,x1.trans x2⟩
theorem JT{h:ab}{cs:Array Value}{r:bc}(R:bo.rd h cs.toList r):ae ai ph #[.agg cs] (λu h'=>u = .bool r.ok∧Ext h h') h:=by
 refine yd.call (fj R λg h1 x1 R1=>R1.oL2 λb l c S=>?_)
 have hm:=S.2.1
 have K7:=S.2.2.1
 have:=bW
 refine (kN _ _ _).go λh2 x2=>cX ((kJ _ _ _).go λh3 x3=>bd ?_)
 have R3:=R1.ext (x2.trans x3)
 refine br (λhb=>?_) λhb=>⟨by rw[Ls S.len,hb];rfl,(x1.trans x2).trans x3⟩
 refine R3.oI2 (R3.oL2 λb' l' c' S'=>?_)
 have Ze:=S'.2.1
 have hm4:=S'.2.2.1
 refine (kN _ _ _).go λh4 x4=>cX ?_
 refine (R3.Sj rv).pin rfl x4 ?_
 rw[wrap64 (n:=(l':Int)-1) (by omega) (by omega)]
 refine (kJ _ _ _).go λh5 x5=>bd ⟨?_,(((x1.trans x2).trans x3).trans x4).trans x5⟩
 rw[Ls S.len,hb,show l'=l by rw[← S.len,← S'.len]];rfl
theorem Mt{h:ab}{b:Option Addr}{l c:Nat}{xs:List Nat}(S:SlR (rF .f32) h b l c xs):ae ai pZ #[.slice b l c] (λu h'=>u = .bool (oq xs)∧Ext h h') h:=by
 refine jA.call ?_
 have K7:=S.2.2.1
 have Ze:=S.2.1
 have:=bW
 have hl:=S.len
 refine loop (λx hh=>∃n:Nat,x=(b,l,c,(n:Int))∧n≤l∧Ext h hh∧∀i,i<n->fin xs[i]! = true) (λx=>(l-x.2.2.2).toNat) ⟨0,rfl,by omega,Ext.refl _,λi hi=>by omega⟩ ?_
 rintro x hh ⟨n,rfl,hn,X,hf⟩
 refine brd (λhc=>?_) λhc=>?_
 ·refine (S.ext X).idx (by decide) (by omega) (by omega) λa Ra=>Ra.oF1 λy hy=>?_
  refine (kX hy).go λh1 x1=>bd (br (λhb=>?_) λhb=>?_)
  ·refine ⟨?_,X.trans x1⟩
   rw[oq,jI,all_false (i:=n) (by omega) (by simpa using hb)]
  ·refine ⟨⟨n+1,by rw[ag (by omega)],by omega,X.trans x1,λi hi=>?_⟩,by rw[ag (by omega)];show _<_;simp;omega⟩
   by_cases e:i=n
   ·subst e;simpa using hb
   ·exact hf i (by omega)
 ·refine ⟨?_,X⟩
  rw[oq,jI,all_true λi hi=>hf i (by omega)]
def ko{α:Type}(p:α->Bool)(l:List α):Int:=if l.any p then (l.findIdx p:Nat) else -1
theorem pr{α:Type}[Inhabited α]{p:α->Bool}{l:List α}(h:∀i,i<l.length->p l[i]! = false):ko p l = -1:=by
 unfold ko
 rw[if_neg]
 rw[Bool.not_eq_true,List.any_eq_false]
 intro x hx
 obtain⟨i,hi,rfl⟩:=List.mem_iff_getElem.1 hx
 have:=h i hi
 rw[getElem!_pos l i hi] at this
 rw[this];decide
theorem pv{α:Type}[Inhabited α]{p:α->Bool}{l:List α}{n:Nat}(hn:n<l.length)(h:∀i,i<n->p l[i]! = false)(hp:p l[n]! = true):ko p l=n:=by
 unfold ko
 rw[getElem!_pos l n hn] at hp
 rw[if_pos (List.any_eq_true.2 ⟨_,List.getElem_mem hn,hp⟩)]
 congr 1
 rw[List.findIdx_eq hn]
 refine ⟨hp,λj hj=>?_⟩
 have:=h j hj
 rw[getElem!_pos l j (by omega)] at this
 simpa using this
theorem DD{α:Type}(p:α->Bool)(l:List α):decide (0≤ko p l)=l.any p:=by
 unfold ko
 split
 ·next h=>rw[h];exact decide_eq_true (by omega)
 ·next h=>rw[Bool.not_eq_true] at h;rw[h];rfl
def YL(P:Program)(f:Value)(p:Nat->Bool):Prop:=∀x a h,FW .f32 x a->oc P f #[.float .f32 x] (λu h'=>u = .bool (p a)∧Ext h h') h
theorem oc.mono{P:Program}{f:Value}{args:Array Value}{K K':Value->ab->Prop}{h:ab}(hk:∀v h,K v h->K' v h)(H:oc P f args K h):oc P f args K' h:=by
 unfold oc at H ⊢
 split at H
 ·exact ae.mono hk H
 ·exact lK.mono hk H
theorem Kx{h:ab}{b:Option Addr}{l c:Nat}{xs:List Nat}{f:Value}{p:Nat->Bool}(S:SlR (rF .f32) h b l c xs)(T:YL ai f p):
  ae ai ir #[.slice b l c,f] (λu h'=>u = .int .i64 (ko p xs)∧Ext h h') h:=by
 refine bK.call ?_
 have K7:=S.2.2.1
 have Ze:=S.2.1
 have:=bW
 have hl:=S.len
 refine loop (λx hh=>∃n:Nat,x=(b,l,c,f,(l:Int),(n:Int))∧n≤l∧Ext h hh∧∀i,i<n->p xs[i]! = false) (λx=>(l-x.2.2.2.2.2).toNat) ⟨0,rfl,by omega,Ext.refl _,λi hi=>by omega⟩ ?_
 rintro x hh ⟨n,rfl,hn,X,hf⟩
 refine brd (λhc=>?_) λhc=>?_
 ·refine (S.ext X).idx (by decide) (by omega) (by omega) λa Ra=>Ra.oF1 λy hy=>?_
  refine (T _ _ _ hy).mono λu h1 ⟨e,x1⟩=>?_
  subst e
  refine bd (br (λhb=>?_) λhb=>?_)
  ·exact ⟨by rw[pv (by omega) hf (by simpa using hb)],X.trans x1⟩
  ·refine ⟨⟨n+1,by rw[ag (by omega)],by omega,X.trans x1,λi hi=>?_⟩,by rw[ag (by omega)];show _<_;simp;omega⟩
   by_cases e:i=n
   ·subst e;simpa using hb
   ·exact hf i (by omega)
 ·exact ⟨by rw[pr λi hi=>hf i (by omega)],X⟩
theorem xt{h:ab}{b:Option Addr}{l c:Nat}{xs:List Nat}{f:Value}{p:Nat->Bool}(S:SlR (rF .f32) h b l c xs)(T:YL ai f p):
  ae ai eZ #[.slice b l c,f] (λu h'=>u = .bool (xs.any p)∧Ext h h') h:=by
 refine hY.call ((Kx S T).mono λu h1 ⟨e,x1⟩=>?_)
 subst e
 exact cX ⟨by rw[DD],x1⟩
theorem KI:YL ai (.func (.func pH) #[] #[]) λa=>!fin a:=λx a h hx=>by
 show ae ai pH #[.float .f32 x] _ h
 exact sS.call ((nh hx).go λh1 x1=>bd ⟨rfl,x1⟩)
theorem YO{α:Type}(p:α->Bool)(l:List α):(!l.any λa=>!p a)=l.all p:=by
 induction l with
 | nil=>rfl
 | cons a l ih=>simp only[List.any_cons,List.all_cons,Bool.not_or,Bool.not_not];rw[ih]
theorem Dv{h:ab}{b:Option Addr}{l c:Nat}{xs:List Nat}(S:SlR (rF .f32) h b l c xs):ae ai ml #[.slice b l c] (λu h'=>u = .bool (oq xs)∧Ext h h') h:=by
 refine ye.call ((xt S KI).mono λu h1 ⟨e,x1⟩=>?_)
 subst e
 exact bd ⟨by rw[YO];rfl,x1⟩
theorem HS{h:ab}{cs:Array Value}{r:bc}(R:bo.rd h cs.toList r):ae ai nM #[.agg cs] (λu h'=>u = .bool r.okf∧Ext h h') h:=by
 refine DS.call (fj R λg h1 x1 R1=>R1.gi rfl λFQ Rc=>?_)
 refine (JT Rc).mono λu h2 ⟨e,x2⟩=>?_
 subst e
 refine bd (br (λhb=>?_) λhb=>⟨by rw[bc.okf,hb];rfl,x1.trans x2⟩)
 refine (R1.ext x2).oL2 λb l c S=>(Dv S).mono λu h3 ⟨e,x3⟩=>?_
 subst e
 exact bd ⟨by rw[bc.okf,hb];rfl,(x1.trans x2).trans x3⟩
theorem lV:0<bo.sz:=by decide
theorem GK{h:ab}{b:Option Addr}{l c:Nat}{rs:List bc}(S:SlR bo h b l c rs):ae ai nC #[.slice b l c] (λu h'=>u = .bool (rs.all bc.okf)∧Ext h h') h:=by
 refine ik.call ?_
 have K7:=S.2.2.1
 have Ze:=S.2.1
 have:=bW
 have hl:=S.len
 refine loop (λx hh=>∃n:Nat,x=(b,l,c,(n:Int))∧n≤l∧Ext h hh∧∀i,i<n->rs[i]!.okf=true) (λx=>(l-x.2.2.2).toNat) ⟨0,rfl,by omega,Ext.refl _,λi hi=>by omega⟩ ?_
 rintro x hh ⟨n,rfl,hn,X,hf⟩
 refine brd (λhc=>?_) λhc=>?_
 ·refine (S.ext X).idx lV (by omega) (by omega) λa Ra=>?_
  refine (Qk Ra).mono λu h1 ⟨e,x1⟩=>?_
  subst e
  have X1:=X.trans x1
  refine bd (br (λhb=>?_) λhb=>?_)
  ·refine ⟨?_,X1⟩
   rw[jI,all_false (i:=n) (by omega)]
   show (rs[n]!.ok&&_)=false
   rw[show rs[n]!.ok=false by simpa using hb];rfl
  refine (S.ext X1).idx lV (by omega) (by omega) λa Ra=>Ra.oL1 λb' l' c' S'=>?_
  refine (Mt S').mono λu h2 ⟨e,x2⟩=>?_
  subst e
  refine bd (br (λPg=>?_) λPg=>?_)
  ·refine ⟨?_,X1.trans x2⟩
   rw[jI,all_false (i:=n) (by omega)]
   show (rs[n]!.ok&&oq rs[n]!.af)=false
   rw[show oq rs[n]!.af=false by simpa using Pg,Bool.and_false]
  ·refine ⟨⟨n+1,by rw[ag (by omega)],by omega,X1.trans x2,λi hi=>?_⟩,by rw[ag (by omega)];show _<_;simp;omega⟩
   by_cases e:i=n
   ·subst e
    show (rs[i]!.ok&&oq rs[i]!.af)=true
    rw[show rs[i]!.ok=true by simpa using hb,show oq rs[i]!.af=true by simpa using Pg];rfl
   ·exact hf i (by omega)
 ·refine ⟨?_,X⟩
  rw[jI,all_true λi hi=>hf i (by omega)]
end Go.Sx
