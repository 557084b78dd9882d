/- Lemmas. -/
import Derived.Test.YthgnpepchedpbaaGreatDoorLk4
import Derived.Test.YthgnpepchedpbaaGreatDoorLk35
import Derived.Test.YthgnpepchedpbaaGreatDoorTab
set_option linter.unusedVariables false
set_option linter.unusedSimpArgs false
namespace Go.Sx
open FloatKind (f32 f64)
open IntKind (i64)
open Go.Proofs
set_option maxRecDepth 100000
def cf(xs:List Nat):Nat:=xs.length
def CL(left w:Nat):Int:=if left<w then -1 else((left-w:Nat):Int)
theorem Ho{left w:Nat}{p q:Prop}(ht:left<w->p)(hf:w≤left->q):BIF (decide (CL left w<0)) p q:=by
 refine brd (λh=>ht ?_) λh=>hf ?_
 ·unfold CL at h;split at h <;> omega
 ·unfold CL at h;split at h <;> omega
theorem nO{left w:Nat}(h:left<w):CL left w = -1:=by unfold CL;rw[if_pos h]
theorem ly{left w:Nat}(h:w≤left):CL left w=((left-w:Nat):Int):=by unfold CL;rw[if_neg (by omega)]
theorem abz{o:Option Nat}{r1 r2:Nat}(h1:IsF .f64 o r1)(h2:IsF .f64 o r2):(f64.format.order r1 0==some .gt)=(f64.format.order r2 0==some .gt):=by
 cases o with
 | some v=>rw[show r1=v from h1,show r2=v from h2]
 | none=>rw[nE (m4 (k:=.f64) h1),nE (m4 (k:=.f64) h2)]
theorem OI{a b:Nat}(hab:cn .f64 a=cn .f64 b):Ret ak 37 #[.float .f64 a,.float .f64 b] (.bool true):=λh=>by
 obtain⟨hn,he⟩:=KQ hab
 refine cI.call ?_
 unfold cI.S
 simp only[ne_self]
 cases VI:nan .f64 a with
 | true=>exact vu rfl (vu rfl ⟨by rw[← hn,VI],Ext.refl _⟩)
 | false=>
  obtain rfl:=he VI
  refine cM rfl (cM VI ?_)
  unfold cI.J3
  have hoo:f64.format.order a a=some .eq:=by rw[wa,VI];rfl
  refine br (λhz=>?_) λhz=>?_
  ·unfold cI.J4
   rw[hz]
   exact vu rfl λr1 h1 r2 h2=>⟨by rw[abz h1 h2];simp,Ext.refl _⟩
  ·unfold cI.J4
   exact cM rfl ⟨by rw[hoo];rfl,Ext.refl _⟩
theorem iA{a b c:Nat}(ha:FW .f64 a (wid c))(hb:FW .f64 b (wid c)):Ret ak 37 #[.float .f64 a,.float .f64 b] (.bool true):=OI (by rw[ha.1,hb.1])
section
variable {h:ab}
theorem Jc{b:Option Addr}{l c:Nat}{xs:List Nat}(S:SlR (rF .f32) h b l c xs)(left:Nat)(hl:left≤1048576):af ak 72 #[.slice b l c,.int .i64 (left:Int)] (λu h'=>u = .int .i64 (CL left (cf xs))∧Ext h h') h:=by
 have h1:cf xs=l:=S.len
 have h2:=S.2.1
 have h3:=S.2.2.1
 have:=cu
 refine mf.call ?_
 unfold mf.S
 rw[wrap64 (n:=(left:Int)-(l:Int)) (by omega) (by omega),h1]
 refine brd (λhc=>⟨by rw[nO (by omega)],Ext.refl _⟩) λhc=>⟨by rw[ly (by omega)];congr 1;omega,Ext.refl _⟩
theorem Jo{b:Option Addr}{l c:Nat}{xs:List Nat}(S:SlR (rF .f32) h b l c xs)(hl0:cf xs≤1048576):af ak 78 #[.slice b l c] (λu h'=>∃b' c' B,u = .slice b' l c'∧SlO 22 (rF .f32) B b' l c' xs∧Mem h h' B) h:=by
 have hxl:=S.len
 have hl:l≤1048576:=by unfold cf at hl0;omega
 refine eL.call (Ei (Mem.start h) hl λg h1 x1 M0 O0=>?_)
 refine loop (λx hh=>∃(n:Nat) (B:List Blk),x=(b,l,c,some ⟨g,0,none⟩,l,l,(n:Int))∧n≤l∧SlO 22 (rF .f32) B (some ⟨g,0,none⟩) l l (xs.take n++List.replicate (l-n) 0)∧Mem h hh (B++[])) (λx=>(l-x.2.2.2.2.2.2).toNat) ⟨0,_,rfl,by omega,O0,M0⟩ ?_
 rintro x hh ⟨n,B,rfl,hn,O,M⟩
 refine brd (λhc=>?_) λhc=>?_
 ·refine(S.ext M.ext).idx (by decide) (by omega) (by omega) λa Ra=>Ra.oF1 λy hy=>?_
  obtain⟨a0,F',L',e,P,hs,close⟩:=O.elem M (i:=n) (by omega)
  cases e
  refine idxs (by omega) (by omega) (P.Vj hy λh' P'=>?_)
  obtain⟨B',O',M'⟩:=close _ _ _ P'
  rw[ag (by omega)]
  refine⟨⟨n+1,B',rfl,by omega,?_,M'⟩,by show _<_;simp;omega⟩
  have e:(xs.take n++List.replicate (l-n) 0).set n xs[n]! = xs.take (n+1)++List.replicate (l-(n+1)) 0:=by rw[getElem!_pos xs n (by omega)];exact Db hxl (by omega)
  rw[Int.toNat_natCast,e] at O'
  exact O'
 ·obtain rfl:n=l:=by omega
  rw[show xs.take n++List.replicate (n-n) 0=xs by rw[← hxl];simp] at O
  rw[List.append_nil] at M
  exact⟨_,_,B,rfl,O,M⟩
theorem tW{b1 b2:Option Addr}{l1 c1 l2 c2:Nat}{xs:List Nat}(S1:SlR (rF .f32) h b1 l1 c1 xs)(S2:SlR (rF .f32) h b2 l2 c2 xs):af ak 11 #[.slice b1 l1 c1,.slice b2 l2 c2] (λu h'=>u = .bool true∧Ext h h') h:=by
 have e1:=S1.len
 have e2:=S2.len
 have h2:=S1.2.1
 have h3:=S1.2.2.1
 have:=cu
 obtain rfl:l1=l2:=by omega
 refine eI.call (cM (by simp) ?_)
 refine loop (λx hh=>∃n:Nat,x=(b1,l1,c1,b2,l1,c2,(n:Int))∧n≤l1∧Ext h hh) (λx=>(l1-x.2.2.2.2.2.2).toNat) ⟨0,rfl,by omega,Ext.refl _⟩ ?_
 rintro x hh ⟨n,rfl,hn,X⟩
 refine brd (λhc=>?_) λhc=>⟨rfl,X⟩
 refine(S1.ext X).idx (by decide) (by omega) (by omega) λa Ra=>Ra.oF1 λy hy=>(S2.ext X).idx (by decide) (by omega) (by omega) λa' Rb=>Rb.oF1 λz hz=>?_
 have fin:∀{h'},Ext hh h'->(∃n_1:Nat,((b1,l1,c1,b2,l1,c2,i64.wrap ((n:Int)+1)):Option Addr×Nat×Nat×Option Addr×Nat×Nat×Int)=(b1,l1,c1,b2,l1,c2,(n_1:Int))∧n_1≤l1∧Ext h h')∧((l1:Int)-i64.wrap ((n:Int)+1)).toNat<((l1:Int)-(n:Int)).toNat:=by
  intro h' x'
  rw[ag (by omega)]
  exact⟨⟨n+1,rfl,by omega,X.trans x'⟩,by omega⟩
 exact⟨cg hy λr1 k1=>dT (cg hz λr2 k2=>dT (goX (iA k1 k2 _) λh' x'=>bt (cM rfl (fin x')))),
  cg hz λr1 k1=>dT (cg hy λr2 k2=>dT (goX (iA k2 k1 _) λh' x'=>bt (cM rfl (fin x'))))⟩
def eu(xs:List Nat)(k:Nat):List Nat:=(List.range xs.length).map λi=>f32.nearest ((k+i:Nat):Int)
def ao(xs:List Nat):Nat:=xs.length
theorem abT{xs:List Nat}{k i:Nat}(hi:i<xs.length):(eu xs k)[i]! = f32.nearest ((k+i:Nat):Int):=by
 rw[getElem!_pos _ i (by simpa [eu] using hi)]
 simp[eu]
theorem je{h0:ab}{B L:List Blk}{b:Option Addr}{l c:Nat}{xs:List Nat}(O:SlO 22 (rF .f32) B b l c xs)(M:Mem h0 h (B++L))(k:Nat)(hl:cf xs≤1048576)(hk:k+ao xs≤1073741824):
  af ak 14 #[.slice b l c,.int .i64 (k:Int)] (λu h'=>u = .int .i64 ((k+ao xs:Nat):Int)∧∃B',SlO 22 (rF .f32) B' b l c (eu xs k)∧Mem h0 h' (B'++L)) h:=by
 have h1:=O.len
 unfold cf at hl
 unfold ao at hk
 refine dO.call ?_
 refine loop (λx hh=>∃(n:Nat) (B:List Blk) (ys:List Nat),x=(b,l,c,((k+n:Nat):Int),(n:Int))∧n≤l∧SlO 22 (rF .f32) B b l c ys∧Mem h0 hh (B++L)∧∀i,i<n->ys[i]! = f32.nearest ((k+i:Nat):Int)) (λx=>(l-x.2.2.2.2).toNat) ⟨0,B,xs,rfl,by omega,O,M,λi hi=>by omega⟩ ?_
 rintro x hh ⟨n,B,ys,rfl,hn,O,M,hy⟩
 have h2:=O.len
 refine brd (λhc=>?_) λhc=>?_
 ·obtain⟨a0,F',L',rfl,P,hs,close⟩:=O.elem M (i:=n) (by omega)
  refine idxs (by omega) (by omega) (P.Vj (cK _ _) λh' P'=>?_)
  obtain⟨B',O',M'⟩:=close _ _ _ P'
  rw[ag (by omega),ag (by omega)]
  refine⟨⟨n+1,B',_,rfl,by omega,O',M',λi hi=>?_⟩,by show _<_;simp;omega⟩
  by_cases e:i=n
  ·subst e;rw[getElem!_pos _ i (by simpa using by omega),List.getElem_set_self]
  ·have:=hy i (by omega)
   rw[getElem!_pos _ i (by omega)] at this
   rw[getElem!_pos _ i (by simpa using by omega),List.getElem_set_ne (by omega)]
   exact this
 ·obtain rfl:n=l:=by omega
  refine⟨by rw[ao,h1],B,?_,M⟩
  have:ys=eu xs k:=by
   apply List.ext_getElem
   ·simp[eu];omega
   ·intro i hi hi2
    have:=hy i (by omega)
    rw[getElem!_pos _ i hi] at this
    rw[this];simp[eu]
  rw[← this];exact O
theorem jd{b:Option Addr}{l c:Nat}{xs:List Nat}(k:Nat)(S:SlR (rF .f32) h b l c (eu xs k))(hl:cf xs≤1048576)(hk:k+ao xs≤1073741824):
  af ak 15 #[.slice b l c,.int .i64 (k:Int)] (λu h'=>u = .int .i64 ((k+ao xs:Nat):Int)∧Ext h h') h:=by
 have h1:xs.length=l:=by have:=S.len;simpa [eu] using this
 unfold cf at hl
 unfold ao at hk
 refine dN.call ?_
 refine loop (λx hh=>∃n:Nat,x=(b,l,c,((k+n:Nat):Int),(n:Int))∧n≤l∧hh=h) (λx=>(l-x.2.2.2.2).toNat) ⟨0,rfl,by omega,rfl⟩ ?_
 rintro x hh ⟨n,rfl,hn,rfl⟩
 refine brd (λhc=>?_) λhc=>?_
 ·refine S.idx (by decide) (by omega) (by omega) λa Ra=>Ra.oF1 λy hy=>?_
  rw[Int.toNat_natCast,abT (by omega)] at hy
  have e:y=f32.nearest ((k+n:Nat):Int):=hy.eq (dp _ _)
  subst e
  refine cM (sN (dp _ _)) ?_
  rw[ag (by omega),ag (by omega)]
  exact⟨⟨n+1,rfl,by omega,rfl⟩,by show _<_;simp;omega⟩
 ·obtain rfl:n=l:=by omega
  exact⟨by rw[ao,h1],Ext.refl _⟩
end
theorem fk.go{α:Type}{r:Rep α}{P:Program}{f:FuncId}{args:Array Value}{a:α}{code:Int}{hb h:ab}{L:List Blk}{K:Value->ab->Prop}(M:Mem hb h L)(c:af P f args (λu h'=>fk r h h' u a code) h)(H:∀h' cs B,Mem hb h' (B++L)->r.ow B cs.toList a->cs.size=r.sz->K (.tuple ⟨[.agg cs,.int .i64 code]⟩) h'):af P f args K h:=
 c.mono λu h' ⟨cs,B,e,O,N⟩=>by subst e;exact H h' cs B (M.join N) O (by simpa using r.jX O)
theorem ae5{α:Type}{r:Rep α}{P:Program}{f:FuncId}{args:Array Value}{b:α}{v:Value}{hb h:ab}{L:List Blk}{cs:Array Value}{K:Value->ab->Prop}(c:af P f args (λu h'=>u=v∧∃B',r.ow B' cs.toList b∧Mem hb h' (B'++L)) h)(H:∀h' B',Mem hb h' (B'++L)->r.ow B' cs.toList b->K v h'):af P f args K h:=
 c.mono λu h' ⟨e,B',O,N⟩=>by subst e;exact H h' B' N O
theorem eqB{a:Int}{p q:Prop}(H:q):BIF (a != a) p q:=by
 rw[show(a != a)=false by simp];exact H
theorem KP{b:Bool}{p q:Prop}(hb:b=true)(H:q):BIF (!b) p q:=by
 subst hb;exact H
theorem WQ{a:Int}{p q:Prop}(h:0≤a)(H:q):BIF (decide (a<0)) p q:=by
 rw[show decide (a<0)=false by simp;omega];exact H
theorem awL{α:Type}{e:Nat}{r:Rep α}{P:Program}{f:FuncId}{args:Array Value}{xs:List α}{v:Value}{hb h:ab}{L:List Blk}{b:Option Addr}{l c:Nat}{K:Value->ab->Prop}(k:af P f args (λu h'=>u=v∧∃B',SlO e r B' b l c xs∧Mem hb h' (B'++L)) h)(H:∀h' B',Mem hb h' (B'++L)->SlO e r B' b l c xs->K v h'):af P f args K h:=
 k.mono λu h' ⟨e,B',O,N⟩=>by subst e;exact H h' B' N O
theorem aui{left w:Nat}(h:decide (CL left w<0)=false):w≤left:=by
 unfold CL at h
 split at h
 ·simp at h
 ·omega
def eQ.B7(aa:VH)(b:(Int×Addr×Addr×Int)->ab->Prop):Int×Addr×Addr×Int->ab->Prop |(fx,t4,p_6,k_7),h=> BIF (decide (k_7<fx)) (oL (cell h (p_6.add 6)) λabC XR abD=> af ak 66 #[] (λGZ nR=> asA GZ λa=> PIN h (p_6.add 6) 1 nR <|SIZ (Array.size a) 45 <|ALC ⟨(eE 0 45 a [.int .i64 0,.int .i64 0,.int .i64 0,.bool false,.float .f32 0,.slice none 0 0,.int .i64 0,.int .i64 0,.float .f32 0,.float .f32 0,.float .f32 0,.float .f32 0,.float .f32 0,.int .i64 0,.float .f32 0,.float .f32 0,.float .f32 0,.float .f32 0,.float .f32 0,.float .f32 0,.slice none 0 0,.slice none 0 0,.slice none 0 0,.int .i64 0,.float .f32 0,.float .f32 0,.float .f32 0,.float .f32 0,.float .f32 0,.bool false,.float .f32 0,.float .f32 0,.float .f32 0,.slice none 0 0,.int .i64 0,.slice none 0 0,.int .i64 0,.int .i64 0,.float .f32 0,.float .f32 0,.float .f32 0,.float .f32 0,.float .f32 0,.float .f32 0,.float .f32 0])⟩ 122 (λc vD=> PIN h (p_6.add 6) 1 vD <|gC ak (Builtin.append_ #[49,49] 49 #[.slice abC XR abD,.slice (some ⟨c,0,none⟩) 1 1]) (λOA sW=> asL OA λajS afv ajT=> ST1 sW (p_6.add 6) (.slice ajS afv ajT) λMm=> b (fx,t4,p_6,((i64.wrap (k_7+1)))) Mm) vD) nR) h) (LDA 10 h p_6 λd=> STA 10 h t4 d λGg=> LDA 10 Gg t4 λe=> aa (.tuple ⟨[.agg e,.int .i64 0]⟩) Gg)
def eQ.g7(fr:Frame):Int×Addr×Addr×Int:=((gI (ah fr 1)),(gP (ah fr 4)),(gP (ah fr 6)),(gI (ah fr 7)))
def eQ.l7(aa:VH):=gg (kds 29 [(1,.i .i64),(4,.p),(6,.p),(7,.i .i64)]) λfr=>bk (eQ.B7 aa) (eQ.g7 fr)
def eQ.S(s_0:Array Value)(fx:Int)(aa:VH)(h:ab):=ALC s_0 39 (λb f=> ALC ⟨bm⟩ 51 (λa g=> af ak 64 #[.pointer (some ⟨b,0,none⟩)] (λi c=> asB i λj=> BIF (!j) (STA 10 c ⟨a,0,none⟩ ⟨[.float .f32 0,.float .f32 0,.float .f32 0,.slice none 0 0,.slice none 0 0,.slice none 0 0,.slice none 0 0,.int .i64 0,.int .i64 0,.int .i64 0]⟩ λd=> LDA 10 d ⟨a,0,none⟩ λk=> aa (.tuple ⟨[.agg k,.int .i64 1]⟩) d) (af ak 41 #[.int .i64 fx,.int .i64 1,.int .i64 6] (λCx me=> asB Cx λKK=> BIF (!KK) (STA 10 me ⟨a,0,none⟩ ⟨[.float .f32 0,.float .f32 0,.float .f32 0,.slice none 0 0,.slice none 0 0,.slice none 0 0,.slice none 0 0,.int .i64 0,.int .i64 0,.int .i64 0]⟩ λhP=> LDA 10 hP ⟨a,0,none⟩ λl=> aa (.tuple ⟨[.agg l,.int .i64 2]⟩) hP) (af ak 65 #[.pointer (some ⟨b,0,none⟩)] (λIV kT=> asA IV λSk=> SIZ (Array.size Sk) 6 <|ALC ⟨bm⟩ 51 (λe ta=> STA 10 ta ⟨e,0,none⟩ ⟨(eE 0 6 Sk [.float .f32 0,.float .f32 0,.float .f32 0,.slice none 0 0,.slice none 0 0,.slice none 0 0,.slice none 0 0,.int .i64 0,.int .i64 0,.int .i64 0])⟩ λjU=> bk (eQ.B7 aa) (fx,⟨a,0,none⟩,⟨e,0,none⟩,0) jU) kT) me)) c)) g) f) h
theorem eQ.call{s_0 fx aa h}(H:eQ.S s_0 fx aa h):af ak 33 #[.agg s_0,.int .i64 fx] aa h:=qc (Λ:=aS [(1000007,eQ.l7 aa)]) Tryz.func33 (qs qf (qs qf (qs qf (qs qf (qs (qs qf (Rq.block (ql (eQ.l7 aa) (qg (g:=eQ.g7) (Λ:=λa=>aS []) (λ_ _ _=>by kernel_rfl) (λa=>qf))))) qf))))) (qe H)
def eN.B7(aa:VH)(b:(Addr×Addr×Int×Int)->ab->Prop):Addr×Addr×Int×Int->ab->Prop |(t4,p_6,t20,t21),h=> BIF (decide (t21<t20)) (oL (cell h (p_6.add 6)) λQB QC UD=> af ak 70 #[] (λRA pw=> asA RA λa=> PIN h (p_6.add 6) 1 pw <|SIZ (Array.size a) 45 <|ALC ⟨(eE 0 45 a [.int .i64 0,.int .i64 0,.int .i64 0,.bool false,.float .f32 0,.slice none 0 0,.int .i64 0,.int .i64 0,.float .f32 0,.float .f32 0,.float .f32 0,.float .f32 0,.float .f32 0,.int .i64 0,.float .f32 0,.float .f32 0,.float .f32 0,.float .f32 0,.float .f32 0,.float .f32 0,.slice none 0 0,.slice none 0 0,.slice none 0 0,.int .i64 0,.float .f32 0,.float .f32 0,.float .f32 0,.float .f32 0,.float .f32 0,.bool false,.float .f32 0,.float .f32 0,.float .f32 0,.slice none 0 0,.int .i64 0,.slice none 0 0,.int .i64 0,.int .i64 0,.float .f32 0,.float .f32 0,.float .f32 0,.float .f32 0,.float .f32 0,.float .f32 0,.float .f32 0])⟩ 122 (λc sW=> PIN h (p_6.add 6) 1 sW <|gC ak (Builtin.append_ #[49,49] 49 #[.slice QB QC UD,.slice (some ⟨c,0,none⟩) 1 1]) (λYV Mm=> asL YV λafx afy ajW=> ST1 Mm (p_6.add 6) (.slice afx afy ajW) λGg=> b (t4,p_6,t20,((i64.wrap (t21+1)))) Gg) sW) pw) h) (LDA 10 h p_6 λd=> STA 10 h t4 d λxl=> LDA 10 xl t4 λTL=> aa (.tuple ⟨[.agg TL,.int .i64 0]⟩) xl)
def eN.g7(fr:Frame):Addr×Addr×Int×Int:=((gP (ah fr 4)),(gP (ah fr 6)),(gI (ah fr 20)),(gI (ah fr 21)))
def eN.l7(aa:VH):=gg (kds 31 [(4,.p),(6,.p),(20,.i .i64),(21,.i .i64)]) λfr=>bk (eN.B7 aa) (eN.g7 fr)
def eN.S(s_0:Array Value)(fx:Int)(aa:VH)(h:ab):=ALC s_0 39 (λb j=> ALC ⟨bm⟩ 51 (λa c=> LDA 6 c ⟨b,0,none⟩ λk=> af ak 67 #[.agg k] (λl d=> asB l λm=> BIF (!m) (STA 10 d ⟨a,0,none⟩ ⟨[.float .f32 0,.float .f32 0,.float .f32 0,.slice none 0 0,.slice none 0 0,.slice none 0 0,.slice none 0 0,.int .i64 0,.int .i64 0,.int .i64 0]⟩ λe=> LDA 10 e ⟨a,0,none⟩ λzO=> aa (.tuple ⟨[.agg zO,.int .i64 1]⟩) e) (af ak 68 #[.int .i64 fx] (λzX jl=> asB zX λPV=> BIF (!PV) (STA 10 jl ⟨a,0,none⟩ ⟨[.float .f32 0,.float .f32 0,.float .f32 0,.slice none 0 0,.slice none 0 0,.slice none 0 0,.slice none 0 0,.int .i64 0,.int .i64 0,.int .i64 0]⟩ λf=> LDA 10 f ⟨a,0,none⟩ λn=> aa (.tuple ⟨[.agg n,.int .i64 2]⟩) f) (LDA 6 jl ⟨b,0,none⟩ λPL=> af ak 69 #[.agg PL] (λDJ jF=> asA DJ λg=> SIZ (Array.size g) 6 <|ALC ⟨bm⟩ 51 (λi vC=> STA 10 vC ⟨i,0,none⟩ ⟨(eE 0 6 g [.float .f32 0,.float .f32 0,.float .f32 0,.slice none 0 0,.slice none 0 0,.slice none 0 0,.slice none 0 0,.int .i64 0,.int .i64 0,.int .i64 0])⟩ λuD=> bk (eN.B7 aa) (⟨a,0,none⟩,⟨i,0,none⟩,fx,0) uD) jF) jl)) d)) c) j) h
theorem eN.call{s_0 fx aa h}(H:eN.S s_0 fx aa h):af ak 35 #[.agg s_0,.int .i64 fx] aa h:=qc (Λ:=aS [(1000007,eN.l7 aa)]) Tryz.func35 (qs qf (qs qf (qs qf (qs (qs qf (Rq.block (ql (eN.l7 aa) (qg (g:=eN.g7) (Λ:=λa=>aS []) (λ_ _ _=>by kernel_rfl) (λa=>qf))))) qf)))) (qe H)
set_option maxHeartbeats 1000000
def ln:aK:={ CW with aT:=-1 }
def u5:List Value:=[.int .i64 (-1:Int),.int .i64 (0:Int),.int .i64 (0:Int),.bool false,.float .f32 0,.slice none 0 0,.int .i64 (0:Int),.int .i64 (0:Int),.float .f32 0,.float .f32 0,.float .f32 0,.float .f32 0,.float .f32 0,.int .i64 (0:Int),.float .f32 0,.float .f32 0,.float .f32 0,.float .f32 0,.float .f32 0,.float .f32 0,.slice none 0 0,.slice none 0 0,.slice none 0 0,.int .i64 (0:Int),.float .f32 0,.float .f32 0,.float .f32 0,.float .f32 0,.float .f32 0,.bool false,.float .f32 0,.float .f32 0,.float .f32 0,.slice none 0 0,.int .i64 (0:Int),.slice none 0 0,.int .i64 (0:Int),.int .i64 (0:Int),.float .f32 0,.float .f32 0,.float .f32 0,.float .f32 0,.float .f32 0,.float .f32 0,.float .f32 0]
theorem HM:aQ.ow [] u5 ln:=by
 obtain⟨B1,B2,v1,v2,hB,hv,h1,h2⟩:=vm
 obtain⟨rfl,rfl⟩:=h1
 obtain rfl:B2=[]:=by simpa using hB.symm
 exact⟨[],[],[.int .i64 (-1:Int)],v2,rfl,by have:=congrArg List.tail hv;rw[u5,show v2=_ from this.symm];rfl,⟨rfl,rfl⟩,h2⟩
noncomputable def bI.cj(s:bI)(n:Int):aC×Int:=if s.ok then if inR n 1 6 then({ iv with Score:=s,al:=List.replicate n.toNat ln },0) else(iv,2) else(iv,1)
theorem K5{s:bI}{vs:List aK}{sc:List Value}{Bs B:List Blk}{b:Option Addr}{l c:Nat}(Os:bU.ow Bs sc s)(O:SlO 122 aQ B b l c vs)(n1 n2 n3:Int):bz.ow (Bs++B) (sc++[.slice b l c,.int .i64 n1,.int .i64 n2,.int .i64 n3]) ⟨s,vs,n1,n2,n3⟩:=
 ⟨Bs,B,sc,_,rfl,rfl,Os,B,[],[.slice b l c],_,by simp,rfl,⟨b,l,c,rfl,O⟩,[],[],[.int .i64 n1],_,rfl,rfl,⟨rfl,rfl⟩,[],[],[.int .i64 n2],_,rfl,rfl,⟨rfl,rfl⟩,⟨rfl,rfl⟩⟩
section
variable {h:ab}
theorem vi:af ak 66 #[] (λu h'=>u = .agg ⟨u5⟩∧Ext h h') h:=
 sQ.call ((Mem.start h).alc λg1 h1 x1 M=>M.dH .here rfl (dI rfl) rfl .here λh2 M=>M.df .here rfl ⟨rfl,M.ext⟩)
theorem DZ:af ak 70 #[] (λu h'=>u = .agg ⟨u5⟩∧Ext h h') h:=
 sD.call ((Mem.start h).alc λg1 h1 x1 M=>M.dH .here rfl (dI rfl) rfl .here λh2 M=>M.df .here rfl ⟨rfl,M.ext⟩)
def plC(y1 y2 y3:Nat)(b1:Option Addr)(l1 c1:Nat)(b2:Option Addr)(l2 c2:Nat)(b3:Option Addr)(l3 c3:Nat)(b:Option Addr)(l c:Nat):List Value:=
 scC y1 y2 y3 b1 l1 c1 b2 l2 c2 b3 l3 c3++[.slice b l c,.int .i64 (0:Int),.int .i64 (0:Int),.int .i64 (0:Int)]
theorem LS{y1 y2 y3:Nat}{b1 b2 b3 b:Option Addr}{l1 c1 l2 c2 l3 c3 l c:Nat}:∀v ∈ (⟨plC y1 y2 y3 b1 l1 c1 b2 l2 c2 b3 l3 c3 b l c⟩:Array Value).toList,v.oneCell'=true:=λv hv=>by
 simp only[plC,scC,List.mem_cons,List.mem_nil_iff,or_false,List.cons_append,List.nil_append] at hv
 rcases hv with rfl | rfl | rfl | rfl | rfl | rfl | rfl | rfl | rfl | rfl <;> rfl
theorem K6{h0 hh:ab}{L:List Blk}{g T:Nat}{sc:List Value}{b:Option Addr}{i c:Nat}{B:List Blk}{K:Value->ab->Prop}{ty:Nat}{hb:ab}(hs:sc.length=6)(O:SlO 122 aQ B b i c (List.replicate i ln))(hi:i<6)(M:Mem h0 hh ((g,T,⟨sc++[.slice b i c,.int .i64 (0:Int),.int .i64 (0:Int),.int .i64 (0:Int)]⟩) :: (B++L)))(Hp:∀(h':ab) (p:Prop),Ext hh h'->p->PIN hb ⟨g,6,none⟩ 1 h' p)(H:∀b' c' h' B',SlO 122 aQ B' b' (i+1) c' (List.replicate (i+1) ln)->Mem h0 h' ((g,T,⟨sc++[.slice b i c,.int .i64 (0:Int),.int .i64 (0:Int),.int .i64 (0:Int)]⟩) :: (B'++L))->K (.slice b' (i+1) c') h'):
  ALC ⟨u5⟩ 122 (λg1 h1=>PIN hb ⟨g,6,none⟩ 1 h1<|gC ak (Builtin.append_ #[49,49] ty #[.slice b i c,.slice (some ⟨g1,0,none⟩) 1 1]) K h1) hh:=by
 have hm:(7:Nat)≤maxLen:=by decide
 refine M.alc λg1 h1 x1 M1=>Hp _ _ x1 ?_
 have M2:Mem h0 h1 (B++([]++((g1,122,⟨u5⟩) :: (g,T,⟨sc++[.slice b i c,.int .i64 (0:Int),.int .i64 (0:Int),.int .i64 (0:Int)]⟩) :: L))):=M1.cnt (λp=>by simp only[bN,bu,bZ] at *;omega)
 refine O.app (news:=u5) Ev M2 (ys:=[ln]) rfl ⟨[],[],u5,[],rfl,by simp,HM,rfl,rfl⟩ (λj v hj=>?_) (by omega) (by omega) λb' c' h' B' O' M'=>H b' c' h' B' ?_ (M'.cnt (λp=>by simp only[bN,bu,bZ] at *;omega))
 ·rw[dQ,Nat.zero_add,M1.cell .here,← hj];simp
 ·rw[List.replicate_succ'];exact O'
theorem DN{cs:Array Value}{s:bI}{n:Int}(R0:bU.rd h cs.toList s):af ak 33 #[.agg cs,.int .i64 n] (λu h'=>fk bz h h' u (s.cj n).1 (s.cj n).2) h:=by
 refine eQ.call ((Mem.start h).alc λg1 h1 x1 M=>M.alc λg3 h2 x2 M=>?_)
 have R:RdP bU h2 ⟨g1,0,none⟩ s:=M.rdp (.there .here) (bU.ext M.ext R0)
 have bad:∀{hh:ab}{L:List Blk}{k:Int},Mem h hh ((g3,51,⟨bm⟩) :: L)->s.cj n=(iv,k) ->
   STA 10 hh ⟨g3,0,none⟩ ⟨bm⟩ λh8=>LDA 10 h8 ⟨g3,0,none⟩ λa9=>fk bz h h8 (.tuple ⟨[.agg a9,.int .i64 k]⟩) (s.cj n).1 (s.cj n).2:=λM e=>by
  rw[e]
  exact M.dH .here rfl (dI rfl) rfl .here λh3 M=>M.df .here rfl ⟨_,[],rfl,Bx,(Mem.start h).grow M.ext⟩
 refine goM M (abB R) λh3 M=>bt (brN (λhb=>bad M (by unfold bI.cj;rw[hb];rfl)) λzT=>?_)
 refine goM M (kQ _ _ _ _) λh4 M=>bt (brN (λhb=>bad M (by unfold bI.cj;rw[zT,hb];rfl)) λhn=>?_)
 have hn2:1≤n∧n≤6:=by simp only[inR,Bool.and_eq_true,decide_eq_true_eq] at hn;exact hn
 have R:RdP bU h4 ⟨g1,0,none⟩ s:=M.rdp (.there .here) (bU.ext M.ext R0)
 have AL:s.cj n=({ iv with Score:=s,al:=List.replicate n.toNat ln },0):=by unfold bI.cj;rw[zT,hn];rfl
 refine mN.go M (Uw R zT) λh5 c5 B5 M O5 s5=>gw (siz s5 ?_)
 have Rc:=bU.look O5 M (List.sublist_append_left _ _)
 obtain⟨y1,y2,y3,b1,l1,c1,b2,l2,c2,b3,l3,c3,rfl,_⟩:=tP Rc
 clear Rc
 refine M.alc λg18 h6 x6 M=>M.dH .here rfl (LS (b:=none) (l:=0) (c:=0)) rfl .here λh7 M=>?_
 have M:Mem h h7 ((g18,51,⟨plC y1 y2 y3 b1 l1 c1 b2 l2 c2 b3 l3 c3 none 0 0⟩) :: (B5++[(g3,51,⟨bm⟩),(g1,39,cs)])):=M
 refine loop (λy hh=>∃(i:Nat) (b:Option Addr) (c:Nat) (B:List Blk),y=(n,⟨g3,0,none⟩,⟨g18,0,none⟩,(i:Int))∧i≤n.toNat∧SlO 122 aQ B b i c (List.replicate i ln)∧Mem h hh ((g18,51,⟨plC y1 y2 y3 b1 l1 c1 b2 l2 c2 b3 l3 c3 b i c⟩) :: (B++(B5++[(g3,51,⟨bm⟩),(g1,39,cs)]))))
  (λy=>(n-y.2.2.2).toNat) ⟨0,none,0,[],rfl,by omega,SlO.nil,M⟩ ?_
 rintro y hh ⟨i,b,c,B,rfl,hi,O,M⟩
 unfold eQ.B7
 simp only[mR]
 refine brd (λhc=>?_) λhc=>?_
 ·refine o_l (M.cell .here 6) (goX vi λh8 x8=>gw (M.Ov .here (by show 6<10;decide) x8 (siz rfl ?_)))
  refine K6 (sc:=scC y1 y2 y3 b1 l1 c1 b2 l2 c2 b3 l3 c3) rfl O (by omega) (M.grow x8) (λh' p x H=>M.Ov .here (by show 6<10;decide) (x8.trans x) H) λb' c' h9 B' O' M=>lR (M.st1 .here (by show 6<10;decide) .here λgv M=>?_)
  exact⟨⟨i+1,b',c',B',by rw[ag (by omega)],by omega,O',M⟩,by rw[ag (by omega)];show _<_;simp;omega⟩
 ·obtain rfl:i=n.toNat:=by omega
  rw[AL]
  refine M.df .here rfl ?_
  have M:=M.cnt (W:=(g3,51,⟨bm⟩) :: (B5++B))
  exact M.dH .here rfl LS rfl .here λh3 M=>M.df .here rfl ⟨_,B5++B,rfl,K5 O5 O 0 0 0,M.drop⟩
theorem Dq{cs:Array Value}{s:bI}{n:Int}(R0:bU.rd h cs.toList s):af ak 35 #[.agg cs,.int .i64 n] (λu h'=>fk bz h h' u (s.cj n).1 (s.cj n).2) h:=by
 refine eN.call ((Mem.start h).alc λg1 h1 x1 M=>M.alc λg3 h2 x2 M=>M.df (.there .here) (rsz R0 rfl) ?_)
 have bad:∀{hh:ab}{L:List Blk}{k:Int},Mem h hh ((g3,51,⟨bm⟩) :: L)->s.cj n=(iv,k) ->
   STA 10 hh ⟨g3,0,none⟩ ⟨bm⟩ λh8=>LDA 10 h8 ⟨g3,0,none⟩ λa9=>fk bz h h8 (.tuple ⟨[.agg a9,.int .i64 k]⟩) (s.cj n).1 (s.cj n).2:=λM e=>by
  rw[e]
  exact M.dH .here rfl (dI rfl) rfl .here λh3 M=>M.df .here rfl ⟨_,[],rfl,Bx,(Mem.start h).grow M.ext⟩
 refine goM M (Ku (bU.ext M.ext R0)) λh3 M=>bt (brN (λhb=>bad M (by unfold bI.cj;rw[hb];rfl)) λzT=>?_)
 refine goM M (Qo _ _) λh4 M=>bt (brN (λhb=>bad M (by unfold bI.cj;rw[zT,hb];rfl)) λhn=>?_)
 have hn2:1≤n∧n≤6:=by simp only[inR,Bool.and_eq_true,decide_eq_true_eq] at hn;exact hn
 have AL:s.cj n=({ iv with Score:=s,al:=List.replicate n.toNat ln },0):=by unfold bI.cj;rw[zT,hn];rfl
 refine M.df (.there .here) (rsz R0 rfl) (mN.go M (I8 (bU.ext M.ext R0) zT) λh5 c5 B5 M O5 s5=>gw (siz s5 ?_))
 have Rc:=bU.look O5 M (List.sublist_append_left _ _)
 obtain⟨y1,y2,y3,b1,l1,c1,b2,l2,c2,b3,l3,c3,rfl,_⟩:=tP Rc
 clear Rc
 refine M.alc λg18 h6 x6 M=>M.dH .here rfl (LS (b:=none) (l:=0) (c:=0)) rfl .here λh7 M=>?_
 have M:Mem h h7 ((g18,51,⟨plC y1 y2 y3 b1 l1 c1 b2 l2 c2 b3 l3 c3 none 0 0⟩) :: (B5++[(g3,51,⟨bm⟩),(g1,39,cs)])):=M
 refine loop (λy hh=>∃(i:Nat) (b:Option Addr) (c:Nat) (B:List Blk),y=(⟨g3,0,none⟩,⟨g18,0,none⟩,n,(i:Int))∧i≤n.toNat∧SlO 122 aQ B b i c (List.replicate i ln)∧Mem h hh ((g18,51,⟨plC y1 y2 y3 b1 l1 c1 b2 l2 c2 b3 l3 c3 b i c⟩) :: (B++(B5++[(g3,51,⟨bm⟩),(g1,39,cs)]))))
  (λy=>(n-y.2.2.2).toNat) ⟨0,none,0,[],rfl,by omega,SlO.nil,M⟩ ?_
 rintro y hh ⟨i,b,c,B,rfl,hi,O,M⟩
 unfold eN.B7
 simp only[mR]
 refine brd (λhc=>?_) λhc=>?_
 ·refine o_l (M.cell .here 6) (goX DZ λh8 x8=>gw (M.Ov .here (by show 6<10;decide) x8 (siz rfl ?_)))
  refine K6 (sc:=scC y1 y2 y3 b1 l1 c1 b2 l2 c2 b3 l3 c3) rfl O (by omega) (M.grow x8) (λh' p x H=>M.Ov .here (by show 6<10;decide) (x8.trans x) H) λb' c' h9 B' O' M=>lR (M.st1 .here (by show 6<10;decide) .here λgv M=>?_)
  exact⟨⟨i+1,b',c',B',by rw[ag (by omega)],by omega,O',M⟩,by rw[ag (by omega)];show _<_;simp;omega⟩
 ·obtain rfl:i=n.toNat:=by omega
  rw[AL]
  refine M.df .here rfl ?_
  have M:=M.cnt (W:=(g3,51,⟨bm⟩) :: (B5++B))
  exact M.dH .here rfl LS rfl .here λh3 M=>M.df .here rfl ⟨_,B5++B,rfl,K5 O5 O 0 0 0,M.drop⟩
end
end Go.Sx
