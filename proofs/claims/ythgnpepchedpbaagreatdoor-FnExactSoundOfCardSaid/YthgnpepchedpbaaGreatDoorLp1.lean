/- Lemmas. -/
import Derived.Test.YthgnpepchedpbaaGreatDoorLg
set_option linter.unusedVariables false
set_option linter.unusedSimpArgs false
namespace Go.Sx
open FloatKind (f32 f64)
open IntKind (i64)
structure Rep (α:Type) where
 sz:Nat
 rd:ab->List Value->α->Prop
 ow:List Blk->List Value->α->Prop
 tc:∀{h vs a},rd h vs a->vs.length=sz
 jX:∀{B vs a},ow B vs a->vs.length=sz
 ext:∀{h h' vs a},Ext h h'->rd h vs a->rd h' vs a
 look:∀{h0 h L B vs a},ow B vs a->Mem h0 h L->B.Sublist L->rd h vs a
 wj:∀{h vs a},rd h vs a->∀v ∈ vs,v.oneCell'=true
 jy:∀{B vs a},ow B vs a->∀v ∈ vs,v.oneCell'=true
section
variable {α β γ:Type}
def Vf(f:α->Value)(hf:∀a,(f a).oneCell'=true):Rep α where
 sz:=1
 rd _ vs a:=vs=[f a]
 ow B vs a:=B=[]∧vs=[f a]
 tc h:=by subst h;rfl
 jX h:=by obtain⟨_,rfl⟩:=h;rfl
 ext _ h:=h
 look h _ _:=h.2
 wj h v hv:=by subst h;simp at hv;subst hv;exact hf _
 jy h v hv:=by obtain⟨_,rfl⟩:=h;simp at hv;subst hv;exact hf _
def rI(k:IntKind):Rep Int:=Vf (.int k) λ_=>rfl
def rB:Rep Bool:=Vf .bool λ_=>rfl
def rS:Rep ByteArray where
 sz:=1
 rd _ vs a:=vs=[.string a]∧a.size≤maxLen
 ow B vs a:=B=[]∧vs=[.string a]∧a.size≤maxLen
 tc h:=by obtain⟨rfl,_⟩:=h;rfl
 jX h:=by obtain⟨_,rfl,_⟩:=h;rfl
 ext _ h:=h
 look h _ _:=h.2
 wj h v hv:=by obtain⟨rfl,_⟩:=h;simp at hv;subst hv;rfl
 jy h v hv:=by obtain⟨_,rfl,_⟩:=h;simp at hv;subst hv;rfl
def FW(k:FloatKind)(x a:Nat):Prop:=cn k x=a∧x<2 ^ k.format.width
def rF(k:FloatKind):Rep Nat where
 sz:=1
 rd _ vs a:=∃x,vs=[.float k x]∧FW k x a
 ow B vs a:=B=[]∧∃x,vs=[.float k x]∧FW k x a
 tc h:=by obtain⟨_,rfl,_⟩:=h;rfl
 jX h:=by obtain⟨_,_,rfl,_⟩:=h;rfl
 ext _ h:=h
 look h _ _:=h.2
 wj h v hv:=by obtain⟨_,rfl,_⟩:=h;simp at hv;subst hv;rfl
 jy h v hv:=by obtain⟨_,_,rfl,_⟩:=h;simp at hv;subst hv;rfl
def Rep.seq(r:Rep α)(s:Rep β):Rep (α×β) where
 sz:=r.sz+s.sz
 rd h vs a:=∃v1 v2,vs=v1++v2∧r.rd h v1 a.1∧s.rd h v2 a.2
 ow B vs a:=∃B1 B2 v1 v2,B=B1++B2∧vs=v1++v2∧r.ow B1 v1 a.1∧s.ow B2 v2 a.2
 tc h:=by obtain⟨_,_,rfl,h1,h2⟩:=h;rw[List.length_append,r.tc h1,s.tc h2]
 jX h:=by obtain⟨_,_,_,_,rfl,rfl,h1,h2⟩:=h;rw[List.length_append,r.jX h1,s.jX h2]
 ext x h:=by obtain⟨_,_,rfl,h1,h2⟩:=h;exact⟨_,_,rfl,r.ext x h1,s.ext x h2⟩
 look h M hs:=by
  obtain⟨_,_,_,_,rfl,rfl,h1,h2⟩:=h
  exact⟨_,_,rfl,r.look h1 M ((List.sublist_append_left _ _).trans hs),s.look h2 M ((List.sublist_append_right _ _).trans hs)⟩
 wj h v hv:=by
  obtain⟨_,_,rfl,h1,h2⟩:=h
  rcases List.mem_append.1 hv with hv | hv
  ·exact r.wj h1 v hv
  ·exact s.wj h2 v hv
 jy h v hv:=by
  obtain⟨_,_,_,_,rfl,rfl,h1,h2⟩:=h
  rcases List.mem_append.1 hv with hv | hv
  ·exact r.jy h1 v hv
  ·exact s.jy h2 v hv
def Rep.via(r:Rep β)(f:α->β):Rep α where
 sz:=r.sz
 rd h vs a:=r.rd h vs (f a)
 ow B vs a:=r.ow B vs (f a)
 tc h:=r.tc h
 jX h:=r.jX h
 ext x h:=r.ext x h
 look h M s:=r.look h M s
 wj h:=r.wj h
 jy h:=r.jy h
def rds(r:Rep α)(h:ab):List Value->List α->Prop
 | vs,[]=>vs=[]
 | vs,a :: iD=>∃v1 v2,vs=v1++v2∧r.rd h v1 a∧rds r h v2 iD
def ows(r:Rep α):List Blk->List Value->List α->Prop
 | B,vs,[]=>B=[]∧vs=[]
 | B,vs,a :: iD=>∃B1 B2 v1 v2,B=B1++B2∧vs=v1++v2∧r.ow B1 v1 a∧ows r B2 v2 iD
section
variable {r:Rep α}
theorem rds.len{h:ab}:∀{iD:List α}{vs:List Value},rds r h vs iD->vs.length=iD.length*r.sz
 | [],vs,e=>by rw[show vs=[] from e];simp
 | a :: iD,vs,e=>by
  obtain⟨v1,v2,rfl,h1,h2⟩:=e
  rw[List.length_append,r.tc h1,rds.len h2,List.length_cons,Nat.add_mul];omega
theorem ows.len:∀{iD:List α}{B:List Blk}{vs:List Value},ows r B vs iD->vs.length=iD.length*r.sz
 | [],B,vs,e=>by rw[e.2];simp
 | a :: iD,B,vs,e=>by
  obtain⟨B1,B2,v1,v2,rfl,rfl,h1,h2⟩:=e
  rw[List.length_append,r.jX h1,ows.len h2,List.length_cons,Nat.add_mul];omega
theorem rds.ext{h h':ab}(x:Ext h h'):∀{iD:List α}{vs:List Value},rds r h vs iD->rds r h' vs iD
 | [],vs,e=>e
 | a :: iD,vs,e=>by obtain⟨v1,v2,rfl,h1,h2⟩:=e;exact⟨v1,v2,rfl,r.ext x h1,rds.ext x h2⟩
theorem ows.look{h0 h:ab}{L:List Blk}(M:Mem h0 h L):∀{iD:List α}{B:List Blk}{vs:List Value},ows r B vs iD->B.Sublist L->rds r h vs iD
 | [],B,vs,e,_=>e.2
 | a :: iD,B,vs,e,s=>by
  obtain⟨B1,B2,v1,v2,rfl,rfl,h1,h2⟩:=e
  exact⟨v1,v2,rfl,r.look h1 M ((List.sublist_append_left _ _).trans s),ows.look M h2 ((List.sublist_append_right _ _).trans s)⟩
theorem rds.one{h:ab}:∀{iD:List α}{vs:List Value},rds r h vs iD->∀v ∈ vs,v.oneCell'=true
 | [],vs,e,v,hv=>by rw[show vs=[] from e] at hv;cases hv
 | a :: iD,vs,e,v,hv=>by
  obtain⟨v1,v2,rfl,h1,h2⟩:=e
  rcases List.mem_append.1 hv with hv | hv
  ·exact r.wj h1 v hv
  ·exact rds.one h2 v hv
theorem ows.one:∀{iD:List α}{B:List Blk}{vs:List Value},ows r B vs iD->∀v ∈ vs,v.oneCell'=true
 | [],B,vs,e,v,hv=>by rw[e.2] at hv;cases hv
 | a :: iD,B,vs,e,v,hv=>by
  obtain⟨B1,B2,v1,v2,rfl,rfl,h1,h2⟩:=e
  rcases List.mem_append.1 hv with hv | hv
  ·exact r.jy h1 v hv
  ·exact ows.one h2 v hv
theorem rds.at{h:ab}:∀{iD:List α}{vs:List Value}{i:Nat}(hi:i<iD.length),rds r h vs iD ->
  ∃pre iS post,pre.length=i*r.sz∧vs=pre++(iS++post)∧r.rd h iS iD[i]∧rds r h pre (iD.take i)∧rds r h post (iD.drop (i+1))
 | [],vs,i,hi,e=>by simp at hi
 | a :: iD,vs,0,hi,e=>by
  obtain⟨v1,v2,rfl,h1,h2⟩:=e
  exact⟨[],v1,v2,by simp,by simp,h1,rfl,by simpa using h2⟩
 | a :: iD,vs,i+1,hi,e=>by
  obtain⟨v1,v2,rfl,h1,h2⟩:=e
  obtain⟨pre,iS,post,e1,rfl,h3,h4,h5⟩:=rds.at (i:=i) (by simpa using hi) h2
  refine⟨v1++pre,iS,post,?_,by simp,h3,⟨v1,pre,rfl,h1,h4⟩,by simpa using h5⟩
  rw[List.length_append,r.tc h1,e1,Nat.add_mul];omega
theorem ows.at:∀{iD:List α}{B:List Blk}{vs:List Value}{i:Nat}(hi:i<iD.length),ows r B vs iD ->
  ∃pre iS post B1 Bm B2,pre.length=i*r.sz∧vs=pre++(iS++post)∧B=B1++(Bm++B2)∧r.ow Bm iS iD[i]∧∀B' mL a',r.ow B' mL a'->ows r (B1++(B'++B2)) (pre++(mL++post)) (iD.set i a')
 | [],B,vs,i,hi,e=>by simp at hi
 | a :: iD,B,vs,0,hi,e=>by
  obtain⟨B1,B2,v1,v2,rfl,rfl,h1,h2⟩:=e
  exact⟨[],v1,v2,[],B1,B2,by simp,by simp,by simp,h1,λB' mL a' o=>⟨B',B2,mL,v2,by simp,by simp,o,h2⟩⟩
 | a :: iD,B,vs,i+1,hi,e=>by
  obtain⟨B1,B2,v1,v2,rfl,rfl,h1,h2⟩:=e
  obtain⟨pre,iS,post,C1,Cm,C2,e1,rfl,rfl,h3,h4⟩:=ows.at (i:=i) (by simpa using hi) h2
  refine⟨v1++pre,iS,post,B1++C1,Cm,C2,?_,by simp,by simp,h3,λB' mL a' o=>⟨B1,_,v1,_,by simp,by simp,h1,h4 B' mL a' o⟩⟩
  rw[List.length_append,r.jX h1,e1,Nat.add_mul];omega
theorem ows.append:∀{iD bs:List α}{B C:List Blk}{vs ws:List Value},ows r B vs iD->ows r C ws bs->ows r (B++C) (vs++ws) (iD++bs)
 | [],bs,B,C,vs,ws,e,f=>by obtain⟨rfl,rfl⟩:=e;exact f
 | a :: iD,bs,B,C,vs,ws,e,f=>by
  obtain⟨B1,B2,v1,v2,rfl,rfl,h1,h2⟩:=e
  exact⟨B1,B2++C,v1,v2++ws,by simp,by simp,h1,ows.append h2 f⟩
theorem rds.append{h:ab}:∀{iD bs:List α}{vs ws:List Value},rds r h vs iD->rds r h ws bs->rds r h (vs++ws) (iD++bs)
 | [],bs,vs,ws,e,f=>by rw[show vs=[] from e];exact f
 | a :: iD,bs,vs,ws,e,f=>by
  obtain⟨v1,v2,rfl,h1,h2⟩:=e
  exact⟨v1,v2++ws,by simp,h1,rds.append h2 f⟩
end
def iT(n:Nat)(r:Rep α):Rep (List α) where
 sz:=n*r.sz
 rd h vs a:=a.length=n∧rds r h vs a
 ow B vs a:=a.length=n∧ows r B vs a
 tc h:=by rw[h.2.len,h.1]
 jX h:=by rw[h.2.len,h.1]
 ext x h:=⟨h.1,h.2.ext x⟩
 look h M s:=⟨h.1,h.2.look M s⟩
 wj h:=h.2.one
 jy h:=h.2.one
def SlR(r:Rep α)(h:ab)(b:Option Addr)(l c:Nat)(iD:List α):Prop:=iD.length=l∧l≤c∧c≤maxLen∧∃ws,Cells h b ws∧rds r h ws iD
def SlO(e:Nat)(r:Rep α)(B:List Blk)(b:Option Addr)(l c:Nat)(iD:List α):Prop:=iD.length=l∧∃ws B1 B2,B=B1++B2∧Own B1 e r.sz b l c ws∧ows r B2 ws iD
theorem SlR.ext{r:Rep α}{h h':ab}{b:Option Addr}{l c:Nat}{iD:List α}(x:Ext h h')(S:SlR r h b l c iD):SlR r h' b l c iD:=by
 obtain⟨h1,h2,h3,ws,h4,h5⟩:=S
 exact⟨h1,h2,h3,ws,h4.ext x,h5.ext x⟩
theorem Own.max{B:List Blk}{e sz:Nat}{b:Option Addr}{l c:Nat}{vs:List Value}(O:Own B e sz b l c vs):c≤maxLen:=by
 rcases O.2 with⟨_,_,h2,h3⟩ | ⟨g,cs,_,_,_,h2,_⟩
 ·omega
 ·exact h2
theorem SlO.look{e:Nat}{r:Rep α}{B L:List Blk}{b:Option Addr}{l c:Nat}{iD:List α}{h0 h:ab}(S:SlO e r B b l c iD)(M:Mem h0 h L)(s:B.Sublist L):SlR r h b l c iD:=by
 obtain⟨h1,ws,B1,B2,rfl,h2,h3⟩:=S
 exact⟨h1,h2.le,h2.max,ws,h2.cells M ((List.sublist_append_left _ _).trans s),h3.look M ((List.sublist_append_right _ _).trans s)⟩
def rSl(e:Nat)(r:Rep α):Rep (List α) where
 sz:=1
 rd h vs iD:=∃b l c,vs=[.slice b l c]∧SlR r h b l c iD
 ow B vs iD:=∃b l c,vs=[.slice b l c]∧SlO e r B b l c iD
 tc h:=by obtain⟨_,_,_,rfl,_⟩:=h;rfl
 jX h:=by obtain⟨_,_,_,rfl,_⟩:=h;rfl
 ext x h:=by obtain⟨_,_,_,rfl,h1⟩:=h;exact⟨_,_,_,rfl,h1.ext x⟩
 look h M s:=by obtain⟨_,_,_,rfl,h1⟩:=h;exact⟨_,_,_,rfl,h1.look M s⟩
 wj h v hv:=by obtain⟨_,_,_,rfl,_⟩:=h;simp at hv;subst hv;rfl
 jy h v hv:=by obtain⟨_,_,_,rfl,_⟩:=h;simp at hv;subst hv;rfl
structure Foc (r:Rep α) (p:Rep β) (off:Nat) (get:α->β) (put:α->β->α):Prop where
 fr:∀{h vs a},r.rd h vs a->∃pre iS post,pre.length=off∧vs=pre++(iS++post)∧p.rd h iS (get a)
 fo:∀{B vs a},r.ow B vs a->∃pre iS post B1 Bm B2,pre.length=off∧vs=pre++(iS++post)∧B=B1++(Bm++B2)∧p.ow Bm iS (get a) ∧
  ∀B' mL b',p.ow B' mL b'->r.ow (B1++(B'++B2)) (pre++(mL++post)) (put a b')
theorem Foc.here(r:Rep α):Foc r r 0 (λa=>a) (λ_ b=>b) where
 fr h:=⟨[],_,[],rfl,by simp,h⟩
 fo h:=⟨[],_,[],[],_,[],rfl,by simp,by simp,h,λB' mL b' o=>by simpa using o⟩
theorem Foc.fst{r:Rep α}{s:Rep γ}{p:Rep β}{off:Nat}{get:α->β}{put:α->β->α}(F:Foc r p off get put):Foc (r.seq s) p off (λa=>get a.1) (λa b=>(put a.1 b,a.2)) where
 fr h:=by
  obtain⟨v1,v2,rfl,h1,h2⟩:=h
  obtain⟨pre,iS,post,e,rfl,h3⟩:=F.fr h1
  exact⟨pre,iS,post++v2,e,by simp,h3⟩
 fo h:=by
  obtain⟨C1,C2,v1,v2,rfl,rfl,h1,h2⟩:=h
  obtain⟨pre,iS,post,B1,Bm,B2,e,rfl,rfl,h3,h4⟩:=F.fo h1
  exact⟨pre,iS,post++v2,B1,Bm,B2++C2,e,by simp,by simp,h3,λB' mL b' o=>⟨_,_,_,_,by simp,by simp,h4 B' mL b' o,h2⟩⟩
theorem Foc.snd{r:Rep γ}{s:Rep α}{p:Rep β}{off:Nat}{get:α->β}{put:α->β->α}(F:Foc s p off get put):Foc (r.seq s) p (r.sz+off) (λa=>get a.2) (λa b=>(a.1,put a.2 b)) where
 fr h:=by
  obtain⟨v1,v2,rfl,h1,h2⟩:=h
  obtain⟨pre,iS,post,e,rfl,h3⟩:=F.fr h2
  exact⟨v1++pre,iS,post,by simp[r.tc h1,e],by simp,h3⟩
 fo h:=by
  obtain⟨C1,C2,v1,v2,rfl,rfl,h1,h2⟩:=h
  obtain⟨pre,iS,post,B1,Bm,B2,e,rfl,rfl,h3,h4⟩:=F.fo h2
  exact⟨v1++pre,iS,post,C1++B1,Bm,B2,by simp[r.jX h1,e],by simp,by simp,h3,λB' mL b' o=>⟨C1,_,v1,_,by simp,by simp,h1,h4 B' mL b' o⟩⟩
theorem Foc.via{r:Rep γ}{p:Rep β}{off:Nat}{f:α->γ}{get:γ->β}{put:γ->β->γ}{get':α->β}{ig:α->β->α}(F:Foc r p off get put)(e1:∀a,get' a=get (f a))(e2:∀a b,f (ig a b)=put (f a) b):Foc (r.via f) p off get' ig where
 fr h:=by
  obtain⟨pre,iS,post,e,rfl,h3⟩:=F.fr h
  exact⟨pre,iS,post,e,rfl,by rw[e1];exact h3⟩
 fo h:=by
  obtain⟨pre,iS,post,B1,Bm,B2,e,rfl,rfl,h3,h4⟩:=F.fo h
  exact⟨pre,iS,post,B1,Bm,B2,e,rfl,rfl,by rw[e1];exact h3,λB' mL b' o=>by show r.ow _ _ (f _);rw[e2];exact h4 B' mL b' o⟩
theorem Foc.arr[Inhabited α]{n:Nat}(r:Rep α)(i:Nat)(hi:i<n):Foc (iT n r) r (i*r.sz) (λl=>l[i]!) (λl b=>l.set i b) where
 fr h:=by
  obtain⟨e0,h⟩:=h
  obtain⟨pre,iS,post,e,rfl,h3,_⟩:=h.at (i:=i) (by omega)
  exact⟨pre,iS,post,e,rfl,by rw[getElem!_pos _ i (by omega)];exact h3⟩
 fo h:=by
  obtain⟨e0,h⟩:=h
  obtain⟨pre,iS,post,B1,Bm,B2,e,rfl,rfl,h3,h4⟩:=h.at (i:=i) (by omega)
  exact⟨pre,iS,post,B1,Bm,B2,e,rfl,rfl,by rw[getElem!_pos _ i (by omega)];exact h3,λB' mL b' o=>⟨by simpa using e0,h4 B' mL b' o⟩⟩
theorem Foc.trans{r:Rep α}{p:Rep β}{q:Rep γ}{o1 o2:Nat}{g1:α->β}{p1:α->β->α}{g2:β->γ}{p2:β->γ->β}(F:Foc r p o1 g1 p1)(G:Foc p q o2 g2 p2):
  Foc r q (o1+o2) (λa=>g2 (g1 a)) (λa c=>p1 a (p2 (g1 a) c)) where
 fr h:=by
  obtain⟨pre,iS,post,e,rfl,h3⟩:=F.fr h
  obtain⟨agy,mL,YQ,e',rfl,h3'⟩:=G.fr h3
  exact⟨pre++agy,mL,YQ++post,by simp[e,e'],by simp,h3'⟩
 fo h:=by
  obtain⟨pre,iS,post,B1,Bm,B2,e,rfl,rfl,h3,h4⟩:=F.fo h
  obtain⟨agy,mL,YQ,C1,Cm,C2,e',rfl,rfl,h3',h4'⟩:=G.fo h3
  refine⟨pre++agy,mL,YQ++post,B1++C1,Cm,C2++B2,by simp[e,e'],by simp,by simp,h3',λB' m b o=>?_⟩
  have:=h4 _ _ _ (h4' B' m b o)
  simpa using this
theorem Foc.at{r:Rep α}{p:Rep β}{off agi:Nat}{get:α->β}{put:α->β->α}(F:Foc r p off get put)(e:agi=off):Foc r p agi get put:=by subst e;exact F
class cJ {α:Type}{β:outParam Type}(r:Rep α) (off:Nat) (p:outParam (Rep β)) (get:outParam (α->β)) (put:outParam (α->β->α)):Prop where
 f:Foc r p off get put
def RdP(r:Rep α)(h:ab)(a:Addr)(x:α):Prop:=∃vs,(∀i v,vs[i]? = some v->cell h (a.add i)=some v)∧r.rd h vs x
section
variable {r:Rep α}{h:ab}{a:Addr}{x:α}{off:Nat}
theorem RdP.ext{h':ab}(X:Ext h h')(R:RdP r h a x):RdP r h' a x:=by
 obtain⟨vs,h1,h2⟩:=R
 exact⟨vs,λi v e=>X.cell (h1 i v e),r.ext X h2⟩
theorem RdP.foc{p:Rep β}{get:α->β}{put:α->β->α}(R:RdP r h a x)(F:Foc r p off get put):RdP p h (a.add off) (get x):=by
 obtain⟨vs,h1,h2⟩:=R
 obtain⟨pre,iS,post,e,rfl,h3⟩:=F.fr h2
 refine⟨iS,λi v hi=>?_,h3⟩
 rw[mQ]
 refine h1 _ _ ?_
 rw[← e,List.getElem?_append_right (Nat.le_add_right _ _),Nat.add_sub_cancel_left,List.getElem?_append_left (List.getElem?_eq_some_iff.1 hi).1,hi]
theorem RdP.cell{p:Rep β}{get:α->β}{put:α->β->α}(R:RdP r h a x)(F:Foc r p off get put)(hp:p.sz=1):∃v,cell h (a.add off)=some v∧p.rd h [v] (get x):=by
 obtain⟨vs,h1,h2⟩:=R.foc F
 have:=p.tc h2
 rw[hp] at this
 obtain⟨v,rfl⟩:=List.length_eq_one_iff.1 this
 have:=h1 0 v rfl
 simp only[Addr.add,if_pos] at this
 exact⟨v,this,h2⟩
theorem RdP.oI{k:IntKind}{get:α->Int}{put:α->Int->α}{K:Int->Prop}(R:RdP r h a x)[F:cJ r off (rI k) get put](H:K (get x)):oI k (Sx.cell h (a.add off)) K:=by
 obtain⟨v,e,e2⟩:=R.cell F.f rfl
 exact o_i (e.trans (congrArg some (by simpa [rI,Vf] using e2))) H
theorem RdP.oB{get:α->Bool}{put:α->Bool->α}{K:Bool->Prop}(R:RdP r h a x)[F:cJ r off rB get put](H:K (get x)):oB (Sx.cell h (a.add off)) K:=by
 obtain⟨v,e,e2⟩:=R.cell F.f rfl
 exact o_b (e.trans (congrArg some (by simpa [rB,Vf] using e2))) H
theorem RdP.oS{get:α->ByteArray}{put:α->ByteArray->α}{K:ByteArray->Prop}(R:RdP r h a x)[F:cJ r off rS get put](H:(get x).size≤maxLen->K (get x)):oS (Sx.cell h (a.add off)) K:=by
 obtain⟨v,e,e2⟩:=R.cell F.f rfl
 obtain⟨e3,e4⟩:=e2
 exact o_s (e.trans (congrArg some (by simpa using e3))) (H e4)
theorem RdP.oF{k:FloatKind}{get:α->Nat}{put:α->Nat->α}{K:Nat->Prop}(R:RdP r h a x)[F:cJ r off (rF k) get put](H:∀y,FW k y (get x)->K y):oF k (Sx.cell h (a.add off)) K:=by
 obtain⟨v,e,y,e2,e3⟩:=R.cell F.f rfl
 obtain rfl:v = .float k y:=by simpa using e2
 exact o_f e (H y e3)
theorem RdP.oL{e:Nat}{s:Rep β}{get:α->List β}{put:α->List β->α}{K:Option Addr->Nat->Nat->Prop}(R:RdP r h a x)[F:cJ r off (rSl e s) get put](H:∀b l c,SlR s h b l c (get x)->K b l c):oL (Sx.cell h (a.add off)) K:=by
 obtain⟨v,e,b,l,c,e2,e3⟩:=R.cell F.f rfl
 obtain rfl:v = .slice b l c:=by simpa using e2
 exact o_l e (H b l c e3)
theorem RdP.lda{p:Rep β}{n:Nat}{get:α->β}{put:α->β->α}{K:Array Value->Prop}(R:RdP r h a x)(F:Foc r p off get put)(hn:p.sz=n)(H:∀cs:Array Value,p.rd h cs.toList (get x)->K cs):LDA n h (a.add off) K:=by
 obtain⟨vs,h1,h2⟩:=R.foc F
 have hl:=p.tc h2
 refine⟨⟨vs⟩,by simpa [hn] using hl,λj hj=>?_,H ⟨vs⟩ h2⟩
 have hj':j<vs.length:=by omega
 rw[h1 j _ (List.getElem?_eq_getElem hj')]
 simp[hj']
end
theorem SlR.elem[Inhabited α]{r:Rep α}{h:ab}{b:Option Addr}{l c i:Nat}{iD:List α}(S:SlR r h b l c iD)(hi:i<l)(hz:0<r.sz):∃a,b=some a∧RdP r h (a.add (i*r.sz)) iD[i]!:=by
 obtain⟨h1,h2,h3,ws,h4,h5⟩:=S
 obtain⟨pre,iS,post,e1,rfl,h6,_⟩:=h5.at (i:=i) (by omega)
 have key:∀j v,iS[j]? = some v->(pre++(iS++post))[i*r.sz+j]? = some v:=by
  intro j v hj
  rw[← e1,List.getElem?_append_right (Nat.le_add_right _ _),Nat.add_sub_cancel_left,List.getElem?_append_left (List.getElem?_eq_some_iff.1 hj).1,hj]
 have hl:=r.tc h6
 obtain⟨a,rfl⟩:=h4.base (by simp;omega)
 exact⟨a,rfl,iS,λj v hj=>by rw[mQ];exact h4.get (key j v hj),by rw[getElem!_pos _ i (by omega)];exact h6⟩
end
structure Fr where
 g:Nat
 T:Nat
 pre:List Value
 post:List Value
def Pt{α:Type}(r:Rep α)(h0 h:ab)(q:Addr)(F:Fr)(L:List Blk)(a:α):Prop:=
 q=⟨F.g,F.pre.length,none⟩∧∃iS B,Mem h0 h ((F.g,F.T,⟨F.pre++(iS++F.post)⟩) :: (B++L))∧r.ow B iS a
theorem m5(p:Blk)(B1 Bm B2 L:List Blk):(p :: ((B1++(Bm++B2))++L)).Perm (p :: (Bm++(B1++(B2++L)))):=by
 refine List.Perm.cons _ ?_
 simp only[List.append_assoc]
 rw[← List.append_assoc B1,← List.append_assoc Bm]
 exact List.Perm.append_right _ List.perm_append_comm
section
variable {α β:Type}{r:Rep α}{h0 h:ab}{q:Addr}{F:Fr}{L:List Blk}{a:α}{off:Nat}
theorem Pt.mem(P:Pt r h0 h q F L a):Mem h0 h L:=by
 obtain⟨_,iS,B,M,_⟩:=P
 exact M.sub ((List.sublist_append_right _ _).trans (List.sublist_cons_self _ _))
theorem Pt.ext(P:Pt r h0 h q F L a):Ext h0 h:=P.mem.ext
theorem Pt.grow{h':ab}(P:Pt r h0 h q F L a)(x:Ext h h'):Pt r h0 h' q F L a:=by
 obtain⟨e,iS,B,M,O⟩:=P
 exact⟨e,iS,B,M.grow x,O⟩
theorem Pt.new{cs:Array Value}{B:List Blk}{g T:Nat}(O:r.ow B cs.toList a)(M:Mem h0 h ((g,T,cs) :: (B++L))):Pt r h0 h ⟨g,0,none⟩ ⟨g,T,[],[]⟩ L a:=
 ⟨rfl,cs.toList,B,by simpa using M,O⟩
theorem Pt.out{g T:Nat}(P:Pt r h0 h ⟨g,0,none⟩ ⟨g,T,[],[]⟩ L a):∃cs B,Mem h0 h ((g,T,cs) :: (B++L))∧r.ow B cs.toList a:=by
 obtain⟨_,iS,B,M,O⟩:=P
 exact⟨⟨iS⟩,B,by simpa using M,O⟩
theorem Pt.rd(P:Pt r h0 h q F L a):RdP r h q a:=by
 obtain⟨rfl,iS,B,M,O⟩:=P
 refine⟨iS,λi v e=>?_,r.look O M ((List.sublist_append_left _ _).trans (List.sublist_cons_self _ _))⟩
 rw[dQ,M.cell .here]
 rw[List.getElem?_toArray]
 rw[List.getElem?_append_right (Nat.le_add_right _ _),Nat.add_sub_cancel_left,List.getElem?_append_left (List.getElem?_eq_some_iff.1 e).1,e]
theorem Pt.foc{p:Rep β}{get:α->β}{put:α->β->α}(P:Pt r h0 h q F L a)(Fc:Foc r p off get put):∃F' L',Pt p h0 h (q.add off) F' L' (get a)∧L.Sublist L'∧∀lS h' b',Pt p lS h' (q.add off) F' L' b'->Pt r lS h' q F L (put a b'):=by
 obtain⟨rfl,iS,B,M,O⟩:=P
 obtain⟨pre,md,post,B1,Bm,B2,e1,rfl,rfl,O1,O2⟩:=Fc.fo O
 refine⟨⟨F.g,F.T,F.pre++pre,post++F.post⟩,B1++(B2++L),⟨?_,md,Bm,?_,O1⟩,?_,λlS h' b' P'=>?_⟩
 ·rw[dQ];simp[e1]
 ·have:=M.perm (m5 _ _ _ _ _)
  simpa using this
 ·exact(List.sublist_append_right _ _).trans (List.sublist_append_right _ _)
 ·obtain⟨_,vY,B',M',O'⟩:=P'
  refine⟨rfl,pre++(vY++post),B1++(B'++B2),?_,O2 B' vY b' O'⟩
  have:=M'.perm (m5 _ _ _ _ _).symm
  simpa using this
theorem acs(pre iS post:List Value)(i:Nat)(v:Value)(hi:i<iS.length):(⟨pre++(iS++post)⟩:Array Value).setIfInBounds (pre.length+i) v=⟨pre++(iS.set i v++post)⟩:=by
 rw[List.setIfInBounds_toArray]
 congr 1
 rw[List.set_append_right _ _ (by omega),Nat.add_sub_cancel_left,List.set_append_left _ _ hi]
theorem Pt.st{p:Rep β}{get:α->β}{put:α->β->α}{b:β}{v:Value}{B':List Blk}{K:ab->Prop}(P:Pt r h0 h q F (B'++L) a)(Fc:Foc r p off get put)(hp:p.sz=1)(O:p.ow B' [v] b)(H:∀h',Pt r h0 h' q F L (put a b)->K h'):ST1 h (q.add off) v K:=by
 obtain⟨rfl,iS,B,M,O0⟩:=P
 obtain⟨pre,md,post,B1,Bm,B2,e1,rfl,rfl,O1,O2⟩:=Fc.fo O0
 have hl:=p.jX O1
 rw[hp] at hl
 obtain⟨u,rfl⟩:=List.length_eq_one_iff.1 hl
 rw[dQ]
 refine M.st1 .here (by simp;omega) .here λh' M'=>H h' ⟨rfl,pre++([v]++post),B1++(B'++B2),?_,O2 _ _ _ O⟩
 rw[acs _ _ _ _ _ (by simp;omega),show(pre++([u]++post)).set off v=pre++([v]++post) by rw[List.set_append_right _ _ (by omega),e1,Nat.sub_self];rfl] at M'
 have s:((B1++(B'++B2))++L).Sublist (B1++(B'++B2)++L):=List.Sublist.refl _
 have key:((B1++(Bm++B2))++(B'++L)).Perm (Bm++((B1++(B'++B2))++L)):=by
  simp only[List.append_assoc]
  refine(List.perm_append_comm_assoc _ _ _).trans (List.Perm.append_left _ (List.Perm.append_left _ (List.perm_append_comm_assoc _ _ _)))
 exact(M'.perm (List.Perm.cons _ key)).sub (List.Sublist.cons_cons _ (List.sublist_append_right _ _))
theorem Pt.sts{p:Rep β}{get:α->β}{put:α->β->α}{b:β}{n:Nat}{vs:Array Value}{B':List Blk}{K:ab->Prop}(P:Pt r h0 h q F (B'++L) a)(Fc:Foc r p off get put)(hp:p.sz=n)(O:p.ow B' vs.toList b)(H:∀h',Pt r h0 h' q F L (put a b)->K h'):STA n h (q.add off) vs K:=by
 obtain⟨rfl,iS,B,M,O0⟩:=P
 obtain⟨pre,md,post,B1,Bm,B2,e1,rfl,rfl,O1,O2⟩:=Fc.fo O0
 have hl:=p.jX O1
 have hv:=p.jX O
 rw[hp] at hl hv
 rw[dQ]
 refine M.sta .here (by simpa using hv) (p.jy O) (by simp;omega) .here λh' M'=>H h' ⟨rfl,pre++(vs.toList++post),B1++(B'++B2),?_,O2 _ _ _ O⟩
 have e2:putAt ⟨F.pre++((pre++(md++post))++F.post)⟩ (F.pre.length+off) vs.toList=⟨F.pre++((pre++(vs.toList++post))++F.post)⟩:=by
  apply Array.ext_getElem?
  intro i
  rw[K8]
  simp only[List.getElem?_toArray,List.size_toArray,List.length_append]
  have e3:F.pre++((pre++(md++post))++F.post)=(F.pre++pre)++(md++(post++F.post)):=by simp
  have e4:F.pre++((pre++(vs.toList++post))++F.post)=(F.pre++pre)++(vs.toList++(post++F.post)):=by simp
  have e5:(F.pre++pre).length=F.pre.length+off:=by simp[e1]
  rw[e3,e4]
  by_cases h1:i<F.pre.length+off
  ·rw[if_neg (by omega),List.getElem?_append_left (l₁:=F.pre++pre) (by rw[e5];omega),List.getElem?_append_left (l₁:=F.pre++pre) (by rw[e5];omega)]
  ·rw[List.getElem?_append_right (l₁:=F.pre++pre) (by rw[e5];omega),List.getElem?_append_right (l₁:=F.pre++pre) (by rw[e5];omega),e5]
   by_cases h2:i-(F.pre.length+off)<n
   ·rw[if_pos (by omega),List.getElem?_append_left (l₁:=vs.toList) (by omega)]
   ·rw[if_neg (by omega),List.getElem?_append_right (l₁:=vs.toList) (by omega),List.getElem?_append_right (l₁:=md) (by omega),hl,hv]
 rw[e2] at M'
 have key:((B1++(Bm++B2))++(B'++L)).Perm (Bm++((B1++(B'++B2))++L)):=by
  simp only[List.append_assoc]
  refine(List.perm_append_comm_assoc _ _ _).trans (List.Perm.append_left _ (List.Perm.append_left _ (List.perm_append_comm_assoc _ _ _)))
 exact(M'.perm (List.Perm.cons _ key)).sub (List.Sublist.cons_cons _ (List.sublist_append_right _ _))
theorem Pt.stI{k:IntKind}{n:Int}{get:α->Int}{put:α->Int->α}{K:ab->Prop}(P:Pt r h0 h q F L a)[Fc:cJ r off (rI k) get put](H:∀h',Pt r h0 h' q F L (put a n)->K h'):ST1 h (q.add off) (.int k n) K:=
 Pt.st (B':=[]) P Fc.f rfl ⟨rfl,rfl⟩ H
theorem Pt.stB{n:Bool}{get:α->Bool}{put:α->Bool->α}{K:ab->Prop}(P:Pt r h0 h q F L a)[Fc:cJ r off rB get put](H:∀h',Pt r h0 h' q F L (put a n)->K h'):ST1 h (q.add off) (.bool n) K:=
 Pt.st (B':=[]) P Fc.f rfl ⟨rfl,rfl⟩ H
theorem Pt.stS{n:ByteArray}{get:α->ByteArray}{put:α->ByteArray->α}{K:ab->Prop}(P:Pt r h0 h q F L a)[Fc:cJ r off rS get put](hn:n.size≤maxLen)(H:∀h',Pt r h0 h' q F L (put a n)->K h'):ST1 h (q.add off) (.string n) K:=
 Pt.st (B':=[]) P Fc.f rfl ⟨rfl,rfl,hn⟩ H
theorem Pt.stF{k:FloatKind}{x n:Nat}{get:α->Nat}{put:α->Nat->α}{K:ab->Prop}(P:Pt r h0 h q F L a)[Fc:cJ r off (rF k) get put](hx:FW k x n)(H:∀h',Pt r h0 h' q F L (put a n)->K h'):ST1 h (q.add off) (.float k x) K:=
 Pt.st (B':=[]) P Fc.f rfl ⟨rfl,x,rfl,hx⟩ H
end
theorem SlO.elem{β:Type}[Inhabited β]{e:Nat}{s:Rep β}{B L:List Blk}{b:Option Addr}{l c i:Nat}{iD:List β}{h0 h:ab}(S:SlO e s B b l c iD)(M:Mem h0 h (B++L))(hi:i<l):
  ∃a0 F' L',b=some a0∧Pt s h0 h (a0.add (i*s.sz)) F' L' iD[i]! ∧ L.Sublist L'∧∀lS h' x,Pt s lS h' (a0.add (i*s.sz)) F' L' x->∃B',SlO e s B' b l c (iD.set i x)∧Mem lS h' (B'++L):=by
 obtain⟨h1,ws,B1,B2,rfl,O,h3⟩:=S
 rcases O.2 with⟨_,_,h4,_⟩ | ⟨g,cs,rfl,rfl,h5,h6,h7,h8⟩
 ·omega
 obtain⟨pre,iS,post,C1,Cm,C2,e1,e2,rfl,O1,O2⟩:=h3.at (i:=i) (by omega)
 have hc:cs=⟨pre++(iS++(post++cs.toList.drop (l*s.sz)))⟩:=by
  have:cs.toList=ws++cs.toList.drop (l*s.sz):=by rw[← h8,List.take_append_drop]
  rw[e2] at this
  cases cs;simpa using this
 refine⟨_,⟨g,e,pre,post++cs.toList.drop (l*s.sz)⟩,C1++(C2++L),rfl,⟨?_,iS,Cm,?_,by rw[getElem!_pos _ i (by omega)];exact O1⟩,(List.sublist_append_right _ _).trans (List.sublist_append_right _ _),λlS h' x P'=>?_⟩
 ·rw[dQ];simp[e1]
 ·rw[← hc]
  have:Mem h0 h ((g,e,cs) :: ((C1++(Cm++C2))++L)):=by simpa using M
  exact this.perm (m5 _ _ _ _ _)
 ·obtain⟨_,vY,B',M',O'⟩:=P'
  have hm:=s.jX O'
  have hm0:=s.jX O1
  have hws:ws.length=l*s.sz:=O.1
  have hlen:(pre++(vY++post)).length=l*s.sz:=by rw[← hws,e2];simp[hm,hm0]
  refine⟨(g,e,⟨pre++(vY++(post++cs.toList.drop (l*s.sz)))⟩) :: (C1++(B'++C2)),⟨by simpa using h1,pre++(vY++post),[_],_,rfl,⟨hlen,.inr ⟨g,_,rfl,rfl,h5,h6,?_,?_⟩⟩,O2 _ _ _ O'⟩,?_⟩
  ·have:cs.toList.length=c*s.sz:=by simpa using h7
   have hle:=Nat.mul_le_mul_right s.sz h5
   simp only[List.size_toArray]
   have:(pre++(vY++(post++cs.toList.drop (l*s.sz)))).length=(pre++(vY++post)).length+(cs.toList.drop (l*s.sz)).length:=by simp;omega
   rw[this,hlen,List.length_drop];omega
  ·show List.take _ (pre++(vY++(post++_)))=_
   have e5:pre++(vY++(post++cs.toList.drop (l*s.sz)))=(pre++(vY++post))++cs.toList.drop (l*s.sz):=by simp
   rw[e5,← hlen]
   exact List.take_left
  ·have:=M'.perm (m5 _ _ _ _ _).symm
   simpa using this
theorem Pt.elem{β:Type}[Inhabited β]{α:Type}{r:Rep α}{e:Nat}{s:Rep β}{get:α->List β}{put:α->List β->α}{h0 h:ab}{q:Addr}{F:Fr}{L:List Blk}{a:α}{off i l c:Nat}{b:Option Addr}(P:Pt r h0 h q F L a)[Fc:cJ r off (rSl e s) get put](hb:cell h (q.add off)=some (.slice b l c))(hi:i<l):
  ∃a0 F' L',b=some a0∧Pt s h0 h (a0.add (i*s.sz)) F' L' (get a)[i]! ∧ L.Sublist L'∧∀lS h' x,Pt s lS h' (a0.add (i*s.sz)) F' L' x->Pt r lS h' q F L (put a ((get a).set i x))∧cell h' (q.add off)=some (.slice b l c):=by
 obtain⟨F1,L1,P1,hs,close⟩:=P.foc Fc.f
 obtain⟨eq,iS,B,M,b',l',c',rfl,S⟩:=P1
 have e0:cell h (q.add off)=some (.slice b' l' c'):=by
  rw[eq,M.cell .here];simp
 rw[hb] at e0
 cases e0
 have M1:Mem h0 h (B++((F1.g,F1.T,⟨F1.pre++([.slice b l c]++F1.post)⟩) :: L1)):=M.perm List.perm_middle.symm
 obtain⟨a0,F2,L2,rfl,P2,Fk,FO⟩:=S.elem M1 hi
 refine⟨a0,F2,L2,rfl,P2,(hs.trans (List.sublist_cons_self _ _)).trans Fk,λlS h' x P'=>?_⟩
 obtain⟨B',S',M'⟩:=FO lS h' x P'
 have M2:=M'.perm List.perm_middle
 refine⟨close lS h' _ ⟨eq,[.slice (some a0) l c],B',M2,_,_,_,rfl,S'⟩,?_⟩
 rw[eq,M2.cell .here];simp
end Go.Sx
namespace Go.Sx
open FloatKind (f32 f64)
open IntKind (i64)
open Ieee
theorem Cg{m:Nat}(h:m≠0)(k:Nat):(m*2 ^ k).log2=m.log2+k:=by
 have h1:m*2 ^ k≠0:=Nat.mul_ne_zero h (Nat.ne_of_gt (Nat.two_pow_pos k))
 have a1:m<2 ^ (m.log2+1):=Nat.lt_log2_self
 have a2:2 ^ m.log2≤m:=Nat.log2_self_le h
 have b1:m*2 ^ k<2 ^ (m.log2+k+1):=by
  rw[show m.log2+k+1=m.log2+1+k by omega,Nat.pow_add]
  exact Nat.mul_lt_mul_of_pos_right a1 (Nat.two_pow_pos k)
 have b2:2 ^ (m.log2+k)≤m*2 ^ k:=by
  rw[Nat.pow_add]
  exact Nat.mul_le_mul_right _ a2
 have c1:=(Nat.log2_lt h1 (k:=m.log2+k+1)).2 b1
 have c2:¬(m*2 ^ k).log2<m.log2+k:=λh2=>by
  have:=(Nat.log2_lt h1).1 h2
  omega
 omega
theorem Jx(Kl:Toward)(s:Bool){n:Nat}(h:n≠0)(d k:Nat):Kl.cut s (n*2 ^ k) (d+k)=Kl.cut s n d:=by
 unfold Toward.cut
 dsimp only
 have hg:1 <<< min (d+k) ((n*2 ^ k).log2+2)=(1 <<< min d (n.log2+2))*2 ^ k:=by
  rw[Cg h,show min (d+k) (n.log2+k+2)=min d (n.log2+2)+k by omega,Nat.shiftLeft_eq,Nat.shiftLeft_eq,Nat.pow_add,Nat.one_mul,Nat.one_mul]
 rw[hg,Nat.mul_div_mul_right _ _ (Nat.two_pow_pos k),Nat.mul_mod_mul_right]
 generalize 1 <<< min d (n.log2+2)=JF
 generalize n % JF=rest
 have hp:=Nat.two_pow_pos k
 generalize 2 ^ k=q at hp
 congr 2
 have e1:(rest*q != 0)=(rest != 0):=by
  by_cases h0:rest=0
  ·simp[h0]
  ·have:rest*q≠0:=Nat.mul_ne_zero h0 (by omega)
   rw[show(rest*q != 0)=true from bne_iff_ne.2 this,show(rest != 0)=true from bne_iff_ne.2 h0]
 cases Kl
 ·have e2:decide (JF*q<2*(rest*q))=decide (JF<2*rest):=by
   rw[decide_eq_decide,← Nat.mul_assoc]
   exact Nat.mul_lt_mul_right hp
  have e3:(JF*q==2*(rest*q))=(JF==2*rest):=by
   rw[← Nat.mul_assoc]
   by_cases h3:JF=2*rest
   ·simp[h3]
   ·have:JF*q≠2*rest*q:=λe=>h3 (Nat.eq_of_mul_eq_mul_right hp e)
    rw[beq_false_of_ne this,beq_false_of_ne h3]
  show(decide (JF*q<2*(rest*q))||JF*q==2*(rest*q)&&n / JF % 2==1)=(decide (JF<2*rest)||JF==2*rest&&n / JF % 2==1)
  rw[e2,e3]
 ·show(s&&rest*q != 0)=(s&&rest != 0)
  rw[e1]
 ·show(!s&&rest*q != 0)=(!s&&rest != 0)
  rw[e1]
 ·rfl
theorem xW(Kl:Toward)(s:Bool)(n:Nat):Kl.cut s n 0=n:=by
 unfold Toward.cut
 simp only[Nat.zero_le,Nat.min_eq_left,Nat.shiftLeft_zero,Nat.div_one,Nat.mod_one,Nat.mul_zero]
 cases Kl
 ·rfl
 ·cases s <;> rfl
 ·cases s <;> rfl
 ·rfl
theorem TS(Kl:Toward)(s:Bool){n:Nat}(h:n≠0)(k:Nat):Kl.cut s (n*2 ^ k) k=n:=by
 have:=Jx Kl s h 0 k
 rw[Nat.zero_add,xW] at this
 exact this
theorem Ar(f:Format)(s:Bool)(m:Nat)(p:Int)(k:Nat):f.nearest s (m*2 ^ k) (p-k)=f.nearest s m p:=by
 unfold Format.nearest
 by_cases h:m=0
 ·subst h;simp
 have h1:m*2 ^ k≠0:=Nat.mul_ne_zero h (Nat.ne_of_gt (Nat.two_pow_pos k))
 rw[if_neg h,if_neg h1,Cg h]
 dsimp only
 have hl:max (p-(k:Int)+((m.log2+k:Nat):Int)-f.fractionBits) f.leastPlace=max (p+m.log2-f.fractionBits) f.leastPlace:=by
  rw[show p-(k:Int)+((m.log2+k:Nat):Int)-f.fractionBits=p+m.log2-f.fractionBits by omega]
 rw[hl]
 generalize max (p+(m.log2:Int)-f.fractionBits) f.leastPlace=last
 have key:Toward.even.cut s ((m*2 ^ k) <<< (p-k-last).toNat) (last-(p-k)).toNat=Toward.even.cut s (m <<< (p-last).toNat) (last-p).toNat:=by
  rcases Int.le_total last p with h2 | h2
  ·rw[show(last-p).toNat=0 by omega,xW]
   rcases Int.le_total last (p-k) with h3 | h3
   ·rw[show(last-(p-k)).toNat=0 by omega,xW,Nat.shiftLeft_eq,Nat.shiftLeft_eq,show(p-last).toNat=k+(p-k-last).toNat by omega,Nat.pow_add,Nat.mul_assoc]
   ·rw[show(p-k-last).toNat=0 by omega,Nat.shiftLeft_zero]
    have:m*2 ^ k=(m*2 ^ (p-last).toNat)*2 ^ (last-(p-k)).toNat:=by
     rw[Nat.mul_assoc,← Nat.pow_add];congr 2;omega
    rw[this,TS _ _ (Nat.mul_ne_zero h (Nat.ne_of_gt (Nat.two_pow_pos _))),Nat.shiftLeft_eq]
  ·rw[show(p-k-last).toNat=0 by omega,show(p-last).toNat=0 by omega,Nat.shiftLeft_zero,Nat.shiftLeft_zero,show(last-(p-k)).toNat=(last-p).toNat+k by omega,Jx _ _ h]
 rw[key]
theorem CA(f:Format)(s:Bool){m:Nat}{p:Int}(h:m≠0)(hm:m<2 ^ (f.fractionBits+1))(hp:f.leastPlace≤p){last:Int}(Gi:last=max (p+m.log2-f.fractionBits) f.leastPlace)(ho:(last-f.leastPlace).toNat*f.binade+m*2 ^ (p-last).toNat<f.infRung):
  f.read (f.nearest s m p) = .number s (m*2 ^ (p-last).toNat) last∧last≤p:=by
 have hl2:m.log2≤f.fractionBits:=by
  have:=(Nat.log2_lt h (k:=f.fractionBits+1)).2 hm
  omega
 have hle:last≤p:=by omega
 refine⟨?_,hle⟩
 have a1:m<2 ^ (m.log2+1):=Nat.lt_log2_self
 have a2:2 ^ m.log2≤m:=Nat.log2_self_le h
 have e1:f.nearest s m p=f.word s ((last-f.leastPlace).toNat*f.binade+m*2 ^ (p-last).toNat):=by
  unfold Format.nearest
  rw[if_neg h]
  dsimp only
  rw[← Gi,show(last-p).toNat=0 by omega,xW,Nat.shiftLeft_eq,Nat.min_eq_left (Nat.le_of_lt ho)]
 have hb:f.binade=2 ^ f.fractionBits:=rfl
 have hbp:0<f.binade:=Nat.two_pow_pos _
 have hk:m*2 ^ (p-last).toNat<2*f.binade:=by
  have:m*2 ^ (p-last).toNat<2 ^ (m.log2+1+(p-last).toNat):=by
   rw[Nat.pow_add];exact Nat.mul_lt_mul_of_pos_right a1 (Nat.two_pow_pos _)
  have h2:2 ^ (m.log2+1+(p-last).toNat)≤2 ^ (f.fractionBits+1):=Nat.pow_le_pow_right (by decide) (by omega)
  rw[hb,← Nat.pow_succ']
  omega
 have hk2:last=f.leastPlace∨f.binade≤m*2 ^ (p-last).toNat:=by
  rcases Int.le_total (p+m.log2-f.fractionBits) f.leastPlace with h3 | h3
  ·exact .inl (by omega)
  ·refine .inr ?_
   have:2 ^ (m.log2+(p-last).toNat)≤m*2 ^ (p-last).toNat:=by
    rw[Nat.pow_add];exact Nat.mul_le_mul_right _ a2
   rw[show m.log2+(p-last).toNat=f.fractionBits by omega] at this
   exact this
 rw[e1]
 have Np:=f.infRung_lt
 generalize m*2 ^ (p-last).toNat=kept at *
 have hw:(f.word s ((last-f.leastPlace).toNat*f.binade+kept)) % f.signWeight=(last-f.leastPlace).toNat*f.binade+kept:=by
  unfold Format.word
  split
  ·rw[Nat.add_mod_left,Nat.mod_eq_of_lt (by omega)]
  ·rw[Nat.mod_eq_of_lt (by omega)]
 have hn:(f.word s ((last-f.leastPlace).toNat*f.binade+kept) / f.signWeight % 2==1)=s:=by
  have hsw:0<f.signWeight:=Nat.two_pow_pos _
  unfold Format.word
  cases s
  ·simp only[Bool.false_eq_true,if_false]
   rw[Nat.div_eq_of_lt (by omega)];rfl
  ·simp only[if_true]
   rw[Nat.add_div_left _ hsw,Nat.div_eq_of_lt (by omega)];rfl
 unfold Format.read
 dsimp only
 rw[hw,hn]
 rcases hk2 with h3 | h3
 ·rw[h3,Int.sub_self]
  simp only[Int.toNat_zero,Nat.zero_mul,Nat.zero_add]
  by_cases h4:kept<f.binade
  ·rw[if_pos h4]
  ·rw[if_neg h4,if_pos (by rw[h3,Int.sub_self] at ho;simpa using ho)]
   have h5:kept / f.binade=1:=by
    rw[Nat.div_eq_iff hbp];omega
   have h6:kept % f.binade=kept-f.binade:=by
    have:=Nat.div_add_mod kept f.binade
    rw[h5] at this;omega
   rw[h5,h6]
   simp only[Nat.sub_self]
   rw[show f.binade+(kept-f.binade)=kept by omega]
   simp
 ·have h4:¬((last-f.leastPlace).toNat*f.binade+kept<f.binade):=by omega
  rw[if_neg h4,if_pos ho]
  have h5:((last-f.leastPlace).toNat*f.binade+kept) / f.binade=(last-f.leastPlace).toNat+1:=by
   rw[Nat.mul_comm,Nat.mul_add_div hbp]
   have:kept / f.binade=1:=by rw[Nat.div_eq_iff hbp];omega
   omega
  have h6:((last-f.leastPlace).toNat*f.binade+kept) % f.binade=kept-f.binade:=by
   rw[Nat.mul_comm,Nat.mul_add_mod]
   have h7:kept / f.binade=1:=by rw[Nat.div_eq_iff hbp];omega
   have:=Nat.div_add_mod kept f.binade
   rw[h7] at this;omega
  rw[h5,h6]
  rw[show f.binade+(kept-f.binade)=kept by omega]
  congr 1
  omega
theorem MW(k:FloatKind){d:Datum}(h:d.isNaN=false):nan k (k.encode d)=false:=by
 cases d with
 | number s m p=>
  show nan k (k.format.nearest s m p)=false
  unfold Format.nearest
  split
  ·exact nQ (Nat.zero_le _)
  ·exact nQ (Nat.min_le_right _ _)
 | infinity s=>exact nQ (Nat.le_refl _)
 | nan s t=>cases h
theorem CV{a:Nat}(h:nan .f32 a=false):nan .f64 (wide a)=false:=MW .f64 h
theorem mJ(s t:Bool)(m n:Nat)(i j:Int):(Datum.number s m i).product (.number t n j)=some (.number (s ^^ t) (m*n) (i+j)):=rfl
theorem zA{f:Format}{x y:Nat}{d:Datum}(h:(f.read x).product (f.read y)=some d):f.mul x y=some (f.write d):=by
 unfold Format.mul
 rw[h];rfl
theorem agx(n:Nat):2 ^ n≠0:=Nat.ne_of_gt (Nat.two_pow_pos n)
theorem oh:f32.format.fractionBits=23∧f32.format.leastPlace = -149∧f32.format.binade=2 ^ 23∧f32.format.infRung=255*2 ^ 23:=by decide +kernel
theorem rU:f64.format.fractionBits=52∧f64.format.leastPlace = -1074∧f64.format.binade=2 ^ 52∧f64.format.infRung=2047*2 ^ 52:=by decide +kernel
theorem H4(s:Bool){m:Nat}{p:Int}(h:m≠0)(hm:m<2 ^ 24)(h1:-149≤p)(h2:p≤200):
  f64.format.read (f64.format.nearest s m p) = .number s (m*2 ^ (52-m.log2)) (p+m.log2-52):=by
 obtain⟨e1,e2,e3,e4⟩:=rU
 have hl:m.log2≤23:=by
  have:=(Nat.log2_lt h (k:=24)).2 hm
  omega
 have Gi:p+m.log2-52=max (p+m.log2-f64.format.fractionBits) f64.format.leastPlace:=by rw[e1,e2];omega
 have ht:(p-(p+m.log2-52)).toNat=52-m.log2:=by omega
 have hk:m*2 ^ (52-m.log2)<2 ^ 53:=by
  have b2:2 ^ 53=2 ^ (m.log2+1)*2 ^ (52-m.log2):=by rw[← Nat.pow_add];congr 1;omega
  rw[b2]
  exact Nat.mul_lt_mul_of_pos_right Nat.lt_log2_self (Nat.two_pow_pos _)
 have:=(CA f64.format s h (by rw[e1];omega) (by rw[e2];omega) Gi (by
  rw[e2,e3,e4,ht]
  generalize m*2 ^ (52-m.log2)=q at hk
  have h4:(p+(m.log2:Int)-52 - -1074).toNat≤1300:=by omega
  generalize (p+(m.log2:Int)-52 - -1074).toNat=z at h4
  omega)).1
 rw[ht] at this
 exact this
theorem ady(s:Bool):f64.format.read (f64.format.word s f64.format.infRung) = .infinity s:=by cases s <;> decide +kernel
theorem HK(s:Bool):f32.format.read (f32.format.word s 0) = .number s 0 (-149):=by cases s <;> decide +kernel
theorem Mk(s:Bool):f64.format.read (f64.format.word s 0) = .number s 0 (-1074):=by cases s <;> decide +kernel
theorem fv(f:Format)(s:Bool)(p:Int):f.nearest s 0 p=f.word s 0:=by unfold Format.nearest;rw[if_pos rfl]
theorem LO(s t:Bool)(m n:Nat)(i j:Int):(Datum.number s m i).order (.number t n j)=some (compare (signed s m (i-min i j).toNat) (signed t n (j-min i j).toNat)):=rfl
theorem eP(m u:Nat):signed false m u=((m*2 ^ u:Nat):Int):=by unfold signed;rw[Nat.shiftLeft_eq];rfl
theorem jS(m u:Nat):signed true m u = -((m*2 ^ u:Nat):Int):=by unfold signed;rw[Nat.shiftLeft_eq];rfl
theorem vx{a b:Int}(h:b<a):compare a b = .gt:=by
 show compareOfLessAndEq a b=_
 unfold compareOfLessAndEq
 rw[if_neg (by omega),if_neg (by omega)]
theorem vy{a b:Int}(h:a<b):compare a b = .lt:=by
 show compareOfLessAndEq a b=_
 unfold compareOfLessAndEq
 rw[if_pos h]
theorem gN{f:Format}{x y:Nat}{d e:Datum}(h1:f.read x=d)(h2:f.read y=e):f.order x y=d.order e:=by unfold Format.order;rw[h1,h2]
theorem og(k:FloatKind)(s:Bool)(m:Nat)(p:Int):k.encode (.number s m p)=k.format.nearest s m p:=rfl
theorem CS(s:Bool)(m:Nat)(e:Int):(Datum.number s m e).toInt .zero=some (signed s (Toward.zero.cut s (m <<< e.toNat) (-e).toNat) 0):=rfl
theorem compare_ne_gt{a b:Int}(h:compare a b≠.gt):a≤b:=by
 rcases Int.lt_or_le b a with h1 | h1
 ·exact absurd (vx h1) h
 ·exact h1
theorem compare_ne_lt{a b:Int}(h:compare a b≠.lt):b≤a:=by
 rcases Int.lt_or_le a b with h1 | h1
 ·exact absurd (vy h1) h
 ·exact h1
end Go.Sx
