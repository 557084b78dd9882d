/- Lemmas. -/
import Derived.Test.YthgnpepchedpbaaGreatDoorSx8
set_option linter.unusedVariables false
set_option linter.unusedSimpArgs false
namespace Go.Sx
variable {P:Program}{τ:Static}
structure W5 where
 i:Nat
 h:ab
 a:Addr
 n:Nat
def GV(ops:Array Oper)(j:Nat):List Nat:=match ops[j]? with | some o=>(o.after.toList.filter (Region.binds .any)).map (·.on) | none=>[]
def Ek(ops:Array Oper):List Nat->List Nat->List Nat
 | [],acc=>acc
 | j :: r,acc=>Ek ops r (acc++[(GV ops j).foldl (λm k=>Nat.lor (Nat.lor m (2 ^ k)) (acc.getD k 0)) 0])
def RM(ms:List Nat)(i j:Nat):Bool:=!(Nat.testBit (ms.getD j 0) i)
def PIN(h0:ab)(a:Addr)(n:Nat)(h':ab)(X:Prop):Prop:=OO h0 a n h'∧X
def W4(ms:List Nat)(j:Nat)(h':ab)(X:Prop):List W5->Prop
 | []=>X
 | p :: r=>bif RM ms p.i j then PIN p.h p.a p.n h' (W4 ms j h' X r) else W4 ms j h' X r
def ALL(F:Nat->Prop):List Nat->Prop
 | []=>True
 | [i]=>F i
 | i :: r=>F i∧ALL F r
inductive Reach (ops:Array Oper):Nat->Nat->Prop
 | one {k j:Nat}:k ∈ GV ops j->Reach ops k j
 | more {k m j:Nat}:Reach ops k m->m ∈ GV ops j->Reach ops k j
def vv(ops:Array Oper)(listed:Array Bool):Prop:=∀j,listed.getD j false=true->∀k ∈ GV ops j,listed.getD k false=true
theorem KS{ops:Array Oper}{listed:Array Bool}(hc:vv ops listed){k j:Nat}(hr:Reach ops k j)(hj:∀m ∈ GV ops j,listed.getD m false=true):listed.getD k false=true:=by
 induction hr with
 | one h=>exact hj _ h
 | more h1 h2 ih=>exact ih λm hm=>hc _ (hj _ h2) m hm
theorem An(acc:List Nat):∀(l:List Nat) (m i:Nat),Nat.testBit (l.foldl (λm k=>Nat.lor (Nat.lor m (2 ^ k)) (acc.getD k 0)) m) i=true->Nat.testBit m i=true∨∃k ∈ l,i=k∨Nat.testBit (acc.getD k 0) i=true
 | [],m,i,h=>.inl h
 | k :: l,m,i,h=>by
  rw[List.foldl_cons] at h
  rcases An acc l _ i h with h | ⟨k',hk,h⟩
  ·change Nat.testBit ((m ||| 2 ^ k) ||| acc.getD k 0) i=true at h
   rw[Nat.testBit_or,Nat.testBit_or,Bool.or_eq_true,Bool.or_eq_true] at h
   rcases h with(h | h) | h
   ·exact .inl h
   ·refine .inr ⟨k,List.mem_cons_self ..,.inl ?_⟩
    rw[Nat.testBit_two_pow] at h
    exact(of_decide_eq_true h).symm
   ·exact .inr ⟨k,List.mem_cons_self ..,.inr h⟩
  ·exact .inr ⟨k',List.mem_cons_of_mem _ hk,h⟩
theorem El(ops:Array Oper):∀(l:List Nat) (acc:List Nat),(∀j i,Nat.testBit (acc.getD j 0) i=true->Reach ops i j)->(l=List.range' acc.length l.length) ->
  ∀j i,Nat.testBit ((Ek ops l acc).getD j 0) i=true->Reach ops i j
 | [],acc,ha,_=>ha
 | x :: r,acc,ha,hl=>by
  unfold Ek
  have hx:x=acc.length:=by
   rw[List.length_cons,List.range'_succ] at hl
   exact(List.cons.inj hl).1
  refine El ops r _ (λj i h=>?_) (by
   rw[List.length_cons,List.range'_succ] at hl
   have:=(List.cons.inj hl).2
   simpa using this)
  rw[List.getD_eq_getElem?_getD] at h
  rcases Nat.lt_trichotomy j acc.length with hj | hj | hj
  ·rw[List.getElem?_append_left hj] at h
   exact ha j i (by rw[List.getD_eq_getElem?_getD];exact h)
  ·rw[hj,List.getElem?_append_right (Nat.le_refl _)] at h
   simp only[Nat.sub_self,List.getElem?_cons_zero,Option.getD_some] at h
   rcases An acc _ 0 i h with h | ⟨k,hk,h⟩
   ·simp at h
   ·rw[hj,← hx]
    rcases h with rfl | h
    ·exact .one hk
    ·exact .more (ha k i h) hk
  ·rw[List.getElem?_eq_none (by simp;omega)] at h
   simp at h
theorem IZ{ops:Array Oper}{listed:Array Bool}(hc:vv ops listed){i j:Nat}(hi:i ∈ Region.ready .any ops listed)(hj:j ∈ Region.ready .any ops listed):
  RM (Ek ops (List.range ops.size) []) i j=true:=by
 unfold RM
 rw[Bool.not_eq_true']
 cases hb:Nat.testBit ((Ek ops (List.range ops.size) []).getD j 0) i with
 | false=>rfl
 | true=>
  have hr:=El ops (List.range ops.size) [] (λj i h=>by simp at h) (by simp[List.range_eq_range']) j i hb
  obtain⟨_,oj,ZQ,hall⟩:=mem_ready.1 hj
  have h1:=KS hc hr (λm hm=>by
   unfold GV at hm
   rw[ZQ] at hm
   obtain⟨e,he,rfl⟩:=List.mem_map.1 hm
   rw[List.mem_filter] at he
   exact hall e (by simpa using he.1) he.2)
  have h0:=(mem_ready.1 hi).1
  rcases Nat.lt_or_ge i listed.size with h' | h'
  ·simp[h'] at h0 h1;rw[h0] at h1;cases h1
  ·simp[Array.getElem?_eq_none h'] at h1
theorem xU{ops:Array Oper}{listed:Array Bool}(hc:vv ops listed){i:Nat}(hi:i ∈ Region.ready .any ops listed):vv ops (listed.setIfInBounds i true):=by
 intro j hj k hk
 by_cases Uc:i=j
 ·subst Uc
  obtain⟨_,oj,ZQ,hall⟩:=mem_ready.1 hi
  unfold GV at hk
  rw[ZQ] at hk
  obtain⟨e,he,rfl⟩:=List.mem_map.1 hk
  rw[List.mem_filter] at he
  exact getD_set_true (hall e (by simpa using he.1) he.2)
 ·rw[getD_set_ne false Uc] at hj
  exact getD_set_true (hc j hj k hk)
section
variable (P) (ops:Array Oper) (K:Frame->ab->Prop) (ms:List Nat)
def Kept(pins:List W5)(j:Nat)(h h':ab):Prop:=∀p ∈ pins,RM ms p.i j=true->h'=h∨OO p.h p.a p.n h'
def Eu(pins:List W5):Nat->Array Bool->Frame->ab->Prop
 | 0,listed,fr,h=>Region.ready .any ops listed=[]∧K fr h
 | n+1,listed,fr,h=>(Region.ready .any ops listed=[]->K fr h) ∧
  ∀i ∈ Region.ready .any ops listed,∀o,ops[i]? = some o->ka P ops o fr h λxF h'=>Kept ms pins i h h'∧Eu pins n (listed.setIfInBounds i true) xF h'
end
section
variable {ops:Array Oper}{K:Frame->ab->Prop}{ms:List Nat}
theorem ka.ak2{o:Oper}{fr:Frame}{h:ab}{X X':Frame->ab->Prop}(hx:∀u h,X (lO fr o.dst u) h->X' (lO fr o.dst u) h)(H:ka P ops o fr h X):ka P ops o fr h X':=by
 unfold ka at *
 split
 ·rename_i c;rw[if_pos c] at H;exact jt.mono (λu h=>hx u h) H
 ·rename_i c;rw[if_neg c] at H;exact hx _ _ H
theorem Eu.weaken{pins Ct:List W5}(hp:∀p ∈ pins,p ∈ Ct):∀(n:Nat) (listed:Array Bool) (fr:Frame) (h:ab),Eu P ops K ms Ct n listed fr h->Eu P ops K ms pins n listed fr h
 | 0,_,_,_,H=>H
 | n+1,_,_,_,H=>⟨H.1,λi hi o ho=>ka.mono (λ_ _ ⟨h1,h2⟩=>⟨λp hm=>h1 p (hp p hm),Eu.weaken hp n _ _ _ h2⟩) (H.2 i hi o ho)⟩
def YLD(P:Program)(ops:Array Oper)(o:Oper)(fr:Frame)(v:Value)(St:ab->Prop):Prop:=
 (kR ops fr o=true∧∀h',St h'->jt P (execOp (evL fr) o) (λu WS=>u=v∧WS=h') h')∨(kR ops fr o=false∧v=undef)
theorem YLD.step{o:Oper}{fr:Frame}{v:Value}{St:ab->Prop}(hy:YLD P ops o fr v St){h:ab}(hs:St h){X:Frame->ab->Prop}(hx:X (lO fr o.dst v) h):ka P ops o fr h X:=by
 unfold ka
 rcases hy with⟨hw,hv⟩ | ⟨hw,rfl⟩
 ·rw[if_pos hw]
  exact jt.mono (λu h' ⟨e1,e2⟩=>by rw[e1,e2];exact hx) (hv h hs)
 ·rw[if_neg (by rw[hw];simp)]
  exact hx
theorem Ce{fr:Frame}{d t:Nat}{v:Value}(h:d≠t):ah (IK fr d v) t=ah fr t:=by
 rw[rj,rj,Ch,List.getElem?_set_ne h]
theorem WH{fr:Frame}{d:Option Tmp}{v:Value}{x:Operand}(h:∀t,d=some t->x≠.tmp t):evL (lO fr d v) x=evL fr x:=by
 cases d with
 | none=>rfl
 | some t=>
  cases x <;> try rfl
  rename_i u
  exact Ce λe=>h t rfl (by rw[e])
theorem E6(o:Oper)(hs:∀cs b,o.op≠.select cs b)(fr:Frame)(d:Option Tmp)(v:Value)(h:∀t,d=some t->t ∉ o.looksAt ops):execOp (evL (lO fr d v)) o=execOp (evL fr) o:=by
 refine execOp_congr o hs λx hx=>WH λt ht hxt=>h t ht ?_
 subst hxt
 refine List.mem_append.2 (.inl (List.mem_filterMap.2 ⟨.tmp t,by simpa using hx,rfl⟩))
theorem HH(o:Oper)(fr:Frame)(d:Option Tmp)(v:Value)(h:∀t,d=some t->t ∉ o.looksAt ops):kR ops (lO fr d v) o=kR ops fr o:=by
 unfold kR
 cases hg:o.guard with
 | none=>rfl
 | some g=>
  obtain⟨j,want⟩:=g
  have:sB ops (lO fr d v) j=sB ops fr j:=by
   unfold sB
   cases hd:(ops[j]?).bind (·.dst) with
   | none=>rfl
   | some t=>
    cases d with
    | none=>rfl
    | some u=>
     refine Ce λe=>h u rfl ?_
     subst e
     refine List.mem_append.2 (.inr ?_)
     rw[hg]
     simp only[]
     rw[hd]
     simp
  simp only[this]
theorem K9(fr:Frame){x y:Option Tmp}(v u:Value)(h:∀d,x=some d->y≠some d):lO (lO fr x v) y u=lO (lO fr y u) x v:=by
 cases x <;> cases y <;> try rfl
 rename_i a b
 have:a≠b:=λe=>h a rfl (by rw[e])
 simp only[lO,Ch]
 rw[List.set_comm _ _ this]
theorem first(hns:Region.noSelect ops=true){i:Nat}{oi:Oper}{v:Value}{St:ab->Prop}(hi:ops[i]? = some oi){pins Ct:List W5}(IE:∀p ∈ pins,p ∈ Ct)(hR:∀j h h',RM ms i j=true->Kept ms Ct j h h'->h'=h∨St h')(hms:ms=Ek ops (List.range ops.size) []):
  ∀(n:Nat) (listed:Array Bool) (fr:Frame) (h:ab),vv ops listed ->
   (∀j oj,ops[j]? = some oj->j≠i->listed.getD j true=false->(∀e ∈ oj.after,Region.binds .any e=true->e.on≠i)->oi.apart ops oj=true) ->
   i ∈ Region.ready .any ops listed->YLD P ops oi fr v St->St h ->
   Eu P ops K ms Ct n (listed.setIfInBounds i true) (lO fr oi.dst v) h->Eu P ops K ms pins (n+1) listed fr h:=by
 have ajx:=Region.noSelect_spec hns
 intro n
 induction n with
 | zero=>
  intro listed fr h hc _ hr hy hs H
  refine⟨λe=>(by rw[e] at hr;cases hr),λj hj o ho=>?_⟩
  by_cases hji:j=i
  ·subst hji
   rw[hi] at ho
   cases ho
   exact hy.step hs ⟨λ_ _ _=>.inl rfl,H⟩
  ·have:=ready_mono hj hji
   rw[H.1] at this
   cases this
 | succ n ih=>
  intro listed fr h hc adp hr hy hs H
  refine⟨λe=>(by rw[e] at hr;cases hr),λj hj oj ZQ=>?_⟩
  by_cases hji:j=i
  ·subst hji
   rw[hi] at ZQ
   cases ZQ
   exact hy.step hs ⟨λ_ _ _=>.inl rfl,Eu.weaken IE _ _ _ _ H⟩
  ·have h1:=H.2 j (ready_mono hj hji) oj ZQ
   obtain⟨ajl,oj',aju,hall⟩:=mem_ready.1 hj
   rw[ZQ] at aju
   cases aju
   have ap1:∀e ∈ oj.after,Region.binds .any e=true->e.on≠i:=λe he hb heq=>by
    have h1:=hall e he hb
    have h0:=(mem_ready.1 hr).1
    rw[heq] at h1
    rcases Nat.lt_or_ge i listed.size with h' | h'
    ·simp[h'] at h0 h1;rw[h0] at h1;cases h1
    ·simp[Array.getElem?_eq_none h'] at h1
   obtain⟨a1,a2,a3⟩:=Oper.apart_spec (adp j oj ZQ hji ajl ap1)
   have Lk:RM ms i j=true:=by rw[hms];exact IZ hc hr hj
   have h2:ka P ops oj fr h λxF h'=>Kept ms Ct j h h'∧Eu P ops K ms Ct n ((listed.setIfInBounds i true).setIfInBounds j true) (lO xF oi.dst v) h':=by
    unfold ka at h1 ⊢
    rw[HH oj fr oi.dst v a1,E6 oj (λcs b=>ajx j oj cs b ZQ) fr oi.dst v a1] at h1
    split
    ·rename_i c
     rw[if_pos c] at h1
     exact jt.mono (λu h' ⟨k1,k2⟩=>⟨k1,by rw[← K9 fr v u a2];exact k2⟩) h1
    ·rename_i c
     rw[if_neg c] at h1
     exact⟨h1.1,by rw[← K9 fr v undef a2];exact h1.2⟩
   have afi:∀k ok,ops[k]? = some ok->k≠i->(listed.setIfInBounds j true).getD k true=false ->
     (∀e ∈ ok.after,Region.binds .any e=true->e.on≠i)->oi.apart ops ok=true:=λk ok hk hki hun hno=>by
    refine adp k ok hk hki ?_ hno
    by_cases hjk:j=k
    ·subst hjk;exact ajl
    ·rw[getD_set_ne true hjk] at hun;exact hun
   refine ka.ak2 (λu h' ⟨k1,k2⟩=>⟨λp hp=>k1 p (IE p hp),?_⟩) h2
   have Qm:St h':=by
    rcases hR j h h' Lk k1 with e | e
    ·rw[e];exact hs
    ·exact e
   have hy':YLD P ops oi (lO fr oj.dst u) v St:=by
    unfold YLD
    rw[HH oi fr oj.dst u a3,E6 oi (λcs b=>ajx i oi cs b hi) fr oj.dst u a3]
    exact hy
   refine ih (listed.setIfInBounds j true) _ h' (xU hc hj) afi (ready_mono hr (Ne.symm hji)) hy' Qm ?_
   rw[Array.setIfInBounds_comm _ _ hji]
   exact k2
theorem Sj{Q:Exit->Act->World->Prop}{a0:Act}{w0:World}(hQ:∀a w,Left a0 w0 K a w->Q .normal a w):
  ∀(n:Nat) (listed:Array Bool) (pins:List W5) (a:Act) (w:World),a.defers=a0.defers->hZ w0 w->Eu P ops K ms pins n listed a.tmps.toList w.heap->wpAny P .any ops Q n listed a w
 | 0,_,_,a,w,hd,hs,H=>⟨H.1,hQ a w ⟨hd,hs,H.2⟩⟩
 | n+1,listed,pins,a,w,hd,hs,H=>⟨λe=>hQ a w ⟨hd,hs,H.1 e⟩,λi hi=>by
   obtain⟨_,o,ho,_⟩:=mem_ready.1 hi
   unfold wpOp
   rw[ho]
   simp only[]
   refine OT (H.2 i hi o ho) λa' w' ⟨h1,h2,h3⟩=>?_
   exact Sj hQ n _ pins a' w' (h1.trans hd) (hs.trans h2) h3.2⟩
end
def LX(τ:Static)(ops:Array Oper)(o:Oper)(fr:Frame):Bool:=
 match o.guard with
 | none=>zI τ o (evL fr)
 | some (j,want)=>match sB ops fr j with
  | .bool true=>bif want then zI τ o (evL fr) else true
  | .bool false=>bif want then true else zI τ o (evL fr)
  | _=>true
def KI(τ:Static)(ops:Array Oper)(i:Nat)(o:Oper)(fr:Frame)(h:ab)(pins:List W5):List W5:=
 bif kR ops fr o then(match LG τ o (evL fr) with | some (a,n)=>⟨i,h,a,n⟩ :: pins | none=>pins) else pins
def akt(τ:Static)(ops:Array Oper)(listed:Array Bool)(fr:Frame)(rs:List Nat):Option Nat:=
 rs.find? λi=>match ops[i]? with | some o=>LX τ ops o fr&&Region.free .any ops listed i | none=>false
def Jy(P:Program)(τ:Static)(ops:Array Oper)(ms:List Nat)(K:Frame->ab->Prop):Nat->Array Bool->Frame->ab->List W5->Prop
 | 0,listed,fr,h,_=>(match Region.ready .any ops listed with | []=>K fr h | _=>False)
 | n+1,listed,fr,h,pins=>(match Region.ready .any ops listed with
  | []=>K fr h
  | r :: rs=>(match akt τ ops listed fr (r :: rs) with
   | some i=>(match ops[i]? with
    | some o=>CK P τ ops o fr h λxF h'=>Hk ops i o xF h' λxF h'=>Jy P τ ops ms K n (listed.setIfInBounds i true) xF h' (KI τ ops i o fr h pins)
    | none=>False)
   | none=>ALL (λi=>match ops[i]? with
    | some o=>CK P τ ops o fr h λxF h'=>W4 ms i h' (Hk ops i o xF h' λxF h'=>Jy P τ ops ms K n (listed.setIfInBounds i true) xF h' pins) pins
    | none=>False) (r :: rs)))
theorem Si{F:Nat->Prop}:∀{l:List Nat},ALL F l->∀i ∈ l,F i
 | [],_,i,hi=>by cases hi
 | [j],H,i,hi=>by
  rw[List.mem_singleton] at hi
  rw[hi];exact H
 | j :: k :: r,H,i,hi=>by
  rcases List.mem_cons.1 hi with rfl | hi
  ·exact H.1
  ·exact Si H.2 i hi
theorem Fw{ms:List Nat}{j:Nat}{h h':ab}{X:Prop}:∀{pins:List W5},W4 ms j h' X pins->X∧Kept ms pins j h h'
 | [],H=>⟨H,λp hp=>by cases hp⟩
 | p :: r,H=>by
  unfold W4 at H
  cases hr:RM ms p.i j with
  | true=>
   rw[hr] at H
   obtain⟨h1,h2⟩:=Fw (h:=h) H.2
   refine⟨h1,λq hq Lk=>?_⟩
   rcases List.mem_cons.1 hq with rfl | hq
   ·exact .inr H.1
   ·exact h2 q hq Lk
  | false=>
   rw[hr] at H
   obtain⟨h1,h2⟩:=Fw (h:=h) H
   refine⟨h1,λq hq Lk=>?_⟩
   rcases List.mem_cons.1 hq with rfl | hq
   ·rw[hr] at Lk;cases Lk
   ·exact h2 q hq Lk
theorem aes{ops:Array Oper}{o:Oper}{fr:Frame}{h:ab}{X:Frame->ab->Prop}(hτ:OkS P τ)(hs:LX τ ops o fr=true)(H:CK P τ ops o fr h X):
  ∃v,X (lO fr o.dst v) h∧YLD P ops o fr v (λh'=>kR ops fr o=true->Es τ o (evL fr) h h'):=by
 have yes:kR ops fr o=true->zI τ o (evL fr)=true->opI P τ o (evL fr) (λv h'=>X (lO fr o.dst v) h') h->∃v,X (lO fr o.dst v) h∧YLD P ops o fr v (λh'=>kR ops fr o=true->Es τ o (evL fr) h h'):=by
  intro e hs H
  obtain⟨v,h1,h2⟩:=RT hs H
  refine⟨v,h1,.inl ⟨e,λh' hst=>?_⟩⟩
  exact JY hτ o (evL fr) (λu WS=>u=v∧WS=h') h' (h2 (λu WS=>u=v∧WS=h') h' (hst e) ⟨rfl,rfl⟩)
 have no:kR ops fr o=false->X (lO fr o.dst undef) h->∃v,X (lO fr o.dst v) h∧YLD P ops o fr v (λh'=>kR ops fr o=true->Es τ o (evL fr) h h'):=
  λe H=>⟨undef,H,.inr ⟨e,rfl⟩⟩
 unfold CK at H
 unfold LX at hs
 cases hg:o.guard with
 | none=>rw[hg] at H hs;exact yes (by unfold kR;rw[hg]) hs H
 | some g=>
  obtain⟨j,want⟩:=g
  rw[hg] at H hs
  simp only[] at H hs
  have hw:∀v,sB ops fr j=v->kR ops fr o=(match v with | .bool b=>b==want | _=>false):=λv e=>by unfold kR;rw[hg];simp only[e];rfl
  cases hv:sB ops fr j <;> rw[hv] at H hs <;> first
   | exact no (hw _ hv) H
   | skip
  rename_i b
  cases b <;> cases want <;> first
   | exact no (hw _ hv) H
   | exact yes (hw _ hv) hs H
theorem Dc(hτ:OkS P τ){ops:Array Oper}{K:Frame->ab->Prop}(hns:Region.noSelect ops=true){ms:List Nat}(hms:ms=Ek ops (List.range ops.size) []):
  ∀(n:Nat) (listed:Array Bool) (fr:Frame) (h:ab) (pins:List W5),vv ops listed->Jy P τ ops ms K n listed fr h pins->Eu P ops K ms pins n listed fr h
 | 0,listed,fr,h,pins,_,H=>by
  unfold Jy at H
  unfold Eu
  split at H
  ·rename_i e;exact⟨e,H⟩
  ·exact H.elim
 | n+1,listed,fr,h,pins,hc,H=>by
  unfold Jy at H
  split at H
  ·rename_i e
   refine⟨λ_=>H,λi hi=>?_⟩
   rw[e] at hi;cases hi
  ·rename_i r rs e
   split at H
   ·rename_i i hp
    split at H
    ·rename_i o ho
     have ajm:i ∈ Region.ready .any ops listed:=by rw[e];exact List.mem_of_find?_eq_some hp
     have Xs:=List.find?_some hp
     rw[ho] at Xs
     simp only[Bool.and_eq_true] at Xs
     obtain⟨hs,hf⟩:=Xs
     obtain⟨v,h1,h2⟩:=aes hτ hs H
     have h3:=Dc hτ hns hms n _ _ _ _ (xU hc ajm) (Bh h1)
     refine first (Ct:=KI τ ops i o fr h pins) hns ho ?_ ?_ hms n listed fr h hc (Region.free_spec ho hf) ajm h2 ?_ h3
     ·intro p hp
      unfold KI
      cases kR ops fr o with
      | false=>exact hp
      | true=>
       simp only[cond_true]
       split
       ·exact List.mem_cons_of_mem _ hp
       ·exact hp
     ·intro j h0 h' Lk hk
      unfold KI at hk
      by_cases hw:kR ops fr o=true
      ·rw[hw] at hk
       simp only[cond_true] at hk
       unfold Es
       split at hk
       ·rename_i a m hl
        rcases hk _ (List.mem_cons_self ..) Lk with e1 | e1
        ·exact .inl e1
        ·refine .inr λ_=>?_
         rw[hl]
         exact e1
       ·rename_i hl
        refine .inr λ_=>?_
        rw[hl]
        trivial
      ·exact .inr λe1=>absurd e1 hw
     ·intro _
      unfold Es
      split
      ·exact λ_ _=>rfl
      ·trivial
    ·exact H.elim
   ·refine⟨λe2=>(by rw[e] at e2;cases e2),λi hi o ho=>?_⟩
    have hF:=Si H i (by rw[← e];exact hi)
    rw[ho] at hF
    simp only[] at hF
    refine ka.mono (λxF h' hp=>?_) (Tp hτ hF)
    obtain⟨k1,k2⟩:=Fw (h:=h) hp
    exact⟨k2,Dc hτ hns hms n _ _ _ _ (xU hc hi) (Bh k1)⟩
end Go.Sx
