/- Lemmas. -/
import Derived.Test.YthhepeklpgefkaaGreatDoorLp3
import Derived.Test.YthhepeklpgefkaaGreatDoorTabE
import Derived.Test.YthhepeklpgefkaaGreatDoorLp1
set_option linter.unusedVariables false
set_option linter.unusedSimpArgs false
namespace Go.Sx
open FloatKind (f32 f64)
open IntKind (i64)
def lt4:List Int->List Int->Bool
 | a :: ji,b :: bs=>if a=b then lt4 ji bs else decide (a<b)
 | _,_=>false
theorem yl{a b:Int}{ji bs:List Int}:lt4 (a :: ji) (b :: bs)=true↔a<b∨a=b∧lt4 ji bs=true:=by
 rw[lt4]
 split
 ·next e=>
  subst e
  constructor
  ·exact λh=>.inr ⟨rfl,h⟩
  ·rintro (h | h)
   ·omega
   ·exact h.2
 ·next e=>
  rw[decide_eq_true_iff]
  constructor
  ·exact .inl
  ·rintro (h | h)
   ·exact h
   ·exact absurd h.1 e
theorem Ci:∀l:List Int,lt4 l l=false
 | []=>rfl
 | a :: l=>by rw[lt4,if_pos rfl];exact Ci l
theorem Jy:∀{a b c:List Int},lt4 a b=true->lt4 b c=true->lt4 a c=true
 | [],_,_,h,_=>by cases h
 | _ :: _,[],_,h,_=>by simp[lt4] at h
 | _ :: _,_ :: _,[],_,h=>by simp[lt4] at h
 | x :: a,y :: b,z :: c,h1,h2=>by
  rw[yl] at *
  rcases h1 with h1 | ⟨rfl,h1⟩ <;> rcases h2 with h2 | ⟨rfl,h2⟩
  ·exact .inl (by omega)
  ·exact .inl h1
  ·exact .inl h2
  ·exact .inr ⟨rfl,Jy h1 h2⟩
def fL(e:bf):Bool:=e.Kind==2
def jq(e:bf):Bool:=e.Kind==1
def mj(ni:Int)(e:bf):Bool:=
 inR e.At 0 100000&&(if e.Kind=1 then e.ar==0&&e.Key==0&&e.iK==0 else e.Kind==2&&inR e.ar 0 (ni-1)&&inR e.Key (-100) 100&&fin e.iK)
def ln(es:List bf)(note:Int):Option bf:=es.find? λe=>fL e&&e.aT==note
def zh(es:List bf)(note:Int):Int:=match ln es note with | some e=>e.At | none=>-1
def Jq(late:Bool)(e:bf):List Int:=[e.At,if late then 0 else 1,e.aT,if e.Kind=1 then 1 else 0]
def keyOf(es:List bf)(e:bf):List Int:=Jq (jq e&&decide (zh es e.aT<e.At)) e
structure mh (es:List bf) (ni:Int):Prop where
 even:es.length=2*(es.length / 2)
 MP:es.length / 2≤64
 part:∀i,i<es.length->mj ni es[i]! = true
 note:∀i,i<es.length->0≤es[i]!.aT∧es[i]!.aT<(es.length / 2:Nat)
 st1:∀i j,i<es.length->j<es.length->fL es[i]! = true->fL es[j]! = true->es[i]!.aT=es[j]!.aT->i=j
 sp1:∀i j,i<es.length->j<es.length->jq es[i]! = true->jq es[j]! = true->es[i]!.aT=es[j]!.aT->i=j
 pair:∀i,i<es.length->jq es[i]! = true->∃j,j<es.length∧fL es[j]! = true∧es[j]!.aT=es[i]!.aT∧es[j]!.At≤es[i]!.At
 ord:∀i,i+1<es.length->lt4 (keyOf es es[i]!) (keyOf es es[i+1]!)=true
noncomputable def Sg(es:List bf)(ni:Int):Bool:=@decide (mh es ni) (Classical.propDecidable _)
theorem HA{es:List bf}{ni:Int}:Sg es ni=true↔mh es ni:=by unfold Sg;exact @decide_eq_true_iff _ (Classical.propDecidable _)
theorem yV{es:List bf}{ni:Int}(h:¬mh es ni):Sg es ni=false:=by
 rw[Bool.eq_false_iff];exact λe=>h (HA.1 e)
section
variable {es:List bf}{ni:Int}
theorem chain(f:Nat->List Int){n:Nat}(h:∀i,i+1<n->lt4 (f i) (f (i+1))=true):∀{i j},i<j->j<n->lt4 (f i) (f j)=true:=by
 intro i j Zd hj
 induction j with
 | zero=>omega
 | succ j ih=>
  by_cases e:i=j
  ·subst e;exact h i hj
  ·exact Jy (ih (by omega) (by omega)) (h j hj)
theorem SH{e:bf}(h:mj ni e=true):jq e=true∧fL e=false∨fL e=true∧jq e=false:=by
 unfold mj at h
 unfold jq fL
 rw[Bool.and_eq_true] at h
 by_cases hk:e.Kind=1
 ·rw[hk];exact .inl ⟨rfl,rfl⟩
 ·rw[if_neg hk] at h
  simp only[Bool.and_eq_true] at h
  have:e.Kind=2:=by have:=h.2.1.1.1;simpa using this
  rw[this];exact .inr ⟨rfl,rfl⟩
theorem VG{j:Nat}(hj:j<es.length)(hs:fL es[j]! = true)(h1:∀i,i<es.length->fL es[i]! = true->es[i]!.aT=es[j]!.aT->i=j):zh es es[j]!.aT=es[j]!.At:=by
 unfold zh ln
 cases hf:es.find? λe=>fL e&&e.aT==es[j]!.aT with
 | none=>
  have:=List.find?_eq_none.1 hf es[j]! (by rw[getElem!_pos es j hj];exact List.getElem_mem hj)
  exact absurd (by rw[hs];simp) this
 | some e=>
  have hm:=List.mem_of_find?_eq_some hf
  have hp:=List.find?_some hf
  obtain⟨i,hi,rfl⟩:=List.mem_iff_getElem.1 hm
  simp only[Bool.and_eq_true,beq_iff_eq] at hp
  have:=h1 i hi (by rw[getElem!_pos es i hi];exact hp.1) (by rw[getElem!_pos es i hi];exact hp.2)
  subst this
  show es[i].At=es[i]!.At
  rw[getElem!_pos es i hi]
theorem mh.before(G:mh es ni){i j:Nat}(hi:i<es.length)(hj:j<es.length)(hs:fL es[j]! = true)(hp:jq es[i]! = true)(hn:es[j]!.aT=es[i]!.aT):j<i:=by
 obtain⟨j',h1,h2,h3,h4⟩:=G.pair i hi hp
 obtain rfl:j'=j:=G.st1 j' j h1 hj h2 hs (by rw[h3,hn])
 have hsa:=VG hj hs (λi hi h e=>G.st1 i j' hi hj h hs e)
 by_cases vR:j'<i
 ·exact vR
 ·exfalso
  have hsp:jq es[j']! = false:=by
   rcases SH (G.part j' hj) with h | h
   ·rw[h.2] at hs;cases hs
   ·exact h.2
  have Fz:i≠j':=λe=>by subst e;rw[hp] at hsp;cases hsp
  have h5:=chain (λk=>keyOf es es[k]!) G.ord (i:=i) (j:=j') (by omega) hj
  have h6:lt4 (keyOf es es[j']!) (keyOf es es[i]!)=true:=by
   unfold keyOf Jq
   rw[hsp,hp,← hn,hsa]
   have k1:es[i]!.Kind=1:=by unfold jq at hp;simpa using hp
   have k2:¬es[j']!.Kind=1:=by unfold jq at hsp;simpa using hsp
   rw[if_neg k2,if_pos k1]
   simp only[Bool.false_and,Bool.true_and]
   rw[yl]
   rcases Int.lt_or_eq_of_le h4 with h | h
   ·exact .inl h
   ·refine .inr ⟨h,?_⟩
    rw[decide_eq_false (p:=es[j']!.At<es[i]!.At) (by omega)]
    rw[yl]
    refine .inr ⟨rfl,?_⟩
    rw[yl]
    refine .inr ⟨rfl,?_⟩
    rw[yl]
    exact .inl (by decide)
  have:=Jy h5 h6
  rw[Ci] at this
  cases this
def qG(p:bf->Bool)(es:List bf)(i:Nat)(note:Int):Nat:=(es.take i).countP λe=>p e&&e.aT==note
theorem Jb(p:bf->Bool)(note:Int):qG p es 0 note=0:=rfl
theorem AF(p:bf->Bool){i:Nat}(hi:i<es.length)(note:Int):qG p es (i+1) note=qG p es i note+if p es[i]! && es[i]!.aT==note then 1 else 0:=by
 unfold qG
 rw[List.take_succ_eq_append_getElem hi,List.countP_append,List.countP_singleton,getElem!_pos es i hi]
theorem xv{p:bf->Bool}{i:Nat}(hi:i≤es.length){note:Int}:0<qG p es i note↔∃j,j<i∧p es[j]! = true∧es[j]!.aT=note:=by
 unfold qG
 rw[List.countP_pos_iff]
 constructor
 ·rintro ⟨e,hm,hp⟩
  obtain⟨j,hj,rfl⟩:=List.mem_iff_getElem.1 hm
  rw[List.length_take] at hj
  simp only[Bool.and_eq_true,beq_iff_eq,List.getElem_take] at hp
  exact ⟨j,by omega,by rw[getElem!_pos es j (by omega)];exact hp.1,by rw[getElem!_pos es j (by omega)];exact hp.2⟩
 ·rintro ⟨j,hj,h1,h2⟩
  rw[getElem!_pos es j (by omega)] at h1 h2
  refine ⟨es[j]'(by omega),List.mem_iff_getElem.2 ⟨j,by rw[List.length_take];omega,by rw[List.getElem_take]⟩,?_⟩
  simp[h1,h2]
structure TV (es:List bf) (ni:Int) (i:Nat):Prop where
 part:mj ni es[i]! = true
 note:0≤es[i]!.aT∧es[i]!.aT<(es.length / 2:Nat)
 st:fL es[i]! = true->qG jq es i es[i]!.aT=0∧qG fL es i es[i]!.aT=0
 sp:jq es[i]! = true->0<qG fL es i es[i]!.aT∧qG jq es i es[i]!.aT=0
theorem mh.mJ(G:mh es ni){i:Nat}(hi:i<es.length):TV es ni i:=by
 have z:∀{n:Nat},¬0<n->n=0:=λh=>by omega
 refine ⟨G.part i hi,G.note i hi,λhs=>⟨?_,?_⟩,λhp=>⟨?_,?_⟩⟩
 ·refine z λh=>?_
  obtain⟨j,h1,h2,h3⟩:=(xv (by omega)).1 h
  have:=G.before (i:=j) (j:=i) (by omega) hi hs h2 h3.symm
  omega
 ·refine z λh=>?_
  obtain⟨j,h1,h2,h3⟩:=(xv (by omega)).1 h
  have:=G.st1 j i (by omega) hi h2 hs h3
  omega
 ·obtain⟨j,h1,h2,h3,_⟩:=G.pair i hi hp
  exact (xv (by omega)).2 ⟨j,G.before hi h1 h2 hp h3,h2,h3⟩
 ·refine z λh=>?_
  obtain⟨j,h1,h2,h3⟩:=(xv (by omega)).1 h
  have:=G.sp1 j i (by omega) hi h2 hp h3
  omega
theorem aaE(e:es.length=2*(es.length / 2))(m:es.length / 2≤64)(S:∀i,i<es.length->TV es ni i)(o:∀i,i+1<es.length->lt4 (keyOf es es[i]!) (keyOf es es[i+1]!)=true):mh es ni:=by
 have one:∀(p:bf->Bool),(∀i,i<es.length->p es[i]! = true->qG p es i es[i]!.aT=0)->∀i j,i<es.length->j<es.length->p es[i]! = true->p es[j]! = true->es[i]!.aT=es[j]!.aT->i=j:=by
  intro p h i j hi hj h1 h2 hn
  rcases Nat.lt_trichotomy i j with vR | rfl | vR
  ·have:=(xv (p:=p) (es:=es) (i:=j) (note:=es[j]!.aT) (by omega)).2 ⟨i,vR,h1,hn⟩
   have:=h j hj h2
   omega
  ·rfl
  ·have:=(xv (p:=p) (es:=es) (i:=i) (note:=es[i]!.aT) (by omega)).2 ⟨j,vR,h2,hn.symm⟩
   have:=h i hi h1
   omega
 have s1:=one fL λi hi h=>((S i hi).st h).2
 refine ⟨e,m,λi hi=>(S i hi).part,λi hi=>(S i hi).note,s1,one jq λi hi h=>((S i hi).sp h).2,λi hi hp=>?_,o⟩
 obtain⟨j,h1,h2,h3⟩:=(xv (by omega)).1 ((S i hi).sp hp).1
 refine ⟨j,by omega,h2,h3,?_⟩
 have:=chain (λk=>keyOf es es[k]!) o h1 hi
 unfold keyOf Jq at this
 rw[yl] at this
 omega
def qC(p:bf->Bool)(f:bf->Value)(es:List bf):List (Int×Value):=(es.filter p).map λe=>(e.aT,f e)
def te(l:List (Int×Value)):List (Int×Value):=l.foldl (λm p=>FG m p.1 p.2) []
theorem ze(l:List (Int×Value))(p:Int×Value):te (l++[p])=FG (te l) p.1 p.2:=by unfold te;rw[List.foldl_append];rfl
theorem Ed(l:List (Int×Value))(n:Int):jr (te l) n=(l.reverse.find? λp=>p.1==n).map (·.2):=by
 suffices h:∀r:List (Int×Value),jr (te r.reverse) n=(r.find? λp=>p.1==n).map (·.2) by
  have:=h l.reverse
  rwa [List.reverse_reverse] at this
 intro r
 induction r with
 | nil=>rfl
 | cons p r ih=>
  rw[List.reverse_cons,ze,GS,List.find?_cons,ih]
  by_cases e:p.1=n
  ·rw[if_pos e.symm,show (p.1==n)=true by simpa using e];rfl
  ·rw[if_neg (λh=>e h.symm),show (p.1==n)=false by simpa using e]
theorem Nm(l:List (Int×Value))(n:Int):(jr (te l) n).isSome=true↔n ∈ l.map (·.1):=by
 rw[Ed,Option.isSome_map]
 rw[List.find?_isSome]
 simp only[List.mem_reverse,beq_iff_eq,List.mem_map]
theorem Ct(l:List (Int×Value)):(te l).length≤l.length∧((te l).length=l.length↔(l.map (·.1)).Nodup):=by
 suffices h:∀r:List (Int×Value),(te r.reverse).length≤r.length∧((te r.reverse).length=r.length↔(r.map (·.1)).Nodup) by
  have:=h l.reverse
  rw[List.reverse_reverse,List.length_reverse] at this
  refine ⟨this.1,this.2.trans ?_⟩
  rw[List.map_reverse]
  unfold List.Nodup
  rw[List.pairwise_reverse]
  exact ⟨λh=>h.imp λk=>k.symm,λh=>h.imp λk=>k.symm⟩
 intro r
 induction r with
 | nil=>exact ⟨Nat.le_refl _,by simp[te]⟩
 | cons p r ih=>
  rw[List.reverse_cons,ze,af7,List.map_cons,List.nodup_cons,List.length_cons]
  have hm:(jr (te r.reverse) p.1).isSome=true↔p.1 ∈ r.map (·.1):=by
   rw[Nm,List.map_reverse,List.mem_reverse]
  by_cases h:p.1 ∈ r.map (·.1)
  ·rw[if_pos (hm.2 h)]
   exact ⟨by omega,⟨λe=>by omega,λe=>absurd h e.1⟩⟩
  ·rw[if_neg (λe=>h (hm.1 e))]
   exact ⟨by omega,⟨λe=>⟨h,ih.2.1 (by omega)⟩,λe=>by rw[ih.2.2 e.2]⟩⟩
theorem MT:∀(n:Nat) (l:List Int),l.Nodup->(∀x ∈ l,0≤x∧x<n)->l.length≤n
 | 0,[],_,_=>Nat.le_refl _
 | 0,x :: l,_,h=>by have:=h x (.head _);omega
 | n+1,l,hd,h=>by
  have h1:(l.filter λx=>x != (n:Int)).length≤n:=by
   refine MT n _ (hd.filter _) λx hx=>?_
   obtain⟨hm,Fz⟩:=List.mem_filter.1 hx
   have:=h x hm
   have Fz:x≠(n:Int):=by simpa using Fz
   omega
  have h2:l.length≤(l.filter λx=>x != (n:Int)).length+1:=by
   clear h h1
   induction l with
   | nil=>simp
   | cons a l ih=>
    rw[List.nodup_cons] at hd
    rw[List.filter_cons]
    by_cases e:a=(n:Int)
    ·subst e
     rw[if_neg (by simp)]
     have:l.filter (λx=>x != (n:Int))=l:=List.filter_eq_self.2 λx hx=>by
      have:x≠(n:Int):=λe=>hd.1 (e ▸ hx)
      simpa using this
     rw[this,List.length_cons]
     omega
    ·rw[if_pos (by simpa using e),List.length_cons,List.length_cons]
     have:=ih hd.2
     omega
  omega
def L7(es:List bf)(n:Int):Option Int:=((es.filter fL).reverse.find? λe=>e.aT==n).map (·.At)
def AV(es:List bf):List (Int×Value):=te (qC fL (λe=>.int .i64 e.At) es)
def tk(es:List bf):List (Int×Value):=te (qC jq (λ_=>.bool true) es)
theorem QE(es:List bf)(n:Int):jr (AV es) n=(L7 es n).map (.int .i64):=by
 unfold AV L7
 rw[Ed]
 unfold qC
 rw[← List.map_reverse,List.find?_map,Option.map_map,Option.map_map]
 rfl
theorem Na{n a:Int}(h:L7 es n=some a):∃j,j<es.length∧fL es[j]! = true∧es[j]!.aT=n∧es[j]!.At=a:=by
 unfold L7 at h
 cases hf:(es.filter fL).reverse.find? λe=>e.aT==n with
 | none=>rw[hf] at h;cases h
 | some e=>
  rw[hf] at h
  have ha:e.At=a:=by simpa using h
  have hm:=List.mem_of_find?_eq_some hf
  have hp:=List.find?_some hf
  rw[List.mem_reverse,List.mem_filter] at hm
  obtain⟨j,hj,rfl⟩:=List.mem_iff_getElem.1 hm.1
  have e:=getElem!_pos es j hj
  exact ⟨j,hj,by rw[e];exact hm.2,by rw[e];simpa using hp,by rw[e];exact ha⟩
theorem ano{j:Nat}(hj:j<es.length)(hs:fL es[j]! = true):∃a,L7 es es[j]!.aT=some a:=by
 unfold L7
 cases hf:(es.filter fL).reverse.find? λe=>e.aT==es[j]!.aT with
 | none=>
  have:=List.find?_eq_none.1 hf es[j]! (by rw[List.mem_reverse,List.mem_filter];exact ⟨by rw[getElem!_pos es j hj];exact List.getElem_mem hj,hs⟩)
  simp at this
 | some e=>exact ⟨_,rfl⟩
def Qo(es:List bf)(e:bf):Bool:=jq e&&(match L7 es e.aT with | some a=>decide (a<e.At) | none=>false)
def w7(es:List bf)(e:bf):List Int:=Jq (Qo es e) e
theorem Ib(p:bf->Bool):((es.filter p).map bf.aT).Nodup↔∀i j,i<es.length->j<es.length->p es[i]! = true->p es[j]! = true->es[i]!.aT=es[j]!.aT->i=j:=by
 unfold List.Nodup
 rw[List.pairwise_map,List.pairwise_filter,List.pairwise_iff_getElem]
 constructor
 ·intro h i j hi hj h1 h2 hn
  rcases Nat.lt_trichotomy i j with vR | rfl | vR
  ·rw[getElem!_pos es i hi] at h1 hn
   rw[getElem!_pos es j hj] at h2 hn
   exact absurd hn (h i j hi hj vR h1 h2)
  ·rfl
  ·rw[getElem!_pos es i hi] at h1 hn
   rw[getElem!_pos es j hj] at h2 hn
   exact absurd hn.symm (h j i hj hi vR h2 h1)
 ·intro h i j hi hj vR h1 h2 hn
  have:=h i j hi hj (by rw[getElem!_pos es i hi];exact h1) (by rw[getElem!_pos es j hj];exact h2) (by rw[getElem!_pos es i hi,getElem!_pos es j hj];exact hn)
  omega
theorem Cr(p:bf->Bool)(f:bf->Value)(es:List bf):(qC p f es).map (·.1)=(es.filter p).map bf.aT:=by
 unfold qC;rw[List.map_map];rfl
theorem JG(p:bf->Bool)(f:bf->Value)(es:List bf):(qC p f es).length=(es.filter p).length:=by
 unfold qC;rw[List.length_map]
theorem adg(h:∀e ∈ es,jq e=true∧fL e=false∨fL e=true∧jq e=false):(es.filter fL).length+(es.filter jq).length=es.length:=by
 induction es with
 | nil=>rfl
 | cons e es ih=>
  have:=ih λx hx=>h x (.tail _ hx)
  rcases h e (.head _) with ⟨h1,h2⟩ | ⟨h1,h2⟩
  ·rw[List.filter_cons_of_neg (by rw[h2];decide),List.filter_cons_of_pos h1,List.length_cons,List.length_cons];omega
  ·rw[List.filter_cons_of_pos h1,List.filter_cons_of_neg (by rw[h2];decide),List.length_cons,List.length_cons];omega
theorem Nc(h:∀i,i<es.length->mj ni es[i]! = true):(es.filter fL).length+(es.filter jq).length=es.length:=adg λe he=>by
 obtain⟨i,hi,rfl⟩:=List.mem_iff_getElem.1 he
 have:=h i hi
 rw[getElem!_pos es i hi] at this
 exact SH this
theorem Ve(p:bf->Bool){n:Nat}(h:∀i,i<es.length->0≤es[i]!.aT∧es[i]!.aT<n):∀x ∈ (es.filter p).map bf.aT,0≤x∧x<n:=λx hx=>by
 obtain⟨e,he,rfl⟩:=List.mem_map.1 hx
 obtain⟨i,hi,rfl⟩:=List.mem_iff_getElem.1 (List.mem_filter.1 he).1
 have:=h i hi
 rwa [getElem!_pos es i hi] at this
theorem mh.lens(G:mh es ni):(AV es).length=es.length / 2∧(tk es).length=es.length / 2:=by
 have d1:=(Ib fL).2 G.st1
 have d2:=(Ib jq).2 G.sp1
 have l1:=MT _ _ d1 (Ve fL G.note)
 have l2:=MT _ _ d2 (Ve jq G.note)
 rw[List.length_map] at l1 l2
 have hs:=Nc G.part
 have he:=G.even
 unfold AV tk
 rw[(Ct _).2.2 (by rw[Cr];exact d1),(Ct _).2.2 (by rw[Cr];exact d2),JG,JG]
 omega
structure Lz (es:List bf) (ni:Int) (i:Nat):Prop where
 part:mj ni es[i]! = true
 note:0≤es[i]!.aT∧es[i]!.aT<(es.length / 2:Nat)
 ord:0<i->lt4 (w7 es es[i-1]!) (w7 es es[i]!)=true
 sp:jq es[i]! = true->∃a,L7 es es[i]!.aT=some a∧a≤es[i]!.At∧∀j,j<i->jq es[j]! = true->es[j]!.aT≠es[i]!.aT
theorem UD(st1:∀i j,i<es.length->j<es.length->fL es[i]! = true->fL es[j]! = true->es[i]!.aT=es[j]!.aT->i=j){e:bf}(h:jq e=true->∃a,L7 es e.aT=some a):w7 es e=keyOf es e:=by
 unfold w7 keyOf Qo
 cases hp:jq e with
 | false=>rfl
 | true=>
  obtain⟨a,ha⟩:=h hp
  obtain⟨j,h1,h2,h3,h4⟩:=Na ha
  have hsa:=VG h1 h2 λi hi hs hn=>st1 i j hi h1 hs h2 hn
  rw[ha,← h3,hsa,h4]
theorem mh.own(G:mh es ni){i:Nat}(hi:i<es.length)(hp:jq es[i]! = true):∃a,L7 es es[i]!.aT=some a∧a≤es[i]!.At:=by
 obtain⟨j,h1,h2,h3,h4⟩:=G.pair i hi hp
 obtain⟨a,ha⟩:=ano h1 h2
 rw[h3] at ha
 obtain⟨j',k1,k2,k3,k4⟩:=Na ha
 obtain rfl:=G.st1 j' j k1 h1 k2 h2 (by rw[k3,h3])
 exact ⟨a,ha,by rw[← k4];exact h4⟩
theorem mh.Ix(G:mh es ni){i:Nat}(hi:i<es.length):Lz es ni i:=by
 have hk:∀j,j<es.length->w7 es es[j]! = keyOf es es[j]!:=λj hj=>UD G.st1 λhp=>by
  obtain⟨a,ha,_⟩:=G.own hj hp
  exact ⟨a,ha⟩
 refine ⟨G.part i hi,G.note i hi,λh0=>?_,λhp=>?_⟩
 ·rw[hk _ (by omega),hk _ hi]
  have:=G.ord (i-1) (by omega)
  rwa [show i-1+1=i by omega] at this
 ·obtain⟨a,ha,h2⟩:=G.own hi hp
  exact ⟨a,ha,h2,λj hj hs hn=>by have:=G.sp1 j i (by omega) hi hs hp hn;omega⟩
theorem aaD(e:es.length=2*(es.length / 2))(m:es.length / 2≤64)(S:∀i,i<es.length->Lz es ni i)(l1:(AV es).length=es.length / 2)(l2:(tk es).length=es.length / 2):mh es ni:=by
 have hs:=Nc λi hi=>(S i hi).part
 have a1:=Ct (qC fL (λe=>.int .i64 e.At) es)
 have a2:=Ct (qC jq (λ_=>.bool true) es)
 rw[JG,Cr] at a1 a2
 unfold AV at l1
 unfold tk at l2
 have st1:=(Ib fL).1 (a1.2.1 (by omega))
 have sp1:=(Ib jq).1 (a2.2.1 (by omega))
 have hk:∀j,j<es.length->w7 es es[j]! = keyOf es es[j]!:=λj hj=>UD st1 λhp=>by
  obtain⟨a,ha,_⟩:=(S j hj).sp hp
  exact ⟨a,ha⟩
 refine ⟨e,m,λi hi=>(S i hi).part,λi hi=>(S i hi).note,st1,sp1,λi hi hp=>?_,λi hi=>?_⟩
 ·obtain⟨a,ha,h2,_⟩:=(S i hi).sp hp
  obtain⟨j,k1,k2,k3,k4⟩:=Na ha
  exact ⟨j,k1,k2,k3,by rw[k4];exact h2⟩
 ·have:=(S (i+1) hi).ord (by omega)
  rwa [hk _ hi,show i+1-1=i by omega,hk _ (by omega)] at this
theorem Yv{i:Nat}(hi:i<es.length):tk (es.take (i+1))=if jq es[i]! then FG (tk (es.take i)) es[i]!.aT (.bool true) else tk (es.take i):=by
 unfold tk qC
 rw[List.take_succ_eq_append_getElem hi,List.filter_append,List.map_append,getElem!_pos es i hi]
 by_cases h:jq es[i]=true
 ·rw[if_pos h,List.filter_cons_of_pos h]
  exact ze _ _
 ·rw[if_neg h,List.filter_cons_of_neg h]
  simp
theorem abF{i:Nat}(hi:i<es.length):AV (es.take (i+1))=if fL es[i]! then FG (AV (es.take i)) es[i]!.aT (.int .i64 es[i]!.At) else AV (es.take i):=by
 unfold AV qC
 rw[List.take_succ_eq_append_getElem hi,List.filter_append,List.map_append,getElem!_pos es i hi]
 by_cases h:fL es[i]=true
 ·rw[if_pos h,List.filter_cons_of_pos h]
  exact ze _ _
 ·rw[if_neg h,List.filter_cons_of_neg h]
  simp
theorem ac0{i:Nat}(hi:i≤es.length)(n:Int):(jr (tk (es.take i)) n).isSome=true↔∃j,j<i∧jq es[j]! = true∧es[j]!.aT=n:=by
 unfold tk
 rw[Nm,Cr,List.mem_map]
 constructor
 ·rintro ⟨e,he,rfl⟩
  obtain⟨hm,hp⟩:=List.mem_filter.1 he
  obtain⟨j,hj,rfl⟩:=List.mem_iff_getElem.1 hm
  rw[List.length_take] at hj
  rw[List.getElem_take] at hp ⊢
  exact ⟨j,by omega,by rw[getElem!_pos es j (by omega)];exact hp,by rw[getElem!_pos es j (by omega)]⟩
 ·rintro ⟨j,hj,h1,h2⟩
  rw[getElem!_pos es j (by omega)] at h1 h2
  exact ⟨es[j]'(by omega),List.mem_filter.2 ⟨List.mem_iff_getElem.2 ⟨j,by rw[List.length_take];omega,by rw[List.getElem_take]⟩,h1⟩,h2⟩
theorem ac1(es:List bf)(n:Int):jr (tk es) n=none∨jr (tk es) n=some (.bool true):=by
 unfold tk qC
 rw[Ed]
 cases hf:(List.map (λe=>(e.aT,(Value.bool true))) (es.filter jq)).reverse.find? λp=>p.1==n with
 | none=>exact .inl rfl
 | some p=>
  have hm:=List.mem_of_find?_eq_some hf
  rw[List.mem_reverse,List.mem_map] at hm
  obtain⟨e,_,rfl⟩:=hm
  exact .inr rfl
end
def bP.step(x:bP)(a:Nat):bP×Nat:=
 let o:=x.Loop.old
 let t:=x.mK.step o
 let d:=x.gl.step t.2
 ({ x with Loop:=x.Loop.push (kept (mF .f32 (fP .f32 d.2 x.fi) a)),mK:=t.1,gl:=d.1 },o)
def bP.tg(x:bP):Bool:=x.Loop.zero&&x.mK.still&&x.gl.still
def DJ(s d:Nat):Nat:=
 let w:=mF .f32 (Uk (fP .f32 s d)) 1061158912
 let v:=fP .f32 w w
 let f:=fdiv .f32 1065353216 (fP .f32 v v)
 if fgt .f32 f 1065353216 then 1065353216 else f
def jh.e(x:jh):cN×Nat:=x.gl.step x.aK.old
def jh.u(x:jh):Nat:=WN .f32 (fP .f32 x.fi x.e.2)
def jh.v(x:jh):Nat:=WN .f32 x.bX.old
def jh.d(x:jh)(a:Nat):Nat:=jC .f32 a (mF .f32 x.u x.v)
def jh.w(x:jh)(a:Nat):Nat:=fP .f32 (x.d a) (DJ x.fG (x.d a))
def jh.step(x:jh)(a:Nat):jh×Nat:=
 ({ x with bX:=x.bX.push (kept (mF .f32 x.u (x.w a))),aK:=x.aK.push (kept (mF .f32 x.v (x.w a))),gl:=x.e.1 },x.aK.old)
def jh.tg(x:jh):Bool:=x.bX.zero&&x.aK.zero&&x.gl.still
def cF.tg(x:cF):Bool:=x.aY.all bc.zero&&x.Left.all bc.zero&&x.End.still
end Go.Sx
namespace Go.Sx
open FloatKind (f32 f64)
open IntKind (i64)
open Ieee
theorem Kj(d:Nat)(s t:Bool)(m n:Nat)(i j:Int)(h:n≠0):(Datum.number s m i).quotient d (.number t n j) =
  some (.number (s ^^ t) (2*(m <<< (d+n.log2-m.log2) / n)+(m <<< (d+n.log2-m.log2) % n != 0).toNat) (i-j-(d+n.log2-m.log2:Nat)-1)):=by
 unfold Datum.quotient
 simp only[if_neg h]
theorem Z0{f:Format}{x y:Nat}{d:Datum}(h:(f.read x).quotient (f.fractionBits+2) (f.read y)=some d):f.div x y=some (f.write d):=by
 unfold Format.div
 rw[h];rfl
theorem JJ(s:Bool){m:Nat}{p:Int}(h:m≠0)(hm:m<2 ^ 24)(h1:-100≤p)(h2:p≤100):
  f32.format.read (f32.format.nearest s m p) = .number s (m*2 ^ (23-m.log2)) (p+m.log2-23):=by
 obtain⟨e1,e2,e3,e4⟩:=tK
 have hl:m.log2≤23:=by
  have:=(Nat.log2_lt h (k:=24)).2 hm
  omega
 have Ml:p+m.log2-23=max (p+m.log2-f32.format.fractionBits) f32.format.leastPlace:=by rw[e1,e2];omega
 have ht:(p-(p+m.log2-23)).toNat=23-m.log2:=by omega
 have hk:m*2 ^ (23-m.log2)<2 ^ 24:=by
  have b2:2 ^ 24=2 ^ (m.log2+1)*2 ^ (23-m.log2):=by rw[← Nat.pow_add];congr 1;omega
  rw[b2]
  exact Nat.mul_lt_mul_of_pos_right Nat.lt_log2_self (Nat.two_pow_pos _)
 have:=(Io f32.format s h (by rw[e1];omega) (by rw[e2];omega) Ml (by
  rw[e2,e3,e4,ht]
  generalize m*2 ^ (23-m.log2)=q at hk
  have h4:(p+(m.log2:Int)-23 - -149).toNat≤250:=by omega
  generalize (p+(m.log2:Int)-23 - -149).toNat=z at h4
  omega)).1
 rw[ht] at this
 exact this
theorem Uc{a b q:Int}(hq:0<q):compare (a*q) (b*q)=compare a b:=by
 rcases Int.lt_trichotomy a b with h | h | h
 ·rw[BF h,BF (Int.mul_lt_mul_of_pos_right h hq)]
 ·subst h;simp
 ·rw[BE h,BE (Int.mul_lt_mul_of_pos_right h hq)]
theorem NG(s:Bool)(m u v:Nat):signed s m (u+v)=signed s m u*((2 ^ v:Nat):Int):=by
 cases s
 ·rw[fZ,fZ,Nat.pow_add,← Nat.mul_assoc];exact Int.natCast_mul _ _
 ·rw[mB,mB,Nat.pow_add,← Nat.mul_assoc,Int.neg_mul];exact congrArg Neg.neg (Int.natCast_mul _ _)
theorem uq(s t:Bool)(m n:Nat)(i j b:Int)(hi:b≤i)(hj:b≤j):(Datum.number s m i).order (.number t n j)=some (compare (signed s m (i-b).toNat) (signed t n (j-b).toNat)):=by
 rw[Ta]
 congr 1
 rw[show (i-b).toNat=(i-min i j).toNat+(min i j-b).toNat by omega,show (j-b).toNat=(j-min i j).toNat+(min i j-b).toNat by omega,NG,NG]
 exact (Uc (by exact_mod_cast Nat.two_pow_pos _)).symm
def VLE(m:Nat)(p j:Int):Prop:=m=0∨(p≤j∧m≤2 ^ (j-p).toNat)
def VGE(m:Nat)(p i:Int):Prop:=m≠0∧2 ^ (i-p).toNat≤m
theorem Gy(QZ:Toward)(s:Bool)(n d:Nat):n / 2 ^ min d (n.log2+2)≤QZ.cut s n d∧QZ.cut s n d≤n / 2 ^ min d (n.log2+2)+1∧(n % 2 ^ min d (n.log2+2)=0->QZ.cut s n d=n / 2 ^ min d (n.log2+2)):=by
 unfold Toward.cut
 dsimp only
 rw[Nat.shiftLeft_eq,Nat.one_mul]
 have hp:=Nat.two_pow_pos (min d (n.log2+2))
 generalize 2 ^ min d (n.log2+2)=Qd at hp
 refine ⟨Nat.le_add_right _ _,Nat.add_le_add_left (Bool.toNat_le _) _,λh=>?_⟩
 rw[h]
 have h1:decide (Qd<2*0)=false:=by simp
 have h2:(Qd==2*0)=false:=by simp;omega
 cases QZ
 ·show n / Qd+(decide (Qd<2*0)||Qd==2*0&&n / Qd % 2==1).toNat=_
  rw[h1,h2];rfl
 ·cases s <;> rfl
 ·cases s <;> rfl
 ·rfl
theorem MF(n:Nat):n<2 ^ (n.log2+2):=Nat.lt_of_lt_of_le Nat.lt_log2_self (Nat.pow_le_pow_right (by decide) (by omega))
theorem WG(QZ:Toward)(s:Bool){n d X:Nat}(h:n≤X*2 ^ d):QZ.cut s n d≤X:=by
 obtain⟨h1,h2,h3⟩:=Gy QZ s n d
 rcases Nat.le_total d (n.log2+2) with hd | hd
 ·rw[Nat.min_eq_left hd] at h1 h2 h3
  have hp:=Nat.two_pow_pos d
  generalize 2 ^ d=g at *
  by_cases hr:n % g=0
  ·rw[h3 hr]
   exact Nat.div_le_of_le_mul (by rw[Nat.mul_comm];exact h)
  ·have h4:=Nat.div_add_mod n g
   have h5:n / g<X:=by
    refine Nat.lt_of_mul_lt_mul_left (a:=g) ?_
    rw[Nat.mul_comm g X];omega
   omega
 ·rw[Nat.min_eq_right hd] at h1 h2 h3
  have h4:=MF n
  rw[Nat.div_eq_of_lt h4] at h1 h2 h3
  rw[Nat.mod_eq_of_lt h4] at h3
  by_cases hn:n=0
  ·rw[h3 hn];exact Nat.zero_le _
  ·have:X≠0:=λe=>by subst e;omega
   omega
theorem WE(QZ:Toward)(s:Bool){n d X:Nat}(h:X*2 ^ d≤n):X≤QZ.cut s n d:=by
 obtain⟨h1,h2,h3⟩:=Gy QZ s n d
 rcases Nat.le_total d (n.log2+2) with hd | hd
 ·rw[Nat.min_eq_left hd] at h1
  exact Nat.le_trans ((Nat.le_div_iff_mul_le (Nat.two_pow_pos d)).2 h) h1
 ·have h4:=MF n
  have h5:2 ^ (n.log2+2)≤2 ^ d:=Nat.pow_le_pow_right (by decide) hd
  have:X=0:=by
   cases X with
   | zero=>rfl
   | succ X=>rw[Nat.succ_mul] at h;omega
  omega
theorem GY(f:Format)(s:Bool){k q:Nat}(hk:k<2*f.binade)(h:q=0∨f.binade≤k)(ho:q*f.binade+k<f.infRung):f.read (f.word s (q*f.binade+k)) = .number s k (f.leastPlace+q):=by
 have hbp:0<f.binade:=Nat.two_pow_pos _
 have Ux:=f.infRung_lt
 have hw:(f.word s (q*f.binade+k)) % f.signWeight=q*f.binade+k:=by
  unfold Format.word
  split
  ·rw[Nat.add_mod_left,Nat.mod_eq_of_lt (by omega)]
  ·rw[Nat.mod_eq_of_lt (by omega)]
 have hn:(f.word s (q*f.binade+k) / f.signWeight % 2==1)=s:=by
  have hsw:0<f.signWeight:=Nat.two_pow_pos _
  unfold Format.word
  cases s
  ·simp only[Bool.false_eq_true,if_false]
   rw[Nat.div_eq_of_lt (by omega)];rfl
  ·simp only[if_true]
   rw[Nat.add_div_left _ hsw,Nat.div_eq_of_lt (by omega)];rfl
 unfold Format.read
 dsimp only
 rw[hw,hn]
 by_cases hb:f.binade≤k
 ·have h7:k / f.binade=1:=by rw[Nat.div_eq_iff hbp];omega
  have h5:(q*f.binade+k) / f.binade=q+1:=by
   rw[Nat.mul_comm,Nat.mul_add_div hbp,h7]
  have h6:(q*f.binade+k) % f.binade=k-f.binade:=by
   rw[Nat.mul_comm,Nat.mul_add_mod]
   have:=Nat.div_add_mod k f.binade
   rw[h7] at this;omega
  rw[if_neg (by omega),if_pos ho,h5,h6,show f.binade+(k-f.binade)=k by omega]
  congr 1
 ·rcases h with h | h
  ·subst h
   simp only[Nat.zero_mul,Nat.zero_add] at ho ⊢
   rw[if_pos (by omega)]
   simp
  ·omega
theorem abS(f:Format)(s:Bool){k q:Nat}(hk:k≤2*f.binade)(h:q=0∨f.binade≤k)(ho:q*f.binade+k<f.infRung):
  ∃(m':Nat) (p':Int),f.read (f.word s (q*f.binade+k)) = .number s m' p'∧((m'=k∧p'=f.leastPlace+q∧k<2*f.binade)∨(k=2*f.binade∧m'=f.binade∧p'=f.leastPlace+q+1)):=by
 have hbp:0<f.binade:=Nat.two_pow_pos _
 by_cases hc:k=2*f.binade
 ·subst hc
  have e:q*f.binade+2*f.binade=(q+1)*f.binade+f.binade:=by rw[Nat.add_mul];omega
  rw[e] at ho ⊢
  exact ⟨_,_,GY f s (by omega) (.inr (Nat.le_refl _)) ho,.inr ⟨rfl,rfl,by push_cast;omega⟩⟩
 ·exact ⟨_,_,GY f s (by omega) h ho,.inl ⟨rfl,rfl,by omega⟩⟩
theorem sZ(f:Format)(s:Bool){m:Nat}{p j:Int}(h0:m≠0)(hle:VLE m p j)(hj:f.leastPlace+f.fractionBits≤j)(ho:((j-f.fractionBits-f.leastPlace).toNat+3)*f.binade≤f.infRung):
  ∃(m':Nat) (p':Int),f.read (f.nearest s m p) = .number s m' p'∧VLE m' p' j∧m'<2*f.binade∧f.leastPlace≤p'∧p'≤j-f.fractionBits∧∀i,f.leastPlace+f.fractionBits≤i->VGE m p i->VGE m' p' i∧f.binade≤m':=by
 rcases hle with hle | ⟨hpj,hle⟩
 ·exact absurd hle h0
 have a1:m<2 ^ (m.log2+1):=Nat.lt_log2_self
 have a2:2 ^ m.log2≤m:=Nat.log2_self_le h0
 have hlj:m.log2≤(j-p).toNat:=by
  have h1:2 ^ m.log2≤2 ^ (j-p).toNat:=Nat.le_trans a2 hle
  exact (Nat.pow_le_pow_iff_right (by decide)).1 h1
 have hb:f.binade=2 ^ f.fractionBits:=rfl
 unfold Format.nearest
 rw[if_neg h0]
 dsimp only
 have Ml:∃last:Int,last=max (p+m.log2-f.fractionBits) f.leastPlace:=⟨_,rfl⟩
 obtain⟨last,hl⟩:=Ml
 rw[← hl,Nat.shiftLeft_eq]
 have aDN:last≤j-f.fractionBits:=by omega
 generalize hF:f.fractionBits=F at *
 have Ij:∀{x y:Nat},x≤y->2 ^ x≤2 ^ y:=λh=>Nat.pow_le_pow_right (by decide) h
 have k1:Toward.even.cut s (m*2 ^ (p-last).toNat) (last-p).toNat≤2*f.binade:=by
  refine WG _ _ ?_
  rw[hb,show 2*2 ^ F=2 ^ (F+1) by rw[Nat.pow_succ];omega,← Nat.pow_add]
  refine Nat.le_trans (Nat.mul_le_mul_right _ (Nat.le_of_lt a1)) ?_
  rw[← Nat.pow_add]
  exact Ij (by omega)
 have k2:last=f.leastPlace∨f.binade≤Toward.even.cut s (m*2 ^ (p-last).toNat) (last-p).toNat:=by
  rcases Int.le_total (p+m.log2-F) f.leastPlace with h3 | h3
  ·exact .inl (by omega)
  ·refine .inr (WE _ _ ?_)
   rw[hb,← Nat.pow_add]
   refine Nat.le_trans ?_ (Nat.mul_le_mul_right _ a2)
   rw[← Nat.pow_add]
   exact Ij (by omega)
 have k3:Toward.even.cut s (m*2 ^ (p-last).toNat) (last-p).toNat≤2 ^ (j-last).toNat:=by
  refine WG _ _ ?_
  refine Nat.le_trans (Nat.mul_le_mul_right _ hle) ?_
  rw[← Nat.pow_add,← Nat.pow_add]
  exact Ij (by omega)
 have k4:∀i,f.leastPlace+F≤i->VGE m p i->2 ^ (i-last).toNat≤Toward.even.cut s (m*2 ^ (p-last).toNat) (last-p).toNat∧f.binade≤Toward.even.cut s (m*2 ^ (p-last).toNat) (last-p).toNat:=by
  intro i hi hv
  have hv2:(i-p).toNat≤m.log2:=by
   have h1:2 ^ (i-p).toNat<2 ^ (m.log2+1):=Nat.lt_of_le_of_lt hv.2 a1
   have:=(Nat.pow_lt_pow_iff_right (by decide:1<2)).1 h1
   omega
  have hB:f.binade≤Toward.even.cut s (m*2 ^ (p-last).toNat) (last-p).toNat:=by
   rcases k2 with k2 | k2
   ·refine WE _ _ ?_
    rw[hb]
    rcases Int.le_total p i with h4 | h4
    ·refine Nat.le_trans ?_ (Nat.mul_le_mul_right _ hv.2)
     rw[← Nat.pow_add,← Nat.pow_add]
     exact Ij (by omega)
    ·refine Nat.le_trans ?_ (Nat.mul_le_mul_right _ (show 1≤m by omega))
     rw[Nat.one_mul,← Nat.pow_add]
     exact Ij (by omega)
   ·exact k2
  refine ⟨?_,hB⟩
  rcases Int.le_total last i with h3 | h3
  ·refine WE _ _ ?_
   rcases Int.le_total p i with h4 | h4
   ·refine Nat.le_trans ?_ (Nat.mul_le_mul_right _ hv.2)
    rw[← Nat.pow_add,← Nat.pow_add]
    exact Ij (by omega)
   ·refine Nat.le_trans ?_ (Nat.mul_le_mul_right _ (show 1≤m by omega))
    rw[Nat.one_mul,← Nat.pow_add]
    exact Ij (by omega)
  ·rw[show (i-last).toNat=0 by omega,Nat.pow_zero]
   exact Nat.le_trans (Nat.two_pow_pos _) hB
 generalize Toward.even.cut s (m*2 ^ (p-last).toNat) (last-p).toNat=k at *
 have hq:((last-f.leastPlace).toNat:Int)=last-f.leastPlace:=by omega
 have hbp:0<f.binade:=Nat.two_pow_pos _
 have vR:(last-f.leastPlace).toNat*f.binade+k<f.infRung:=by
  have h1:(last-f.leastPlace).toNat*f.binade≤(j-F-f.leastPlace).toNat*f.binade:=Nat.mul_le_mul_right _ (by omega)
  rw[Nat.add_mul] at ho
  omega
 rw[Nat.min_eq_left (Nat.le_of_lt vR)]
 obtain⟨m',p',hr,hc⟩:=abS f s k1 (k2.imp (λh=>by omega) id) vR
 refine ⟨m',p',hr,?_⟩
 rcases hc with ⟨rfl,rfl,hc⟩ | ⟨rfl,rfl,rfl⟩
 ·rw[hq,show f.leastPlace+(last-f.leastPlace)=last by omega]
  exact ⟨.inr ⟨by omega,k3⟩,hc,by omega,by omega,λi hi hv=>⟨⟨by have:=(k4 i hi hv).2;omega,(k4 i hi hv).1⟩,(k4 i hi hv).2⟩⟩
 ·rw[hq,show f.leastPlace+(last-f.leastPlace)+1=last+1 by omega]
  have hp2:2*f.binade=2 ^ (F+1):=by rw[hb,Nat.pow_succ];omega
  rw[hp2] at k3
  have h3:F+1≤(j-last).toNat:=(Nat.pow_le_pow_iff_right (by decide)).1 k3
  refine ⟨.inr ⟨by omega,?_⟩,by omega,by omega,by omega,λi hi hv=>⟨⟨by omega,?_⟩,Nat.le_refl _⟩⟩
  ·rw[hb];exact Ij (by omega)
  ·have h4:=(k4 i hi hv).1
   rw[hp2] at h4
   have h5:(i-last).toNat≤F+1:=(Nat.pow_le_pow_iff_right (by decide)).1 h4
   rw[hb];exact Ij (by omega)
theorem GX:f64.format.read 4607182418800017408 = .number false (2 ^ 52) (-52):=by decide +kernel
theorem Nu:f64.format.read 4611686018427387904 = .number false (2 ^ 52) (-51):=by decide +kernel
def Ae(k:Int):Nat:=f64.format.nearest false 1 k
theorem xp{k:Int}(h1:-149≤k)(h2:k≤200):f64.format.read (Ae k) = .number false (2 ^ 52) (k-52):=by
 have:=Nt false (m:=1) (by decide) (by decide) h1 h2
 rw[show (1:Nat).log2=0 by decide] at this
 unfold Ae
 rw[this,Nat.one_mul]
 congr 1
 omega
theorem vc(f:Format)(s:Bool){m n:Nat}{p q:Int}(k:Nat)(h1:n=m*2 ^ k)(h2:q=p-k):f.nearest s n q=f.nearest s m p:=by
 subst h1 h2;exact G1 f s m p k
theorem afs{k:Int}(h1:-149≤k)(h2:k≤200):f64.format.mul (Ae k) 4611686018427387904=some (Ae (k+1)):=by
 rw[F0 (by rw[xp h1 h2,Nu,rG])]
 exact congrArg some (vc _ _ 104 (by decide) (by omega))
theorem afr{k:Int}(h1:-149≤k)(h2:k≤200):f64.format.div (Ae k) 4611686018427387904=some (Ae (k-1)):=by
 rw[Z0 (by rw[xp h1 h2,Nu,Kj _ _ _ _ _ _ _ (anu 52)])]
 refine congrArg some ?_
 show f64.format.nearest (false ^^ false) _ _=_
 have e1:f64.format.fractionBits=52:=rfl
 have e2:(2 ^ 52:Nat).log2=52:=by decide +kernel
 rw[e1,e2]
 exact vc _ _ 55 (by decide) (by omega)
theorem af8{s m:Nat}{e k:Int}(hs:f64.format.read s = .number false m e)(h1:-149≤k)(h2:k≤200):f64.format.mul s (Ae k)=some (f64.format.nearest false m (e+k)):=by
 rw[F0 (by rw[xp h1 h2,hs,rG])]
 exact congrArg some (vc _ _ 52 rfl (by omega))
def Up(k:FloatKind)(w:Nat)(j:Int):Prop:=∃(m:Nat) (p:Int),k.format.read w = .number false m p∧VLE m p j
def Btw(w:Nat)(i j:Int):Prop:=∃(m:Nat) (p:Int),f64.format.read w = .number false m p∧VLE m p j∧VGE m p i∧2 ^ 52≤m∧m<2 ^ 53
theorem Btw.up{w:Nat}{i j:Int}(h:Btw w i j):Up .f64 w j:=by obtain⟨m,p,h1,h2,_⟩:=h;exact ⟨m,p,h1,h2⟩
theorem VLE.mono{m:Nat}{p i j:Int}(h:VLE m p i)(Zd:i≤j):VLE m p j:=by
 rcases h with h | ⟨h1,h2⟩
 ·exact .inl h
 ·exact .inr ⟨by omega,Nat.le_trans h2 (Nat.pow_le_pow_right (by decide) (by omega))⟩
theorem VLE.mul{m n:Nat}{p q i j:Int}(h:VLE m p i)(g:VLE n q j):VLE (m*n) (p+q) (i+j):=by
 rcases h with h | ⟨h1,h2⟩
 ·exact .inl (by rw[h,Nat.zero_mul])
 rcases g with g | ⟨g1,g2⟩
 ·exact .inl (by rw[g,Nat.mul_zero])
 refine .inr ⟨by omega,?_⟩
 have:=Nat.mul_le_mul h2 g2
 rwa [← Nat.pow_add,show (i-p).toNat+(j-q).toNat=(i+j-(p+q)).toNat by omega] at this
theorem Tz{m:Nat}{p j:Int}(h:VLE m p j)(h1:-1000≤j)(h2:j≤900):Up .f64 (f64.format.nearest false m p) j:=by
 obtain⟨e1,e2,e3,e4⟩:=xw
 by_cases h0:m=0
 ·subst h0
  rw[gZ]
  exact ⟨0,_,TC false,.inl rfl⟩
 ·obtain⟨m',p',hr,hv,_⟩:=sZ f64.format false h0 h (by rw[e1,e2];omega) (by
   rw[e1,e2,e3,e4]
   exact Nat.mul_le_mul_right _ (by omega))
  exact ⟨m',p',hr,hv⟩
theorem up_mul{a b:Nat}{i j:Int}(ha:Up .f64 a i)(hb:Up .f64 b j)(h1:-1000≤i+j)(h2:i+j≤900):∃r,f64.format.mul a b=some r∧Up .f64 r (i+j):=by
 obtain⟨m,p,hr,hv⟩:=ha
 obtain⟨n,q,TM,hv2⟩:=hb
 refine ⟨_,F0 (by rw[hr,TM,rG]),?_⟩
 exact Tz (hv.mul hv2) h1 h2
theorem ai2{D n Z:Nat}(hn:0<n)(h:D≤Z*n):2*(D / n)+(D % n != 0).toNat≤2*Z:=by
 have h4:=Nat.div_add_mod D n
 by_cases hr:D % n=0
 ·have:D / n≤Z:=Nat.div_le_of_le_mul (by rw[Nat.mul_comm];exact h)
  rw[hr]
  show 2*(D / n)+0≤2*Z
  omega
 ·have h5:D / n<Z:=by
   refine Nat.lt_of_mul_lt_mul_left (a:=n) ?_
   rw[Nat.mul_comm n Z];omega
  have:=Bool.toNat_le (D % n != 0)
  omega
theorem up_div{a c n:Nat}{i k q:Int}(ha:Up .f64 a i)(hc:f64.format.read c = .number false n q)(hk:q≤k)(hn:2 ^ (k-q).toNat≤n)(h1:-1000≤i-k)(h2:i-k≤900):∃r,f64.format.div a c=some r∧Up .f64 r (i-k):=by
 obtain⟨m,p,hr,hv⟩:=ha
 have hn0:n≠0:=Nat.ne_of_gt (Nat.lt_of_lt_of_le (Nat.two_pow_pos _) hn)
 refine ⟨_,Z0 (by rw[hr,hc,Kj _ _ _ _ _ _ _ hn0]),?_⟩
 have e1:f64.format.fractionBits=52:=rfl
 rw[e1]
 refine Tz ?_ h1 h2
 rcases hv with hv | ⟨g1,g2⟩
 ·left
  subst hv
  simp
 ·by_cases hm:m=0
  ·left;subst hm;simp
  have l1:m.log2≤(i-p).toNat:=(Nat.pow_le_pow_iff_right (by decide)).1 (Nat.le_trans (Nat.log2_self_le hm) g2)
  have l2:(k-q).toNat≤n.log2:=by
   have:2 ^ (k-q).toNat<2 ^ (n.log2+1):=Nat.lt_of_le_of_lt hn Nat.lt_log2_self
   have:=(Nat.pow_lt_pow_iff_right (by decide:1<2)).1 this
   omega
  have aqt:∃more:Nat,more=52+2+n.log2-m.log2:=⟨_,rfl⟩
  obtain⟨more,K7⟩:=aqt
  rw[← K7]
  refine .inr ⟨by omega,?_⟩
  have hX:(i-k-(p-q-more-1)).toNat=(i-p-(k-q)+more).toNat+1:=by omega
  rw[hX,Nat.pow_succ,Nat.mul_comm (2 ^ _) 2]
  refine ai2 (by omega) ?_
  rw[Nat.shiftLeft_eq]
  refine Nat.le_trans (Nat.mul_le_mul_right _ g2) (Nat.le_trans ?_ (Nat.mul_le_mul_left _ hn))
  rw[← Nat.pow_add,← Nat.pow_add]
  exact Nat.pow_le_pow_right (by decide) (by omega)
theorem one_add{v:Nat}{j:Int}(hv:Up .f64 v j)(h1:0≤j)(h2:j≤900):∃r,f64.format.add 4607182418800017408 v=some r∧Btw r 0 (j+1):=by
 obtain⟨m,p,hr,hv⟩:=hv
 obtain⟨e1,e2,e3,e4⟩:=xw
 have hb:∃b:Int,b=min (-52) p:=⟨_,rfl⟩
 obtain⟨b,hb⟩:=hb
 have hT:signed false (2 ^ 52) (-52-b).toNat+signed false m (p-b).toNat=((2 ^ 52*2 ^ (-52-b).toNat+m*2 ^ (p-b).toNat:Nat):Int):=by
  rw[fZ,fZ];exact (Int.natCast_add _ _).symm
 have ax4:2 ^ 52*2 ^ (-52-b).toNat=2 ^ (-b).toNat:=by rw[← Nat.pow_add];congr 1;omega
 rw[ax4] at hT
 have Jn:=Nat.two_pow_pos (-b).toNat
 have wR:(Datum.number false (2 ^ 52) (-52)).sum (.number false m p)=some (.number false (2 ^ (-b).toNat+m*2 ^ (p-b).toNat) b):=by
  show some (Datum.number _ _ _)=_
  rw[← hb,hT]
  have hT0:2 ^ (-b).toNat+m*2 ^ (p-b).toNat≠0:=by omega
  generalize 2 ^ (-b).toNat+m*2 ^ (p-b).toNat=T at hT0
  rw[if_neg (by omega),Int.natAbs_natCast,decide_eq_false (by omega)]
 have awL:f64.format.add 4607182418800017408 v=some (f64.format.nearest false (2 ^ (-b).toNat+m*2 ^ (p-b).toNat) b):=by
  unfold Format.add
  rw[GX,hr,wR];rfl
 refine ⟨_,awL,?_⟩
 have hle:VLE (2 ^ (-b).toNat+m*2 ^ (p-b).toNat) b (j+1):=by
  refine .inr ⟨by omega,?_⟩
  have hz:(j+1-b).toNat=(j-b).toNat+1:=by omega
  rw[hz,Nat.pow_succ]
  have g1:2 ^ (-b).toNat≤2 ^ (j-b).toNat:=Nat.pow_le_pow_right (by decide) (by omega)
  have g2:m*2 ^ (p-b).toNat≤2 ^ (j-b).toNat:=by
   rcases hv with hv | ⟨k1,k2⟩
   ·rw[hv,Nat.zero_mul];exact Nat.zero_le _
   ·refine Nat.le_trans (Nat.mul_le_mul_right _ k2) ?_
    rw[← Nat.pow_add]
    exact Nat.pow_le_pow_right (by decide) (by omega)
  omega
 have hge:VGE (2 ^ (-b).toNat+m*2 ^ (p-b).toNat) b 0:=⟨by omega,by rw[show (0-b:Int).toNat=(-b).toNat by omega];omega⟩
 obtain⟨m',p',hr',hv',vR,_,_,hi⟩:=sZ f64.format false (by omega) hle (by rw[e1,e2];omega) (by
   rw[e1,e2,e3,e4]
   exact Nat.mul_le_mul_right _ (by omega))
 obtain⟨k1,k2⟩:=hi 0 (by rw[e1,e2];omega) hge
 rw[e3] at k2 vR
 exact ⟨m',p',hr',hv',k1,k2,by omega⟩
theorem Li(n d:Nat):n / 2 ^ min d (n.log2+2)=n / 2 ^ d:=by
 rcases Nat.le_total d (n.log2+2) with hd | hd
 ·rw[Nat.min_eq_left hd]
 ·rw[Nat.min_eq_right hd,Nat.div_eq_of_lt (MF n),Nat.div_eq_of_lt (Nat.lt_of_lt_of_le (MF n) (Nat.pow_le_pow_right (by decide) hd))]
theorem LP(n d:Nat):Toward.down.cut false n d=n / 2 ^ d:=by
 rw[← Li]
 unfold Toward.cut
 dsimp only
 rw[Nat.shiftLeft_eq,Nat.one_mul]
 rfl
theorem JV(s:Bool)(n d:Nat):Toward.zero.cut s n d=n / 2 ^ d:=by
 rw[← Li]
 unfold Toward.cut
 dsimp only
 rw[Nat.shiftLeft_eq,Nat.one_mul]
 rfl
theorem WD(n d:Nat):n≤Toward.down.cut true n d*2 ^ d∧Toward.down.cut true n d*2 ^ d≤n+2 ^ d:=by
 obtain⟨h1,h2,h3⟩:=Gy .down true n d
 have hpd:=Nat.two_pow_pos d
 by_cases hr:n % 2 ^ min d (n.log2+2)=0
 ·have h4:=h3 hr
  rw[Li] at h4
  have h5:n % 2 ^ d=0:=by
   rcases Nat.le_total d (n.log2+2) with hd | hd
   ·rwa [Nat.min_eq_left hd] at hr
   ·rw[Nat.min_eq_right hd,Nat.mod_eq_of_lt (MF n)] at hr
    rw[hr,Nat.zero_mod]
  have h6:=Nat.div_add_mod n (2 ^ d)
  rw[h4,Nat.mul_comm];omega
 ·have h4:Toward.down.cut true n d=n / 2 ^ d+1:=by
   rw[← Li]
   unfold Toward.cut
   dsimp only
   rw[Nat.shiftLeft_eq,Nat.one_mul]
   have:(n % 2 ^ min d (n.log2+2) != 0)=true:=bne_iff_ne.2 hr
   rw[this];rfl
  have h6:=Nat.div_add_mod n (2 ^ d)
  have h7:=Nat.mod_lt n hpd
  rw[h4,Nat.add_mul,Nat.one_mul,Nat.mul_comm (n / 2 ^ d)]
  omega
end Go.Sx
