/- Lemmas. -/
import Derived.Test.YthgnpepchedpbaaGreatDoorLp3
import Derived.Test.YthgnpepchedpbaaGreatDoorLk17
set_option linter.unusedVariables false
set_option linter.unusedSimpArgs false
namespace Go.Sx
def lt4:List Int->List Int->Bool
 | a :: iD,b :: bs=>if a=b then lt4 iD bs else decide (a<b)
 | _,_=>false
theorem uY{a b:Int}{iD bs:List Int}:lt4 (a :: iD) (b :: bs)=true↔a<b∨a=b∧lt4 iD bs=true:=by
 rw[lt4]
 split
 ·next e=>
  subst e
  constructor
  ·exact λh=>.inr ⟨rfl,h⟩
  ·rintro(h | h)
   ·omega
   ·exact h.2
 ·next e=>
  rw[decide_eq_true_iff]
  constructor
  ·exact .inl
  ·rintro(h | h)
   ·exact h
   ·exact absurd h.1 e
theorem vV:∀l:List Int,lt4 l l=false
 | []=>rfl
 | a :: l=>by rw[lt4,if_pos rfl];exact vV l
theorem Dz:∀{a b c:List Int},lt4 a b=true->lt4 b c=true->lt4 a c=true
 | [],_,_,h,_=>by cases h
 | _ :: _,[],_,h,_=>by simp[lt4] at h
 | _ :: _,_ :: _,[],_,h=>by simp[lt4] at h
 | x :: a,y :: b,z :: c,h1,h2=>by
  rw[uY] at *
  rcases h1 with h1 | ⟨rfl,h1⟩ <;> rcases h2 with h2 | ⟨rfl,h2⟩
  ·exact .inl (by omega)
  ·exact .inl h1
  ·exact .inl h2
  ·exact .inr ⟨rfl,Dz h1 h2⟩
def fF(e:aZ):Bool:=e.Kind==2
def gL(e:aZ):Bool:=e.Kind==1
def jM(ni:Int)(e:aZ):Bool:=
 inR e.At 0 100000&&(if e.Kind=1 then e.aq==0&&e.Key==0&&e.gd==0 else e.Kind==2&&inR e.aq 0 (ni-1)&&inR e.Key (-100) 100&&fin e.gd)
def tS(es:List aZ)(note:Int):Option aZ:=es.find? λe=>fF e&&e.aT==note
def tR(es:List aZ)(note:Int):Int:=match tS es note with | some e=>e.At | none=>-1
def ET(late:Bool)(e:aZ):List Int:=[e.At,if late then 0 else 1,e.aT,if e.Kind=1 then 1 else 0]
def keyOf(es:List aZ)(e:aZ):List Int:=ET (gL e&&decide (tR es e.aT<e.At)) e
structure kU (es:List aZ) (ni:Int):Prop where
 even:es.length=2*(es.length / 2)
 UQ:es.length / 2≤64
 part:∀i,i<es.length->jM ni es[i]! = true
 note:∀i,i<es.length->0≤es[i]!.aT∧es[i]!.aT<(es.length / 2:Nat)
 st1:∀i j,i<es.length->j<es.length->fF es[i]! = true->fF es[j]! = true->es[i]!.aT=es[j]!.aT->i=j
 sp1:∀i j,i<es.length->j<es.length->gL es[i]! = true->gL es[j]! = true->es[i]!.aT=es[j]!.aT->i=j
 pair:∀i,i<es.length->gL es[i]! = true->∃j,j<es.length∧fF es[j]! = true∧es[j]!.aT=es[i]!.aT∧es[j]!.At≤es[i]!.At
 ord:∀i,i+1<es.length->lt4 (keyOf es es[i]!) (keyOf es es[i+1]!)=true
noncomputable def KW(es:List aZ)(ni:Int):Bool:=@decide (kU es ni) (Classical.propDecidable _)
theorem BS{es:List aZ}{ni:Int}:KW es ni=true↔kU es ni:=by unfold KW;exact @decide_eq_true_iff _ (Classical.propDecidable _)
theorem tj{es:List aZ}{ni:Int}(h:¬kU es ni):KW es ni=false:=by
 rw[Bool.eq_false_iff];exact λe=>h (BS.1 e)
section
variable {es:List aZ}{ni:Int}
theorem chain(f:Nat->List Int){n:Nat}(h:∀i,i+1<n->lt4 (f i) (f (i+1))=true):∀{i j},i<j->j<n->lt4 (f i) (f j)=true:=by
 intro i j Uc hj
 induction j with
 | zero=>omega
 | succ j ih=>
  by_cases e:i=j
  ·subst e;exact h i hj
  ·exact Dz (ih (by omega) (by omega)) (h j hj)
theorem Ls{e:aZ}(h:jM ni e=true):gL e=true∧fF e=false∨fF e=true∧gL e=false:=by
 unfold jM at h
 unfold gL fF
 rw[Bool.and_eq_true] at h
 by_cases hk:e.Kind=1
 ·rw[hk];exact .inl ⟨rfl,rfl⟩
 ·rw[if_neg hk] at h
  simp only[Bool.and_eq_true] at h
  have:e.Kind=2:=by have:=h.2.1.1.1;simpa using this
  rw[this];exact .inr ⟨rfl,rfl⟩
theorem OQ{j:Nat}(hj:j<es.length)(hs:fF es[j]! = true)(h1:∀i,i<es.length->fF es[i]! = true->es[i]!.aT=es[j]!.aT->i=j):tR es es[j]!.aT=es[j]!.At:=by
 unfold tR tS
 cases hf:es.find? λe=>fF e&&e.aT==es[j]!.aT with
 | none=>
  have:=List.find?_eq_none.1 hf es[j]! (by rw[getElem!_pos es j hj];exact List.getElem_mem hj)
  exact absurd (by rw[hs];simp) this
 | some e=>
  have hm:=List.mem_of_find?_eq_some hf
  have hp:=List.find?_some hf
  obtain⟨i,hi,rfl⟩:=List.mem_iff_getElem.1 hm
  simp only[Bool.and_eq_true,beq_iff_eq] at hp
  have:=h1 i hi (by rw[getElem!_pos es i hi];exact hp.1) (by rw[getElem!_pos es i hi];exact hp.2)
  subst this
  show es[i].At=es[i]!.At
  rw[getElem!_pos es i hi]
theorem kU.before(G:kU es ni){i j:Nat}(hi:i<es.length)(hj:j<es.length)(hs:fF es[j]! = true)(hp:gL es[i]! = true)(hn:es[j]!.aT=es[i]!.aT):j<i:=by
 obtain⟨j',h1,h2,h3,h4⟩:=G.pair i hi hp
 obtain rfl:j'=j:=G.st1 j' j h1 hj h2 hs (by rw[h3,hn])
 have hsa:=OQ hj hs (λi hi h e=>G.st1 i j' hi hj h hs e)
 by_cases qR:j'<i
 ·exact qR
 ·exfalso
  have ZR:gL es[j']! = false:=by
   rcases Ls (G.part j' hj) with h | h
   ·rw[h.2] at hs;cases hs
   ·exact h.2
  have By:i≠j':=λe=>by subst e;rw[hp] at ZR;cases ZR
  have h5:=chain (λk=>keyOf es es[k]!) G.ord (i:=i) (j:=j') (by omega) hj
  have h6:lt4 (keyOf es es[j']!) (keyOf es es[i]!)=true:=by
   unfold keyOf ET
   rw[ZR,hp,← hn,hsa]
   have k1:es[i]!.Kind=1:=by unfold gL at hp;simpa using hp
   have k2:¬es[j']!.Kind=1:=by unfold gL at ZR;simpa using ZR
   rw[if_neg k2,if_pos k1]
   simp only[Bool.false_and,Bool.true_and]
   rw[uY]
   rcases Int.lt_or_eq_of_le h4 with h | h
   ·exact .inl h
   ·refine .inr ⟨h,?_⟩
    rw[decide_eq_false (p:=es[j']!.At<es[i]!.At) (by omega)]
    rw[uY]
    refine .inr ⟨rfl,?_⟩
    rw[uY]
    refine .inr ⟨rfl,?_⟩
    rw[uY]
    exact .inl (by decide)
  have:=Dz h5 h6
  rw[vV] at this
  cases this
def ml(p:aZ->Bool)(es:List aZ)(i:Nat)(note:Int):Nat:=(es.take i).countP λe=>p e&&e.aT==note
theorem Da(p:aZ->Bool)(note:Int):ml p es 0 note=0:=rfl
theorem uH(p:aZ->Bool){i:Nat}(hi:i<es.length)(note:Int):ml p es (i+1) note=ml p es i note+if p es[i]! && es[i]!.aT==note then 1 else 0:=by
 unfold ml
 rw[List.take_succ_eq_append_getElem hi,List.countP_append,List.countP_singleton,getElem!_pos es i hi]
theorem rT{p:aZ->Bool}{i:Nat}(hi:i≤es.length){note:Int}:0<ml p es i note↔∃j,j<i∧p es[j]! = true∧es[j]!.aT=note:=by
 unfold ml
 rw[List.countP_pos_iff]
 constructor
 ·rintro⟨e,hm,hp⟩
  obtain⟨j,hj,rfl⟩:=List.mem_iff_getElem.1 hm
  rw[List.length_take] at hj
  simp only[Bool.and_eq_true,beq_iff_eq,List.getElem_take] at hp
  exact⟨j,by omega,by rw[getElem!_pos es j (by omega)];exact hp.1,by rw[getElem!_pos es j (by omega)];exact hp.2⟩
 ·rintro⟨j,hj,h1,h2⟩
  rw[getElem!_pos es j (by omega)] at h1 h2
  refine⟨es[j]'(by omega),List.mem_iff_getElem.2 ⟨j,by rw[List.length_take];omega,by rw[List.getElem_take]⟩,?_⟩
  simp[h1,h2]
structure Mz (es:List aZ) (ni:Int) (i:Nat):Prop where
 part:jM ni es[i]! = true
 note:0≤es[i]!.aT∧es[i]!.aT<(es.length / 2:Nat)
 st:fF es[i]! = true->ml gL es i es[i]!.aT=0∧ml fF es i es[i]!.aT=0
 sp:gL es[i]! = true->0<ml fF es i es[i]!.aT∧ml gL es i es[i]!.aT=0
theorem kU.ka(G:kU es ni){i:Nat}(hi:i<es.length):Mz es ni i:=by
 have z:∀{n:Nat},¬0<n->n=0:=λh=>by omega
 refine⟨G.part i hi,G.note i hi,λhs=>⟨?_,?_⟩,λhp=>⟨?_,?_⟩⟩
 ·refine z λh=>?_
  obtain⟨j,h1,h2,h3⟩:=(rT (by omega)).1 h
  have:=G.before (i:=j) (j:=i) (by omega) hi hs h2 h3.symm
  omega
 ·refine z λh=>?_
  obtain⟨j,h1,h2,h3⟩:=(rT (by omega)).1 h
  have:=G.st1 j i (by omega) hi h2 hs h3
  omega
 ·obtain⟨j,h1,h2,h3,_⟩:=G.pair i hi hp
  exact(rT (by omega)).2 ⟨j,G.before hi h1 h2 hp h3,h2,h3⟩
 ·refine z λh=>?_
  obtain⟨j,h1,h2,h3⟩:=(rT (by omega)).1 h
  have:=G.sp1 j i (by omega) hi h2 hp h3
  omega
theorem U2(e:es.length=2*(es.length / 2))(m:es.length / 2≤64)(S:∀i,i<es.length->Mz es ni i)(o:∀i,i+1<es.length->lt4 (keyOf es es[i]!) (keyOf es es[i+1]!)=true):kU es ni:=by
 have one:∀(p:aZ->Bool),(∀i,i<es.length->p es[i]! = true->ml p es i es[i]!.aT=0)->∀i j,i<es.length->j<es.length->p es[i]! = true->p es[j]! = true->es[i]!.aT=es[j]!.aT->i=j:=by
  intro p h i j hi hj h1 h2 hn
  rcases Nat.lt_trichotomy i j with qR | rfl | qR
  ·have:=(rT (p:=p) (es:=es) (i:=j) (note:=es[j]!.aT) (by omega)).2 ⟨i,qR,h1,hn⟩
   have:=h j hj h2
   omega
  ·rfl
  ·have:=(rT (p:=p) (es:=es) (i:=i) (note:=es[i]!.aT) (by omega)).2 ⟨j,qR,h2,hn.symm⟩
   have:=h i hi h1
   omega
 have s1:=one fF λi hi h=>((S i hi).st h).2
 refine⟨e,m,λi hi=>(S i hi).part,λi hi=>(S i hi).note,s1,one gL λi hi h=>((S i hi).sp h).2,λi hi hp=>?_,o⟩
 obtain⟨j,h1,h2,h3⟩:=(rT (by omega)).1 ((S i hi).sp hp).1
 refine⟨j,by omega,h2,h3,?_⟩
 have:=chain (λk=>keyOf es es[k]!) o h1 hi
 unfold keyOf ET at this
 rw[uY] at this
 omega
def mg(p:aZ->Bool)(f:aZ->Value)(es:List aZ):List (Int×Value):=(es.filter p).map λe=>(e.aT,f e)
def nI(l:List (Int×Value)):List (Int×Value):=l.foldl (λm p=>zW m p.1 p.2) []
theorem tO(l:List (Int×Value))(p:Int×Value):nI (l++[p])=zW (nI l) p.1 p.2:=by unfold nI;rw[List.foldl_append];rfl
theorem yP(l:List (Int×Value))(n:Int):jE (nI l) n=(l.reverse.find? λp=>p.1==n).map (·.2):=by
 suffices h:∀r:List (Int×Value),jE (nI r.reverse) n=(r.find? λp=>p.1==n).map (·.2) by
  have:=h l.reverse
  rwa [List.reverse_reverse] at this
 intro r
 induction r with
 | nil=>rfl
 | cons p r ih=>
  rw[List.reverse_cons,tO,QX,List.find?_cons,ih]
  by_cases e:p.1=n
  ·rw[if_pos e.symm,show(p.1==n)=true by simpa using e];rfl
  ·rw[if_neg (λh=>e h.symm),show(p.1==n)=false by simpa using e]
theorem GW(l:List (Int×Value))(n:Int):(jE (nI l) n).isSome=true↔n ∈ l.map (·.1):=by
 rw[yP,Option.isSome_map]
 rw[List.find?_isSome]
 simp only[List.mem_reverse,beq_iff_eq,List.mem_map]
theorem wc(l:List (Int×Value)):(nI l).length≤l.length∧((nI l).length=l.length↔(l.map (·.1)).Nodup):=by
 suffices h:∀r:List (Int×Value),(nI r.reverse).length≤r.length∧((nI r.reverse).length=r.length↔(r.map (·.1)).Nodup) by
  have:=h l.reverse
  rw[List.reverse_reverse,List.length_reverse] at this
  refine⟨this.1,this.2.trans ?_⟩
  rw[List.map_reverse]
  unfold List.Nodup
  rw[List.pairwise_reverse]
  exact⟨λh=>h.imp λk=>k.symm,λh=>h.imp λk=>k.symm⟩
 intro r
 induction r with
 | nil=>exact⟨Nat.le_refl _,by simp[nI]⟩
 | cons p r ih=>
  rw[List.reverse_cons,tO,Yy,List.map_cons,List.nodup_cons,List.length_cons]
  have hm:(jE (nI r.reverse) p.1).isSome=true↔p.1 ∈ r.map (·.1):=by
   rw[GW,List.map_reverse,List.mem_reverse]
  by_cases h:p.1 ∈ r.map (·.1)
  ·rw[if_pos (hm.2 h)]
   exact⟨by omega,⟨λe=>by omega,λe=>absurd h e.1⟩⟩
  ·rw[if_neg (λe=>h (hm.1 e))]
   exact⟨by omega,⟨λe=>⟨h,ih.2.1 (by omega)⟩,λe=>by rw[ih.2.2 e.2]⟩⟩
theorem GG:∀(n:Nat) (l:List Int),l.Nodup->(∀x ∈ l,0≤x∧x<n)->l.length≤n
 | 0,[],_,_=>Nat.le_refl _
 | 0,x :: l,_,h=>by have:=h x (.head _);omega
 | n+1,l,hd,h=>by
  have h1:(l.filter λx=>x != (n:Int)).length≤n:=by
   refine GG n _ (hd.filter _) λx hx=>?_
   obtain⟨hm,By⟩:=List.mem_filter.1 hx
   have:=h x hm
   have By:x≠(n:Int):=by simpa using By
   omega
  have h2:l.length≤(l.filter λx=>x != (n:Int)).length+1:=by
   clear h h1
   induction l with
   | nil=>simp
   | cons a l ih=>
    rw[List.nodup_cons] at hd
    rw[List.filter_cons]
    by_cases e:a=(n:Int)
    ·subst e
     rw[if_neg (by simp)]
     have:l.filter (λx=>x != (n:Int))=l:=List.filter_eq_self.2 λx hx=>by
      have:x≠(n:Int):=λe=>hd.1 (e ▸ hx)
      simpa using this
     rw[this,List.length_cons]
     omega
    ·rw[if_pos (by simpa using e),List.length_cons,List.length_cons]
     have:=ih hd.2
     omega
  omega
def EW(es:List aZ)(n:Int):Option Int:=((es.filter fF).reverse.find? λe=>e.aT==n).map (·.At)
def vb(es:List aZ):List (Int×Value):=nI (mg fF (λe=>.int .i64 e.At) es)
def nN(es:List aZ):List (Int×Value):=nI (mg gL (λ_=>.bool true) es)
theorem K3(es:List aZ)(n:Int):jE (vb es) n=(EW es n).map (.int .i64):=by
 unfold vb EW
 rw[yP]
 unfold mg
 rw[← List.map_reverse,List.find?_map,Option.map_map,Option.map_map]
 rfl
theorem GN{n a:Int}(h:EW es n=some a):∃j,j<es.length∧fF es[j]! = true∧es[j]!.aT=n∧es[j]!.At=a:=by
 unfold EW at h
 cases hf:(es.filter fF).reverse.find? λe=>e.aT==n with
 | none=>rw[hf] at h;cases h
 | some e=>
  rw[hf] at h
  have ha:e.At=a:=by simpa using h
  have hm:=List.mem_of_find?_eq_some hf
  have hp:=List.find?_some hf
  rw[List.mem_reverse,List.mem_filter] at hm
  obtain⟨j,hj,rfl⟩:=List.mem_iff_getElem.1 hm.1
  have e:=getElem!_pos es j hj
  exact⟨j,hj,by rw[e];exact hm.2,by rw[e];simpa using hp,by rw[e];exact ha⟩
theorem ago{j:Nat}(hj:j<es.length)(hs:fF es[j]! = true):∃a,EW es es[j]!.aT=some a:=by
 unfold EW
 cases hf:(es.filter fF).reverse.find? λe=>e.aT==es[j]!.aT with
 | none=>
  have:=List.find?_eq_none.1 hf es[j]! (by rw[List.mem_reverse,List.mem_filter];exact⟨by rw[getElem!_pos es j hj];exact List.getElem_mem hj,hs⟩)
  simp at this
 | some e=>exact⟨_,rfl⟩
def JO(es:List aZ)(e:aZ):Bool:=gL e&&(match EW es e.aT with | some a=>decide (a<e.At) | none=>false)
def qq(es:List aZ)(e:aZ):List Int:=ET (JO es e) e
theorem Cp(p:aZ->Bool):((es.filter p).map aZ.aT).Nodup↔∀i j,i<es.length->j<es.length->p es[i]! = true->p es[j]! = true->es[i]!.aT=es[j]!.aT->i=j:=by
 unfold List.Nodup
 rw[List.pairwise_map,List.pairwise_filter,List.pairwise_iff_getElem]
 constructor
 ·intro h i j hi hj h1 h2 hn
  rcases Nat.lt_trichotomy i j with qR | rfl | qR
  ·rw[getElem!_pos es i hi] at h1 hn
   rw[getElem!_pos es j hj] at h2 hn
   exact absurd hn (h i j hi hj qR h1 h2)
  ·rfl
  ·rw[getElem!_pos es i hi] at h1 hn
   rw[getElem!_pos es j hj] at h2 hn
   exact absurd hn.symm (h j i hj hi qR h2 h1)
 ·intro h i j hi hj qR h1 h2 hn
  have:=h i j hi hj (by rw[getElem!_pos es i hi];exact h1) (by rw[getElem!_pos es j hj];exact h2) (by rw[getElem!_pos es i hi,getElem!_pos es j hj];exact hn)
  omega
theorem wb(p:aZ->Bool)(f:aZ->Value)(es:List aZ):(mg p f es).map (·.1)=(es.filter p).map aZ.aT:=by
 unfold mg;rw[List.map_map];rfl
theorem DG(p:aZ->Bool)(f:aZ->Value)(es:List aZ):(mg p f es).length=(es.filter p).length:=by
 unfold mg;rw[List.length_map]
theorem Wu(h:∀e ∈ es,gL e=true∧fF e=false∨fF e=true∧gL e=false):(es.filter fF).length+(es.filter gL).length=es.length:=by
 induction es with
 | nil=>rfl
 | cons e es ih=>
  have:=ih λx hx=>h x (.tail _ hx)
  rcases h e (.head _) with⟨h1,h2⟩ | ⟨h1,h2⟩
  ·rw[List.filter_cons_of_neg (by rw[h2];decide),List.filter_cons_of_pos h1,List.length_cons,List.length_cons];omega
  ·rw[List.filter_cons_of_pos h1,List.filter_cons_of_neg (by rw[h2];decide),List.length_cons,List.length_cons];omega
theorem GP(h:∀i,i<es.length->jM ni es[i]! = true):(es.filter fF).length+(es.filter gL).length=es.length:=Wu λe he=>by
 obtain⟨i,hi,rfl⟩:=List.mem_iff_getElem.1 he
 have:=h i hi
 rw[getElem!_pos es i hi] at this
 exact Ls this
theorem Og(p:aZ->Bool){n:Nat}(h:∀i,i<es.length->0≤es[i]!.aT∧es[i]!.aT<n):∀x ∈ (es.filter p).map aZ.aT,0≤x∧x<n:=λx hx=>by
 obtain⟨e,he,rfl⟩:=List.mem_map.1 hx
 obtain⟨i,hi,rfl⟩:=List.mem_iff_getElem.1 (List.mem_filter.1 he).1
 have:=h i hi
 rwa [getElem!_pos es i hi] at this
theorem kU.lens(G:kU es ni):(vb es).length=es.length / 2∧(nN es).length=es.length / 2:=by
 have d1:=(Cp fF).2 G.st1
 have d2:=(Cp gL).2 G.sp1
 have l1:=GG _ _ d1 (Og fF G.note)
 have l2:=GG _ _ d2 (Og gL G.note)
 rw[List.length_map] at l1 l2
 have hs:=GP G.part
 have he:=G.even
 unfold vb nN
 rw[(wc _).2.2 (by rw[wb];exact d1),(wc _).2.2 (by rw[wb];exact d2),DG,DG]
 omega
structure Fz (es:List aZ) (ni:Int) (i:Nat):Prop where
 part:jM ni es[i]! = true
 note:0≤es[i]!.aT∧es[i]!.aT<(es.length / 2:Nat)
 ord:0<i->lt4 (qq es es[i-1]!) (qq es es[i]!)=true
 sp:gL es[i]! = true->∃a,EW es es[i]!.aT=some a∧a≤es[i]!.At∧∀j,j<i->gL es[j]! = true->es[j]!.aT≠es[i]!.aT
theorem Nv(st1:∀i j,i<es.length->j<es.length->fF es[i]! = true->fF es[j]! = true->es[i]!.aT=es[j]!.aT->i=j){e:aZ}(h:gL e=true->∃a,EW es e.aT=some a):qq es e=keyOf es e:=by
 unfold qq keyOf JO
 cases hp:gL e with
 | false=>rfl
 | true=>
  obtain⟨a,ha⟩:=h hp
  obtain⟨j,h1,h2,h3,h4⟩:=GN ha
  have hsa:=OQ h1 h2 λi hi hs hn=>st1 i j hi h1 hs h2 hn
  rw[ha,← h3,hsa,h4]
theorem kU.own(G:kU es ni){i:Nat}(hi:i<es.length)(hp:gL es[i]! = true):∃a,EW es es[i]!.aT=some a∧a≤es[i]!.At:=by
 obtain⟨j,h1,h2,h3,h4⟩:=G.pair i hi hp
 obtain⟨a,ha⟩:=ago h1 h2
 rw[h3] at ha
 obtain⟨j',k1,k2,k3,k4⟩:=GN ha
 obtain rfl:=G.st1 j' j k1 h1 k2 h2 (by rw[k3,h3])
 exact⟨a,ha,by rw[← k4];exact h4⟩
theorem kU.CK(G:kU es ni){i:Nat}(hi:i<es.length):Fz es ni i:=by
 have hk:∀j,j<es.length->qq es es[j]! = keyOf es es[j]!:=λj hj=>Nv G.st1 λhp=>by
  obtain⟨a,ha,_⟩:=G.own hj hp
  exact⟨a,ha⟩
 refine⟨G.part i hi,G.note i hi,λh0=>?_,λhp=>?_⟩
 ·rw[hk _ (by omega),hk _ hi]
  have:=G.ord (i-1) (by omega)
  rwa [show i-1+1=i by omega] at this
 ·obtain⟨a,ha,h2⟩:=G.own hi hp
  exact⟨a,ha,h2,λj hj hs hn=>by have:=G.sp1 j i (by omega) hi hs hp hn;omega⟩
theorem U1(e:es.length=2*(es.length / 2))(m:es.length / 2≤64)(S:∀i,i<es.length->Fz es ni i)(l1:(vb es).length=es.length / 2)(l2:(nN es).length=es.length / 2):kU es ni:=by
 have hs:=GP λi hi=>(S i hi).part
 have a1:=wc (mg fF (λe=>.int .i64 e.At) es)
 have a2:=wc (mg gL (λ_=>.bool true) es)
 rw[DG,wb] at a1 a2
 unfold vb at l1
 unfold nN at l2
 have st1:=(Cp fF).1 (a1.2.1 (by omega))
 have sp1:=(Cp gL).1 (a2.2.1 (by omega))
 have hk:∀j,j<es.length->qq es es[j]! = keyOf es es[j]!:=λj hj=>Nv st1 λhp=>by
  obtain⟨a,ha,_⟩:=(S j hj).sp hp
  exact⟨a,ha⟩
 refine⟨e,m,λi hi=>(S i hi).part,λi hi=>(S i hi).note,st1,sp1,λi hi hp=>?_,λi hi=>?_⟩
 ·obtain⟨a,ha,h2,_⟩:=(S i hi).sp hp
  obtain⟨j,k1,k2,k3,k4⟩:=GN ha
  exact⟨j,k1,k2,k3,by rw[k4];exact h2⟩
 ·have:=(S (i+1) hi).ord (by omega)
  rwa [hk _ hi,show i+1-1=i by omega,hk _ (by omega)] at this
theorem RW{i:Nat}(hi:i<es.length):nN (es.take (i+1))=if gL es[i]! then zW (nN (es.take i)) es[i]!.aT (.bool true) else nN (es.take i):=by
 unfold nN mg
 rw[List.take_succ_eq_append_getElem hi,List.filter_append,List.map_append,getElem!_pos es i hi]
 by_cases h:gL es[i]=true
 ·rw[if_pos h,List.filter_cons_of_pos h]
  exact tO _ _
 ·rw[if_neg h,List.filter_cons_of_neg h]
  simp
theorem V6{i:Nat}(hi:i<es.length):vb (es.take (i+1))=if fF es[i]! then zW (vb (es.take i)) es[i]!.aT (.int .i64 es[i]!.At) else vb (es.take i):=by
 unfold vb mg
 rw[List.take_succ_eq_append_getElem hi,List.filter_append,List.map_append,getElem!_pos es i hi]
 by_cases h:fF es[i]=true
 ·rw[if_pos h,List.filter_cons_of_pos h]
  exact tO _ _
 ·rw[if_neg h,List.filter_cons_of_neg h]
  simp
theorem Vl{i:Nat}(hi:i≤es.length)(n:Int):(jE (nN (es.take i)) n).isSome=true↔∃j,j<i∧gL es[j]! = true∧es[j]!.aT=n:=by
 unfold nN
 rw[GW,wb,List.mem_map]
 constructor
 ·rintro⟨e,he,rfl⟩
  obtain⟨hm,hp⟩:=List.mem_filter.1 he
  obtain⟨j,hj,rfl⟩:=List.mem_iff_getElem.1 hm
  rw[List.length_take] at hj
  rw[List.getElem_take] at hp ⊢
  exact⟨j,by omega,by rw[getElem!_pos es j (by omega)];exact hp,by rw[getElem!_pos es j (by omega)]⟩
 ·rintro⟨j,hj,h1,h2⟩
  rw[getElem!_pos es j (by omega)] at h1 h2
  exact⟨es[j]'(by omega),List.mem_filter.2 ⟨List.mem_iff_getElem.2 ⟨j,by rw[List.length_take];omega,by rw[List.getElem_take]⟩,h1⟩,h2⟩
theorem Vm(es:List aZ)(n:Int):jE (nN es) n=none∨jE (nN es) n=some (.bool true):=by
 unfold nN mg
 rw[yP]
 cases hf:(List.map (λe=>(e.aT,(Value.bool true))) (es.filter gL)).reverse.find? λp=>p.1==n with
 | none=>exact .inl rfl
 | some p=>
  have hm:=List.mem_of_find?_eq_some hf
  rw[List.mem_reverse,List.mem_map] at hm
  obtain⟨e,_,rfl⟩:=hm
  exact .inr rfl
end
end Go.Sx
