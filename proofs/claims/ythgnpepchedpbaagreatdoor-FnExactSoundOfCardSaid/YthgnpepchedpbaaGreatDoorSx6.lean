/- Lemmas. -/
import Derived.Test.YthgnpepchedpbaaGreatDoorSx4
set_option linter.unusedVariables false
set_option linter.unusedSimpArgs false
namespace Go.Sx
variable {P:Program}{τ:Static}
theorem jt.asT{s:Sem Next}{K:Value->ab->Prop}{h:ab}{t:Nat}(H:jt P s (λv h=>asT τ t v λv=>K v h) h):jt P s K h:=
 jt.mono (λ_ _ h=>aai h) H
theorem Vy(n:Int):IntKind.i64.wrap n=if n % 18446744073709551616 ≥ 9223372036854775808 then n % 18446744073709551616-18446744073709551616 else n % 18446744073709551616:=by
 show(if(true&&decide (n % 2 ^ 64 ≥ 2 ^ 63))=true then n % 2 ^ 64-2 ^ 64 else n % 2 ^ 64)=_
 simp
theorem HI(n:Int)(h0:0≤n)(h1:n≤9223372036854775807):IntKind.i64.wrap n=n:=by
 rw[Vy]
 omega
theorem JY(hτ:OkS P τ)(o:Oper)(ev:Operand->Value)(K:Value->ab->Prop)(h:ab)(H:opI P τ o ev K h):jt P (execOp ev o) K h:=by
 have hop:=H
 unfold opI at H
 unfold execOp
 split at H
 ·rename_i x e;rw[e];exact zH H
 ·rename_i x e;rw[e];exact zH H
 ·rename_i c a b e;rw[e]
  simp only[]
  split at H
  ·rename_i t e2
   refine vf λw hw=>⟨if t then ev a else ev b,w,by simp[asBool,e2],hZ.refl w,?_⟩
   rw[hw]
   cases t <;> exact H
  ·exact H.elim
 ·rename_i t e;rw[e]
  simp only[]
  split at H
  ·rename_i i hi
   cases hz:i.zero.isEmpty with
   | true=>rw[hz] at H;exact H.elim
   | false=>
    rw[hz] at H
    obtain⟨zv,VM,hzr⟩:=yT hτ hi (by intro e0;rw[e0] at hz;cases hz)
    have hcz:zv.cells=⟨i.zero⟩:=Array.toList_inj.1 VM
    exact pA λw hw=>⟨_,_,by simp[Instr.alloc,hzr,newVar,newRow];exact⟨rfl,rfl⟩,BN w _,by rw[hw,hcz];exact H⟩
  ·exact H.elim
 ·rename_i t x e;rw[e]
  exact pA λw hw=>⟨_,_,by simp[Instr.box,newVar,newRow];exact⟨rfl,rfl⟩,BN w _,by rw[hw];exact H⟩
 ·rename_i t parts e;rw[e];exact V3 hτ e hop
 ·rename_i t len parts e;rw[e];exact GK hτ e hop
 ·rename_i t x e;rw[e]
  split at H
  ·rename_i a e2
   refine pA λw hw=>?_
   rw[← hw] at H
   obtain⟨v,hr,hk⟩:=W1 (P:=P) hτ H
   exact⟨v,w,by simp[Instr.loadAt,e2,Instr.sureAddr,hr],hZ.refl w,hk⟩
  ·exact H.elim
 ·rename_i t x y e;rw[e]
  simp only[]
  split at H
  ·rename_i a e2
   split at H
   ·rename_i i hi
    have agg:∀cs,ev y = .agg cs->STA i.size h a cs (λh=>K undef h)->jt P (do Instr.storeAt t (ev x) (ev y);pure .skip) K h:=by
     intro cs e3 ⟨s1,s2,s3,s4⟩
     refine DM λw hw=>?_
     rw[← hw] at s3 s4
     obtain⟨w',hr,hs,hh⟩:=J1 (P:=P) hτ hi s1 s2 s3
     exact⟨w',by simp[Instr.storeAt,e2,e3,Instr.sureAddr,hr],hs,by rw[hh];exact s4⟩
    have one:(bif Nat.beq i.size 1 then OC (ev y) (ST1 h a (ev y) λh=>K undef h) else False)->jt P (do Instr.storeAt t (ev x) (ev y);pure .skip) K h:=by
     intro H
     cases hb:Nat.beq i.size 1 with
     | false=>rw[hb] at H;exact H.elim
     | true=>
      rw[hb] at H
      rw[Nat.beq_eq] at hb
      obtain⟨c1,c2,s1,s2,s3⟩:=ael H
      refine DM λw hw=>?_
      rw[← hw] at s1 s2 s3
      exact⟨w.setCell a (ev y),by simp[Instr.storeAt,e2,Instr.sureAddr,J6 hτ hi hb c1 c2 s1 s2],CE w _ _,s3⟩
    split at H
    ·split at H
     ·rename_i cs e3;exact agg cs e3 H
     ·exact H.elim
    ·split at H
     ·rename_i cs e3;exact agg cs e3 H
     ·exact H.elim
    ·exact one H
   ·exact H.elim
  ·exact H.elim
 ·rename_i x e;rw[e]
  simp only[]
  split at H
  ·rename_i a e2;rw[e2];exact zH H
  ·rename_i f a c e2;rw[e2];exact zH H
  ·exact H.elim
 ·rename_i op t x y u e;rw[e]
  refine TO hτ H λhr=>?_
  unfold CMP at hr
  refine jt.mono (λv h hb=>?_) hr
  obtain⟨b,rfl,hb'⟩:=KJ hb
  exact hb'
 ·rename_i op t x e;rw[e];exact Zu H
 ·rename_i s d x e;rw[e];exact PY hτ H λhr=>jt.asT hr
 ·rename_i fn a c e;rw[e];exact gO (λw _=>rfl) H
 ·rename_i t l c e;rw[e]
  simp only[]
  split at H
  ·rename_i e' sz b z hi
   obtain⟨d,h1,h2,h3⟩:=hU hτ hi
   have hd:d = .slice e':=by cases d <;> simp_all [mC]
   subst hd
   split at H
   ·rename_i i k1 l' k2 c' hj el ec
    obtain⟨⟨b0,b1,b2,b3,b4⟩,H⟩:=H
    obtain⟨j,j1,j2,j3,j4⟩:=Z8 hτ hj
    obtain⟨zv,VM,hzr⟩:=yT hτ hj b4
    refine pA λw hw=>?_
    have hwl:IntKind.i64.wrap l'=l':=HI l' b0 (by omega)
    have hwc:IntKind.i64.wrap c'=c':=HI c' (by omega) b3
    have hcz:zv.cells=⟨i.zero⟩:=Array.toList_inj.1 VM
    have Xq:¬((((c'<0||decide ((i.bytes:Int)*c' > 2 ^ 48))||l'<0)||l' > c')=true):=by
     simp only[Bool.or_eq_true,decide_eq_true_eq]
     omega
    refine⟨.slice (some ⟨w.heap.size,0,none⟩) l'.toNat c'.toNat,{ w with heap:=w.heap.push (.cells ((Array.range (c'.toNat*i.size)).map λj=>(⟨i.zero⟩:Array Value)[j % (⟨i.zero⟩:Array Value).size]!) e') },?_,BN w _,by rw[hw];exact H⟩
    simp only[el,ec,Instr.makeSlice,Sem.run_bind,h3,Result.andThen_ok,asInt,asIntOf,Sem.run_pure,j4,j3,hwl,hwc]
    rw[if_neg Xq]
    simp only[Sem.run_bind,run_askRoom,Result.andThen_ok,iI hτ hj]
    by_cases h0:c'.toNat*i.size=0
    ·rw[if_pos h0]
     simp only[pure_bind]
     rw[h0,Array.range_zero']
     simp only[List.map_toArray,List.map_nil]
     rfl
    ·rw[if_neg h0]
     simp only[Sem.run_bind,hzr,Result.andThen_ok,pure_bind,hcz]
     rfl
   ·exact H.elim
  ·exact H.elim
 ·rename_i t x lo hi mx e;rw[e];exact OM hτ H
 ·rename_i t x e;rw[e]
  simp only[]
  split at H
  ·rename_i n e' sz b z bb len cap hi e2
   obtain⟨d,h1,h2,h3⟩:=hU hτ hi
   have hd:d = .array n e':=by cases d <;> simp_all [mC]
   subst hd
   unfold AAP at H
   split at H
   ·obtain⟨b0,H⟩:=H
    exact gO (λw _=>by simp[Instr.arrayAt,e2,h3,show ¬len<n by omega]) H
   ·exact H.elim
  ·exact H.elim
 ·rename_i t x i e;rw[e]
  simp only[]
  split at H
  ·rename_i a fs n b z e2 hi
   obtain⟨d,h1,h2,h3⟩:=hU hτ hi
   obtain⟨xu,rfl,hfl⟩:∃xu:Array Field,d = .struct xu∧xu.toList.map (λf=>(f.type,f.offset))=fs:=by
    cases d <;> simp_all [mC]
   split at H
   ·rename_i u off hf
    split at H
    ·rename_i j hj
     cases hb:Nat.beq j.size 0 with
     | true=>rw[hb] at H;exact H.elim
     | false=>
      rw[hb] at H
      have By:j.size≠0:=by intro h0;rw[h0] at hb;cases hb
      rw[← hfl,List.getElem?_map,Array.getElem?_toList] at hf
      obtain⟨f,hf1,hf2⟩:=Option.map_eq_some_iff.1 hf
      obtain⟨rfl,rfl⟩:=Prod.mk.inj hf2
      refine gO (λw _=>?_) H
      simp[Instr.fieldAt,h3,hf1,e2,Instr.sureAddr,fieldPlace,iI hτ hj,By]
    ·exact H.elim
   ·exact H.elim
  ·exact H.elim
 ·rename_i t x i e;rw[e]
  simp only[]
  split at H
  ·rename_i cs fs n b z e2 hi
   obtain⟨d,h1,h2,h3⟩:=hU hτ hi
   obtain⟨xu,rfl,hfl⟩:∃xu:Array Field,d = .struct xu∧xu.toList.map (λf=>(f.type,f.offset))=fs:=by
    cases d <;> simp_all [mC]
   split at H
   ·rename_i u off hf
    rw[← hfl,List.getElem?_map,Array.getElem?_toList] at hf
    obtain⟨f,hf1,hf2⟩:=Option.map_eq_some_iff.1 hf
    obtain⟨rfl,rfl⟩:=Prod.mk.inj hf2
    refine pA λw hw=>?_
    obtain⟨v,hr,hk⟩:=VZ (P:=P) (w:=w) hτ H
    exact⟨v,w,by simp[Instr.field,h3,hf1,e2,asAgg,hr],hZ.refl w,by rw[hw];exact hk⟩
   ·exact H.elim
  ·exact H.elim
 ·rename_i t x i e;rw[e]
  simp only[]
  split at H
  ·rename_i n e' sz b z a k ix hi e2 e3
   obtain⟨d,h1,h2,h3⟩:=hU hτ hi
   have hd:d = .array n e':=by cases d <;> simp_all [mC]
   subst hd
   split at H
   ·rename_i j hj
    obtain⟨⟨b0,b1⟩,H⟩:=H
    exact gO (λw _=>by simp[Instr.indexAt,e2,e3,asIntOf,h3,Instr.sureAddr,b0,b1,iI hτ hj]) H
   ·exact H.elim
  ·rename_i e' sz b z a len cap k ix hi e2 e3
   obtain⟨d,h1,h2,h3⟩:=hU hτ hi
   have hd:d = .slice e':=by cases d <;> simp_all [mC]
   subst hd
   split at H
   ·rename_i j hj
    unfold bd at H
    split at H
    ·rename_i ad
     obtain⟨⟨b0,b1⟩,H⟩:=H
     exact gO (λw _=>by simp[Instr.indexAt,e2,e3,asIntOf,h3,b0,b1,iI hτ hj]) H
    ·exact H.elim
   ·exact H.elim
  ·exact H.elim
 ·rename_i t x i e;rw[e]
  simp only[]
  split at H
  ·rename_i n e' sz b z cs k ix hi e2 e3
   obtain⟨d,h1,h2,h3⟩:=hU hτ hi
   have hd:d = .array n e':=by cases d <;> simp_all [mC]
   subst hd
   split at H
   ·rename_i j hj
    obtain⟨⟨b0,b1⟩,H⟩:=H
    refine pA λw hw=>?_
    obtain⟨v,hr,hk⟩:=VZ (P:=P) (w:=w) hτ H
    exact⟨v,w,by simp[Instr.index,e2,e3,asIntOf,h3,b0,b1,iI hτ hj,hr],hZ.refl w,by rw[hw];exact hk⟩
   ·exact H.elim
  ·rename_i sz b z s k ix hi e2 e3
   obtain⟨d,h1,h2,h3⟩:=hU hτ hi
   have hd:d = .string:=by cases d <;> simp_all [mC]
   subst hd
   obtain⟨⟨b0,b1⟩,H⟩:=H
   refine gO (λw _=>?_) H
   have qR:ix.toNat<s.size:=by omega
   simp[Instr.index,e2,e3,asIntOf,h3,b0,hD,qR]
  ·exact H.elim
 ·rename_i x i e;rw[e]
  simp only[]
  split at H
  ·rename_i vs e2
   split at H
   ·rename_i v hv
    refine gO (λw _=>?_) H
    rw[Array.getElem?_toList] at hv
    simp[Instr.extract,e2,hv]
   ·exact H.elim
  ·exact H.elim
 ·rename_i c e;rw[e]
  simp only[]
  split at H
  ·rename_i f ec
   unfold pE at H
   split at H
   ·rename_i g first cap ef
    have:(do let d ← resolve ev c o.type;invoke d.target d.args)=callFunc g (first++c.args.map ev++cap):=by
     simp[resolve,ec,ef,Deferred.ofValue,invoke]
    rw[this]
    exact jt.asT H
   ·have:(do let d ← resolve ev c o.type;invoke d.target d.args)=(do let d ← Deferred.ofValue (ev f) (c.args.map ev);invoke d.target d.args):=by
     simp[resolve,ec]
    rw[this]
    exact jt.asT H
  ·rename_i ec
   have Xt:(do let d ← resolve ev c o.type;invoke d.target d.args)=builtin .len c.argTypes o.type (c.args.map λ| .const _=>true | _=>false) (c.args.map ev):=by
    simp[resolve,ec,invoke]
    rfl
   rw[Xt]
   split at H
   ·rename_i x t ea et
    have ha:c.args.map ev = #[ev x]:=by
     apply Array.toList_inj.1
     simp[ea]
    have ht:c.argTypes = #[t]:=Array.toList_inj.1 (by simp[et])
    split at H
    ·rename_i sz b z s hi e2
     obtain⟨d,h1,h2,h3⟩:=hU hτ hi
     have hd:d = .string:=by cases d <;> simp_all [mC]
     subst hd
     exact gO (λw _=>by simp[ha,ht,e2,Builtin.len_,h3,goInt]) H
    ·rename_i e' sz b z a n cap hi e2
     obtain⟨d,h1,h2,h3⟩:=hU hτ hi
     have hd:d = .slice e':=by cases d <;> simp_all [mC]
     subst hd
     exact gO (λw _=>by simp[ha,ht,e2,Builtin.len_,h3,goInt]) H
    ·rename_i n e' sz b z hi
     obtain⟨d,h1,h2,h3⟩:=hU hτ hi
     have hd:d = .array n e':=by cases d <;> simp_all [mC]
     subst hd
     exact gO (λw _=>by simp[ha,ht,Builtin.len_,h3,goInt]) H
    ·exact jt.asT H
   ·exact H.elim
  ·rename_i b hb ec
   have Xt:(do let d ← resolve ev c o.type;invoke d.target d.args)=builtin b c.argTypes o.type (c.args.map λ| .const _=>true | _=>false) (c.args.map ev):=by
    simp[resolve,ec,invoke]
    rfl
   rw[Xt]
   exact jt.asT H
  ·unfold execOp at H
   rw[e] at H
   exact H
 ·have hx:jt P (execOp ev o) K h:=jt.asT H
  unfold execOp at hx
  exact hx
end Go.Sx
