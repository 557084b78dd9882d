/- Lemmas. -/
import Derived.Test.YthgnpepchedpbaaGreatDoorLmt
import Derived.Test.YthgnpepchedpbaaGreatDoorLk24
set_option linter.unusedVariables false
set_option linter.unusedSimpArgs false
namespace Go.Sx
open FloatKind (f32 f64)
open IntKind (i64)
open Go.Proofs
set_option maxRecDepth 100000
set_option maxHeartbeats 2000000
def mkA(xs:List Nat)(k j:Nat):List Nat:=(List.range j).map (λi=>f32.nearest ((k+i:Nat):Int))++xs.drop j
def mkQ(k n:Nat):List Nat:=(List.range n).map λi=>f32.nearest ((k+i:Nat):Int)
theorem Yw(xs:List Nat)(k:Nat):mkA xs k 0=xs:=by simp[mkA]
theorem abR{xs:List Nat}{n:Nat}(k:Nat)(h:xs.length=n):mkA xs k n=mkQ k n:=by
 unfold mkA mkQ
 rw[List.drop_of_length_le (by omega),List.append_nil]
theorem abS{xs:List Nat}{j:Nat}(k:Nat)(h:j<xs.length):(mkA xs k j).set j (f32.nearest ((k+j:Nat):Int))=mkA xs k (j+1):=by
 unfold mkA
 rw[List.set_append_right _ _ (by simp)]
 simp only[List.length_map,List.length_range,Nat.sub_self]
 rw[List.drop_eq_getElem_cons h,List.set_cons_zero,List.range_succ,List.map_append,List.append_assoc]
 rfl
theorem abW(k n:Nat):(mkQ k n).length=n:=by simp[mkQ]
theorem abV{k n j:Nat}(h:j<n):(mkQ k n)[j]! = f32.nearest ((k+j:Nat):Int):=by
 rw[getElem!_pos _ j (by rw[abW];exact h)]
 simp[mkQ]
abbrev SJ:=Option Addr×Nat×Nat×Int×Int×Int
section
variable {h0 h:ab}
theorem Ej{B:(SJ->ab->Prop)->SJ->ab->Prop}{n off:Nat}{get:aK->List Nat}{put:aK->List Nat->aK}(Fc:Foc aQ (iT n (rF .f32)) off get put)(hpg:∀v,put v (get v)=v)(hpp:∀a x y,put (put a x) y=put a y)(hg:∀a x,get (put a x)=x){a0:Addr}{l c i k:Nat}{F:Fr}{L:List Blk}{v:aK}(P:Pt aQ h0 h (a0.add (i*45)) F L v)(hk:k+n≤2147483648)(step:∀(N:SJ->ab->Prop) (j:Nat) (hh:ab),j<n->(ST1 hh ((a0.add (i*45)).add (off+j*1)) (.float .f32 (f32.nearest ((k+j:Nat):Int))) λh'=>N (some a0,l,c,((k+j+1:Nat):Int),(i:Int),((j+1:Nat):Int)) h')->B N (some a0,l,c,((k+j:Nat):Int),(i:Int),(j:Int)) hh)(last:∀(N:SJ->ab->Prop) (hh:ab),Pt aQ h0 hh (a0.add (i*45)) F L (put v (mkQ k n))->B N (some a0,l,c,((k+n:Nat):Int),(i:Int),(n:Int)) hh):bk B (some a0,l,c,(k:Int),(i:Int),0) h:=by
 have hl:(get v).length=n:=(P.rd.foc Fc).len
 refine loop (λx hh=>∃j:Nat,x=(some a0,l,c,((k+j:Nat):Int),(i:Int),(j:Int))∧j≤n∧Pt aQ h0 hh (a0.add (i*45)) F L (put v (mkA (get v) k j))) (λx=>((n:Int)-x.2.2.2.2.2).toNat) ⟨0,rfl,by omega,by rw[Yw,hpg];exact P⟩ ?_
 rintro x hh ⟨j,rfl,hj,P⟩
 by_cases e:j=n
 ·subst e
  rw[abR k hl] at P
  exact last _ hh P
 ·refine step _ j hh (by omega) ?_
  refine P.st (B':=[]) ((Fc.trans (Foc.arr (rF .f32) j (by omega))).at rfl) rfl ⟨rfl,_,rfl,cK .f32 _⟩ λh' P=>?_
  have P:Pt aQ h0 h' (a0.add (i*45)) F L (put (put v (mkA (get v) k j)) ((get (put v (mkA (get v) k j))).set j (f32.nearest ((k+j:Nat):Int)))):=P
  rw[hg,hpp,abS k (by omega)] at P
  exact⟨⟨j+1,rfl,by omega,P⟩,by show((n:Int)-((j+1:Nat):Int)).toNat<((n:Int)-(j:Int)).toNat;omega⟩
theorem Eg{P1:Prop}{B:(SJ->ab->Prop)->SJ->ab->Prop}{n off:Nat}{get:aK->List Nat}{put:aK->List Nat->aK}(Fc:Foc aQ (iT n (rF .f32)) off get put){a0:Addr}{l c i k:Nat}{v:aK}(P:RdP aQ h (a0.add (i*45)) v)(hm:get v=mkQ k n)(hk:k+n≤2147483648)(step:∀(N:SJ->ab->Prop) (j:Nat),j<n->(oF .f32 (cell h ((a0.add (i*45)).add (off+j*1))) λr=>BIF (f32.format.order r (f32.nearest ((k+j:Nat):Int)) != some .eq) P1 (N (some a0,l,c,((k+j+1:Nat):Int),(i:Int),((j+1:Nat):Int)) h))->B N (some a0,l,c,((k+j:Nat):Int),(i:Int),(j:Int)) h)(last:∀(N:SJ->ab->Prop),B N (some a0,l,c,((k+n:Nat):Int),(i:Int),(n:Int)) h):bk B (some a0,l,c,(k:Int),(i:Int),0) h:=by
 refine loop (λx hh=>∃j:Nat,x=(some a0,l,c,((k+j:Nat):Int),(i:Int),(j:Int))∧j≤n∧hh=h) (λx=>((n:Int)-x.2.2.2.2.2).toNat) ⟨0,rfl,by omega,rfl⟩ ?_
 rintro x hh ⟨j,rfl,hj,rfl⟩
 by_cases e:j=n
 ·subst e
  exact last _
 ·refine step _ j (by omega) ?_
  have Fj:=(Fc.trans (Foc.arr (rF .f32) j (by omega))).at (agi:=off+j*1) rfl
  obtain⟨u,e1,y,e2,hy⟩:=P.cell Fj rfl
  obtain rfl:u = .float .f32 y:=by simpa using e2
  have hy:FW .f32 y (get v)[j]!:=hy
  rw[hm,abV (by omega)] at hy
  obtain rfl:=hy.eq (dp _ _)
  refine o_f e1 (cM (sN (dp _ _)) ⟨⟨j+1,rfl,by omega,rfl⟩,by show((n:Int)-((j+1:Nat):Int)).toNat<((n:Int)-(j:Int)).toNat;omega⟩)
def aiS(v:aK)(k:Nat):aK:=
 let v:={ v with bY:={ v.bY with fz:={ v.bY.fz with S:=mkQ k 2 } } }
 let v:={ v with bY:={ v.bY with fX:=f32.nearest ((k+2:Nat):Int) } }
 let v:={ v with bY:={ v.bY with fT:=f32.nearest ((k+3:Nat):Int) } }
 v
def aiR(v:aK)(k:Nat):aK:=
 let v:={ v with bY:={ v.bY with fz:={ v.bY.fz with C:=mkQ k 3 } } }
 aiS v (k+3)
def aiQ(v:aK)(k:Nat):aK:=
 let v:={ v with aI:={ v.aI with End:={ v.aI.End with S:=mkQ k 2 } } }
 let v:={ v with aI:={ v.aI with Open:=(Int.tmod ((k+2:Nat):Int) 3==0) } }
 let v:={ v with aI:={ v.aI with fT:=f32.nearest ((k+3:Nat):Int) } }
 let v:={ v with aI:={ v.aI with Rest:=f32.nearest ((k+4:Nat):Int) } }
 let v:={ v with aI:={ v.aI with fX:=f32.nearest ((k+5:Nat):Int) } }
 let k1:=k+6+ao v.bY.bT.ae
 let v:={ v with bY:={ v.bY with bT:={ v.bY.bT with ae:=eu v.bY.bT.ae (k+6) } } }
 let v:={ v with bY:={ v.bY with bT:={ v.bY.bT with At:=((k1:Nat):Int) } } }
 let k2:=k1+1+ao v.bY.aH.ae
 let v:={ v with bY:={ v.bY with aH:={ v.bY.aH with ae:=eu v.bY.aH.ae (k1+1) } } }
 let v:={ v with bY:={ v.bY with aH:={ v.bY.aH with At:=((k2:Nat):Int) } } }
 let v:={ v with bY:={ v.bY with fz:={ v.bY.fz with Kind:=((k2+1:Nat):Int) } } }
 aiR v (k2+2)
def aiP(v:aK)(k:Nat):aK:=
 let v:={ v with aI:={ v.aI with End:={ v.aI.End with C:=mkQ k 3 } } }
 aiQ v (k+3)
def aiO(v:aK)(k:Nat):aK:=
 let v:={ v with String:={ v.String with fz:={ v.String.fz with S:=mkQ k 2 } } }
 let v:={ v with String:={ v.String with fT:=f32.nearest ((k+2:Nat):Int) } }
 let k1:=k+3+aN v.aI.aW
 let v:={ v with aI:={ v.aI with aW:=nC v.aI.aW (k+3) } }
 let k2:=k1+aN v.aI.Left
 let v:={ v with aI:={ v.aI with Left:=nC v.aI.Left (k1) } }
 let k3:=k2+ao v.aI.aL
 let v:={ v with aI:={ v.aI with aL:=eu v.aI.aL (k2) } }
 let v:={ v with aI:={ v.aI with End:={ v.aI.End with Kind:=((k3:Nat):Int) } } }
 aiP v (k3+1)
def aiN(v:aK)(k:Nat):aK:=
 let v:={ v with String:={ v.String with fz:={ v.String.fz with C:=mkQ k 3 } } }
 aiO v (k+3)
def aiM(v:aK)(k:Nat):aK:=
 let v:={ v with String:={ v.String with kS:={ v.String.kS with S:=mkQ k 2 } } }
 let v:={ v with String:={ v.String with fz:={ v.String.fz with Kind:=((k+2:Nat):Int) } } }
 aiN v (k+3)
def aiL(v:aK)(k:Nat):aK:=
 let v:={ v with String:={ v.String with kS:={ v.String.kS with C:=mkQ k 3 } } }
 aiM v (k+3)
def lM(v:aK)(k:Nat):aK:=
 let v:={ v with aT:=((k:Nat):Int) }
 let v:={ v with aq:=((k+1:Nat):Int) }
 let v:={ v with mh:=((k+2:Nat):Int) }
 let v:={ v with Gone:=(Int.tmod ((k+3:Nat):Int) 3==0) }
 let v:={ v with gR:=f32.nearest ((k+4:Nat):Int) }
 let k1:=k+5+ao v.String.Loop.ae
 let v:={ v with String:={ v.String with Loop:={ v.String.Loop with ae:=eu v.String.Loop.ae (k+5) } } }
 let v:={ v with String:={ v.String with Loop:={ v.String.Loop with At:=((k1:Nat):Int) } } }
 let v:={ v with String:={ v.String with kS:={ v.String.kS with Kind:=((k1+1:Nat):Int) } } }
 aiL v (k1+2)
theorem eZ{q:Addr}{a b:Nat}{v:Value}{K:ab->Prop}(H:ST1 h (q.add (a+b)) v K):ST1 h ((q.add a).add b) v K:=by rw[mQ];exact H
theorem FN{q:Addr}{a b:Nat}{v:Option Value}(e:cell h (q.add (a+b))=v):cell h ((q.add a).add b)=v:=by rw[mQ];exact e
theorem Yv{N2:(Option Addr×Nat×Nat×Int×Int)->ab->Prop}{aa:Value->ab->Prop}{a0:Addr}{l c i k:Nat}{F:Fr}{L:List Blk}{v:aK}(hi:i<l)(hl:l≤1073741824)(P:Pt aQ h0 h (a0.add (i*45)) F L v)(hk:k+(4)≤1073741824)(H:∀h',Pt aQ h0 h' (a0.add (i*45)) F L (aiS v k)->N2 (some a0,l,c,((k+(4):Nat):Int),((i+1:Nat):Int)) h'):bk (aj.B80 N2 aa) (some a0,l,c,(k:Int),(i:Int),0) h:=by
 refine Ej (n:=2) (off:=41) ((cP.trans (gj.trans dx)).at rfl) (λ_=>rfl) (λ_ _ _=>rfl) (λ_ _=>rfl) P (by omega) (λN j hh hj Hs=>?_) λN hh P=>?_
 ·refine brd (λhc=>idxs (by omega) (by omega) (idx (by omega) (by omega) ?_)) λhc=>by omega
  rw[ag (by omega),ag (by omega)]
  refine eZ (eZ (eZ ?_))
  simp only[Int.toNat_natCast]
  rw[show 33+(4+(4+j*1))=41+j*1 by omega]
  exact Hs
 ·unfold aj.B80
  refine brd (λhc=>by omega) λhc=>?_
  have w0:i64.wrap (((k+2:Nat):Int)+1)=((k+2+1:Nat):Int):=ag (by omega)
  have w1:i64.wrap (((k+2+1:Nat):Int)+1)=((k+2+2:Nat):Int):=ag (by omega)
  simp only[w0,w1]
  clear w0 w1
  refine idxs (by omega) (by omega) (eZ (P.stF (off:=43) (cK _ _) λh' P=>?_))
  refine idxs (by omega) (by omega) (eZ (P.stF (off:=44) (cK _ _) λh' P=>?_))
  rw[ag (by omega)]
  have:=H _ P
  exact this
theorem Yu{N2:(Option Addr×Nat×Nat×Int×Int)->ab->Prop}{aa:Value->ab->Prop}{a0:Addr}{l c i k:Nat}{F:Fr}{L:List Blk}{v:aK}(hi:i<l)(hl:l≤1073741824)(P:Pt aQ h0 h (a0.add (i*45)) F L v)(hk:k+(7)≤1073741824)(H:∀h',Pt aQ h0 h' (a0.add (i*45)) F L (aiR v k)->N2 (some a0,l,c,((k+(7):Nat):Int),((i+1:Nat):Int)) h'):bk (aj.B75 N2 aa) (some a0,l,c,(k:Int),(i:Int),0) h:=by
 refine Ej (n:=3) (off:=38) ((cP.trans (gj.trans dU)).at rfl) (λ_=>rfl) (λ_ _ _=>rfl) (λ_ _=>rfl) P (by omega) (λN j hh hj Hs=>?_) λN hh P=>?_
 ·refine brd (λhc=>idxs (by omega) (by omega) (idx (by omega) (by omega) ?_)) λhc=>by omega
  rw[ag (by omega),ag (by omega)]
  refine eZ (eZ (eZ ?_))
  simp only[Int.toNat_natCast]
  rw[show 33+(4+(1+j*1))=38+j*1 by omega]
  exact Hs
 ·unfold aj.B75
  refine brd (λhc=>by omega) λhc=>?_
  have Hn:=Yv (N2:=N2) (aa:=aa) (c:=c) (k:=k+3) hi hl P  (by(try dsimp only);omega) λh' P=>?_
  ·exact Hn
  ·have:=H h' P
   rw[show k+(7)=k+3+(4) by omega] at this
   exact this
theorem Yt{N2:(Option Addr×Nat×Nat×Int×Int)->ab->Prop}{aa:Value->ab->Prop}{a0:Addr}{l c i k:Nat}{F:Fr}{L:List Blk}{v:aK}(hi:i<l)(hl:l≤1073741824)(P:Pt aQ h0 h (a0.add (i*45)) F L v)(s0:v.bY.bT.ae.length≤1048576)(s1:v.bY.aH.ae.length≤1048576)(hk:k+(16+v.bY.bT.ae.length+v.bY.aH.ae.length)≤1073741824)(H:∀h',Pt aQ h0 h' (a0.add (i*45)) F L (aiQ v k)->N2 (some a0,l,c,((k+(16+v.bY.bT.ae.length+v.bY.aH.ae.length):Nat):Int),((i+1:Nat):Int)) h'):bk (aj.B54 N2 aa) (some a0,l,c,(k:Int),(i:Int),0) h:=by
 refine Ej (n:=2) (off:=27) ((cE.trans (gK.trans dx)).at rfl) (λ_=>rfl) (λ_ _ _=>rfl) (λ_ _=>rfl) P (by omega) (λN j hh hj Hs=>?_) λN hh P=>?_
 ·refine brd (λhc=>idxs (by omega) (by omega) (idx (by omega) (by omega) ?_)) λhc=>by omega
  rw[ag (by omega),ag (by omega)]
  refine eZ (eZ (eZ ?_))
  simp only[Int.toNat_natCast]
  rw[show 20+(3+(4+j*1))=27+j*1 by omega]
  exact Hs
 ·unfold aj.B54
  refine brd (λhc=>by omega) λhc=>?_
  have w0:i64.wrap (((k+2:Nat):Int)+1)=((k+2+1:Nat):Int):=ag (by omega)
  have w1:i64.wrap (((k+2+1:Nat):Int)+1)=((k+2+2:Nat):Int):=ag (by omega)
  have w2:i64.wrap (((k+2+2:Nat):Int)+1)=((k+2+3:Nat):Int):=ag (by omega)
  have w3:i64.wrap (((k+2+3:Nat):Int)+1)=((k+2+4:Nat):Int):=ag (by omega)
  simp only[w0,w1,w2,w3]
  clear w0 w1 w2 w3
  refine nz (by decide) (idxs (by omega) (by omega) (eZ (P.stB (off:=29) λh' P=>?_)))
  refine idxs (by omega) (by omega) (eZ (P.stF (off:=30) (cK _ _) λh' P=>?_))
  refine idxs (by omega) (by omega) (eZ (P.stF (off:=31) (cK _ _) λh' P=>?_))
  refine idxs (by omega) (by omega) (eZ (P.stF (off:=32) (cK _ _) λh' P=>?_))
  refine idxs (by omega) (by omega) ?_
  obtain⟨b2,l2,c2,Bs,Nn,eb,Ms,Os,Fk,back⟩:=P.slg NS.f
  refine o_l eb ((je Os Ms (k+2+4) (by dsimp only[cf];omega) (by dsimp only[ao];omega)).mono ?_)
  rintro _ h' ⟨rfl,B',O',M'⟩
  have P:=(back _ _ _ _ O' M').1
  clear back Os Ms Fk eb O' M'
  refine cN ?_
  dsimp only[ao] at P ⊢
  have w0:i64.wrap (((k+2+4+v.bY.bT.ae.length:Nat):Int)+1)=((k+2+4+v.bY.bT.ae.length+1:Nat):Int):=ag (by omega)
  simp only[w0]
  clear w0
  refine idxs (by omega) (by omega) (eZ (P.stI (off:=34) λh' P=>?_))
  refine idxs (by omega) (by omega) ?_
  obtain⟨b2,l2,c2,Bs,Nn,eb,Ms,Os,Fk,back⟩:=P.slg NT.f
  refine o_l (FN eb) ((je Os Ms (k+2+4+v.bY.bT.ae.length+1) (by dsimp only[cf];omega) (by dsimp only[ao];omega)).mono ?_)
  rintro _ h' ⟨rfl,B',O',M'⟩
  have P:=(back _ _ _ _ O' M').1
  clear back Os Ms Fk eb O' M'
  refine cN ?_
  dsimp only[ao] at P ⊢
  have w0:i64.wrap (((k+2+4+v.bY.bT.ae.length+1+v.bY.aH.ae.length:Nat):Int)+1)=((k+2+4+v.bY.bT.ae.length+1+v.bY.aH.ae.length+1:Nat):Int):=ag (by omega)
  have w1:i64.wrap (((k+2+4+v.bY.bT.ae.length+1+v.bY.aH.ae.length+1:Nat):Int)+1)=((k+2+4+v.bY.bT.ae.length+1+v.bY.aH.ae.length+2:Nat):Int):=ag (by omega)
  simp only[w0,w1]
  clear w0 w1
  refine idxs (by omega) (by omega) (eZ (eZ (P.stI (off:=36) λh' P=>?_)))
  refine idxs (by omega) (by omega) (eZ (P.stI (off:=37) λh' P=>?_))
  have Hn:=Yu (N2:=N2) (aa:=aa) (c:=c) (k:=k+2+4+v.bY.bT.ae.length+1+v.bY.aH.ae.length+2) hi hl P  (by(try dsimp only);omega) λh' P=>?_
  ·exact Hn
  ·have:=H h' P
   rw[show k+(16+v.bY.bT.ae.length+v.bY.aH.ae.length)=k+2+4+v.bY.bT.ae.length+1+v.bY.aH.ae.length+2+(7) by omega] at this
   exact this
theorem Ys{N2:(Option Addr×Nat×Nat×Int×Int)->ab->Prop}{aa:Value->ab->Prop}{a0:Addr}{l c i k:Nat}{F:Fr}{L:List Blk}{v:aK}(hi:i<l)(hl:l≤1073741824)(P:Pt aQ h0 h (a0.add (i*45)) F L v)(s0:v.bY.bT.ae.length≤1048576)(s1:v.bY.aH.ae.length≤1048576)(hk:k+(19+v.bY.bT.ae.length+v.bY.aH.ae.length)≤1073741824)(H:∀h',Pt aQ h0 h' (a0.add (i*45)) F L (aiP v k)->N2 (some a0,l,c,((k+(19+v.bY.bT.ae.length+v.bY.aH.ae.length):Nat):Int),((i+1:Nat):Int)) h'):bk (aj.B49 N2 aa) (some a0,l,c,(k:Int),(i:Int),0) h:=by
 refine Ej (n:=3) (off:=24) ((cE.trans (gK.trans dU)).at rfl) (λ_=>rfl) (λ_ _ _=>rfl) (λ_ _=>rfl) P (by omega) (λN j hh hj Hs=>?_) λN hh P=>?_
 ·refine brd (λhc=>idxs (by omega) (by omega) (idx (by omega) (by omega) ?_)) λhc=>by omega
  rw[ag (by omega),ag (by omega)]
  refine eZ (eZ (eZ ?_))
  simp only[Int.toNat_natCast]
  rw[show 20+(3+(1+j*1))=24+j*1 by omega]
  exact Hs
 ·unfold aj.B49
  refine brd (λhc=>by omega) λhc=>?_
  have Hn:=Yt (N2:=N2) (aa:=aa) (c:=c) (k:=k+3) hi hl P (by(try dsimp only);omega) (by(try dsimp only);omega) (by(try dsimp only);omega) λh' P=>?_
  ·exact Hn
  ·have:=H h' P
   rw[show k+(19+v.bY.bT.ae.length+v.bY.aH.ae.length)=k+3+(16+v.bY.bT.ae.length+v.bY.aH.ae.length) by omega] at this
   exact this
theorem Yr{N2:(Option Addr×Nat×Nat×Int×Int)->ab->Prop}{aa:Value->ab->Prop}{a0:Addr}{l c i k:Nat}{F:Fr}{L:List Blk}{v:aK}(hi:i<l)(hl:l≤1073741824)(P:Pt aQ h0 h (a0.add (i*45)) F L v)(s0:dV v.aI.aW≤1048576)(s1:dV v.aI.Left≤1048576)(s2:v.aI.aL.length≤1048576)(s3:v.bY.bT.ae.length≤1048576)(s4:v.bY.aH.ae.length≤1048576)(hk:k+(23+aN v.aI.aW+aN v.aI.Left+v.aI.aL.length+v.bY.bT.ae.length+v.bY.aH.ae.length)≤1073741824)(H:∀h',Pt aQ h0 h' (a0.add (i*45)) F L (aiO v k)->N2 (some a0,l,c,((k+(23+aN v.aI.aW+aN v.aI.Left+v.aI.aL.length+v.bY.bT.ae.length+v.bY.aH.ae.length):Nat):Int),((i+1:Nat):Int)) h'):bk (aj.B37 N2 aa) (some a0,l,c,(k:Int),(i:Int),0) h:=by
 refine Ej (n:=2) (off:=17) ((bO.trans (dK.trans dx)).at rfl) (λ_=>rfl) (λ_ _ _=>rfl) (λ_ _=>rfl) P (by omega) (λN j hh hj Hs=>?_) λN hh P=>?_
 ·refine brd (λhc=>idxs (by omega) (by omega) (idx (by omega) (by omega) ?_)) λhc=>by omega
  rw[ag (by omega),ag (by omega)]
  refine eZ (eZ (eZ ?_))
  simp only[Int.toNat_natCast]
  rw[show 5+(8+(4+j*1))=17+j*1 by omega]
  exact Hs
 ·unfold aj.B37
  refine brd (λhc=>by omega) λhc=>?_
  have w0:i64.wrap (((k+2:Nat):Int)+1)=((k+2+1:Nat):Int):=ag (by omega)
  simp only[w0]
  clear w0
  refine idxs (by omega) (by omega) (eZ (P.stF (off:=19) (cK _ _) λh' P=>?_))
  refine idxs (by omega) (by omega) ?_
  obtain⟨b2,l2,c2,Bs,Nn,eb,Ms,Os,Fk,back⟩:=P.slg NP.f
  refine o_l eb ((Ci Os Ms (k+2+1) (by dsimp only[cf];omega) (by dsimp only[ao];omega)).mono ?_)
  rintro _ h' ⟨rfl,B',O',M'⟩
  have P:=(back _ _ _ _ O' M').1
  clear back Os Ms Fk eb O' M'
  refine cN ?_
  dsimp only[ao] at P ⊢
  refine idxs (by omega) (by omega) ?_
  obtain⟨b2,l2,c2,Bs,Nn,eb,Ms,Os,Fk,back⟩:=P.slg NQ.f
  refine o_l (FN eb) ((Ci Os Ms (k+2+1+aN v.aI.aW) (by dsimp only[cf];omega) (by dsimp only[ao];omega)).mono ?_)
  rintro _ h' ⟨rfl,B',O',M'⟩
  have P:=(back _ _ _ _ O' M').1
  clear back Os Ms Fk eb O' M'
  refine cN ?_
  dsimp only[ao] at P ⊢
  refine idxs (by omega) (by omega) ?_
  obtain⟨b2,l2,c2,Bs,Nn,eb,Ms,Os,Fk,back⟩:=P.slg NR.f
  refine o_l (FN eb) ((je Os Ms (k+2+1+aN v.aI.aW+aN v.aI.Left) (by dsimp only[cf];omega) (by dsimp only[ao];omega)).mono ?_)
  rintro _ h' ⟨rfl,B',O',M'⟩
  have P:=(back _ _ _ _ O' M').1
  clear back Os Ms Fk eb O' M'
  refine cN ?_
  dsimp only[ao] at P ⊢
  have w0:i64.wrap (((k+2+1+aN v.aI.aW+aN v.aI.Left+v.aI.aL.length:Nat):Int)+1)=((k+2+1+aN v.aI.aW+aN v.aI.Left+v.aI.aL.length+1:Nat):Int):=ag (by omega)
  simp only[w0]
  clear w0
  refine idxs (by omega) (by omega) (eZ (P.stI (off:=23) λh' P=>?_))
  have Hn:=Ys (N2:=N2) (aa:=aa) (c:=c) (k:=k+2+1+aN v.aI.aW+aN v.aI.Left+v.aI.aL.length+1) hi hl P (by(try dsimp only);omega) (by(try dsimp only);omega) (by(try dsimp only);omega) λh' P=>?_
  ·exact Hn
  ·have:=H h' P
   rw[show k+(23+aN v.aI.aW+aN v.aI.Left+v.aI.aL.length+v.bY.bT.ae.length+v.bY.aH.ae.length)=k+2+1+aN v.aI.aW+aN v.aI.Left+v.aI.aL.length+1+(19+v.bY.bT.ae.length+v.bY.aH.ae.length) by omega] at this
   exact this
theorem Yq{N2:(Option Addr×Nat×Nat×Int×Int)->ab->Prop}{aa:Value->ab->Prop}{a0:Addr}{l c i k:Nat}{F:Fr}{L:List Blk}{v:aK}(hi:i<l)(hl:l≤1073741824)(P:Pt aQ h0 h (a0.add (i*45)) F L v)(s0:dV v.aI.aW≤1048576)(s1:dV v.aI.Left≤1048576)(s2:v.aI.aL.length≤1048576)(s3:v.bY.bT.ae.length≤1048576)(s4:v.bY.aH.ae.length≤1048576)(hk:k+(26+aN v.aI.aW+aN v.aI.Left+v.aI.aL.length+v.bY.bT.ae.length+v.bY.aH.ae.length)≤1073741824)(H:∀h',Pt aQ h0 h' (a0.add (i*45)) F L (aiN v k)->N2 (some a0,l,c,((k+(26+aN v.aI.aW+aN v.aI.Left+v.aI.aL.length+v.bY.bT.ae.length+v.bY.aH.ae.length):Nat):Int),((i+1:Nat):Int)) h'):bk (aj.B32 N2 aa) (some a0,l,c,(k:Int),(i:Int),0) h:=by
 refine Ej (n:=3) (off:=14) ((bO.trans (dK.trans dU)).at rfl) (λ_=>rfl) (λ_ _ _=>rfl) (λ_ _=>rfl) P (by omega) (λN j hh hj Hs=>?_) λN hh P=>?_
 ·refine brd (λhc=>idxs (by omega) (by omega) (idx (by omega) (by omega) ?_)) λhc=>by omega
  rw[ag (by omega),ag (by omega)]
  refine eZ (eZ (eZ ?_))
  simp only[Int.toNat_natCast]
  rw[show 5+(8+(1+j*1))=14+j*1 by omega]
  exact Hs
 ·unfold aj.B32
  refine brd (λhc=>by omega) λhc=>?_
  have Hn:=Yr (N2:=N2) (aa:=aa) (c:=c) (k:=k+3) hi hl P (by(try dsimp only);omega) (by(try dsimp only);omega) (by(try dsimp only);omega) (by(try dsimp only);omega) (by(try dsimp only);omega) (by(try dsimp only);omega) λh' P=>?_
  ·exact Hn
  ·have:=H h' P
   rw[show k+(26+aN v.aI.aW+aN v.aI.Left+v.aI.aL.length+v.bY.bT.ae.length+v.bY.aH.ae.length)=k+3+(23+aN v.aI.aW+aN v.aI.Left+v.aI.aL.length+v.bY.bT.ae.length+v.bY.aH.ae.length) by omega] at this
   exact this
theorem Yp{N2:(Option Addr×Nat×Nat×Int×Int)->ab->Prop}{aa:Value->ab->Prop}{a0:Addr}{l c i k:Nat}{F:Fr}{L:List Blk}{v:aK}(hi:i<l)(hl:l≤1073741824)(P:Pt aQ h0 h (a0.add (i*45)) F L v)(s0:dV v.aI.aW≤1048576)(s1:dV v.aI.Left≤1048576)(s2:v.aI.aL.length≤1048576)(s3:v.bY.bT.ae.length≤1048576)(s4:v.bY.aH.ae.length≤1048576)(hk:k+(29+aN v.aI.aW+aN v.aI.Left+v.aI.aL.length+v.bY.bT.ae.length+v.bY.aH.ae.length)≤1073741824)(H:∀h',Pt aQ h0 h' (a0.add (i*45)) F L (aiM v k)->N2 (some a0,l,c,((k+(29+aN v.aI.aW+aN v.aI.Left+v.aI.aL.length+v.bY.bT.ae.length+v.bY.aH.ae.length):Nat):Int),((i+1:Nat):Int)) h'):bk (aj.B25 N2 aa) (some a0,l,c,(k:Int),(i:Int),0) h:=by
 refine Ej (n:=2) (off:=11) ((bO.trans (dM.trans dx)).at rfl) (λ_=>rfl) (λ_ _ _=>rfl) (λ_ _=>rfl) P (by omega) (λN j hh hj Hs=>?_) λN hh P=>?_
 ·refine brd (λhc=>idxs (by omega) (by omega) (idx (by omega) (by omega) ?_)) λhc=>by omega
  rw[ag (by omega),ag (by omega)]
  refine eZ (eZ (eZ ?_))
  simp only[Int.toNat_natCast]
  rw[show 5+(2+(4+j*1))=11+j*1 by omega]
  exact Hs
 ·unfold aj.B25
  refine brd (λhc=>by omega) λhc=>?_
  have w0:i64.wrap (((k+2:Nat):Int)+1)=((k+2+1:Nat):Int):=ag (by omega)
  simp only[w0]
  clear w0
  refine idxs (by omega) (by omega) (eZ (P.stI (off:=13) λh' P=>?_))
  have Hn:=Yq (N2:=N2) (aa:=aa) (c:=c) (k:=k+2+1) hi hl P (by(try dsimp only);omega) (by(try dsimp only);omega) (by(try dsimp only);omega) (by(try dsimp only);omega) (by(try dsimp only);omega) (by(try dsimp only);omega) λh' P=>?_
  ·exact Hn
  ·have:=H h' P
   rw[show k+(29+aN v.aI.aW+aN v.aI.Left+v.aI.aL.length+v.bY.bT.ae.length+v.bY.aH.ae.length)=k+2+1+(26+aN v.aI.aW+aN v.aI.Left+v.aI.aL.length+v.bY.bT.ae.length+v.bY.aH.ae.length) by omega] at this
   exact this
theorem Yo{N2:(Option Addr×Nat×Nat×Int×Int)->ab->Prop}{aa:Value->ab->Prop}{a0:Addr}{l c i k:Nat}{F:Fr}{L:List Blk}{v:aK}(hi:i<l)(hl:l≤1073741824)(P:Pt aQ h0 h (a0.add (i*45)) F L v)(s0:dV v.aI.aW≤1048576)(s1:dV v.aI.Left≤1048576)(s2:v.aI.aL.length≤1048576)(s3:v.bY.bT.ae.length≤1048576)(s4:v.bY.aH.ae.length≤1048576)(hk:k+(32+aN v.aI.aW+aN v.aI.Left+v.aI.aL.length+v.bY.bT.ae.length+v.bY.aH.ae.length)≤1073741824)(H:∀h',Pt aQ h0 h' (a0.add (i*45)) F L (aiL v k)->N2 (some a0,l,c,((k+(32+aN v.aI.aW+aN v.aI.Left+v.aI.aL.length+v.bY.bT.ae.length+v.bY.aH.ae.length):Nat):Int),((i+1:Nat):Int)) h'):bk (aj.B20 N2 aa) (some a0,l,c,(k:Int),(i:Int),0) h:=by
 refine Ej (n:=3) (off:=8) ((bO.trans (dM.trans dU)).at rfl) (λ_=>rfl) (λ_ _ _=>rfl) (λ_ _=>rfl) P (by omega) (λN j hh hj Hs=>?_) λN hh P=>?_
 ·refine brd (λhc=>idxs (by omega) (by omega) (idx (by omega) (by omega) ?_)) λhc=>by omega
  rw[ag (by omega),ag (by omega)]
  refine eZ (eZ (eZ ?_))
  simp only[Int.toNat_natCast]
  rw[show 5+(2+(1+j*1))=8+j*1 by omega]
  exact Hs
 ·unfold aj.B20
  refine brd (λhc=>by omega) λhc=>?_
  have Hn:=Yp (N2:=N2) (aa:=aa) (c:=c) (k:=k+3) hi hl P (by(try dsimp only);omega) (by(try dsimp only);omega) (by(try dsimp only);omega) (by(try dsimp only);omega) (by(try dsimp only);omega) (by(try dsimp only);omega) λh' P=>?_
  ·exact Hn
  ·have:=H h' P
   rw[show k+(32+aN v.aI.aW+aN v.aI.Left+v.aI.aL.length+v.bY.bT.ae.length+v.bY.aH.ae.length)=k+3+(29+aN v.aI.aW+aN v.aI.Left+v.aI.aL.length+v.bY.bT.ae.length+v.bY.aH.ae.length) by omega] at this
   exact this
def gy(v:aK):Nat:=39+v.String.Loop.ae.length+aN v.aI.aW+aN v.aI.Left+v.aI.aL.length+v.bY.bT.ae.length+v.bY.aH.ae.length
theorem IS{N2:(Option Addr×Nat×Nat×Int×Int)->ab->Prop}{aa:Value->ab->Prop}{a0:Addr}{l c i k:Nat}{F:Fr}{L:List Blk}{v:aK}(hi:i<l)(hl:l≤1073741824)(P:Pt aQ h0 h (a0.add (i*45)) F L v)(s0:v.String.Loop.ae.length≤1048576)(s1:dV v.aI.aW≤1048576)(s2:dV v.aI.Left≤1048576)(s3:v.aI.aL.length≤1048576)(s4:v.bY.bT.ae.length≤1048576)(s5:v.bY.aH.ae.length≤1048576)(hk:k+(39+v.String.Loop.ae.length+aN v.aI.aW+aN v.aI.Left+v.aI.aL.length+v.bY.bT.ae.length+v.bY.aH.ae.length)≤1073741824)(H:∀h',Pt aQ h0 h' (a0.add (i*45)) F L (lM v k)->N2 (some a0,l,c,((k+(39+v.String.Loop.ae.length+aN v.aI.aW+aN v.aI.Left+v.aI.aL.length+v.bY.bT.ae.length+v.bY.aH.ae.length):Nat):Int),((i+1:Nat):Int)) h'):aj.B2 aa N2 (some a0,l,c,(k:Int),(i:Int)) h:=by
 unfold aj.B2
 refine brd (λhc=>?_) λhc=>by omega
 have w0:i64.wrap (((k:Nat):Int)+1)=((k+1:Nat):Int):=ag (by omega)
 have w1:i64.wrap (((k+1:Nat):Int)+1)=((k+2:Nat):Int):=ag (by omega)
 have w2:i64.wrap (((k+2:Nat):Int)+1)=((k+3:Nat):Int):=ag (by omega)
 have w3:i64.wrap (((k+3:Nat):Int)+1)=((k+4:Nat):Int):=ag (by omega)
 have w4:i64.wrap (((k+4:Nat):Int)+1)=((k+5:Nat):Int):=ag (by omega)
 simp only[w0,w1,w2,w3,w4]
 clear w0 w1 w2 w3 w4
 refine idxs (by omega) (by omega) (P.akZ λh' P=>?_)
 refine idxs (by omega) (by omega) (P.stI (off:=1) λh' P=>?_)
 refine idxs (by omega) (by omega) (P.stI (off:=2) λh' P=>?_)
 refine nz (by decide) (idxs (by omega) (by omega) (P.stB (off:=3) λh' P=>?_))
 refine idxs (by omega) (by omega) (P.stF (off:=4) (cK _ _) λh' P=>?_)
 refine idxs (by omega) (by omega) ?_
 obtain⟨b2,l2,c2,Bs,Nn,eb,Ms,Os,Fk,back⟩:=P.slg QT.f
 refine o_l eb ((je Os Ms (k+5) (by dsimp only[cf];omega) (by dsimp only[ao];omega)).mono ?_)
 rintro _ h' ⟨rfl,B',O',M'⟩
 have P:=(back _ _ _ _ O' M').1
 clear back Os Ms Fk eb O' M'
 refine cN ?_
 dsimp only[ao] at P ⊢
 have w0:i64.wrap (((k+5+v.String.Loop.ae.length:Nat):Int)+1)=((k+5+v.String.Loop.ae.length+1:Nat):Int):=ag (by omega)
 have w1:i64.wrap (((k+5+v.String.Loop.ae.length+1:Nat):Int)+1)=((k+5+v.String.Loop.ae.length+2:Nat):Int):=ag (by omega)
 simp only[w0,w1]
 clear w0 w1
 refine idxs (by omega) (by omega) (eZ (P.stI (off:=6) λh' P=>?_))
 refine idxs (by omega) (by omega) (eZ (P.stI (off:=7) λh' P=>?_))
 have Hn:=Yo (N2:=N2) (aa:=aa) (c:=c) (k:=k+5+v.String.Loop.ae.length+2) hi hl P (by(try dsimp only);omega) (by(try dsimp only);omega) (by(try dsimp only);omega) (by(try dsimp only);omega) (by(try dsimp only);omega) (by(try dsimp only);omega) λh' P=>?_
 ·exact Hn
 ·have:=H h' P
  rw[show k+(39+v.String.Loop.ae.length+aN v.aI.aW+aN v.aI.Left+v.aI.aL.length+v.bY.bT.ae.length+v.bY.aH.ae.length)=k+5+v.String.Loop.ae.length+2+(32+aN v.aI.aW+aN v.aI.Left+v.aI.aL.length+v.bY.bT.ae.length+v.bY.aH.ae.length) by omega] at this
  exact this
def aja(u v:aK)(k:Nat):Prop:=u.bY.fz.S=mkQ (k) 2∧u.bY.fX=f32.nearest ((k+2:Nat):Int)∧u.bY.fT=f32.nearest ((k+3:Nat):Int)
def aj9(u v:aK)(k:Nat):Prop:=u.bY.fz.C=mkQ (k) 3∧aja u v (k+3)
def aj8(u v:aK)(k:Nat):Prop:=u.aI.End.S=mkQ (k) 2∧u.aI.Open=(Int.tmod ((k+2:Nat):Int) 3==0)∧u.aI.fT=f32.nearest ((k+3:Nat):Int)∧u.aI.Rest=f32.nearest ((k+4:Nat):Int)∧u.aI.fX=f32.nearest ((k+5:Nat):Int)∧u.bY.bT.ae=eu v.bY.bT.ae (k+6)∧u.bY.bT.At=((k+6+ao v.bY.bT.ae:Nat):Int)∧u.bY.aH.ae=eu v.bY.aH.ae (k+6+ao v.bY.bT.ae+1)∧u.bY.aH.At=((k+6+ao v.bY.bT.ae+1+ao v.bY.aH.ae:Nat):Int)∧u.bY.fz.Kind=((k+6+ao v.bY.bT.ae+1+ao v.bY.aH.ae+1:Nat):Int)∧aj9 u v (k+6+ao v.bY.bT.ae+1+ao v.bY.aH.ae+2)
def aj7(u v:aK)(k:Nat):Prop:=u.aI.End.C=mkQ (k) 3∧aj8 u v (k+3)
def aj6(u v:aK)(k:Nat):Prop:=u.String.fz.S=mkQ (k) 2∧u.String.fT=f32.nearest ((k+2:Nat):Int)∧u.aI.aW=nC v.aI.aW (k+3)∧u.aI.Left=nC v.aI.Left (k+3+aN v.aI.aW)∧u.aI.aL=eu v.aI.aL (k+3+aN v.aI.aW+aN v.aI.Left)∧u.aI.End.Kind=((k+3+aN v.aI.aW+aN v.aI.Left+ao v.aI.aL:Nat):Int)∧aj7 u v (k+3+aN v.aI.aW+aN v.aI.Left+ao v.aI.aL+1)
def aj5(u v:aK)(k:Nat):Prop:=u.String.fz.C=mkQ (k) 3∧aj6 u v (k+3)
def aj4(u v:aK)(k:Nat):Prop:=u.String.kS.S=mkQ (k) 2∧u.String.fz.Kind=((k+2:Nat):Int)∧aj5 u v (k+3)
def aj3(u v:aK)(k:Nat):Prop:=u.String.kS.C=mkQ (k) 3∧aj4 u v (k+3)
def adk(u v:aK)(k:Nat):Prop:=u.aT=((k:Nat):Int)∧u.aq=((k+1:Nat):Int)∧u.mh=((k+2:Nat):Int)∧u.Gone=(Int.tmod ((k+3:Nat):Int) 3==0)∧u.gR=f32.nearest ((k+4:Nat):Int)∧u.String.Loop.ae=eu v.String.Loop.ae (k+5)∧u.String.Loop.At=((k+5+ao v.String.Loop.ae:Nat):Int)∧u.String.kS.Kind=((k+5+ao v.String.Loop.ae+1:Nat):Int)∧aj3 u v (k+5+ao v.String.Loop.ae+2)
theorem RdP.Gh{α:Type}{r:Rep α}{q:Addr}{x:α}{off:Nat}{get:α->Nat}{put:α->Nat->α}{m:Int}{K1 K2:Prop}(R:RdP r h q x)[Fc:cJ r off (rF .f32) get put](e:get x=f32.nearest m)(H:K2):Sx.oF .f32 (Sx.cell h (q.add off)) λy=>BIF (f32.format.order y (f32.nearest m) != some .eq) K1 K2:=by
 refine R.oF λy hy=>?_
 rw[e] at hy
 obtain rfl:=hy.eq (dp _ _)
 exact cM (sN (dp _ _)) H
theorem RdP.C8{α:Type}{r:Rep α}{q:Addr}{x:α}{off:Nat}{get:α->Int}{put:α->Int->α}{m:Int}{K1 K2:Prop}(R:RdP r h q x)[Fc:cJ r off (rI .i64) get put](e:get x=m)(H:K2):Sx.oI .i64 (Sx.cell h (q.add off)) λy=>BIF (y != m) K1 K2:=by
 refine R.oI ?_
 rw[e]
 exact cM (bne_self_eq_false _) H
theorem RdP.afh{α:Type}{r:Rep α}{q:Addr}{x:α}{get:α->Int}{put:α->Int->α}{m:Int}{K1 K2:Prop}(R:RdP r h q x)[Fc:cJ r 0 (rI .i64) get put](e:get x=m)(H:K2):Sx.oI .i64 (Sx.cell h q) λy=>BIF (y != m) K1 K2:=by
 refine R.oI1 ?_
 rw[e]
 exact cM (bne_self_eq_false _) H
theorem RdP.ado{α:Type}{r:Rep α}{q:Addr}{x:α}{off:Nat}{get:α->Bool}{put:α->Bool->α}{m:Bool}{K1 K2:Prop}(R:RdP r h q x)[Fc:cJ r off rB get put](e:get x=m)(H:K2):Sx.oB (Sx.cell h (q.add off)) λy=>NZ 3 (BIF (!(y==m)) K1 K2):=by
 refine R.oB (nz (by decide) ?_)
 rw[e]
 exact cM (by simp) H
theorem gE{q:Addr}{a b:Nat}{K:Nat->Prop}(H:Sx.oF .f32 (Sx.cell h (q.add (a+b))) K):Sx.oF .f32 (Sx.cell h ((q.add a).add b)) K:=by rw[mQ];exact H
theorem yO{q:Addr}{a b:Nat}{K:Int->Prop}(H:Sx.oI .i64 (Sx.cell h (q.add (a+b))) K):Sx.oI .i64 (Sx.cell h ((q.add a).add b)) K:=by rw[mQ];exact H
theorem agh{q:Addr}{a b:Nat}{K:Bool->Prop}(H:Sx.oB (Sx.cell h (q.add (a+b))) K):Sx.oB (Sx.cell h ((q.add a).add b)) K:=by rw[mQ];exact H
theorem Rh{q:Addr}{a b:Nat}{K:Option Addr->Nat->Nat->Prop}(H:Sx.oL (Sx.cell h (q.add (a+b))) K):Sx.oL (Sx.cell h ((q.add a).add b)) K:=by rw[mQ];exact H
theorem Xn{N2:(Option Addr×Nat×Nat×Int×Int)->ab->Prop}{aa:Value->ab->Prop}{a0:Addr}{l c i k:Nat}{u v:aK}(hi:i<l)(hl:l≤1073741824)(R:RdP aQ h (a0.add (i*45)) u)(E:aja u v k)(hk:k+(4)≤1073741824)(H:∀h',Ext h h'->N2 (some a0,l,c,((k+(4):Nat):Int),((i+1:Nat):Int)) h'):bk (ai.aa3 N2 aa) (some a0,l,c,(k:Int),(i:Int),0) h:=by
 obtain⟨e0,e1,e2⟩:=E
 have f0:ao v.String.Loop.ae=v.String.Loop.ae.length:=rfl
 have f3:ao v.aI.aL=v.aI.aL.length:=rfl
 have f4:ao v.bY.bT.ae=v.bY.bT.ae.length:=rfl
 have f5:ao v.bY.aH.ae=v.bY.aH.ae.length:=rfl
 refine Eg (n:=2) (off:=41) (P1:=aa (.int .i64 (-1)) h) ((cP.trans (gj.trans dx)).at rfl) R e0 (by omega) (λN j hj Hs=>?_) λN=>?_
 ·refine brd (λhc=>idxs (by omega) (by omega) (idx (by omega) (by omega) ?_)) λhc=>by omega
  rw[ag (by omega),ag (by omega)]
  refine gE (gE (gE ?_))
  simp only[Int.toNat_natCast]
  rw[show 33+(4+(4+j*1))=41+j*1 by omega]
  exact Hs
 ·unfold ai.aa3
  refine brd (λhc=>by omega) λhc=>?_
  have X:=Ext.refl h
  have w0:i64.wrap (((k+2:Nat):Int)+1)=((k+3:Nat):Int):=ag (by omega)
  have w1:i64.wrap (((k+3:Nat):Int)+1)=((k+4:Nat):Int):=ag (by omega)
  simp only[w0,w1]
  clear w0 w1
  refine idxs (by omega) (by omega) (gE (R.Gh (off:=43) e1 ?_))
  refine idxs (by omega) (by omega) (gE (R.Gh (off:=44) e2 ?_))
  rw[ag (by omega)]
  exact H _ X
theorem Xm{N2:(Option Addr×Nat×Nat×Int×Int)->ab->Prop}{aa:Value->ab->Prop}{a0:Addr}{l c i k:Nat}{u v:aK}(hi:i<l)(hl:l≤1073741824)(R:RdP aQ h (a0.add (i*45)) u)(E:aj9 u v k)(hk:k+(7)≤1073741824)(H:∀h',Ext h h'->N2 (some a0,l,c,((k+(7):Nat):Int),((i+1:Nat):Int)) h'):bk (ai.aa2 N2 aa) (some a0,l,c,(k:Int),(i:Int),0) h:=by
 obtain⟨e0,E⟩:=E
 have f0:ao v.String.Loop.ae=v.String.Loop.ae.length:=rfl
 have f3:ao v.aI.aL=v.aI.aL.length:=rfl
 have f4:ao v.bY.bT.ae=v.bY.bT.ae.length:=rfl
 have f5:ao v.bY.aH.ae=v.bY.aH.ae.length:=rfl
 refine Eg (n:=3) (off:=38) (P1:=aa (.int .i64 (-1)) h) ((cP.trans (gj.trans dU)).at rfl) R e0 (by omega) (λN j hj Hs=>?_) λN=>?_
 ·refine brd (λhc=>idxs (by omega) (by omega) (idx (by omega) (by omega) ?_)) λhc=>by omega
  rw[ag (by omega),ag (by omega)]
  refine gE (gE (gE ?_))
  simp only[Int.toNat_natCast]
  rw[show 33+(4+(1+j*1))=38+j*1 by omega]
  exact Hs
 ·unfold ai.aa2
  refine brd (λhc=>by omega) λhc=>?_
  have X:=Ext.refl h
  have Hn:=Xn (N2:=N2) (aa:=aa) (c:=c) (k:=k+3) hi hl R E  (by omega) λh' x'=>?_
  ·exact Hn
  ·have:=H h' (X.trans x')
   rw[show k+(7)=k+3+(4) by omega] at this
   exact this
theorem Xl{N2:(Option Addr×Nat×Nat×Int×Int)->ab->Prop}{aa:Value->ab->Prop}{a0:Addr}{l c i k:Nat}{u v:aK}(hi:i<l)(hl:l≤1073741824)(R:RdP aQ h (a0.add (i*45)) u)(E:aj8 u v k)(s0:v.bY.bT.ae.length≤1048576)(s1:v.bY.aH.ae.length≤1048576)(hk:k+(16+v.bY.bT.ae.length+v.bY.aH.ae.length)≤1073741824)(H:∀h',Ext h h'->N2 (some a0,l,c,((k+(16+v.bY.bT.ae.length+v.bY.aH.ae.length):Nat):Int),((i+1:Nat):Int)) h'):bk (ai.B77 N2 aa) (some a0,l,c,(k:Int),(i:Int),0) h:=by
 obtain⟨e0,e1,e2,e3,e4,e5,e6,e7,e8,e9,E⟩:=E
 have f0:ao v.String.Loop.ae=v.String.Loop.ae.length:=rfl
 have f3:ao v.aI.aL=v.aI.aL.length:=rfl
 have f4:ao v.bY.bT.ae=v.bY.bT.ae.length:=rfl
 have f5:ao v.bY.aH.ae=v.bY.aH.ae.length:=rfl
 refine Eg (n:=2) (off:=27) (P1:=aa (.int .i64 (-1)) h) ((cE.trans (gK.trans dx)).at rfl) R e0 (by omega) (λN j hj Hs=>?_) λN=>?_
 ·refine brd (λhc=>idxs (by omega) (by omega) (idx (by omega) (by omega) ?_)) λhc=>by omega
  rw[ag (by omega),ag (by omega)]
  refine gE (gE (gE ?_))
  simp only[Int.toNat_natCast]
  rw[show 20+(3+(4+j*1))=27+j*1 by omega]
  exact Hs
 ·unfold ai.B77
  refine brd (λhc=>by omega) λhc=>?_
  have X:=Ext.refl h
  have w0:i64.wrap (((k+2:Nat):Int)+1)=((k+3:Nat):Int):=ag (by omega)
  have w1:i64.wrap (((k+3:Nat):Int)+1)=((k+4:Nat):Int):=ag (by omega)
  have w2:i64.wrap (((k+4:Nat):Int)+1)=((k+5:Nat):Int):=ag (by omega)
  have w3:i64.wrap (((k+5:Nat):Int)+1)=((k+6:Nat):Int):=ag (by omega)
  simp only[w0,w1,w2,w3]
  clear w0 w1 w2 w3
  refine idxs (by omega) (by omega) (agh (R.ado (off:=29) e1 ?_))
  refine idxs (by omega) (by omega) (gE (R.Gh (off:=30) e2 ?_))
  refine idxs (by omega) (by omega) (gE (R.Gh (off:=31) e3 ?_))
  refine idxs (by omega) (by omega) (gE (R.Gh (off:=32) e4 ?_))
  refine idxs (by omega) (by omega) (R.oL (off:=33) λb1 l1 c1 S1=>?_)
  rw[e5] at S1
  refine goX (jd (xs:=v.bY.bT.ae) (k+6) S1 (by(try dsimp only[cf]);omega) (by(try dsimp only[ao]);omega)) λh' x'=>cN (cM (decide_eq_false (by omega)) ?_)
  have R:=R.ext x'
  have X:=X.trans x'
  clear S1
  have w0:i64.wrap (((k+6+ao v.bY.bT.ae:Nat):Int)+1)=((k+6+ao v.bY.bT.ae+1:Nat):Int):=ag (by omega)
  simp only[w0]
  clear w0
  refine idxs (by omega) (by omega) (yO (R.C8 (off:=34) e6 ?_))
  refine idxs (by omega) (by omega) (Rh (R.oL (off:=35) λb1 l1 c1 S1=>?_))
  rw[e7] at S1
  refine goX (jd (xs:=v.bY.aH.ae) (k+6+ao v.bY.bT.ae+1) S1 (by(try dsimp only[cf]);omega) (by(try dsimp only[ao]);omega)) λh' x'=>cN (cM (decide_eq_false (by omega)) ?_)
  have R:=R.ext x'
  have X:=X.trans x'
  clear S1
  have w0:i64.wrap (((k+6+ao v.bY.bT.ae+1+ao v.bY.aH.ae:Nat):Int)+1)=((k+6+ao v.bY.bT.ae+1+ao v.bY.aH.ae+1:Nat):Int):=ag (by omega)
  have w1:i64.wrap (((k+6+ao v.bY.bT.ae+1+ao v.bY.aH.ae+1:Nat):Int)+1)=((k+6+ao v.bY.bT.ae+1+ao v.bY.aH.ae+2:Nat):Int):=ag (by omega)
  simp only[w0,w1]
  clear w0 w1
  refine idxs (by omega) (by omega) (yO (yO (R.C8 (off:=36) e8 ?_)))
  refine idxs (by omega) (by omega) (yO (R.C8 (off:=37) e9 ?_))
  have Hn:=Xm (N2:=N2) (aa:=aa) (c:=c) (k:=k+6+ao v.bY.bT.ae+1+ao v.bY.aH.ae+2) hi hl R E  (by omega) λh' x'=>?_
  ·exact Hn
  ·have:=H h' (X.trans x')
   rw[show k+(16+v.bY.bT.ae.length+v.bY.aH.ae.length)=k+6+ao v.bY.bT.ae+1+ao v.bY.aH.ae+2+(7) by omega] at this
   exact this
theorem Xk{N2:(Option Addr×Nat×Nat×Int×Int)->ab->Prop}{aa:Value->ab->Prop}{a0:Addr}{l c i k:Nat}{u v:aK}(hi:i<l)(hl:l≤1073741824)(R:RdP aQ h (a0.add (i*45)) u)(E:aj7 u v k)(s0:v.bY.bT.ae.length≤1048576)(s1:v.bY.aH.ae.length≤1048576)(hk:k+(19+v.bY.bT.ae.length+v.bY.aH.ae.length)≤1073741824)(H:∀h',Ext h h'->N2 (some a0,l,c,((k+(19+v.bY.bT.ae.length+v.bY.aH.ae.length):Nat):Int),((i+1:Nat):Int)) h'):bk (ai.B71 N2 aa) (some a0,l,c,(k:Int),(i:Int),0) h:=by
 obtain⟨e0,E⟩:=E
 have f0:ao v.String.Loop.ae=v.String.Loop.ae.length:=rfl
 have f3:ao v.aI.aL=v.aI.aL.length:=rfl
 have f4:ao v.bY.bT.ae=v.bY.bT.ae.length:=rfl
 have f5:ao v.bY.aH.ae=v.bY.aH.ae.length:=rfl
 refine Eg (n:=3) (off:=24) (P1:=aa (.int .i64 (-1)) h) ((cE.trans (gK.trans dU)).at rfl) R e0 (by omega) (λN j hj Hs=>?_) λN=>?_
 ·refine brd (λhc=>idxs (by omega) (by omega) (idx (by omega) (by omega) ?_)) λhc=>by omega
  rw[ag (by omega),ag (by omega)]
  refine gE (gE (gE ?_))
  simp only[Int.toNat_natCast]
  rw[show 20+(3+(1+j*1))=24+j*1 by omega]
  exact Hs
 ·unfold ai.B71
  refine brd (λhc=>by omega) λhc=>?_
  have X:=Ext.refl h
  have Hn:=Xl (N2:=N2) (aa:=aa) (c:=c) (k:=k+3) hi hl R E (by omega) (by omega) (by omega) λh' x'=>?_
  ·exact Hn
  ·have:=H h' (X.trans x')
   rw[show k+(19+v.bY.bT.ae.length+v.bY.aH.ae.length)=k+3+(16+v.bY.bT.ae.length+v.bY.aH.ae.length) by omega] at this
   exact this
theorem Xj{N2:(Option Addr×Nat×Nat×Int×Int)->ab->Prop}{aa:Value->ab->Prop}{a0:Addr}{l c i k:Nat}{u v:aK}(hi:i<l)(hl:l≤1073741824)(R:RdP aQ h (a0.add (i*45)) u)(E:aj6 u v k)(s0:dV v.aI.aW≤1048576)(s1:dV v.aI.Left≤1048576)(s2:v.aI.aL.length≤1048576)(s3:v.bY.bT.ae.length≤1048576)(s4:v.bY.aH.ae.length≤1048576)(hk:k+(23+aN v.aI.aW+aN v.aI.Left+v.aI.aL.length+v.bY.bT.ae.length+v.bY.aH.ae.length)≤1073741824)(H:∀h',Ext h h'->N2 (some a0,l,c,((k+(23+aN v.aI.aW+aN v.aI.Left+v.aI.aL.length+v.bY.bT.ae.length+v.bY.aH.ae.length):Nat):Int),((i+1:Nat):Int)) h'):bk (ai.B50 N2 aa) (some a0,l,c,(k:Int),(i:Int),0) h:=by
 obtain⟨e0,e1,e2,e3,e4,e5,E⟩:=E
 have f0:ao v.String.Loop.ae=v.String.Loop.ae.length:=rfl
 have f3:ao v.aI.aL=v.aI.aL.length:=rfl
 have f4:ao v.bY.bT.ae=v.bY.bT.ae.length:=rfl
 have f5:ao v.bY.aH.ae=v.bY.aH.ae.length:=rfl
 refine Eg (n:=2) (off:=17) (P1:=aa (.int .i64 (-1)) h) ((bO.trans (dK.trans dx)).at rfl) R e0 (by omega) (λN j hj Hs=>?_) λN=>?_
 ·refine brd (λhc=>idxs (by omega) (by omega) (idx (by omega) (by omega) ?_)) λhc=>by omega
  rw[ag (by omega),ag (by omega)]
  refine gE (gE (gE ?_))
  simp only[Int.toNat_natCast]
  rw[show 5+(8+(4+j*1))=17+j*1 by omega]
  exact Hs
 ·unfold ai.B50
  refine brd (λhc=>by omega) λhc=>?_
  have X:=Ext.refl h
  have w0:i64.wrap (((k+2:Nat):Int)+1)=((k+3:Nat):Int):=ag (by omega)
  simp only[w0]
  clear w0
  refine idxs (by omega) (by omega) (gE (R.Gh (off:=19) e1 ?_))
  refine idxs (by omega) (by omega) (R.oL (off:=20) λb1 l1 c1 S1=>?_)
  rw[e2] at S1
  refine goX (C9 (xs:=v.aI.aW) (k+3) S1 (by(try dsimp only[cf]);omega) (by(try dsimp only[ao]);omega)) λh' x'=>cN (cM (decide_eq_false (by omega)) ?_)
  have R:=R.ext x'
  have X:=X.trans x'
  clear S1
  refine idxs (by omega) (by omega) (Rh (R.oL (off:=21) λb1 l1 c1 S1=>?_))
  rw[e3] at S1
  refine goX (C9 (xs:=v.aI.Left) (k+3+aN v.aI.aW) S1 (by(try dsimp only[cf]);omega) (by(try dsimp only[ao]);omega)) λh' x'=>cN (cM (decide_eq_false (by omega)) ?_)
  have R:=R.ext x'
  have X:=X.trans x'
  clear S1
  refine idxs (by omega) (by omega) (Rh (R.oL (off:=22) λb1 l1 c1 S1=>?_))
  rw[e4] at S1
  refine goX (jd (xs:=v.aI.aL) (k+3+aN v.aI.aW+aN v.aI.Left) S1 (by(try dsimp only[cf]);omega) (by(try dsimp only[ao]);omega)) λh' x'=>cN (cM (decide_eq_false (by omega)) ?_)
  have R:=R.ext x'
  have X:=X.trans x'
  clear S1
  have w0:i64.wrap (((k+3+aN v.aI.aW+aN v.aI.Left+ao v.aI.aL:Nat):Int)+1)=((k+3+aN v.aI.aW+aN v.aI.Left+ao v.aI.aL+1:Nat):Int):=ag (by omega)
  simp only[w0]
  clear w0
  refine idxs (by omega) (by omega) (yO (R.C8 (off:=23) e5 ?_))
  have Hn:=Xk (N2:=N2) (aa:=aa) (c:=c) (k:=k+3+aN v.aI.aW+aN v.aI.Left+ao v.aI.aL+1) hi hl R E (by omega) (by omega) (by omega) λh' x'=>?_
  ·exact Hn
  ·have:=H h' (X.trans x')
   rw[show k+(23+aN v.aI.aW+aN v.aI.Left+v.aI.aL.length+v.bY.bT.ae.length+v.bY.aH.ae.length)=k+3+aN v.aI.aW+aN v.aI.Left+ao v.aI.aL+1+(19+v.bY.bT.ae.length+v.bY.aH.ae.length) by omega] at this
   exact this
theorem Xi{N2:(Option Addr×Nat×Nat×Int×Int)->ab->Prop}{aa:Value->ab->Prop}{a0:Addr}{l c i k:Nat}{u v:aK}(hi:i<l)(hl:l≤1073741824)(R:RdP aQ h (a0.add (i*45)) u)(E:aj5 u v k)(s0:dV v.aI.aW≤1048576)(s1:dV v.aI.Left≤1048576)(s2:v.aI.aL.length≤1048576)(s3:v.bY.bT.ae.length≤1048576)(s4:v.bY.aH.ae.length≤1048576)(hk:k+(26+aN v.aI.aW+aN v.aI.Left+v.aI.aL.length+v.bY.bT.ae.length+v.bY.aH.ae.length)≤1073741824)(H:∀h',Ext h h'->N2 (some a0,l,c,((k+(26+aN v.aI.aW+aN v.aI.Left+v.aI.aL.length+v.bY.bT.ae.length+v.bY.aH.ae.length):Nat):Int),((i+1:Nat):Int)) h'):bk (ai.B44 N2 aa) (some a0,l,c,(k:Int),(i:Int),0) h:=by
 obtain⟨e0,E⟩:=E
 have f0:ao v.String.Loop.ae=v.String.Loop.ae.length:=rfl
 have f3:ao v.aI.aL=v.aI.aL.length:=rfl
 have f4:ao v.bY.bT.ae=v.bY.bT.ae.length:=rfl
 have f5:ao v.bY.aH.ae=v.bY.aH.ae.length:=rfl
 refine Eg (n:=3) (off:=14) (P1:=aa (.int .i64 (-1)) h) ((bO.trans (dK.trans dU)).at rfl) R e0 (by omega) (λN j hj Hs=>?_) λN=>?_
 ·refine brd (λhc=>idxs (by omega) (by omega) (idx (by omega) (by omega) ?_)) λhc=>by omega
  rw[ag (by omega),ag (by omega)]
  refine gE (gE (gE ?_))
  simp only[Int.toNat_natCast]
  rw[show 5+(8+(1+j*1))=14+j*1 by omega]
  exact Hs
 ·unfold ai.B44
  refine brd (λhc=>by omega) λhc=>?_
  have X:=Ext.refl h
  have Hn:=Xj (N2:=N2) (aa:=aa) (c:=c) (k:=k+3) hi hl R E (by omega) (by omega) (by omega) (by omega) (by omega) (by omega) λh' x'=>?_
  ·exact Hn
  ·have:=H h' (X.trans x')
   rw[show k+(26+aN v.aI.aW+aN v.aI.Left+v.aI.aL.length+v.bY.bT.ae.length+v.bY.aH.ae.length)=k+3+(23+aN v.aI.aW+aN v.aI.Left+v.aI.aL.length+v.bY.bT.ae.length+v.bY.aH.ae.length) by omega] at this
   exact this
theorem Xh{N2:(Option Addr×Nat×Nat×Int×Int)->ab->Prop}{aa:Value->ab->Prop}{a0:Addr}{l c i k:Nat}{u v:aK}(hi:i<l)(hl:l≤1073741824)(R:RdP aQ h (a0.add (i*45)) u)(E:aj4 u v k)(s0:dV v.aI.aW≤1048576)(s1:dV v.aI.Left≤1048576)(s2:v.aI.aL.length≤1048576)(s3:v.bY.bT.ae.length≤1048576)(s4:v.bY.aH.ae.length≤1048576)(hk:k+(29+aN v.aI.aW+aN v.aI.Left+v.aI.aL.length+v.bY.bT.ae.length+v.bY.aH.ae.length)≤1073741824)(H:∀h',Ext h h'->N2 (some a0,l,c,((k+(29+aN v.aI.aW+aN v.aI.Left+v.aI.aL.length+v.bY.bT.ae.length+v.bY.aH.ae.length):Nat):Int),((i+1:Nat):Int)) h'):bk (ai.B35 N2 aa) (some a0,l,c,(k:Int),(i:Int),0) h:=by
 obtain⟨e0,e1,E⟩:=E
 have f0:ao v.String.Loop.ae=v.String.Loop.ae.length:=rfl
 have f3:ao v.aI.aL=v.aI.aL.length:=rfl
 have f4:ao v.bY.bT.ae=v.bY.bT.ae.length:=rfl
 have f5:ao v.bY.aH.ae=v.bY.aH.ae.length:=rfl
 refine Eg (n:=2) (off:=11) (P1:=aa (.int .i64 (-1)) h) ((bO.trans (dM.trans dx)).at rfl) R e0 (by omega) (λN j hj Hs=>?_) λN=>?_
 ·refine brd (λhc=>idxs (by omega) (by omega) (idx (by omega) (by omega) ?_)) λhc=>by omega
  rw[ag (by omega),ag (by omega)]
  refine gE (gE (gE ?_))
  simp only[Int.toNat_natCast]
  rw[show 5+(2+(4+j*1))=11+j*1 by omega]
  exact Hs
 ·unfold ai.B35
  refine brd (λhc=>by omega) λhc=>?_
  have X:=Ext.refl h
  have w0:i64.wrap (((k+2:Nat):Int)+1)=((k+3:Nat):Int):=ag (by omega)
  simp only[w0]
  clear w0
  refine idxs (by omega) (by omega) (yO (R.C8 (off:=13) e1 ?_))
  have Hn:=Xi (N2:=N2) (aa:=aa) (c:=c) (k:=k+3) hi hl R E (by omega) (by omega) (by omega) (by omega) (by omega) (by omega) λh' x'=>?_
  ·exact Hn
  ·have:=H h' (X.trans x')
   rw[show k+(29+aN v.aI.aW+aN v.aI.Left+v.aI.aL.length+v.bY.bT.ae.length+v.bY.aH.ae.length)=k+3+(26+aN v.aI.aW+aN v.aI.Left+v.aI.aL.length+v.bY.bT.ae.length+v.bY.aH.ae.length) by omega] at this
   exact this
theorem Xg{N2:(Option Addr×Nat×Nat×Int×Int)->ab->Prop}{aa:Value->ab->Prop}{a0:Addr}{l c i k:Nat}{u v:aK}(hi:i<l)(hl:l≤1073741824)(R:RdP aQ h (a0.add (i*45)) u)(E:aj3 u v k)(s0:dV v.aI.aW≤1048576)(s1:dV v.aI.Left≤1048576)(s2:v.aI.aL.length≤1048576)(s3:v.bY.bT.ae.length≤1048576)(s4:v.bY.aH.ae.length≤1048576)(hk:k+(32+aN v.aI.aW+aN v.aI.Left+v.aI.aL.length+v.bY.bT.ae.length+v.bY.aH.ae.length)≤1073741824)(H:∀h',Ext h h'->N2 (some a0,l,c,((k+(32+aN v.aI.aW+aN v.aI.Left+v.aI.aL.length+v.bY.bT.ae.length+v.bY.aH.ae.length):Nat):Int),((i+1:Nat):Int)) h'):bk (ai.B29 N2 aa) (some a0,l,c,(k:Int),(i:Int),0) h:=by
 obtain⟨e0,E⟩:=E
 have f0:ao v.String.Loop.ae=v.String.Loop.ae.length:=rfl
 have f3:ao v.aI.aL=v.aI.aL.length:=rfl
 have f4:ao v.bY.bT.ae=v.bY.bT.ae.length:=rfl
 have f5:ao v.bY.aH.ae=v.bY.aH.ae.length:=rfl
 refine Eg (n:=3) (off:=8) (P1:=aa (.int .i64 (-1)) h) ((bO.trans (dM.trans dU)).at rfl) R e0 (by omega) (λN j hj Hs=>?_) λN=>?_
 ·refine brd (λhc=>idxs (by omega) (by omega) (idx (by omega) (by omega) ?_)) λhc=>by omega
  rw[ag (by omega),ag (by omega)]
  refine gE (gE (gE ?_))
  simp only[Int.toNat_natCast]
  rw[show 5+(2+(1+j*1))=8+j*1 by omega]
  exact Hs
 ·unfold ai.B29
  refine brd (λhc=>by omega) λhc=>?_
  have X:=Ext.refl h
  have Hn:=Xh (N2:=N2) (aa:=aa) (c:=c) (k:=k+3) hi hl R E (by omega) (by omega) (by omega) (by omega) (by omega) (by omega) λh' x'=>?_
  ·exact Hn
  ·have:=H h' (X.trans x')
   rw[show k+(32+aN v.aI.aW+aN v.aI.Left+v.aI.aL.length+v.bY.bT.ae.length+v.bY.aH.ae.length)=k+3+(29+aN v.aI.aW+aN v.aI.Left+v.aI.aL.length+v.bY.bT.ae.length+v.bY.aH.ae.length) by omega] at this
   exact this
theorem Ub{N2:(Option Addr×Nat×Nat×Int×Int)->ab->Prop}{aa:Value->ab->Prop}{a0:Addr}{l c i k:Nat}{u v:aK}(hi:i<l)(hl:l≤1073741824)(R:RdP aQ h (a0.add (i*45)) u)(E:adk u v k)(s0:v.String.Loop.ae.length≤1048576)(s1:dV v.aI.aW≤1048576)(s2:dV v.aI.Left≤1048576)(s3:v.aI.aL.length≤1048576)(s4:v.bY.bT.ae.length≤1048576)(s5:v.bY.aH.ae.length≤1048576)(hk:k+(39+v.String.Loop.ae.length+aN v.aI.aW+aN v.aI.Left+v.aI.aL.length+v.bY.bT.ae.length+v.bY.aH.ae.length)≤1073741824)(H:∀h',Ext h h'->N2 (some a0,l,c,((k+(39+v.String.Loop.ae.length+aN v.aI.aW+aN v.aI.Left+v.aI.aL.length+v.bY.bT.ae.length+v.bY.aH.ae.length):Nat):Int),((i+1:Nat):Int)) h'):ai.B2 aa N2 (some a0,l,c,(k:Int),(i:Int)) h:=by
 obtain⟨e0,e1,e2,e3,e4,e5,e6,e7,E⟩:=E
 have f0:ao v.String.Loop.ae=v.String.Loop.ae.length:=rfl
 have f3:ao v.aI.aL=v.aI.aL.length:=rfl
 have f4:ao v.bY.bT.ae=v.bY.bT.ae.length:=rfl
 have f5:ao v.bY.aH.ae=v.bY.aH.ae.length:=rfl
 unfold ai.B2
 refine brd (λhc=>?_) λhc=>by omega
 have X:=Ext.refl h
 have w0:i64.wrap (((k:Nat):Int)+1)=((k+1:Nat):Int):=ag (by omega)
 have w1:i64.wrap (((k+1:Nat):Int)+1)=((k+2:Nat):Int):=ag (by omega)
 have w2:i64.wrap (((k+2:Nat):Int)+1)=((k+3:Nat):Int):=ag (by omega)
 have w3:i64.wrap (((k+3:Nat):Int)+1)=((k+4:Nat):Int):=ag (by omega)
 have w4:i64.wrap (((k+4:Nat):Int)+1)=((k+5:Nat):Int):=ag (by omega)
 simp only[w0,w1,w2,w3,w4]
 clear w0 w1 w2 w3 w4
 refine idxs (by omega) (by omega) (R.afh e0 ?_)
 refine idxs (by omega) (by omega) (R.C8 (off:=1) e1 ?_)
 refine idxs (by omega) (by omega) (R.C8 (off:=2) e2 ?_)
 refine idxs (by omega) (by omega) (R.ado (off:=3) e3 ?_)
 refine idxs (by omega) (by omega) (R.Gh (off:=4) e4 ?_)
 refine idxs (by omega) (by omega) (R.oL (off:=5) λb1 l1 c1 S1=>?_)
 rw[e5] at S1
 refine goX (jd (xs:=v.String.Loop.ae) (k+5) S1 (by(try dsimp only[cf]);omega) (by(try dsimp only[ao]);omega)) λh' x'=>cN (cM (decide_eq_false (by omega)) ?_)
 have R:=R.ext x'
 have X:=X.trans x'
 clear S1
 have w0:i64.wrap (((k+5+ao v.String.Loop.ae:Nat):Int)+1)=((k+5+ao v.String.Loop.ae+1:Nat):Int):=ag (by omega)
 have w1:i64.wrap (((k+5+ao v.String.Loop.ae+1:Nat):Int)+1)=((k+5+ao v.String.Loop.ae+2:Nat):Int):=ag (by omega)
 simp only[w0,w1]
 clear w0 w1
 refine idxs (by omega) (by omega) (yO (R.C8 (off:=6) e6 ?_))
 refine idxs (by omega) (by omega) (yO (R.C8 (off:=7) e7 ?_))
 have Hn:=Xg (N2:=N2) (aa:=aa) (c:=c) (k:=k+5+ao v.String.Loop.ae+2) hi hl R E (by omega) (by omega) (by omega) (by omega) (by omega) (by omega) λh' x'=>?_
 ·exact Hn
 ·have:=H h' (X.trans x')
  rw[show k+(39+v.String.Loop.ae.length+aN v.aI.aW+aN v.aI.Left+v.aI.aL.length+v.bY.bT.ae.length+v.bY.aH.ae.length)=k+5+ao v.String.Loop.ae+2+(32+aN v.aI.aW+aN v.aI.Left+v.aI.aL.length+v.bY.bT.ae.length+v.bY.aH.ae.length) by omega] at this
  exact this
theorem ajb(v:aK)(k:Nat):adk (lM v k) v k:=
 ⟨rfl,rfl,rfl,rfl,rfl,rfl,rfl,rfl,rfl,rfl,rfl,rfl,rfl,rfl,rfl,rfl,rfl,rfl,rfl,rfl,rfl,rfl,rfl,rfl,rfl,rfl,rfl,rfl,rfl,rfl,rfl,rfl,rfl⟩
theorem uC(v:aK):lP v=v.String.Loop.ae.length+(dV v.aI.aW+dV v.aI.Left+v.aI.aL.length)+(v.bY.bT.ae.length+v.bY.aH.ae.length):=rfl
theorem UY(v:aK):gy v≤39+8*lP v:=by
 have h1:=Oi v.aI.aW
 have h2:=Oi v.aI.Left
 have h3:=uC v
 unfold gy
 omega
def kE(xs:List aK):Nat:=nL gy xs
def rJ(xs:List aK)(k:Nat):List aK:=mkL lM gy xs k
theorem V2(xs:List aK):kE xs≤64*m7 xs:=by
 unfold kE m7
 induction xs with
 | nil=>simp[nL]
 | cons x xs ih=>
  have:=UY x
  simp only[nL,List.length_cons] at *;omega
theorem IQ{h0:ab}{B L:List Blk}{b:Option Addr}{l c:Nat}{xs:List aK}(O0:SlO 122 aQ B b l c xs)(M0:Mem h0 h (B++L))(k:Nat)(ES:m7 xs≤1048576)(hk:k+kE xs≤1073741824):
  af ak 54 #[.slice b l c,.int .i64 (k:Int)] (λu h'=>u = .int .i64 ((k+kE xs:Nat):Int)∧∃B',SlO 122 aQ B' b l c (rJ xs k)∧Mem h0 h' (B'++L)) h:=by
 have hx:=O0.len
 have hw:m7 xs=xs.length+nL lP xs:=rfl
 refine aj.call ?_
 refine loop (λx hh=>∃(n:Nat) (B:List Blk),x=(b,l,c,((k+nL gy (xs.take n):Nat):Int),(n:Int))∧n≤l∧SlO 122 aQ B b l c (mkL lM gy (xs.take n) k++xs.drop n)∧Mem h0 hh (B++L)) (λx=>(l-x.2.2.2.2).toNat) ⟨0,B,rfl,by omega,by simpa [mkL] using O0,M0⟩ ?_
 rintro x hh ⟨n,B,rfl,hn,O,M⟩
 by_cases hc:n<l
 ·have h4:=zB (n:=gy) (xs:=xs) (i:=n) (by omega)
  have h5:nL gy (xs.take (n+1))≤kE xs:=oQ xs (n+1)
  have h6:lP xs[n]! ≤ nL lP xs:=GC (by omega)
  have h7:=uC xs[n]!
  obtain⟨a0,F',L',rfl,P,hs,close⟩:=O.elem M (i:=n) (by omega)
  rw[LH (by omega)] at P
  have P:Pt aQ h0 hh (a0.add (n*45)) F' L' xs[n]!:=P
  refine IS (by omega) (by omega) P (by omega) (by omega) (by omega) (by omega) (by omega) (by omega) (by show k+nL gy (xs.take n)+gy xs[n]! ≤ _;omega) λh' P=>?_
  obtain⟨B',O',M'⟩:=close _ _ _ P
  have st:=Ck (mk:=lM) (n:=gy) (k:=k) (xs:=xs) (i:=n) (by omega)
  have O':SlO 122 aQ B' (some a0) l c ((mkL lM gy (xs.take n) k++xs.drop n).set n (lM xs[n]! (k+nL gy (xs.take n)))):=O'
  rw[st] at O'
  refine⟨⟨n+1,B',?_,by omega,O',M'⟩,by show _<_;simp;omega⟩
  rw[h4,Nat.add_assoc]
  rfl
 ·unfold aj.B2
  refine brd (λhc=>by omega) λ_=>?_
  obtain rfl:n=l:=by omega
  have e:xs.take n=xs:=by rw[← hx];exact List.take_length
  have e2:xs.drop n=[]:=List.drop_of_length_le (by omega)
  rw[e,e2,List.append_nil] at O
  rw[e]
  exact⟨rfl,B,O,M⟩
theorem IC{b:Option Addr}{l c:Nat}{xs:List aK}(k:Nat)(S:SlR aQ h b l c (rJ xs k))(ES:m7 xs≤1048576)(hk:k+kE xs≤1073741824):
  af ak 56 #[.slice b l c,.int .i64 (k:Int)] (λu h'=>u = .int .i64 ((k+kE xs:Nat):Int)∧Ext h h') h:=by
 have hx:xs.length=l:=by have:=S.len;rwa [rJ,vZ] at this
 have hw:m7 xs=xs.length+nL lP xs:=rfl
 refine ai.call ?_
 refine loop (λx hh=>∃n:Nat,x=(b,l,c,((k+nL gy (xs.take n):Nat):Int),(n:Int))∧n≤l∧Ext h hh) (λx=>(l-x.2.2.2.2).toNat) ⟨0,rfl,by omega,Ext.refl _⟩ ?_
 rintro x hh ⟨n,rfl,hn,X⟩
 by_cases hc:n<l
 ·have h4:=zB (n:=gy) (xs:=xs) (i:=n) (by omega)
  have h5:nL gy (xs.take (n+1))≤kE xs:=oQ xs (n+1)
  have h6:lP xs[n]! ≤ nL lP xs:=GC (by omega)
  have h7:=uC xs[n]!
  have hm:(rJ xs k)[n]! = lM xs[n]! (k+nL gy (xs.take n)):=by unfold rJ;rw[Fo (by omega)]
  obtain⟨a0,rfl,R⟩:=(S.ext X).elem (i:=n) hc DQ
  rw[hm] at R
  have R:RdP aQ hh (a0.add (n*45)) (lM xs[n]! (k+nL gy (xs.take n))):=R
  refine Ub (v:=xs[n]!) hc (by omega) R (ajb _ _) (by omega) (by omega) (by omega) (by omega) (by omega) (by omega) (by show k+nL gy (xs.take n)+gy xs[n]! ≤ _;omega) λh' x'=>?_
  refine⟨⟨n+1,?_,by omega,X.trans x'⟩,by show _<_;simp;omega⟩
  rw[h4,Nat.add_assoc]
  rfl
 ·unfold ai.B2
  refine brd (λhc=>by omega) λ_=>?_
  obtain rfl:n=l:=by omega
  have e:xs.take n=xs:=by rw[← hx];exact List.take_length
  rw[e]
  exact⟨rfl,X⟩
def m3(x:aC):Nat:=jo x.Score+kE x.al
def JT(x:aC)(k:Nat):aC:={ x with Score:=GB x.Score (k),al:=rJ x.al (k+jo x.Score) }
theorem V0(x:aC):m3 x≤64*m6 x:=by
 have h0:=Oj x.Score
 have h1:=V2 x.al
 have e1:m3 x=jo x.Score+kE x.al:=rfl
 have e2:m6 x=j8 x.Score+m7 x.al:=rfl
 omega
theorem IN{h0:ab}{B L:List Blk}{cs:Array Value}{x:aC}(O:bz.ow B cs.toList x)(M:Mem h0 h (B++L))(k:Nat)(ES:m6 x≤1048576)(hk:k+m3 x≤1073741824):
  af ak 23 #[.agg cs,.int .i64 (k:Int)] (λu h'=>u = .int .i64 ((k+m3 x:Nat):Int)∧∃B',bz.ow B' cs.toList (JT x k)∧Mem h0 h' (B'++L)) h:=by
 have hw:m6 x=j8 x.Score+m7 x.al:=rfl
 have hn:m3 x=jo x.Score+kE x.al:=rfl
 refine qv.call (M.alc λg1 h1 x1 M=>?_)
 obtain⟨Bm,Br,hB,Om,OF⟩:=DF O gx
 refine M.lda .here (by have:=osz O rfl;rw[this];decide) ?_
 rw[← BT] at Om
 refine(Cj (x:=x.Score) Om (M.cnt (W:=Bm++(Br++((g1,51,cs) :: L))) (λp=>by have:=hB p;simp only[bN,bu,bZ] at *;omega)) (k) (by omega) (by omega)).mono ?_
 rintro _ h' ⟨rfl,B',O',M⟩
 obtain⟨B2,O,Xe⟩:=OF B' _ (by rw[← BT];exact O')
 refine cN ?_
 have M:=M.cnt (W:=(g1,51,cs) :: (B2++L)) (λp=>by have:=Xe p;simp only[bN,bu,bZ] at *;omega)
 clear OF
 obtain⟨Bm,Br,hB,Om,OF⟩:=DF O tH
 obtain⟨b,l,c,e,Om⟩:=Om
 refine o_l ((M.cell .here _).trans (zk e)) ?_
 refine(IQ (xs:=x.al) Om (M.cnt (W:=Bm++(Br++((g1,51,cs) :: L))) (λp=>by have:=hB p;simp only[bN,bu,bZ] at *;omega)) (k+jo x.Score) (by omega) (by omega)).mono ?_
 rintro _ h' ⟨rfl,B',O',M⟩
 obtain⟨B2,O,Xe⟩:=OF B' _ ⟨b,l,c,e,O'⟩
 refine cN ?_
 have M:=M.cnt (W:=(g1,51,cs) :: (B2++L)) (λp=>by have:=Xe p;simp only[bN,bu,bZ] at *;omega)
 clear OF
 exact⟨by congr 2 <;> (unfold m3;omega),B2,O,M.drop⟩
theorem Aq{cs:Array Value}{x:aC}(k:Nat)(R0:bz.rd h cs.toList (JT x k))(ES:m6 x≤1048576)(hk:k+m3 x≤1073741824):
  af ak 24 #[.agg cs,.int .i64 (k:Int)] (λu h'=>u = .int .i64 ((k+m3 x:Nat):Int)∧Ext h h') h:=by
 have hw:m6 x=j8 x.Score+m7 x.al:=rfl
 have hn:m3 x=jo x.Score+kE x.al:=rfl
 refine qt.call (gD R0 λg1 h1 X R=>?_)
 refine R.jH gx rfl λc1 R1=>goX (Lj (x:=x.Score) (k) R1 (by omega) (by omega)) λh' x'=>cN (cM (decide_eq_false (by omega)) ?_)
 have R:=R.ext x'
 have X:=X.trans x'
 refine R.oL2 λb1 l1 c1 S1=>goX (IC (xs:=x.al) (k+jo x.Score) S1 (by omega) (by omega)) λh' x'=>cN (cM (decide_eq_false (by omega)) ?_)
 have R:=R.ext x'
 have X:=X.trans x'
 exact⟨by congr 2 <;> (unfold m3;omega),X⟩
end
end Go.Sx
