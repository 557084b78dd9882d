/- Lemmas. -/
import Derived.Test.YthhepeklpgefkaaGreatDoorLmt
import Derived.Test.YthhepeklpgefkaaGreatDoorLk24
set_option linter.unusedVariables false
set_option linter.unusedSimpArgs false
namespace Go.Sx
open FloatKind (f32 f64)
open IntKind (i64)
open Go.Proofs
set_option maxRecDepth 100000
set_option maxHeartbeats 2000000
def mkA(xs:List Nat)(k j:Nat):List Nat:=(List.range j).map (λi=>f32.nearest ((k+i:Nat):Int))++xs.drop j
def mkQ(k n:Nat):List Nat:=(List.range n).map λi=>f32.nearest ((k+i:Nat):Int)
theorem af5(xs:List Nat)(k:Nat):mkA xs k 0=xs:=by simp[mkA]
theorem aix{xs:List Nat}{n:Nat}(k:Nat)(h:xs.length=n):mkA xs k n=mkQ k n:=by
 unfold mkA mkQ
 rw[List.drop_of_length_le (by omega),List.append_nil]
theorem aiy{xs:List Nat}{j:Nat}(k:Nat)(h:j<xs.length):(mkA xs k j).set j (f32.nearest ((k+j:Nat):Int))=mkA xs k (j+1):=by
 unfold mkA
 rw[List.set_append_right _ _ (by simp)]
 simp only[List.length_map,List.length_range,Nat.sub_self]
 rw[List.drop_eq_getElem_cons h,List.set_cons_zero,List.range_succ,List.map_append,List.append_assoc]
 rfl
theorem aiC(k n:Nat):(mkQ k n).length=n:=by simp[mkQ]
theorem aiB{k n j:Nat}(h:j<n):(mkQ k n)[j]! = f32.nearest ((k+j:Nat):Int):=by
 rw[getElem!_pos _ j (by rw[aiC];exact h)]
 simp[mkQ]
abbrev SJ:=Option Addr×Nat×Nat×Int×Int×Int
section
variable {h0 h:ab}
theorem Kc{B:(SJ->ab->Prop)->SJ->ab->Prop}{n off:Nat}{get:aJ->List Nat}{put:aJ->List Nat->aJ}(Fc:Foc az (iv n (rF .f32)) off get put)(hpg:∀v,put v (get v)=v)(hpp:∀a x y,put (put a x) y=put a y)(hg:∀a x,get (put a x)=x){a0:Addr}{l c i k:Nat}{F:Fr}{L:List Blk}{v:aJ}(P:Pt az h0 h (a0.add (i*45)) F L v)(hk:k+n≤2147483648)(step:∀(N:SJ->ab->Prop) (j:Nat) (hh:ab),j<n->(ST1 hh ((a0.add (i*45)).add (off+j*1)) (.float .f32 (f32.nearest ((k+j:Nat):Int))) λh'=>N (some a0,l,c,((k+j+1:Nat):Int),(i:Int),((j+1:Nat):Int)) h')->B N (some a0,l,c,((k+j:Nat):Int),(i:Int),(j:Int)) hh)(last:∀(N:SJ->ab->Prop) (hh:ab),Pt az h0 hh (a0.add (i*45)) F L (put v (mkQ k n))->B N (some a0,l,c,((k+n:Nat):Int),(i:Int),(n:Int)) hh):bh B (some a0,l,c,(k:Int),(i:Int),0) h:=by
 have hl:(get v).length=n:=(P.rd.foc Fc).len
 refine loop (λx hh=>∃j:Nat,x=(some a0,l,c,((k+j:Nat):Int),(i:Int),(j:Int))∧j≤n∧Pt az h0 hh (a0.add (i*45)) F L (put v (mkA (get v) k j))) (λx=>((n:Int)-x.2.2.2.2.2).toNat) ⟨0,rfl,by omega,by rw[af5,hpg];exact P⟩ ?_
 rintro x hh ⟨j,rfl,hj,P⟩
 by_cases e:j=n
 ·subst e
  rw[aix k hl] at P
  exact last _ hh P
 ·refine step _ j hh (by omega) ?_
  refine P.st (B':=[]) ((Fc.trans (Foc.arr (rF .f32) j (by omega))).at rfl) rfl ⟨rfl,_,rfl,dr .f32 _⟩ λh' P=>?_
  have P:Pt az h0 h' (a0.add (i*45)) F L (put (put v (mkA (get v) k j)) ((get (put v (mkA (get v) k j))).set j (f32.nearest ((k+j:Nat):Int)))):=P
  rw[hg,hpp,aiy k (by omega)] at P
  exact ⟨⟨j+1,rfl,by omega,P⟩,by show ((n:Int)-((j+1:Nat):Int)).toNat<((n:Int)-(j:Int)).toNat;omega⟩
theorem K5{P1:Prop}{B:(SJ->ab->Prop)->SJ->ab->Prop}{n off:Nat}{get:aJ->List Nat}{put:aJ->List Nat->aJ}(Fc:Foc az (iv n (rF .f32)) off get put){a0:Addr}{l c i k:Nat}{v:aJ}(P:RdP az h (a0.add (i*45)) v)(hm:get v=mkQ k n)(hk:k+n≤2147483648)(step:∀(N:SJ->ab->Prop) (j:Nat),j<n->(oF .f32 (cell h ((a0.add (i*45)).add (off+j*1))) λr=>BIF (f32.format.order r (f32.nearest ((k+j:Nat):Int)) != some .eq) P1 (N (some a0,l,c,((k+j+1:Nat):Int),(i:Int),((j+1:Nat):Int)) h))->B N (some a0,l,c,((k+j:Nat):Int),(i:Int),(j:Int)) h)(last:∀(N:SJ->ab->Prop),B N (some a0,l,c,((k+n:Nat):Int),(i:Int),(n:Int)) h):bh B (some a0,l,c,(k:Int),(i:Int),0) h:=by
 refine loop (λx hh=>∃j:Nat,x=(some a0,l,c,((k+j:Nat):Int),(i:Int),(j:Int))∧j≤n∧hh=h) (λx=>((n:Int)-x.2.2.2.2.2).toNat) ⟨0,rfl,by omega,rfl⟩ ?_
 rintro x hh ⟨j,rfl,hj,rfl⟩
 by_cases e:j=n
 ·subst e
  exact last _
 ·refine step _ j (by omega) ?_
  have Fj:=(Fc.trans (Foc.arr (rF .f32) j (by omega))).at (amw:=off+j*1) rfl
  obtain⟨u,e1,y,e2,hy⟩:=P.cell Fj rfl
  obtain rfl:u = .float .f32 y:=by simpa using e2
  have hy:FW .f32 y (get v)[j]!:=hy
  rw[hm,aiB (by omega)] at hy
  obtain rfl:=hy.eq (dW _ _)
  refine o_f e1 (dp (yq (dW _ _)) ⟨⟨j+1,rfl,by omega,rfl⟩,by show ((n:Int)-((j+1:Nat):Int)).toNat<((n:Int)-(j:Int)).toNat;omega⟩)
def apZ(v:aJ)(k:Nat):aJ:=
 let v:={ v with cz:={ v.cz with gl:={ v.cz.gl with S:=mkQ k 2 } } }
 let v:={ v with cz:={ v.cz with fG:=f32.nearest ((k+2:Nat):Int) } }
 let v:={ v with cz:={ v.cz with fi:=f32.nearest ((k+3:Nat):Int) } }
 v
def apY(v:aJ)(k:Nat):aJ:=
 let v:={ v with cz:={ v.cz with gl:={ v.cz.gl with C:=mkQ k 3 } } }
 apZ v (k+3)
def apX(v:aJ)(k:Nat):aJ:=
 let v:={ v with aP:={ v.aP with End:={ v.aP.End with S:=mkQ k 2 } } }
 let v:={ v with aP:={ v.aP with Open:=(Int.tmod ((k+2:Nat):Int) 3==0) } }
 let v:={ v with aP:={ v.aP with fi:=f32.nearest ((k+3:Nat):Int) } }
 let v:={ v with aP:={ v.aP with Rest:=f32.nearest ((k+4:Nat):Int) } }
 let v:={ v with aP:={ v.aP with fG:=f32.nearest ((k+5:Nat):Int) } }
 let k1:=k+6+aw v.cz.bX.af
 let v:={ v with cz:={ v.cz with bX:={ v.cz.bX with af:=fB v.cz.bX.af (k+6) } } }
 let v:={ v with cz:={ v.cz with bX:={ v.cz.bX with At:=((k1:Nat):Int) } } }
 let k2:=k1+1+aw v.cz.aK.af
 let v:={ v with cz:={ v.cz with aK:={ v.cz.aK with af:=fB v.cz.aK.af (k1+1) } } }
 let v:={ v with cz:={ v.cz with aK:={ v.cz.aK with At:=((k2:Nat):Int) } } }
 let v:={ v with cz:={ v.cz with gl:={ v.cz.gl with Kind:=((k2+1:Nat):Int) } } }
 apY v (k2+2)
def apW(v:aJ)(k:Nat):aJ:=
 let v:={ v with aP:={ v.aP with End:={ v.aP.End with C:=mkQ k 3 } } }
 apX v (k+3)
def apV(v:aJ)(k:Nat):aJ:=
 let v:={ v with String:={ v.String with gl:={ v.String.gl with S:=mkQ k 2 } } }
 let v:={ v with String:={ v.String with fi:=f32.nearest ((k+2:Nat):Int) } }
 let k1:=k+3+ba v.aP.aY
 let v:={ v with aP:={ v.aP with aY:=sY v.aP.aY (k+3) } }
 let k2:=k1+ba v.aP.Left
 let v:={ v with aP:={ v.aP with Left:=sY v.aP.Left (k1) } }
 let k3:=k2+aw v.aP.aG
 let v:={ v with aP:={ v.aP with aG:=fB v.aP.aG (k2) } }
 let v:={ v with aP:={ v.aP with End:={ v.aP.End with Kind:=((k3:Nat):Int) } } }
 apW v (k3+1)
def apU(v:aJ)(k:Nat):aJ:=
 let v:={ v with String:={ v.String with gl:={ v.String.gl with C:=mkQ k 3 } } }
 apV v (k+3)
def apT(v:aJ)(k:Nat):aJ:=
 let v:={ v with String:={ v.String with mK:={ v.String.mK with S:=mkQ k 2 } } }
 let v:={ v with String:={ v.String with gl:={ v.String.gl with Kind:=((k+2:Nat):Int) } } }
 apU v (k+3)
def apS(v:aJ)(k:Nat):aJ:=
 let v:={ v with String:={ v.String with mK:={ v.String.mK with C:=mkQ k 3 } } }
 apT v (k+3)
def py(v:aJ)(k:Nat):aJ:=
 let v:={ v with aT:=((k:Nat):Int) }
 let v:={ v with ar:=((k+1:Nat):Int) }
 let v:={ v with lq:=((k+2:Nat):Int) }
 let v:={ v with Gone:=(Int.tmod ((k+3:Nat):Int) 3==0) }
 let v:={ v with ja:=f32.nearest ((k+4:Nat):Int) }
 let k1:=k+5+aw v.String.Loop.af
 let v:={ v with String:={ v.String with Loop:={ v.String.Loop with af:=fB v.String.Loop.af (k+5) } } }
 let v:={ v with String:={ v.String with Loop:={ v.String.Loop with At:=((k1:Nat):Int) } } }
 let v:={ v with String:={ v.String with mK:={ v.String.mK with Kind:=((k1+1:Nat):Int) } } }
 apS v (k1+2)
theorem gv{q:Addr}{a b:Nat}{v:Value}{K:ab->Prop}(H:ST1 h (q.add (a+b)) v K):ST1 h ((q.add a).add b) v K:=by rw[rX];exact H
theorem LM{q:Addr}{a b:Nat}{v:Option Value}(e:cell h (q.add (a+b))=v):cell h ((q.add a).add b)=v:=by rw[rX];exact e
theorem af4{N2:(Option Addr×Nat×Nat×Int×Int)->ab->Prop}{aa:Value->ab->Prop}{a0:Addr}{l c i k:Nat}{F:Fr}{L:List Blk}{v:aJ}(hi:i<l)(hl:l≤1073741824)(P:Pt az h0 h (a0.add (i*45)) F L v)(hk:k+(4)≤1073741824)(H:∀h',Pt az h0 h' (a0.add (i*45)) F L (apZ v k)->N2 (some a0,l,c,((k+(4):Nat):Int),((i+1:Nat):Int)) h'):bh (ak.B80 N2 aa) (some a0,l,c,(k:Int),(i:Int),0) h:=by
 refine Kc (n:=2) (off:=41) ((cm.trans (eP.trans cW)).at rfl) (λ_=>rfl) (λ_ _ _=>rfl) (λ_ _=>rfl) P (by omega) (λN j hh hj Hs=>?_) λN hh P=>?_
 ·refine brd (λhc=>idxs (by omega) (by omega) (idx (by omega) (by omega) ?_)) λhc=>by omega
  rw[ag (by omega),ag (by omega)]
  refine gv (gv (gv ?_))
  simp only[Int.toNat_natCast]
  rw[show 33+(4+(4+j*1))=41+j*1 by omega]
  exact Hs
 ·unfold ak.B80
  refine brd (λhc=>by omega) λhc=>?_
  have w0:i64.wrap (((k+2:Nat):Int)+1)=((k+2+1:Nat):Int):=ag (by omega)
  have w1:i64.wrap (((k+2+1:Nat):Int)+1)=((k+2+2:Nat):Int):=ag (by omega)
  simp only[w0,w1]
  clear w0 w1
  refine idxs (by omega) (by omega) (gv (P.stF (off:=43) (dr _ _) λh' P=>?_))
  refine idxs (by omega) (by omega) (gv (P.stF (off:=44) (dr _ _) λh' P=>?_))
  rw[ag (by omega)]
  have:=H _ P
  exact this
theorem af3{N2:(Option Addr×Nat×Nat×Int×Int)->ab->Prop}{aa:Value->ab->Prop}{a0:Addr}{l c i k:Nat}{F:Fr}{L:List Blk}{v:aJ}(hi:i<l)(hl:l≤1073741824)(P:Pt az h0 h (a0.add (i*45)) F L v)(hk:k+(7)≤1073741824)(H:∀h',Pt az h0 h' (a0.add (i*45)) F L (apY v k)->N2 (some a0,l,c,((k+(7):Nat):Int),((i+1:Nat):Int)) h'):bh (ak.B75 N2 aa) (some a0,l,c,(k:Int),(i:Int),0) h:=by
 refine Kc (n:=3) (off:=38) ((cm.trans (eP.trans cV)).at rfl) (λ_=>rfl) (λ_ _ _=>rfl) (λ_ _=>rfl) P (by omega) (λN j hh hj Hs=>?_) λN hh P=>?_
 ·refine brd (λhc=>idxs (by omega) (by omega) (idx (by omega) (by omega) ?_)) λhc=>by omega
  rw[ag (by omega),ag (by omega)]
  refine gv (gv (gv ?_))
  simp only[Int.toNat_natCast]
  rw[show 33+(4+(1+j*1))=38+j*1 by omega]
  exact Hs
 ·unfold ak.B75
  refine brd (λhc=>by omega) λhc=>?_
  have Hn:=af4 (N2:=N2) (aa:=aa) (c:=c) (k:=k+3) hi hl P  (by (try dsimp only);omega) λh' P=>?_
  ·exact Hn
  ·have:=H h' P
   rw[show k+(7)=k+3+(4) by omega] at this
   exact this
theorem af2{N2:(Option Addr×Nat×Nat×Int×Int)->ab->Prop}{aa:Value->ab->Prop}{a0:Addr}{l c i k:Nat}{F:Fr}{L:List Blk}{v:aJ}(hi:i<l)(hl:l≤1073741824)(P:Pt az h0 h (a0.add (i*45)) F L v)(s0:v.cz.bX.af.length≤1048576)(s1:v.cz.aK.af.length≤1048576)(hk:k+(16+v.cz.bX.af.length+v.cz.aK.af.length)≤1073741824)(H:∀h',Pt az h0 h' (a0.add (i*45)) F L (apX v k)->N2 (some a0,l,c,((k+(16+v.cz.bX.af.length+v.cz.aK.af.length):Nat):Int),((i+1:Nat):Int)) h'):bh (ak.B54 N2 aa) (some a0,l,c,(k:Int),(i:Int),0) h:=by
 refine Kc (n:=2) (off:=27) ((bV.trans (dO.trans cW)).at rfl) (λ_=>rfl) (λ_ _ _=>rfl) (λ_ _=>rfl) P (by omega) (λN j hh hj Hs=>?_) λN hh P=>?_
 ·refine brd (λhc=>idxs (by omega) (by omega) (idx (by omega) (by omega) ?_)) λhc=>by omega
  rw[ag (by omega),ag (by omega)]
  refine gv (gv (gv ?_))
  simp only[Int.toNat_natCast]
  rw[show 20+(3+(4+j*1))=27+j*1 by omega]
  exact Hs
 ·unfold ak.B54
  refine brd (λhc=>by omega) λhc=>?_
  have w0:i64.wrap (((k+2:Nat):Int)+1)=((k+2+1:Nat):Int):=ag (by omega)
  have w1:i64.wrap (((k+2+1:Nat):Int)+1)=((k+2+2:Nat):Int):=ag (by omega)
  have w2:i64.wrap (((k+2+2:Nat):Int)+1)=((k+2+3:Nat):Int):=ag (by omega)
  have w3:i64.wrap (((k+2+3:Nat):Int)+1)=((k+2+4:Nat):Int):=ag (by omega)
  simp only[w0,w1,w2,w3]
  clear w0 w1 w2 w3
  refine nz (by decide) (idxs (by omega) (by omega) (gv (P.stB (off:=29) λh' P=>?_)))
  refine idxs (by omega) (by omega) (gv (P.stF (off:=30) (dr _ _) λh' P=>?_))
  refine idxs (by omega) (by omega) (gv (P.stF (off:=31) (dr _ _) λh' P=>?_))
  refine idxs (by omega) (by omega) (gv (P.stF (off:=32) (dr _ _) λh' P=>?_))
  refine idxs (by omega) (by omega) ?_
  obtain⟨b2,l2,c2,Bs,Nn,eb,Ms,Os,Lm,back⟩:=P.slg UY.f
  refine o_l eb ((lI Os Ms (k+2+4) (by dsimp only[cD];omega) (by dsimp only[aw];omega)).mono ?_)
  rintro _ h' ⟨rfl,B',O',M'⟩
  have P:=(back _ _ _ _ O' M').1
  clear back Os Ms Lm eb O' M'
  refine cX ?_
  dsimp only[aw] at P ⊢
  have w0:i64.wrap (((k+2+4+v.cz.bX.af.length:Nat):Int)+1)=((k+2+4+v.cz.bX.af.length+1:Nat):Int):=ag (by omega)
  simp only[w0]
  clear w0
  refine idxs (by omega) (by omega) (gv (P.stI (off:=34) λh' P=>?_))
  refine idxs (by omega) (by omega) ?_
  obtain⟨b2,l2,c2,Bs,Nn,eb,Ms,Os,Lm,back⟩:=P.slg UZ.f
  refine o_l (LM eb) ((lI Os Ms (k+2+4+v.cz.bX.af.length+1) (by dsimp only[cD];omega) (by dsimp only[aw];omega)).mono ?_)
  rintro _ h' ⟨rfl,B',O',M'⟩
  have P:=(back _ _ _ _ O' M').1
  clear back Os Ms Lm eb O' M'
  refine cX ?_
  dsimp only[aw] at P ⊢
  have w0:i64.wrap (((k+2+4+v.cz.bX.af.length+1+v.cz.aK.af.length:Nat):Int)+1)=((k+2+4+v.cz.bX.af.length+1+v.cz.aK.af.length+1:Nat):Int):=ag (by omega)
  have w1:i64.wrap (((k+2+4+v.cz.bX.af.length+1+v.cz.aK.af.length+1:Nat):Int)+1)=((k+2+4+v.cz.bX.af.length+1+v.cz.aK.af.length+2:Nat):Int):=ag (by omega)
  simp only[w0,w1]
  clear w0 w1
  refine idxs (by omega) (by omega) (gv (gv (P.stI (off:=36) λh' P=>?_)))
  refine idxs (by omega) (by omega) (gv (P.stI (off:=37) λh' P=>?_))
  have Hn:=af3 (N2:=N2) (aa:=aa) (c:=c) (k:=k+2+4+v.cz.bX.af.length+1+v.cz.aK.af.length+2) hi hl P  (by (try dsimp only);omega) λh' P=>?_
  ·exact Hn
  ·have:=H h' P
   rw[show k+(16+v.cz.bX.af.length+v.cz.aK.af.length)=k+2+4+v.cz.bX.af.length+1+v.cz.aK.af.length+2+(7) by omega] at this
   exact this
theorem af1{N2:(Option Addr×Nat×Nat×Int×Int)->ab->Prop}{aa:Value->ab->Prop}{a0:Addr}{l c i k:Nat}{F:Fr}{L:List Blk}{v:aJ}(hi:i<l)(hl:l≤1073741824)(P:Pt az h0 h (a0.add (i*45)) F L v)(s0:v.cz.bX.af.length≤1048576)(s1:v.cz.aK.af.length≤1048576)(hk:k+(19+v.cz.bX.af.length+v.cz.aK.af.length)≤1073741824)(H:∀h',Pt az h0 h' (a0.add (i*45)) F L (apW v k)->N2 (some a0,l,c,((k+(19+v.cz.bX.af.length+v.cz.aK.af.length):Nat):Int),((i+1:Nat):Int)) h'):bh (ak.B49 N2 aa) (some a0,l,c,(k:Int),(i:Int),0) h:=by
 refine Kc (n:=3) (off:=24) ((bV.trans (dO.trans cV)).at rfl) (λ_=>rfl) (λ_ _ _=>rfl) (λ_ _=>rfl) P (by omega) (λN j hh hj Hs=>?_) λN hh P=>?_
 ·refine brd (λhc=>idxs (by omega) (by omega) (idx (by omega) (by omega) ?_)) λhc=>by omega
  rw[ag (by omega),ag (by omega)]
  refine gv (gv (gv ?_))
  simp only[Int.toNat_natCast]
  rw[show 20+(3+(1+j*1))=24+j*1 by omega]
  exact Hs
 ·unfold ak.B49
  refine brd (λhc=>by omega) λhc=>?_
  have Hn:=af2 (N2:=N2) (aa:=aa) (c:=c) (k:=k+3) hi hl P (by (try dsimp only);omega) (by (try dsimp only);omega) (by (try dsimp only);omega) λh' P=>?_
  ·exact Hn
  ·have:=H h' P
   rw[show k+(19+v.cz.bX.af.length+v.cz.aK.af.length)=k+3+(16+v.cz.bX.af.length+v.cz.aK.af.length) by omega] at this
   exact this
theorem af0{N2:(Option Addr×Nat×Nat×Int×Int)->ab->Prop}{aa:Value->ab->Prop}{a0:Addr}{l c i k:Nat}{F:Fr}{L:List Blk}{v:aJ}(hi:i<l)(hl:l≤1073741824)(P:Pt az h0 h (a0.add (i*45)) F L v)(s0:du v.aP.aY≤1048576)(s1:du v.aP.Left≤1048576)(s2:v.aP.aG.length≤1048576)(s3:v.cz.bX.af.length≤1048576)(s4:v.cz.aK.af.length≤1048576)(hk:k+(23+ba v.aP.aY+ba v.aP.Left+v.aP.aG.length+v.cz.bX.af.length+v.cz.aK.af.length)≤1073741824)(H:∀h',Pt az h0 h' (a0.add (i*45)) F L (apV v k)->N2 (some a0,l,c,((k+(23+ba v.aP.aY+ba v.aP.Left+v.aP.aG.length+v.cz.bX.af.length+v.cz.aK.af.length):Nat):Int),((i+1:Nat):Int)) h'):bh (ak.B37 N2 aa) (some a0,l,c,(k:Int),(i:Int),0) h:=by
 refine Kc (n:=2) (off:=17) ((bu.trans (df.trans cW)).at rfl) (λ_=>rfl) (λ_ _ _=>rfl) (λ_ _=>rfl) P (by omega) (λN j hh hj Hs=>?_) λN hh P=>?_
 ·refine brd (λhc=>idxs (by omega) (by omega) (idx (by omega) (by omega) ?_)) λhc=>by omega
  rw[ag (by omega),ag (by omega)]
  refine gv (gv (gv ?_))
  simp only[Int.toNat_natCast]
  rw[show 5+(8+(4+j*1))=17+j*1 by omega]
  exact Hs
 ·unfold ak.B37
  refine brd (λhc=>by omega) λhc=>?_
  have w0:i64.wrap (((k+2:Nat):Int)+1)=((k+2+1:Nat):Int):=ag (by omega)
  simp only[w0]
  clear w0
  refine idxs (by omega) (by omega) (gv (P.stF (off:=19) (dr _ _) λh' P=>?_))
  refine idxs (by omega) (by omega) ?_
  obtain⟨b2,l2,c2,Bs,Nn,eb,Ms,Os,Lm,back⟩:=P.slg UU.f
  refine o_l eb ((I6 Os Ms (k+2+1) (by dsimp only[cD];omega) (by dsimp only[aw];omega)).mono ?_)
  rintro _ h' ⟨rfl,B',O',M'⟩
  have P:=(back _ _ _ _ O' M').1
  clear back Os Ms Lm eb O' M'
  refine cX ?_
  dsimp only[aw] at P ⊢
  refine idxs (by omega) (by omega) ?_
  obtain⟨b2,l2,c2,Bs,Nn,eb,Ms,Os,Lm,back⟩:=P.slg UW.f
  refine o_l (LM eb) ((I6 Os Ms (k+2+1+ba v.aP.aY) (by dsimp only[cD];omega) (by dsimp only[aw];omega)).mono ?_)
  rintro _ h' ⟨rfl,B',O',M'⟩
  have P:=(back _ _ _ _ O' M').1
  clear back Os Ms Lm eb O' M'
  refine cX ?_
  dsimp only[aw] at P ⊢
  refine idxs (by omega) (by omega) ?_
  obtain⟨b2,l2,c2,Bs,Nn,eb,Ms,Os,Lm,back⟩:=P.slg UX.f
  refine o_l (LM eb) ((lI Os Ms (k+2+1+ba v.aP.aY+ba v.aP.Left) (by dsimp only[cD];omega) (by dsimp only[aw];omega)).mono ?_)
  rintro _ h' ⟨rfl,B',O',M'⟩
  have P:=(back _ _ _ _ O' M').1
  clear back Os Ms Lm eb O' M'
  refine cX ?_
  dsimp only[aw] at P ⊢
  have w0:i64.wrap (((k+2+1+ba v.aP.aY+ba v.aP.Left+v.aP.aG.length:Nat):Int)+1)=((k+2+1+ba v.aP.aY+ba v.aP.Left+v.aP.aG.length+1:Nat):Int):=ag (by omega)
  simp only[w0]
  clear w0
  refine idxs (by omega) (by omega) (gv (P.stI (off:=23) λh' P=>?_))
  have Hn:=af1 (N2:=N2) (aa:=aa) (c:=c) (k:=k+2+1+ba v.aP.aY+ba v.aP.Left+v.aP.aG.length+1) hi hl P (by (try dsimp only);omega) (by (try dsimp only);omega) (by (try dsimp only);omega) λh' P=>?_
  ·exact Hn
  ·have:=H h' P
   rw[show k+(23+ba v.aP.aY+ba v.aP.Left+v.aP.aG.length+v.cz.bX.af.length+v.cz.aK.af.length)=k+2+1+ba v.aP.aY+ba v.aP.Left+v.aP.aG.length+1+(19+v.cz.bX.af.length+v.cz.aK.af.length) by omega] at this
   exact this
theorem aeZ{N2:(Option Addr×Nat×Nat×Int×Int)->ab->Prop}{aa:Value->ab->Prop}{a0:Addr}{l c i k:Nat}{F:Fr}{L:List Blk}{v:aJ}(hi:i<l)(hl:l≤1073741824)(P:Pt az h0 h (a0.add (i*45)) F L v)(s0:du v.aP.aY≤1048576)(s1:du v.aP.Left≤1048576)(s2:v.aP.aG.length≤1048576)(s3:v.cz.bX.af.length≤1048576)(s4:v.cz.aK.af.length≤1048576)(hk:k+(26+ba v.aP.aY+ba v.aP.Left+v.aP.aG.length+v.cz.bX.af.length+v.cz.aK.af.length)≤1073741824)(H:∀h',Pt az h0 h' (a0.add (i*45)) F L (apU v k)->N2 (some a0,l,c,((k+(26+ba v.aP.aY+ba v.aP.Left+v.aP.aG.length+v.cz.bX.af.length+v.cz.aK.af.length):Nat):Int),((i+1:Nat):Int)) h'):bh (ak.B32 N2 aa) (some a0,l,c,(k:Int),(i:Int),0) h:=by
 refine Kc (n:=3) (off:=14) ((bu.trans (df.trans cV)).at rfl) (λ_=>rfl) (λ_ _ _=>rfl) (λ_ _=>rfl) P (by omega) (λN j hh hj Hs=>?_) λN hh P=>?_
 ·refine brd (λhc=>idxs (by omega) (by omega) (idx (by omega) (by omega) ?_)) λhc=>by omega
  rw[ag (by omega),ag (by omega)]
  refine gv (gv (gv ?_))
  simp only[Int.toNat_natCast]
  rw[show 5+(8+(1+j*1))=14+j*1 by omega]
  exact Hs
 ·unfold ak.B32
  refine brd (λhc=>by omega) λhc=>?_
  have Hn:=af0 (N2:=N2) (aa:=aa) (c:=c) (k:=k+3) hi hl P (by (try dsimp only);omega) (by (try dsimp only);omega) (by (try dsimp only);omega) (by (try dsimp only);omega) (by (try dsimp only);omega) (by (try dsimp only);omega) λh' P=>?_
  ·exact Hn
  ·have:=H h' P
   rw[show k+(26+ba v.aP.aY+ba v.aP.Left+v.aP.aG.length+v.cz.bX.af.length+v.cz.aK.af.length)=k+3+(23+ba v.aP.aY+ba v.aP.Left+v.aP.aG.length+v.cz.bX.af.length+v.cz.aK.af.length) by omega] at this
   exact this
theorem aeY{N2:(Option Addr×Nat×Nat×Int×Int)->ab->Prop}{aa:Value->ab->Prop}{a0:Addr}{l c i k:Nat}{F:Fr}{L:List Blk}{v:aJ}(hi:i<l)(hl:l≤1073741824)(P:Pt az h0 h (a0.add (i*45)) F L v)(s0:du v.aP.aY≤1048576)(s1:du v.aP.Left≤1048576)(s2:v.aP.aG.length≤1048576)(s3:v.cz.bX.af.length≤1048576)(s4:v.cz.aK.af.length≤1048576)(hk:k+(29+ba v.aP.aY+ba v.aP.Left+v.aP.aG.length+v.cz.bX.af.length+v.cz.aK.af.length)≤1073741824)(H:∀h',Pt az h0 h' (a0.add (i*45)) F L (apT v k)->N2 (some a0,l,c,((k+(29+ba v.aP.aY+ba v.aP.Left+v.aP.aG.length+v.cz.bX.af.length+v.cz.aK.af.length):Nat):Int),((i+1:Nat):Int)) h'):bh (ak.B25 N2 aa) (some a0,l,c,(k:Int),(i:Int),0) h:=by
 refine Kc (n:=2) (off:=11) ((bu.trans (dh.trans cW)).at rfl) (λ_=>rfl) (λ_ _ _=>rfl) (λ_ _=>rfl) P (by omega) (λN j hh hj Hs=>?_) λN hh P=>?_
 ·refine brd (λhc=>idxs (by omega) (by omega) (idx (by omega) (by omega) ?_)) λhc=>by omega
  rw[ag (by omega),ag (by omega)]
  refine gv (gv (gv ?_))
  simp only[Int.toNat_natCast]
  rw[show 5+(2+(4+j*1))=11+j*1 by omega]
  exact Hs
 ·unfold ak.B25
  refine brd (λhc=>by omega) λhc=>?_
  have w0:i64.wrap (((k+2:Nat):Int)+1)=((k+2+1:Nat):Int):=ag (by omega)
  simp only[w0]
  clear w0
  refine idxs (by omega) (by omega) (gv (P.stI (off:=13) λh' P=>?_))
  have Hn:=aeZ (N2:=N2) (aa:=aa) (c:=c) (k:=k+2+1) hi hl P (by (try dsimp only);omega) (by (try dsimp only);omega) (by (try dsimp only);omega) (by (try dsimp only);omega) (by (try dsimp only);omega) (by (try dsimp only);omega) λh' P=>?_
  ·exact Hn
  ·have:=H h' P
   rw[show k+(29+ba v.aP.aY+ba v.aP.Left+v.aP.aG.length+v.cz.bX.af.length+v.cz.aK.af.length)=k+2+1+(26+ba v.aP.aY+ba v.aP.Left+v.aP.aG.length+v.cz.bX.af.length+v.cz.aK.af.length) by omega] at this
   exact this
theorem aeX{N2:(Option Addr×Nat×Nat×Int×Int)->ab->Prop}{aa:Value->ab->Prop}{a0:Addr}{l c i k:Nat}{F:Fr}{L:List Blk}{v:aJ}(hi:i<l)(hl:l≤1073741824)(P:Pt az h0 h (a0.add (i*45)) F L v)(s0:du v.aP.aY≤1048576)(s1:du v.aP.Left≤1048576)(s2:v.aP.aG.length≤1048576)(s3:v.cz.bX.af.length≤1048576)(s4:v.cz.aK.af.length≤1048576)(hk:k+(32+ba v.aP.aY+ba v.aP.Left+v.aP.aG.length+v.cz.bX.af.length+v.cz.aK.af.length)≤1073741824)(H:∀h',Pt az h0 h' (a0.add (i*45)) F L (apS v k)->N2 (some a0,l,c,((k+(32+ba v.aP.aY+ba v.aP.Left+v.aP.aG.length+v.cz.bX.af.length+v.cz.aK.af.length):Nat):Int),((i+1:Nat):Int)) h'):bh (ak.B20 N2 aa) (some a0,l,c,(k:Int),(i:Int),0) h:=by
 refine Kc (n:=3) (off:=8) ((bu.trans (dh.trans cV)).at rfl) (λ_=>rfl) (λ_ _ _=>rfl) (λ_ _=>rfl) P (by omega) (λN j hh hj Hs=>?_) λN hh P=>?_
 ·refine brd (λhc=>idxs (by omega) (by omega) (idx (by omega) (by omega) ?_)) λhc=>by omega
  rw[ag (by omega),ag (by omega)]
  refine gv (gv (gv ?_))
  simp only[Int.toNat_natCast]
  rw[show 5+(2+(1+j*1))=8+j*1 by omega]
  exact Hs
 ·unfold ak.B20
  refine brd (λhc=>by omega) λhc=>?_
  have Hn:=aeY (N2:=N2) (aa:=aa) (c:=c) (k:=k+3) hi hl P (by (try dsimp only);omega) (by (try dsimp only);omega) (by (try dsimp only);omega) (by (try dsimp only);omega) (by (try dsimp only);omega) (by (try dsimp only);omega) λh' P=>?_
  ·exact Hn
  ·have:=H h' P
   rw[show k+(32+ba v.aP.aY+ba v.aP.Left+v.aP.aG.length+v.cz.bX.af.length+v.cz.aK.af.length)=k+3+(29+ba v.aP.aY+ba v.aP.Left+v.aP.aG.length+v.cz.bX.af.length+v.cz.aK.af.length) by omega] at this
   exact this
def je(v:aJ):Nat:=39+v.String.Loop.af.length+ba v.aP.aY+ba v.aP.Left+v.aP.aG.length+v.cz.bX.af.length+v.cz.aK.af.length
theorem PD{N2:(Option Addr×Nat×Nat×Int×Int)->ab->Prop}{aa:Value->ab->Prop}{a0:Addr}{l c i k:Nat}{F:Fr}{L:List Blk}{v:aJ}(hi:i<l)(hl:l≤1073741824)(P:Pt az h0 h (a0.add (i*45)) F L v)(s0:v.String.Loop.af.length≤1048576)(s1:du v.aP.aY≤1048576)(s2:du v.aP.Left≤1048576)(s3:v.aP.aG.length≤1048576)(s4:v.cz.bX.af.length≤1048576)(s5:v.cz.aK.af.length≤1048576)(hk:k+(39+v.String.Loop.af.length+ba v.aP.aY+ba v.aP.Left+v.aP.aG.length+v.cz.bX.af.length+v.cz.aK.af.length)≤1073741824)(H:∀h',Pt az h0 h' (a0.add (i*45)) F L (py v k)->N2 (some a0,l,c,((k+(39+v.String.Loop.af.length+ba v.aP.aY+ba v.aP.Left+v.aP.aG.length+v.cz.bX.af.length+v.cz.aK.af.length):Nat):Int),((i+1:Nat):Int)) h'):ak.B2 aa N2 (some a0,l,c,(k:Int),(i:Int)) h:=by
 unfold ak.B2
 refine brd (λhc=>?_) λhc=>by omega
 have w0:i64.wrap (((k:Nat):Int)+1)=((k+1:Nat):Int):=ag (by omega)
 have w1:i64.wrap (((k+1:Nat):Int)+1)=((k+2:Nat):Int):=ag (by omega)
 have w2:i64.wrap (((k+2:Nat):Int)+1)=((k+3:Nat):Int):=ag (by omega)
 have w3:i64.wrap (((k+3:Nat):Int)+1)=((k+4:Nat):Int):=ag (by omega)
 have w4:i64.wrap (((k+4:Nat):Int)+1)=((k+5:Nat):Int):=ag (by omega)
 simp only[w0,w1,w2,w3,w4]
 clear w0 w1 w2 w3 w4
 refine idxs (by omega) (by omega) (P.asN λh' P=>?_)
 refine idxs (by omega) (by omega) (P.stI (off:=1) λh' P=>?_)
 refine idxs (by omega) (by omega) (P.stI (off:=2) λh' P=>?_)
 refine nz (by decide) (idxs (by omega) (by omega) (P.stB (off:=3) λh' P=>?_))
 refine idxs (by omega) (by omega) (P.stF (off:=4) (dr _ _) λh' P=>?_)
 refine idxs (by omega) (by omega) ?_
 obtain⟨b2,l2,c2,Bs,Nn,eb,Ms,Os,Lm,back⟩:=P.slg XQ.f
 refine o_l eb ((lI Os Ms (k+5) (by dsimp only[cD];omega) (by dsimp only[aw];omega)).mono ?_)
 rintro _ h' ⟨rfl,B',O',M'⟩
 have P:=(back _ _ _ _ O' M').1
 clear back Os Ms Lm eb O' M'
 refine cX ?_
 dsimp only[aw] at P ⊢
 have w0:i64.wrap (((k+5+v.String.Loop.af.length:Nat):Int)+1)=((k+5+v.String.Loop.af.length+1:Nat):Int):=ag (by omega)
 have w1:i64.wrap (((k+5+v.String.Loop.af.length+1:Nat):Int)+1)=((k+5+v.String.Loop.af.length+2:Nat):Int):=ag (by omega)
 simp only[w0,w1]
 clear w0 w1
 refine idxs (by omega) (by omega) (gv (P.stI (off:=6) λh' P=>?_))
 refine idxs (by omega) (by omega) (gv (P.stI (off:=7) λh' P=>?_))
 have Hn:=aeX (N2:=N2) (aa:=aa) (c:=c) (k:=k+5+v.String.Loop.af.length+2) hi hl P (by (try dsimp only);omega) (by (try dsimp only);omega) (by (try dsimp only);omega) (by (try dsimp only);omega) (by (try dsimp only);omega) (by (try dsimp only);omega) λh' P=>?_
 ·exact Hn
 ·have:=H h' P
  rw[show k+(39+v.String.Loop.af.length+ba v.aP.aY+ba v.aP.Left+v.aP.aG.length+v.cz.bX.af.length+v.cz.aK.af.length)=k+5+v.String.Loop.af.length+2+(32+ba v.aP.aY+ba v.aP.Left+v.aP.aG.length+v.cz.bX.af.length+v.cz.aK.af.length) by omega] at this
  exact this
def aqh(u v:aJ)(k:Nat):Prop:=u.cz.gl.S=mkQ (k) 2∧u.cz.fG=f32.nearest ((k+2:Nat):Int)∧u.cz.fi=f32.nearest ((k+3:Nat):Int)
def aqg(u v:aJ)(k:Nat):Prop:=u.cz.gl.C=mkQ (k) 3∧aqh u v (k+3)
def aqf(u v:aJ)(k:Nat):Prop:=u.aP.End.S=mkQ (k) 2∧u.aP.Open=(Int.tmod ((k+2:Nat):Int) 3==0)∧u.aP.fi=f32.nearest ((k+3:Nat):Int)∧u.aP.Rest=f32.nearest ((k+4:Nat):Int)∧u.aP.fG=f32.nearest ((k+5:Nat):Int)∧u.cz.bX.af=fB v.cz.bX.af (k+6)∧u.cz.bX.At=((k+6+aw v.cz.bX.af:Nat):Int)∧u.cz.aK.af=fB v.cz.aK.af (k+6+aw v.cz.bX.af+1)∧u.cz.aK.At=((k+6+aw v.cz.bX.af+1+aw v.cz.aK.af:Nat):Int)∧u.cz.gl.Kind=((k+6+aw v.cz.bX.af+1+aw v.cz.aK.af+1:Nat):Int)∧aqg u v (k+6+aw v.cz.bX.af+1+aw v.cz.aK.af+2)
def aqe(u v:aJ)(k:Nat):Prop:=u.aP.End.C=mkQ (k) 3∧aqf u v (k+3)
def aqd(u v:aJ)(k:Nat):Prop:=u.String.gl.S=mkQ (k) 2∧u.String.fi=f32.nearest ((k+2:Nat):Int)∧u.aP.aY=sY v.aP.aY (k+3)∧u.aP.Left=sY v.aP.Left (k+3+ba v.aP.aY)∧u.aP.aG=fB v.aP.aG (k+3+ba v.aP.aY+ba v.aP.Left)∧u.aP.End.Kind=((k+3+ba v.aP.aY+ba v.aP.Left+aw v.aP.aG:Nat):Int)∧aqe u v (k+3+ba v.aP.aY+ba v.aP.Left+aw v.aP.aG+1)
def aqc(u v:aJ)(k:Nat):Prop:=u.String.gl.C=mkQ (k) 3∧aqd u v (k+3)
def aqb(u v:aJ)(k:Nat):Prop:=u.String.mK.S=mkQ (k) 2∧u.String.gl.Kind=((k+2:Nat):Int)∧aqc u v (k+3)
def aqa(u v:aJ)(k:Nat):Prop:=u.String.mK.C=mkQ (k) 3∧aqb u v (k+3)
def ajM(u v:aJ)(k:Nat):Prop:=u.aT=((k:Nat):Int)∧u.ar=((k+1:Nat):Int)∧u.lq=((k+2:Nat):Int)∧u.Gone=(Int.tmod ((k+3:Nat):Int) 3==0)∧u.ja=f32.nearest ((k+4:Nat):Int)∧u.String.Loop.af=fB v.String.Loop.af (k+5)∧u.String.Loop.At=((k+5+aw v.String.Loop.af:Nat):Int)∧u.String.mK.Kind=((k+5+aw v.String.Loop.af+1:Nat):Int)∧aqa u v (k+5+aw v.String.Loop.af+2)
theorem RdP.Mk{α:Type}{r:Rep α}{q:Addr}{x:α}{off:Nat}{get:α->Nat}{put:α->Nat->α}{m:Int}{K1 K2:Prop}(R:RdP r h q x)[Fc:dn r off (rF .f32) get put](e:get x=f32.nearest m)(H:K2):Sx.oF .f32 (Sx.cell h (q.add off)) λy=>BIF (f32.format.order y (f32.nearest m) != some .eq) K1 K2:=by
 refine R.oF λy hy=>?_
 rw[e] at hy
 obtain rfl:=hy.eq (dW _ _)
 exact dp (yq (dW _ _)) H
theorem RdP.HN{α:Type}{r:Rep α}{q:Addr}{x:α}{off:Nat}{get:α->Int}{put:α->Int->α}{m:Int}{K1 K2:Prop}(R:RdP r h q x)[Fc:dn r off (rI .i64) get put](e:get x=m)(H:K2):Sx.oI .i64 (Sx.cell h (q.add off)) λy=>BIF (y != m) K1 K2:=by
 refine R.oI ?_
 rw[e]
 exact dp (bne_self_eq_false _) H
theorem RdP.alJ{α:Type}{r:Rep α}{q:Addr}{x:α}{get:α->Int}{put:α->Int->α}{m:Int}{K1 K2:Prop}(R:RdP r h q x)[Fc:dn r 0 (rI .i64) get put](e:get x=m)(H:K2):Sx.oI .i64 (Sx.cell h q) λy=>BIF (y != m) K1 K2:=by
 refine R.oI1 ?_
 rw[e]
 exact dp (bne_self_eq_false _) H
theorem RdP.ajQ{α:Type}{r:Rep α}{q:Addr}{x:α}{off:Nat}{get:α->Bool}{put:α->Bool->α}{m:Bool}{K1 K2:Prop}(R:RdP r h q x)[Fc:dn r off rB get put](e:get x=m)(H:K2):Sx.oB (Sx.cell h (q.add off)) λy=>NZ 3 (BIF (!(y==m)) K1 K2):=by
 refine R.oB (nz (by decide) ?_)
 rw[e]
 exact dp (by simp) H
theorem jj{q:Addr}{a b:Nat}{K:Nat->Prop}(H:Sx.oF .f32 (Sx.cell h (q.add (a+b))) K):Sx.oF .f32 (Sx.cell h ((q.add a).add b)) K:=by rw[rX];exact H
theorem Ec{q:Addr}{a b:Nat}{K:Int->Prop}(H:Sx.oI .i64 (Sx.cell h (q.add (a+b))) K):Sx.oI .i64 (Sx.cell h ((q.add a).add b)) K:=by rw[rX];exact H
theorem amv{q:Addr}{a b:Nat}{K:Bool->Prop}(H:Sx.oB (Sx.cell h (q.add (a+b))) K):Sx.oB (Sx.cell h ((q.add a).add b)) K:=by rw[rX];exact H
theorem Y0{q:Addr}{a b:Nat}{K:Option Addr->Nat->Nat->Prop}(H:Sx.oL (Sx.cell h (q.add (a+b))) K):Sx.oL (Sx.cell h ((q.add a).add b)) K:=by rw[rX];exact H
theorem adV{N2:(Option Addr×Nat×Nat×Int×Int)->ab->Prop}{aa:Value->ab->Prop}{a0:Addr}{l c i k:Nat}{u v:aJ}(hi:i<l)(hl:l≤1073741824)(R:RdP az h (a0.add (i*45)) u)(E:aqh u v k)(hk:k+(4)≤1073741824)(H:∀h',Ext h h'->N2 (some a0,l,c,((k+(4):Nat):Int),((i+1:Nat):Int)) h'):bh (aj.agK N2 aa) (some a0,l,c,(k:Int),(i:Int),0) h:=by
 obtain⟨e0,e1,e2⟩:=E
 have f0:aw v.String.Loop.af=v.String.Loop.af.length:=rfl
 have f3:aw v.aP.aG=v.aP.aG.length:=rfl
 have f4:aw v.cz.bX.af=v.cz.bX.af.length:=rfl
 have f5:aw v.cz.aK.af=v.cz.aK.af.length:=rfl
 refine K5 (n:=2) (off:=41) (P1:=aa (.int .i64 (-1)) h) ((cm.trans (eP.trans cW)).at rfl) R e0 (by omega) (λN j hj Hs=>?_) λN=>?_
 ·refine brd (λhc=>idxs (by omega) (by omega) (idx (by omega) (by omega) ?_)) λhc=>by omega
  rw[ag (by omega),ag (by omega)]
  refine jj (jj (jj ?_))
  simp only[Int.toNat_natCast]
  rw[show 33+(4+(4+j*1))=41+j*1 by omega]
  exact Hs
 ·unfold aj.agK
  refine brd (λhc=>by omega) λhc=>?_
  have X:=Ext.refl h
  have w0:i64.wrap (((k+2:Nat):Int)+1)=((k+3:Nat):Int):=ag (by omega)
  have w1:i64.wrap (((k+3:Nat):Int)+1)=((k+4:Nat):Int):=ag (by omega)
  simp only[w0,w1]
  clear w0 w1
  refine idxs (by omega) (by omega) (jj (R.Mk (off:=43) e1 ?_))
  refine idxs (by omega) (by omega) (jj (R.Mk (off:=44) e2 ?_))
  rw[ag (by omega)]
  exact H _ X
theorem adU{N2:(Option Addr×Nat×Nat×Int×Int)->ab->Prop}{aa:Value->ab->Prop}{a0:Addr}{l c i k:Nat}{u v:aJ}(hi:i<l)(hl:l≤1073741824)(R:RdP az h (a0.add (i*45)) u)(E:aqg u v k)(hk:k+(7)≤1073741824)(H:∀h',Ext h h'->N2 (some a0,l,c,((k+(7):Nat):Int),((i+1:Nat):Int)) h'):bh (aj.agJ N2 aa) (some a0,l,c,(k:Int),(i:Int),0) h:=by
 obtain⟨e0,E⟩:=E
 have f0:aw v.String.Loop.af=v.String.Loop.af.length:=rfl
 have f3:aw v.aP.aG=v.aP.aG.length:=rfl
 have f4:aw v.cz.bX.af=v.cz.bX.af.length:=rfl
 have f5:aw v.cz.aK.af=v.cz.aK.af.length:=rfl
 refine K5 (n:=3) (off:=38) (P1:=aa (.int .i64 (-1)) h) ((cm.trans (eP.trans cV)).at rfl) R e0 (by omega) (λN j hj Hs=>?_) λN=>?_
 ·refine brd (λhc=>idxs (by omega) (by omega) (idx (by omega) (by omega) ?_)) λhc=>by omega
  rw[ag (by omega),ag (by omega)]
  refine jj (jj (jj ?_))
  simp only[Int.toNat_natCast]
  rw[show 33+(4+(1+j*1))=38+j*1 by omega]
  exact Hs
 ·unfold aj.agJ
  refine brd (λhc=>by omega) λhc=>?_
  have X:=Ext.refl h
  have Hn:=adV (N2:=N2) (aa:=aa) (c:=c) (k:=k+3) hi hl R E  (by omega) λh' x'=>?_
  ·exact Hn
  ·have:=H h' (X.trans x')
   rw[show k+(7)=k+3+(4) by omega] at this
   exact this
theorem adT{N2:(Option Addr×Nat×Nat×Int×Int)->ab->Prop}{aa:Value->ab->Prop}{a0:Addr}{l c i k:Nat}{u v:aJ}(hi:i<l)(hl:l≤1073741824)(R:RdP az h (a0.add (i*45)) u)(E:aqf u v k)(s0:v.cz.bX.af.length≤1048576)(s1:v.cz.aK.af.length≤1048576)(hk:k+(16+v.cz.bX.af.length+v.cz.aK.af.length)≤1073741824)(H:∀h',Ext h h'->N2 (some a0,l,c,((k+(16+v.cz.bX.af.length+v.cz.aK.af.length):Nat):Int),((i+1:Nat):Int)) h'):bh (aj.B77 N2 aa) (some a0,l,c,(k:Int),(i:Int),0) h:=by
 obtain⟨e0,e1,e2,e3,e4,e5,e6,e7,e8,e9,E⟩:=E
 have f0:aw v.String.Loop.af=v.String.Loop.af.length:=rfl
 have f3:aw v.aP.aG=v.aP.aG.length:=rfl
 have f4:aw v.cz.bX.af=v.cz.bX.af.length:=rfl
 have f5:aw v.cz.aK.af=v.cz.aK.af.length:=rfl
 refine K5 (n:=2) (off:=27) (P1:=aa (.int .i64 (-1)) h) ((bV.trans (dO.trans cW)).at rfl) R e0 (by omega) (λN j hj Hs=>?_) λN=>?_
 ·refine brd (λhc=>idxs (by omega) (by omega) (idx (by omega) (by omega) ?_)) λhc=>by omega
  rw[ag (by omega),ag (by omega)]
  refine jj (jj (jj ?_))
  simp only[Int.toNat_natCast]
  rw[show 20+(3+(4+j*1))=27+j*1 by omega]
  exact Hs
 ·unfold aj.B77
  refine brd (λhc=>by omega) λhc=>?_
  have X:=Ext.refl h
  have w0:i64.wrap (((k+2:Nat):Int)+1)=((k+3:Nat):Int):=ag (by omega)
  have w1:i64.wrap (((k+3:Nat):Int)+1)=((k+4:Nat):Int):=ag (by omega)
  have w2:i64.wrap (((k+4:Nat):Int)+1)=((k+5:Nat):Int):=ag (by omega)
  have w3:i64.wrap (((k+5:Nat):Int)+1)=((k+6:Nat):Int):=ag (by omega)
  simp only[w0,w1,w2,w3]
  clear w0 w1 w2 w3
  refine idxs (by omega) (by omega) (amv (R.ajQ (off:=29) e1 ?_))
  refine idxs (by omega) (by omega) (jj (R.Mk (off:=30) e2 ?_))
  refine idxs (by omega) (by omega) (jj (R.Mk (off:=31) e3 ?_))
  refine idxs (by omega) (by omega) (jj (R.Mk (off:=32) e4 ?_))
  refine idxs (by omega) (by omega) (R.oL (off:=33) λb1 l1 c1 S1=>?_)
  rw[e5] at S1
  refine goX (lH (xs:=v.cz.bX.af) (k+6) S1 (by (try dsimp only[cD]);omega) (by (try dsimp only[aw]);omega)) λh' x'=>cX (dp (decide_eq_false (by omega)) ?_)
  have R:=R.ext x'
  have X:=X.trans x'
  clear S1
  have w0:i64.wrap (((k+6+aw v.cz.bX.af:Nat):Int)+1)=((k+6+aw v.cz.bX.af+1:Nat):Int):=ag (by omega)
  simp only[w0]
  clear w0
  refine idxs (by omega) (by omega) (Ec (R.HN (off:=34) e6 ?_))
  refine idxs (by omega) (by omega) (Y0 (R.oL (off:=35) λb1 l1 c1 S1=>?_))
  rw[e7] at S1
  refine goX (lH (xs:=v.cz.aK.af) (k+6+aw v.cz.bX.af+1) S1 (by (try dsimp only[cD]);omega) (by (try dsimp only[aw]);omega)) λh' x'=>cX (dp (decide_eq_false (by omega)) ?_)
  have R:=R.ext x'
  have X:=X.trans x'
  clear S1
  have w0:i64.wrap (((k+6+aw v.cz.bX.af+1+aw v.cz.aK.af:Nat):Int)+1)=((k+6+aw v.cz.bX.af+1+aw v.cz.aK.af+1:Nat):Int):=ag (by omega)
  have w1:i64.wrap (((k+6+aw v.cz.bX.af+1+aw v.cz.aK.af+1:Nat):Int)+1)=((k+6+aw v.cz.bX.af+1+aw v.cz.aK.af+2:Nat):Int):=ag (by omega)
  simp only[w0,w1]
  clear w0 w1
  refine idxs (by omega) (by omega) (Ec (Ec (R.HN (off:=36) e8 ?_)))
  refine idxs (by omega) (by omega) (Ec (R.HN (off:=37) e9 ?_))
  have Hn:=adU (N2:=N2) (aa:=aa) (c:=c) (k:=k+6+aw v.cz.bX.af+1+aw v.cz.aK.af+2) hi hl R E  (by omega) λh' x'=>?_
  ·exact Hn
  ·have:=H h' (X.trans x')
   rw[show k+(16+v.cz.bX.af.length+v.cz.aK.af.length)=k+6+aw v.cz.bX.af+1+aw v.cz.aK.af+2+(7) by omega] at this
   exact this
theorem adS{N2:(Option Addr×Nat×Nat×Int×Int)->ab->Prop}{aa:Value->ab->Prop}{a0:Addr}{l c i k:Nat}{u v:aJ}(hi:i<l)(hl:l≤1073741824)(R:RdP az h (a0.add (i*45)) u)(E:aqe u v k)(s0:v.cz.bX.af.length≤1048576)(s1:v.cz.aK.af.length≤1048576)(hk:k+(19+v.cz.bX.af.length+v.cz.aK.af.length)≤1073741824)(H:∀h',Ext h h'->N2 (some a0,l,c,((k+(19+v.cz.bX.af.length+v.cz.aK.af.length):Nat):Int),((i+1:Nat):Int)) h'):bh (aj.B71 N2 aa) (some a0,l,c,(k:Int),(i:Int),0) h:=by
 obtain⟨e0,E⟩:=E
 have f0:aw v.String.Loop.af=v.String.Loop.af.length:=rfl
 have f3:aw v.aP.aG=v.aP.aG.length:=rfl
 have f4:aw v.cz.bX.af=v.cz.bX.af.length:=rfl
 have f5:aw v.cz.aK.af=v.cz.aK.af.length:=rfl
 refine K5 (n:=3) (off:=24) (P1:=aa (.int .i64 (-1)) h) ((bV.trans (dO.trans cV)).at rfl) R e0 (by omega) (λN j hj Hs=>?_) λN=>?_
 ·refine brd (λhc=>idxs (by omega) (by omega) (idx (by omega) (by omega) ?_)) λhc=>by omega
  rw[ag (by omega),ag (by omega)]
  refine jj (jj (jj ?_))
  simp only[Int.toNat_natCast]
  rw[show 20+(3+(1+j*1))=24+j*1 by omega]
  exact Hs
 ·unfold aj.B71
  refine brd (λhc=>by omega) λhc=>?_
  have X:=Ext.refl h
  have Hn:=adT (N2:=N2) (aa:=aa) (c:=c) (k:=k+3) hi hl R E (by omega) (by omega) (by omega) λh' x'=>?_
  ·exact Hn
  ·have:=H h' (X.trans x')
   rw[show k+(19+v.cz.bX.af.length+v.cz.aK.af.length)=k+3+(16+v.cz.bX.af.length+v.cz.aK.af.length) by omega] at this
   exact this
theorem adR{N2:(Option Addr×Nat×Nat×Int×Int)->ab->Prop}{aa:Value->ab->Prop}{a0:Addr}{l c i k:Nat}{u v:aJ}(hi:i<l)(hl:l≤1073741824)(R:RdP az h (a0.add (i*45)) u)(E:aqd u v k)(s0:du v.aP.aY≤1048576)(s1:du v.aP.Left≤1048576)(s2:v.aP.aG.length≤1048576)(s3:v.cz.bX.af.length≤1048576)(s4:v.cz.aK.af.length≤1048576)(hk:k+(23+ba v.aP.aY+ba v.aP.Left+v.aP.aG.length+v.cz.bX.af.length+v.cz.aK.af.length)≤1073741824)(H:∀h',Ext h h'->N2 (some a0,l,c,((k+(23+ba v.aP.aY+ba v.aP.Left+v.aP.aG.length+v.cz.bX.af.length+v.cz.aK.af.length):Nat):Int),((i+1:Nat):Int)) h'):bh (aj.B50 N2 aa) (some a0,l,c,(k:Int),(i:Int),0) h:=by
 obtain⟨e0,e1,e2,e3,e4,e5,E⟩:=E
 have f0:aw v.String.Loop.af=v.String.Loop.af.length:=rfl
 have f3:aw v.aP.aG=v.aP.aG.length:=rfl
 have f4:aw v.cz.bX.af=v.cz.bX.af.length:=rfl
 have f5:aw v.cz.aK.af=v.cz.aK.af.length:=rfl
 refine K5 (n:=2) (off:=17) (P1:=aa (.int .i64 (-1)) h) ((bu.trans (df.trans cW)).at rfl) R e0 (by omega) (λN j hj Hs=>?_) λN=>?_
 ·refine brd (λhc=>idxs (by omega) (by omega) (idx (by omega) (by omega) ?_)) λhc=>by omega
  rw[ag (by omega),ag (by omega)]
  refine jj (jj (jj ?_))
  simp only[Int.toNat_natCast]
  rw[show 5+(8+(4+j*1))=17+j*1 by omega]
  exact Hs
 ·unfold aj.B50
  refine brd (λhc=>by omega) λhc=>?_
  have X:=Ext.refl h
  have w0:i64.wrap (((k+2:Nat):Int)+1)=((k+3:Nat):Int):=ag (by omega)
  simp only[w0]
  clear w0
  refine idxs (by omega) (by omega) (jj (R.Mk (off:=19) e1 ?_))
  refine idxs (by omega) (by omega) (R.oL (off:=20) λb1 l1 c1 S1=>?_)
  rw[e2] at S1
  refine goX (HO (xs:=v.aP.aY) (k+3) S1 (by (try dsimp only[cD]);omega) (by (try dsimp only[aw]);omega)) λh' x'=>cX (dp (decide_eq_false (by omega)) ?_)
  have R:=R.ext x'
  have X:=X.trans x'
  clear S1
  refine idxs (by omega) (by omega) (Y0 (R.oL (off:=21) λb1 l1 c1 S1=>?_))
  rw[e3] at S1
  refine goX (HO (xs:=v.aP.Left) (k+3+ba v.aP.aY) S1 (by (try dsimp only[cD]);omega) (by (try dsimp only[aw]);omega)) λh' x'=>cX (dp (decide_eq_false (by omega)) ?_)
  have R:=R.ext x'
  have X:=X.trans x'
  clear S1
  refine idxs (by omega) (by omega) (Y0 (R.oL (off:=22) λb1 l1 c1 S1=>?_))
  rw[e4] at S1
  refine goX (lH (xs:=v.aP.aG) (k+3+ba v.aP.aY+ba v.aP.Left) S1 (by (try dsimp only[cD]);omega) (by (try dsimp only[aw]);omega)) λh' x'=>cX (dp (decide_eq_false (by omega)) ?_)
  have R:=R.ext x'
  have X:=X.trans x'
  clear S1
  have w0:i64.wrap (((k+3+ba v.aP.aY+ba v.aP.Left+aw v.aP.aG:Nat):Int)+1)=((k+3+ba v.aP.aY+ba v.aP.Left+aw v.aP.aG+1:Nat):Int):=ag (by omega)
  simp only[w0]
  clear w0
  refine idxs (by omega) (by omega) (Ec (R.HN (off:=23) e5 ?_))
  have Hn:=adS (N2:=N2) (aa:=aa) (c:=c) (k:=k+3+ba v.aP.aY+ba v.aP.Left+aw v.aP.aG+1) hi hl R E (by omega) (by omega) (by omega) λh' x'=>?_
  ·exact Hn
  ·have:=H h' (X.trans x')
   rw[show k+(23+ba v.aP.aY+ba v.aP.Left+v.aP.aG.length+v.cz.bX.af.length+v.cz.aK.af.length)=k+3+ba v.aP.aY+ba v.aP.Left+aw v.aP.aG+1+(19+v.cz.bX.af.length+v.cz.aK.af.length) by omega] at this
   exact this
theorem adQ{N2:(Option Addr×Nat×Nat×Int×Int)->ab->Prop}{aa:Value->ab->Prop}{a0:Addr}{l c i k:Nat}{u v:aJ}(hi:i<l)(hl:l≤1073741824)(R:RdP az h (a0.add (i*45)) u)(E:aqc u v k)(s0:du v.aP.aY≤1048576)(s1:du v.aP.Left≤1048576)(s2:v.aP.aG.length≤1048576)(s3:v.cz.bX.af.length≤1048576)(s4:v.cz.aK.af.length≤1048576)(hk:k+(26+ba v.aP.aY+ba v.aP.Left+v.aP.aG.length+v.cz.bX.af.length+v.cz.aK.af.length)≤1073741824)(H:∀h',Ext h h'->N2 (some a0,l,c,((k+(26+ba v.aP.aY+ba v.aP.Left+v.aP.aG.length+v.cz.bX.af.length+v.cz.aK.af.length):Nat):Int),((i+1:Nat):Int)) h'):bh (aj.B44 N2 aa) (some a0,l,c,(k:Int),(i:Int),0) h:=by
 obtain⟨e0,E⟩:=E
 have f0:aw v.String.Loop.af=v.String.Loop.af.length:=rfl
 have f3:aw v.aP.aG=v.aP.aG.length:=rfl
 have f4:aw v.cz.bX.af=v.cz.bX.af.length:=rfl
 have f5:aw v.cz.aK.af=v.cz.aK.af.length:=rfl
 refine K5 (n:=3) (off:=14) (P1:=aa (.int .i64 (-1)) h) ((bu.trans (df.trans cV)).at rfl) R e0 (by omega) (λN j hj Hs=>?_) λN=>?_
 ·refine brd (λhc=>idxs (by omega) (by omega) (idx (by omega) (by omega) ?_)) λhc=>by omega
  rw[ag (by omega),ag (by omega)]
  refine jj (jj (jj ?_))
  simp only[Int.toNat_natCast]
  rw[show 5+(8+(1+j*1))=14+j*1 by omega]
  exact Hs
 ·unfold aj.B44
  refine brd (λhc=>by omega) λhc=>?_
  have X:=Ext.refl h
  have Hn:=adR (N2:=N2) (aa:=aa) (c:=c) (k:=k+3) hi hl R E (by omega) (by omega) (by omega) (by omega) (by omega) (by omega) λh' x'=>?_
  ·exact Hn
  ·have:=H h' (X.trans x')
   rw[show k+(26+ba v.aP.aY+ba v.aP.Left+v.aP.aG.length+v.cz.bX.af.length+v.cz.aK.af.length)=k+3+(23+ba v.aP.aY+ba v.aP.Left+v.aP.aG.length+v.cz.bX.af.length+v.cz.aK.af.length) by omega] at this
   exact this
theorem adP{N2:(Option Addr×Nat×Nat×Int×Int)->ab->Prop}{aa:Value->ab->Prop}{a0:Addr}{l c i k:Nat}{u v:aJ}(hi:i<l)(hl:l≤1073741824)(R:RdP az h (a0.add (i*45)) u)(E:aqb u v k)(s0:du v.aP.aY≤1048576)(s1:du v.aP.Left≤1048576)(s2:v.aP.aG.length≤1048576)(s3:v.cz.bX.af.length≤1048576)(s4:v.cz.aK.af.length≤1048576)(hk:k+(29+ba v.aP.aY+ba v.aP.Left+v.aP.aG.length+v.cz.bX.af.length+v.cz.aK.af.length)≤1073741824)(H:∀h',Ext h h'->N2 (some a0,l,c,((k+(29+ba v.aP.aY+ba v.aP.Left+v.aP.aG.length+v.cz.bX.af.length+v.cz.aK.af.length):Nat):Int),((i+1:Nat):Int)) h'):bh (aj.B35 N2 aa) (some a0,l,c,(k:Int),(i:Int),0) h:=by
 obtain⟨e0,e1,E⟩:=E
 have f0:aw v.String.Loop.af=v.String.Loop.af.length:=rfl
 have f3:aw v.aP.aG=v.aP.aG.length:=rfl
 have f4:aw v.cz.bX.af=v.cz.bX.af.length:=rfl
 have f5:aw v.cz.aK.af=v.cz.aK.af.length:=rfl
 refine K5 (n:=2) (off:=11) (P1:=aa (.int .i64 (-1)) h) ((bu.trans (dh.trans cW)).at rfl) R e0 (by omega) (λN j hj Hs=>?_) λN=>?_
 ·refine brd (λhc=>idxs (by omega) (by omega) (idx (by omega) (by omega) ?_)) λhc=>by omega
  rw[ag (by omega),ag (by omega)]
  refine jj (jj (jj ?_))
  simp only[Int.toNat_natCast]
  rw[show 5+(2+(4+j*1))=11+j*1 by omega]
  exact Hs
 ·unfold aj.B35
  refine brd (λhc=>by omega) λhc=>?_
  have X:=Ext.refl h
  have w0:i64.wrap (((k+2:Nat):Int)+1)=((k+3:Nat):Int):=ag (by omega)
  simp only[w0]
  clear w0
  refine idxs (by omega) (by omega) (Ec (R.HN (off:=13) e1 ?_))
  have Hn:=adQ (N2:=N2) (aa:=aa) (c:=c) (k:=k+3) hi hl R E (by omega) (by omega) (by omega) (by omega) (by omega) (by omega) λh' x'=>?_
  ·exact Hn
  ·have:=H h' (X.trans x')
   rw[show k+(29+ba v.aP.aY+ba v.aP.Left+v.aP.aG.length+v.cz.bX.af.length+v.cz.aK.af.length)=k+3+(26+ba v.aP.aY+ba v.aP.Left+v.aP.aG.length+v.cz.bX.af.length+v.cz.aK.af.length) by omega] at this
   exact this
theorem adO{N2:(Option Addr×Nat×Nat×Int×Int)->ab->Prop}{aa:Value->ab->Prop}{a0:Addr}{l c i k:Nat}{u v:aJ}(hi:i<l)(hl:l≤1073741824)(R:RdP az h (a0.add (i*45)) u)(E:aqa u v k)(s0:du v.aP.aY≤1048576)(s1:du v.aP.Left≤1048576)(s2:v.aP.aG.length≤1048576)(s3:v.cz.bX.af.length≤1048576)(s4:v.cz.aK.af.length≤1048576)(hk:k+(32+ba v.aP.aY+ba v.aP.Left+v.aP.aG.length+v.cz.bX.af.length+v.cz.aK.af.length)≤1073741824)(H:∀h',Ext h h'->N2 (some a0,l,c,((k+(32+ba v.aP.aY+ba v.aP.Left+v.aP.aG.length+v.cz.bX.af.length+v.cz.aK.af.length):Nat):Int),((i+1:Nat):Int)) h'):bh (aj.B29 N2 aa) (some a0,l,c,(k:Int),(i:Int),0) h:=by
 obtain⟨e0,E⟩:=E
 have f0:aw v.String.Loop.af=v.String.Loop.af.length:=rfl
 have f3:aw v.aP.aG=v.aP.aG.length:=rfl
 have f4:aw v.cz.bX.af=v.cz.bX.af.length:=rfl
 have f5:aw v.cz.aK.af=v.cz.aK.af.length:=rfl
 refine K5 (n:=3) (off:=8) (P1:=aa (.int .i64 (-1)) h) ((bu.trans (dh.trans cV)).at rfl) R e0 (by omega) (λN j hj Hs=>?_) λN=>?_
 ·refine brd (λhc=>idxs (by omega) (by omega) (idx (by omega) (by omega) ?_)) λhc=>by omega
  rw[ag (by omega),ag (by omega)]
  refine jj (jj (jj ?_))
  simp only[Int.toNat_natCast]
  rw[show 5+(2+(1+j*1))=8+j*1 by omega]
  exact Hs
 ·unfold aj.B29
  refine brd (λhc=>by omega) λhc=>?_
  have X:=Ext.refl h
  have Hn:=adP (N2:=N2) (aa:=aa) (c:=c) (k:=k+3) hi hl R E (by omega) (by omega) (by omega) (by omega) (by omega) (by omega) λh' x'=>?_
  ·exact Hn
  ·have:=H h' (X.trans x')
   rw[show k+(32+ba v.aP.aY+ba v.aP.Left+v.aP.aG.length+v.cz.bX.af.length+v.cz.aK.af.length)=k+3+(29+ba v.aP.aY+ba v.aP.Left+v.aP.aG.length+v.cz.bX.af.length+v.cz.aK.af.length) by omega] at this
   exact this
theorem aaO{N2:(Option Addr×Nat×Nat×Int×Int)->ab->Prop}{aa:Value->ab->Prop}{a0:Addr}{l c i k:Nat}{u v:aJ}(hi:i<l)(hl:l≤1073741824)(R:RdP az h (a0.add (i*45)) u)(E:ajM u v k)(s0:v.String.Loop.af.length≤1048576)(s1:du v.aP.aY≤1048576)(s2:du v.aP.Left≤1048576)(s3:v.aP.aG.length≤1048576)(s4:v.cz.bX.af.length≤1048576)(s5:v.cz.aK.af.length≤1048576)(hk:k+(39+v.String.Loop.af.length+ba v.aP.aY+ba v.aP.Left+v.aP.aG.length+v.cz.bX.af.length+v.cz.aK.af.length)≤1073741824)(H:∀h',Ext h h'->N2 (some a0,l,c,((k+(39+v.String.Loop.af.length+ba v.aP.aY+ba v.aP.Left+v.aP.aG.length+v.cz.bX.af.length+v.cz.aK.af.length):Nat):Int),((i+1:Nat):Int)) h'):aj.B2 aa N2 (some a0,l,c,(k:Int),(i:Int)) h:=by
 obtain⟨e0,e1,e2,e3,e4,e5,e6,e7,E⟩:=E
 have f0:aw v.String.Loop.af=v.String.Loop.af.length:=rfl
 have f3:aw v.aP.aG=v.aP.aG.length:=rfl
 have f4:aw v.cz.bX.af=v.cz.bX.af.length:=rfl
 have f5:aw v.cz.aK.af=v.cz.aK.af.length:=rfl
 unfold aj.B2
 refine brd (λhc=>?_) λhc=>by omega
 have X:=Ext.refl h
 have w0:i64.wrap (((k:Nat):Int)+1)=((k+1:Nat):Int):=ag (by omega)
 have w1:i64.wrap (((k+1:Nat):Int)+1)=((k+2:Nat):Int):=ag (by omega)
 have w2:i64.wrap (((k+2:Nat):Int)+1)=((k+3:Nat):Int):=ag (by omega)
 have w3:i64.wrap (((k+3:Nat):Int)+1)=((k+4:Nat):Int):=ag (by omega)
 have w4:i64.wrap (((k+4:Nat):Int)+1)=((k+5:Nat):Int):=ag (by omega)
 simp only[w0,w1,w2,w3,w4]
 clear w0 w1 w2 w3 w4
 refine idxs (by omega) (by omega) (R.alJ e0 ?_)
 refine idxs (by omega) (by omega) (R.HN (off:=1) e1 ?_)
 refine idxs (by omega) (by omega) (R.HN (off:=2) e2 ?_)
 refine idxs (by omega) (by omega) (R.ajQ (off:=3) e3 ?_)
 refine idxs (by omega) (by omega) (R.Mk (off:=4) e4 ?_)
 refine idxs (by omega) (by omega) (R.oL (off:=5) λb1 l1 c1 S1=>?_)
 rw[e5] at S1
 refine goX (lH (xs:=v.String.Loop.af) (k+5) S1 (by (try dsimp only[cD]);omega) (by (try dsimp only[aw]);omega)) λh' x'=>cX (dp (decide_eq_false (by omega)) ?_)
 have R:=R.ext x'
 have X:=X.trans x'
 clear S1
 have w0:i64.wrap (((k+5+aw v.String.Loop.af:Nat):Int)+1)=((k+5+aw v.String.Loop.af+1:Nat):Int):=ag (by omega)
 have w1:i64.wrap (((k+5+aw v.String.Loop.af+1:Nat):Int)+1)=((k+5+aw v.String.Loop.af+2:Nat):Int):=ag (by omega)
 simp only[w0,w1]
 clear w0 w1
 refine idxs (by omega) (by omega) (Ec (R.HN (off:=6) e6 ?_))
 refine idxs (by omega) (by omega) (Ec (R.HN (off:=7) e7 ?_))
 have Hn:=adO (N2:=N2) (aa:=aa) (c:=c) (k:=k+5+aw v.String.Loop.af+2) hi hl R E (by omega) (by omega) (by omega) (by omega) (by omega) (by omega) λh' x'=>?_
 ·exact Hn
 ·have:=H h' (X.trans x')
  rw[show k+(39+v.String.Loop.af.length+ba v.aP.aY+ba v.aP.Left+v.aP.aG.length+v.cz.bX.af.length+v.cz.aK.af.length)=k+5+aw v.String.Loop.af+2+(32+ba v.aP.aY+ba v.aP.Left+v.aP.aG.length+v.cz.bX.af.length+v.cz.aK.af.length) by omega] at this
  exact this
theorem aqi(v:aJ)(k:Nat):ajM (py v k) v k:=
 ⟨rfl,rfl,rfl,rfl,rfl,rfl,rfl,rfl,rfl,rfl,rfl,rfl,rfl,rfl,rfl,rfl,rfl,rfl,rfl,rfl,rfl,rfl,rfl,rfl,rfl,rfl,rfl,rfl,rfl,rfl,rfl,rfl,rfl⟩
theorem As(v:aJ):j0 v=v.String.Loop.af.length+(du v.aP.aY+du v.aP.Left+v.aP.aG.length)+(v.cz.bX.af.length+v.cz.aK.af.length):=rfl
theorem abx(v:aJ):je v≤39+8*j0 v:=by
 have h1:=Vg v.aP.aY
 have h2:=Vg v.aP.Left
 have h3:=As v
 unfold je
 omega
def nF(xs:List aJ):Nat:=nL je xs
def xn(xs:List aJ)(k:Nat):List aJ:=mkL py je xs k
theorem abA(xs:List aJ):nF xs≤64*kI xs:=by
 unfold nF kI
 induction xs with
 | nil=>simp[nL]
 | cons x xs ih=>
  have:=abx x
  simp only[nL,List.length_cons] at *;omega
theorem PC{h0:ab}{B L:List Blk}{b:Option Addr}{l c:Nat}{xs:List aJ}(O0:SlO ao az B b l c xs)(M0:Mem h0 h (B++L))(k:Nat)(GI:kI xs≤1048576)(hk:k+nF xs≤1073741824):
  ae ai sw #[.slice b l c,.int .i64 (k:Int)] (λu h'=>u = .int .i64 ((k+nF xs:Nat):Int)∧∃B',SlO ao az B' b l c (xn xs k)∧Mem h0 h' (B'++L)) h:=by
 have hx:=O0.len
 have hw:kI xs=xs.length+nL j0 xs:=rfl
 refine ak.call ?_
 refine loop (λx hh=>∃(n:Nat) (B:List Blk),x=(b,l,c,((k+nL je (xs.take n):Nat):Int),(n:Int))∧n≤l∧SlO ao az B b l c (mkL py je (xs.take n) k++xs.drop n)∧Mem h0 hh (B++L)) (λx=>(l-x.2.2.2.2).toNat) ⟨0,B,rfl,by omega,by simpa [mkL] using O0,M0⟩ ?_
 rintro x hh ⟨n,B,rfl,hn,O,M⟩
 by_cases hc:n<l
 ·have h4:=zb (n:=je) (xs:=xs) (i:=n) (by omega)
  have h5:nL je (xs.take (n+1))≤nF xs:=oN xs (n+1)
  have h6:j0 xs[n]! ≤ nL j0 xs:=GU (by omega)
  have h7:=As xs[n]!
  obtain⟨a0,F',L',rfl,P,hs,close⟩:=O.elem M (i:=n) (by omega)
  rw[T0 (by omega)] at P
  have P:Pt az h0 hh (a0.add (n*45)) F' L' xs[n]!:=P
  refine PD (by omega) (by omega) P (by omega) (by omega) (by omega) (by omega) (by omega) (by omega) (by show k+nL je (xs.take n)+je xs[n]! ≤ _;omega) λh' P=>?_
  obtain⟨B',O',M'⟩:=close _ _ _ P
  have st:=I7 (mk:=py) (n:=je) (k:=k) (xs:=xs) (i:=n) (by omega)
  have O':SlO ao az B' (some a0) l c ((mkL py je (xs.take n) k++xs.drop n).set n (py xs[n]! (k+nL je (xs.take n)))):=O'
  rw[st] at O'
  refine ⟨⟨n+1,B',?_,by omega,O',M'⟩,by show _<_;simp;omega⟩
  rw[h4,Nat.add_assoc]
  rfl
 ·unfold ak.B2
  refine brd (λhc=>by omega) λ_=>?_
  obtain rfl:n=l:=by omega
  have e:xs.take n=xs:=by rw[← hx];exact List.take_length
  have e2:xs.drop n=[]:=List.drop_of_length_le (by omega)
  rw[e,e2,List.append_nil] at O
  rw[e]
  exact ⟨rfl,B,O,M⟩
theorem Pk{b:Option Addr}{l c:Nat}{xs:List aJ}(k:Nat)(S:SlR az h b l c (xn xs k))(GI:kI xs≤1048576)(hk:k+nF xs≤1073741824):
  ae ai sr #[.slice b l c,.int .i64 (k:Int)] (λu h'=>u = .int .i64 ((k+nF xs:Nat):Int)∧Ext h h') h:=by
 have hx:xs.length=l:=by have:=S.len;rwa [xn,Cl] at this
 have hw:kI xs=xs.length+nL j0 xs:=rfl
 refine aj.call ?_
 refine loop (λx hh=>∃n:Nat,x=(b,l,c,((k+nL je (xs.take n):Nat):Int),(n:Int))∧n≤l∧Ext h hh) (λx=>(l-x.2.2.2.2).toNat) ⟨0,rfl,by omega,Ext.refl _⟩ ?_
 rintro x hh ⟨n,rfl,hn,X⟩
 by_cases hc:n<l
 ·have h4:=zb (n:=je) (xs:=xs) (i:=n) (by omega)
  have h5:nL je (xs.take (n+1))≤nF xs:=oN xs (n+1)
  have h6:j0 xs[n]! ≤ nL j0 xs:=GU (by omega)
  have h7:=As xs[n]!
  have hm:(xn xs k)[n]! = py xs[n]! (k+nL je (xs.take n)):=by unfold xn;rw[Lp (by omega)]
  obtain⟨a0,rfl,R⟩:=(S.ext X).elem (i:=n) hc Bf
  rw[hm] at R
  have R:RdP az hh (a0.add (n*45)) (py xs[n]! (k+nL je (xs.take n))):=R
  refine aaO (v:=xs[n]!) hc (by omega) R (aqi _ _) (by omega) (by omega) (by omega) (by omega) (by omega) (by omega) (by show k+nL je (xs.take n)+je xs[n]! ≤ _;omega) λh' x'=>?_
  refine ⟨⟨n+1,?_,by omega,X.trans x'⟩,by show _<_;simp;omega⟩
  rw[h4,Nat.add_assoc]
  rfl
 ·unfold aj.B2
  refine brd (λhc=>by omega) λ_=>?_
  obtain rfl:n=l:=by omega
  have e:xs.take n=xs:=by rw[← hx];exact List.take_length
  rw[e]
  exact ⟨rfl,X⟩
def qh(x:ay):Nat:=lU x.Score+nF x.al
def Qu(x:ay)(k:Nat):ay:={ x with Score:=MN x.Score (k),al:=xn x.al (k+lU x.Score) }
theorem Qz(x:ay):qh x≤64*lh x:=by
 have h0:=afh x.Score
 have h1:=abA x.al
 have e1:qh x=lU x.Score+nF x.al:=rfl
 have e2:lh x=kz x.Score+kI x.al:=rfl
 omega
theorem FZ{h0:ab}{B L:List Blk}{cs:Array Value}{x:ay}(O:aR.ow B cs.toList x)(M:Mem h0 h (B++L))(k:Nat)(GI:lh x≤1048576)(hk:k+qh x≤1073741824):
  ae ai km #[.agg cs,.int .i64 (k:Int)] (λu h'=>u = .int .i64 ((k+qh x:Nat):Int)∧∃B',aR.ow B' cs.toList (Qu x k)∧Mem h0 h' (B'++L)) h:=by
 have hw:lh x=kz x.Score+kI x.al:=rfl
 have hn:qh x=lU x.Score+nF x.al:=rfl
 refine wb.call (M.alc λg1 h1 x1 M=>?_)
 obtain⟨Bm,Br,hB,Om,Vt⟩:=JF O cP
 refine M.lda .here (by have:=osz O rfl;rw[this];decide) ?_
 rw[← HB] at Om
 refine (SZ (x:=x.Score) Om (M.cnt (W:=Bm++(Br++((g1,aE,cs) :: L))) (λp=>by have:=hB p;simp only[bO,bz,cg] at *;omega)) (k) (by omega) (by omega)).mono ?_
 rintro _ h' ⟨rfl,B',O',M⟩
 obtain⟨B2,O,hB2⟩:=Vt B' _ (by rw[← HB];exact O')
 refine cX ?_
 have M:=M.cnt (W:=(g1,aE,cs) :: (B2++L)) (λp=>by have:=hB2 p;simp only[bO,bz,cg] at *;omega)
 clear Vt
 obtain⟨Bm,Br,hB,Om,Vt⟩:=JF O yX
 obtain⟨b,l,c,e,Om⟩:=Om
 refine o_l ((M.cell .here _).trans (EL e)) ?_
 refine (PC (xs:=x.al) Om (M.cnt (W:=Bm++(Br++((g1,aE,cs) :: L))) (λp=>by have:=hB p;simp only[bO,bz,cg] at *;omega)) (k+lU x.Score) (by omega) (by omega)).mono ?_
 rintro _ h' ⟨rfl,B',O',M⟩
 obtain⟨B2,O,hB2⟩:=Vt B' _ ⟨b,l,c,e,O'⟩
 refine cX ?_
 have M:=M.cnt (W:=(g1,aE,cs) :: (B2++L)) (λp=>by have:=hB2 p;simp only[bO,bz,cg] at *;omega)
 clear Vt
 exact ⟨by congr 2 <;> (unfold qh;omega),B2,O,M.drop⟩
theorem FY{cs:Array Value}{x:ay}(k:Nat)(R0:aR.rd h cs.toList (Qu x k))(GI:lh x≤1048576)(hk:k+qh x≤1073741824):
  ae ai kj #[.agg cs,.int .i64 (k:Int)] (λu h'=>u = .int .i64 ((k+qh x:Nat):Int)∧Ext h h') h:=by
 have hw:lh x=kz x.Score+kI x.al:=rfl
 have hn:qh x=lU x.Score+nF x.al:=rfl
 refine w9.call (fj R0 λg1 h1 X R=>?_)
 refine R.fc cP rfl λc1 R1=>goX (Sy (x:=x.Score) (k) R1 (by omega) (by omega)) λh' x'=>cX (dp (decide_eq_false (by omega)) ?_)
 have R:=R.ext x'
 have X:=X.trans x'
 refine R.oL2 λb1 l1 c1 S1=>goX (Pk (xs:=x.al) (k+lU x.Score) S1 (by omega) (by omega)) λh' x'=>cX (dp (decide_eq_false (by omega)) ?_)
 have R:=R.ext x'
 have X:=X.trans x'
 exact ⟨by congr 2 <;> (unfold qh;omega),X⟩
end
end Go.Sx
