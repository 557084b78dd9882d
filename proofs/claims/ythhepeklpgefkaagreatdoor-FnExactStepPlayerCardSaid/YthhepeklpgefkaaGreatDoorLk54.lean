/- Lemmas. -/
import Derived.Test.YthhepeklpgefkaaGreatDoorLm6
import Derived.Test.YthhepeklpgefkaaGreatDoorLk35
import Derived.Test.YthhepeklpgefkaaGreatDoorLk15
import Derived.Test.YthhepeklpgefkaaGreatDoorLk33
import Derived.Test.YthhepeklpgefkaaGreatDoorK10
set_option linter.unusedVariables false
set_option linter.unusedSimpArgs false
namespace Go.Sx
open Go.Proofs Ieee
set_option maxRecDepth 100000
set_option maxHeartbeats 1000000
def acU(h0 h':ab)(q:Addr)(F:Fr)(L:List Blk)(x:bP)(a:Nat)(u:Value):Prop:=(∃y,u = .float .f32 y∧FW .f32 y (x.step a).2)∧Pt aX h0 h' q F L (x.step a).1
def acJ(h0 h':ab)(q:Addr)(F:Fr)(L:List Blk)(x:jh)(a:Nat)(u:Value):Prop:=(∃y,u = .float .f32 y∧FW .f32 y (x.step a).2)∧Pt fQ h0 h' q F L (x.step a).1
theorem ade{r:bc}(hr:r.ok=true):r.back r.len=r.old:=by
 obtain⟨k1,k2,k3,k4,k5⟩:=mH hr
 have hl:r.len=(r.af.length:Int):=rfl
 unfold bc.back bc.old
 rw[show r.At-r.len+r.len=r.At by omega,Int.emod_eq_of_lt k1 (by omega)]
theorem am7{r:bc}(hr:r.ok=true):inR r.len 1 r.len=true:=by
 obtain⟨k1,k2,k3,k4,k5⟩:=mH hr
 have hl:r.len=(r.af.length:Int):=rfl
 unfold inR
 simp only[Bool.and_eq_true,decide_eq_true_eq]
 omega
section
variable {h0 h:ab}{q:Addr}{F:Fr}{L:List Blk}{y a:Nat}
theorem ab1{x:bP}(P:Pt aX h0 h q F L x)(hr:x.Loop.ok=true)(hy:FW .f32 y a):ae ai xN #[.pointer (some q),.float .f32 y] (λu h'=>acU h0 h' q F L x a u) h:=by
 obtain⟨k1,k2,k3,k4,k5⟩:=mH hr
 refine CI.call (P.rd.oL1 λb l c S=>P.rd.oI ?_)
 have hl:=S.len
 refine S.idx (by decide) k1 (by omega) λp Rp=>Rp.oF1 λo ho=>?_
 obtain⟨F1,L1,P1,hs1,c1⟩:=P.foc dh
 refine (EX P1 ho).mono ?_
 rintro _ h1 ⟨⟨t,rfl,ht⟩,P1⟩
 have P:=c1 _ _ _ P1
 obtain⟨F2,L2,P2,Lm,c2⟩:=P.foc df
 refine dv ((EX P2 ht).mono ?_)
 rintro _ h2 ⟨⟨d,rfl,hd⟩,P2⟩
 have P:=c2 _ _ _ P2
 refine dv (P.rd.oF λw hw=>fM hd hw λm hm=>fA hm hy λs hs=>(jO hs).go λh3 k x3 hk=>dv ?_)
 obtain⟨F3,L3,P3,hs3,c3⟩:=(P.grow x3).foc dg
 rw[ny] at P3 c3
 refine (uh P3 hr hk).mono ?_
 rintro _ h4 ⟨⟨y2,rfl,hy2⟩,P3⟩
 exact dv ⟨⟨o,rfl,ho⟩,c3 _ _ _ P3⟩
theorem OH{x:bP}(P:Pt aX h0 h q F L x)(hr:x.Loop.ok=true)(hy:FW .f32 y a):ae ai oC #[.pointer (some q),.float .f32 y] (λu h'=>acU h0 h' q F L x a u) h:=by
 obtain⟨k1,k2,k3,k4,k5⟩:=mH hr
 have R:=P.rd.fst dg
 refine rk.call (R.gi rfl λcs Rc=>P.rd.oL1 λb l c S=>goX (kN _ _ _ _) λh1 x1=>cX (R.pin rfl x1 ?_))
 have hl:x.Loop.len=(l:Int):=by show ((x.Loop.af.length:Nat):Int)=_;rw[show x.Loop.af.length=l from S.len]
 have hb:=JR (bo.ext x1 Rc) hr (am7 hr)
 rw[ade hr,hl] at hb
 refine hb.mono ?_
 rintro _ h2 ⟨⟨o,rfl,ho⟩,x2⟩
 have P:=P.grow (x1.trans x2)
 obtain⟨F1,L1,P1,hs1,c1⟩:=P.foc dh
 refine dv ((uH P1 ho).mono ?_)
 rintro _ h1 ⟨⟨t,rfl,ht⟩,P1⟩
 have P:=c1 _ _ _ P1
 obtain⟨F2,L2,P2,Lm,c2⟩:=P.foc df
 refine dv ((uH P2 ht).mono ?_)
 rintro _ h2 ⟨⟨d,rfl,hd⟩,P2⟩
 have P:=c2 _ _ _ P2
 refine dv (P.rd.oF λw hw=>fM hd hw λm hm=>fA hm hy λs hs=>(ri hs).go λh3 k x3 hk=>dv ?_)
 obtain⟨F3,L3,P3,hs3,c3⟩:=(P.grow x3).foc dg
 rw[ny] at P3 c3
 refine (oe P3 hr hk).mono ?_
 rintro _ h4 ⟨⟨y2,rfl,hy2⟩,P3⟩
 exact dv ⟨⟨o,rfl,ho⟩,c3 _ _ _ P3⟩
theorem Pn{x s d:Nat}(hx:FW .f32 x s)(hy:FW .f32 y d):Fl ai qW #[.float .f32 x,.float .f32 y] .f32 (DJ s d):=λh=>by
 refine uA.call (fM hx hy λr1 h1=>(UE h1).go λh2 r4 x2 h4=>dv (fA h4 YY λr5 h5=>fM h5 h5 λr6 h6=>fM h6 h6 λr7 h7=>fD c1 h7 λr8 h8=>?_))
 rw[cY h8 c1]
 unfold DJ
 dsimp only
 refine br (λk=>⟨⟨_,rfl,?_⟩,x2⟩) λk=>⟨⟨_,rfl,?_⟩,x2⟩
 ·rw[if_pos (show fgt .f32 _ _=true from k)];exact c1
 ·rw[if_neg (by rw[show fgt .f32 _ _=false from k];decide)];exact h8
theorem Ri{x s d:Nat}(hx:FW .f32 x s)(hy:FW .f32 y d):Fl ai sb #[.float .f32 x,.float .f32 y] .f32 (DJ s d):=λh=>by
 refine vS.call (fM hx hy λr1 h1=>(LH h1).go λh2 r4 x2 h4=>dv (fA h4 YY λr5 h5=>fM h5 h5 λr6 h6=>fM h6 h6 λr7 h7=>fD c1 h7 λr8 h8=>?_))
 rw[cY h8 c1]
 unfold DJ
 dsimp only
 refine br (λk=>⟨⟨_,rfl,?_⟩,x2⟩) λk=>⟨⟨_,rfl,?_⟩,x2⟩
 ·rw[if_pos (show fgt .f32 _ _=true from k)];exact c1
 ·rw[if_neg (by rw[show fgt .f32 _ _=false from k];decide)];exact h8
def ajn(h0 h':ab)(q:Addr)(F:Fr)(L:List Blk)(x:jh)(a:Nat)(u:Value):Prop:=
 ∃y1 y2 y3,u = .tuple ⟨[.float .f32 y1,.float .f32 y2,.float .f32 y3]⟩∧FW .f32 y1 x.u∧FW .f32 y2 x.v∧FW .f32 y3 (x.d a)∧Pt fQ h0 h' q F L { x with gl:=x.e.1 }
theorem ab5{x:jh}(P:Pt fQ h0 h q F L x)(hn:x.bX.ok=true)(hb:x.aK.ok=true)(hy:FW .f32 y a):ae ai xR #[.pointer (some q),.float .f32 y] (λu h'=>ajn h0 h' q F L x a u) h:=by
 obtain⟨k1,k2,k3,k4,k5⟩:=mH hb
 obtain⟨j1,j2,j3,j4,j5⟩:=mH hn
 refine CL.call (P.rd.oL λb l c S=>P.rd.oI ?_)
 have hl:=S.len
 refine S.idx (by decide) k1 (by omega) λp Rp=>Rp.oF1 λo ho=>?_
 obtain⟨F1,L1,P1,hs1,cl⟩:=P.foc eP
 refine (EX P1 ho).mono ?_
 rintro _ h1 ⟨⟨t,rfl,ht⟩,P1⟩
 have P:=cl _ _ _ P1
 refine dv (P.rd.oF λw hw=>fM hw ht λm hm=>P.rd.oL1 λb l c S=>P.rd.oI ?_)
 have hl:x.bX.af.length=l:=S.len
 refine S.idx (by decide) j1 (by show x.bX.At<_;omega) λp Rp=>Rp.oF1 λn hn=>fA (o3 hm) (o3 hn) λs hs=>fS hy hs λd hd=>?_
 exact ⟨_,_,_,rfl,o3 hm,o3 hn,hd,P⟩
theorem Wh{x:jh}(P:Pt fQ h0 h q F L x)(hn:x.bX.ok=true)(hb:x.aK.ok=true)(hy:FW .f32 y a):ae ai sB #[.pointer (some q),.float .f32 y] (λu h'=>ajn h0 h' q F L x a u) h:=by
 refine wg.call (P.rd.lda dz rfl λc1 R1=>(AU R1 hb).mono ?_)
 rintro _ h1 ⟨⟨o,rfl,ho⟩,x1⟩
 have P:=P.grow x1
 obtain⟨F1,L1,P1,hs1,cl⟩:=P.foc eP
 refine dv ((uH P1 ho).mono ?_)
 rintro _ h2 ⟨⟨t,rfl,ht⟩,P1⟩
 have P:=cl _ _ _ P1
 have R:=P.rd.fst fa
 refine dv (P.rd.oF λw hw=>R.gi rfl λc2 R2=>⟨fM hw ht λm hm=>dS ((AU R2 hn).mono ?_),(AU R2 hn).mono ?_⟩)
 ·rintro _ h3 ⟨⟨n,rfl,hn⟩,x3⟩
  exact dv (P.rd.jQ (by decide) x3 (fA (o3 hm) (o3 hn) λs hs=>fS hy hs λd hd=>⟨_,_,_,rfl,o3 hm,o3 hn,hd,P.grow x3⟩))
 ·rintro _ h3 ⟨⟨n,rfl,hn⟩,x3⟩
  exact dv (P.rd.jQ (by decide) x3 (fM hw ht λm hm=>R.pin rfl x3 (fA (o3 hm) (o3 hn) λs hs=>fS hy hs λd hd=>⟨_,_,_,rfl,o3 hm,o3 hn,hd,P.grow x3⟩)))
theorem SK{x:jh}(P:Pt fQ h0 h q F L x)(hn:x.bX.ok=true)(hb:x.aK.ok=true)(hy:FW .f32 y a):ae ai sK #[.pointer (some q),.float .f32 y] (λu h'=>acJ h0 h' q F L x a u) h:=by
 obtain⟨k1,k2,k3,k4,k5⟩:=mH hb
 refine wq.call (P.rd.oL λb l c S=>P.rd.oI ?_)
 have hl:=S.len
 refine S.idx (by decide) k1 (by omega) λp Rp=>Rp.oF1 λo ho=>(ab5 P hn hb hy).mono ?_
 rintro _ h1 ⟨u1,u2,u3,rfl,q1,q2,q3,P⟩
 refine ac5 (dv (dv (dv (P.rd.oF λs hs=>(Pn hs q3).go λh2 f x2 hf=>dv (fM q3 hf λw hw=>fA q1 hw λm hm=>(jO hm).go λh3 k x3 hk=>dv ?_)))))
 obtain⟨F3,L3,P3,hs3,c3⟩:=(P.grow (x2.trans x3)).foc fa
 rw[ny] at P3 c3
 refine (uh P3 hn hk).mono ?_
 rintro _ h4 ⟨⟨y2,rfl,hy2⟩,P3⟩
 have P:=c3 _ _ _ P3
 refine dv (fA q2 hw λm hm=>(jO hm).go λh5 k x5 hk=>dv ?_)
 obtain⟨F4,L4,P4,hs4,c4⟩:=(P.grow x5).foc dz
 refine (uh P4 hb hk).mono ?_
 rintro _ h6 ⟨⟨y2,rfl,hy2⟩,P4⟩
 exact dv ⟨⟨o,rfl,ho⟩,c4 _ _ _ P4⟩
theorem Wi{x:jh}(P:Pt fQ h0 h q F L x)(hn:x.bX.ok=true)(hb:x.aK.ok=true)(hy:FW .f32 y a):ae ai sC #[.pointer (some q),.float .f32 y] (λu h'=>acJ h0 h' q F L x a u) h:=by
 refine wh.call (P.rd.lda dz rfl λc1 R1=>(AU R1 hb).mono ?_)
 rintro _ h1 ⟨⟨o,rfl,ho⟩,x1⟩
 refine dv ((Wh (P.grow x1) hn hb hy).mono ?_)
 rintro _ h1 ⟨u1,u2,u3,rfl,q1,q2,q3,P⟩
 refine ac5 (dv (dv (dv (P.rd.oF λs hs=>(Ri hs q3).go λh2 f x2 hf=>dv (fM q3 hf λw hw=>fA q1 hw λm hm=>(ri hm).go λh3 k x3 hk=>dv ?_)))))
 obtain⟨F3,L3,P3,hs3,c3⟩:=(P.grow (x2.trans x3)).foc fa
 rw[ny] at P3 c3
 refine (oe P3 hn hk).mono ?_
 rintro _ h4 ⟨⟨y2,rfl,hy2⟩,P3⟩
 have P:=c3 _ _ _ P3
 refine dv (fA q2 hw λm hm=>(ri hm).go λh5 k x5 hk=>dv ?_)
 obtain⟨F4,L4,P4,hs4,c4⟩:=(P.grow x5).foc dz
 refine (oe P4 hb hk).mono ?_
 rintro _ h6 ⟨⟨y2,rfl,hy2⟩,P4⟩
 exact dv ⟨⟨o,rfl,ho⟩,c4 _ _ _ P4⟩
end
end Go.Sx
namespace Go.Sx
open Go.Proofs
set_option maxRecDepth 100000
set_option maxHeartbeats 1000000
theorem agf{r:bc}{j:Nat}(hj:j<r.af.length)(e:isZ r.af[j]! = false):r.zero=false:=by
 unfold bc.zero
 rw[List.all_eq_false]
 exact ⟨_,jT hj,by unfold isZ at e;rw[e];simp⟩
theorem agh{r:bc}(h:∀j,j<r.af.length->isZ r.af[j]! = true):r.zero=true:=by
 unfold bc.zero
 rw[jI]
 exact all_true (f:=λj=>isZ r.af[j]!) λj hj'=>h j hj'
def PR(h:ab)(ps:List Addr)(rs:List bc):Prop:=ps.length=rs.length∧∀i,i<ps.length->RdP bo h ps[i]! rs[i]! ∧ rs[i]!.ok=true
theorem PR.ext{h h':ab}{ps:List Addr}{rs:List bc}(H:PR h ps rs)(x:Ext h h'):PR h' ps rs:=⟨H.1,λi hi=>⟨(H.2 i hi).1.ext x,(H.2 i hi).2⟩⟩
theorem Z9{α:Type}[Inhabited α]{l m:List α}{i:Nat}:(l++m)[i]! = if i<l.length then l[i]! else m[i-l.length]!:=by
 simp only[List.getElem!_eq_getElem?_getD]
 split
 ·next h=>rw[List.getElem?_append_left h]
 ·next h=>rw[List.getElem?_append_right (by omega)]
theorem PR.auT{h:ab}{ps:List Addr}{rs:List bc}{p q:Addr}{r s:bc}(H:PR h ps rs)(h1:RdP bo h p r)(o1:r.ok=true)(h2:RdP bo h q s)(o2:s.ok=true):PR h (ps++[p,q]) (rs++[r,s]):=by
 obtain⟨hl,H⟩:=H
 refine ⟨by simp[hl],λi hi=>?_⟩
 rw[Z9,Z9,← hl]
 by_cases h0:i<ps.length
 ·rw[if_pos h0,if_pos h0];exact H i h0
 ·rw[if_neg h0,if_neg h0]
  have hi':i-ps.length=0∨i-ps.length=1:=by simp only[List.length_append,List.length_cons,List.length_nil] at hi;omega
  rcases hi' with e | e
  ·rw[e];exact ⟨h1,o1⟩
  ·rw[e];exact ⟨h2,o2⟩
def YF(a b:List bc):Nat->List bc
 | 0=>[]
 | n+1=>YF a b n++[a[n]!,b[n]!]
theorem VZ(a b:List bc)(p:bc->Bool):∀n,n≤a.length->n≤b.length->(YF a b n).all p=((a.take n).all p&&(b.take n).all p)
 | 0,_,_=>by simp[YF]
 | n+1,h1,h2=>by
  rw[YF,List.all_append,VZ a b p n (by omega) (by omega),rJ (l:=a) (by omega),rJ (l:=b) (by omega),List.all_append,List.all_append]
  simp only[List.all_cons,List.all_nil,Bool.and_true]
  cases (a.take n).all p <;> cases (b.take n).all p <;> simp
section
variable {h0 h:ab}{q:Addr}{F:Fr}{L:List Blk}{y a:Nat}
theorem UF{x:bP}(R:RdP aX h q x):ae ai tW #[.pointer (some q)] (λu h'=>u = .bool x.tg∧Ext h h') h:=by
 have:=bW
 have k:x.tg=(x.Loop.zero&&x.mK.still&&x.gl.still):=rfl
 have A:∀{hh:ab},Ext h hh->RdP aX hh q x:=λe=>R.ext e
 refine gJ.call (loop (λy hh=>∃n:Nat,y=(q,(n:Int))∧n≤x.Loop.af.length∧hh=h∧∀i,i<n->isZ x.Loop.af[i]! = true) (λy=>(x.Loop.af.length-y.2).toNat) ⟨0,rfl,by omega,rfl,λi hi=>by omega⟩ ?_)
 rintro y hh ⟨n,rfl,hn,rfl,hz⟩
 refine R.oL1 λb l c S=>?_
 have hl:x.Loop.af.length=l:=S.len
 have s1:=S.2.1
 have s2:=S.2.2.1
 refine brd (λhc=>?_) λhc=>?_
 ·refine R.oL1 λb2 l2 c2 S2=>?_
  have hl2:x.Loop.af.length=l2:=S2.len
  refine S2.idx (by decide) (by omega) (by omega) λp Rp=>Rp.oF1 λy hy=>?_
  rw[anm hy]
  refine br (λhb=>⟨?_,Ext.refl _⟩) λhb=>⟨⟨n+1,by rw[ag (by omega)],by omega,rfl,λi hi=>?_⟩,by rw[ag (by omega)];show (((x.Loop.af.length:Nat):Int)-((n+1:Nat):Int)).toNat<(((x.Loop.af.length:Nat):Int)-((n:Nat):Int)).toNat;omega⟩
  ·rw[k,agf (r:=x.Loop) (j:=n) (by omega) (nt hb)];rfl
  ·by_cases e:i=n
   ·subst e;exact nf hb
   ·exact hz i (by omega)
 ·have z:x.Loop.zero=true:=agh λj hj=>hz j (by omega)
  refine goX (C8 (R.foc dh)) λh1 x1=>bd (br (λhb=>goX (C8 ((A x1).foc df)) λh2 x2=>bd ⟨?_,x1.trans x2⟩) λhb=>⟨?_,x1⟩)
  ·rw[k,z,show x.mK.still=true from hb];rfl
  ·rw[k,z,show x.mK.still=false from hb];rfl
theorem ET{cs:Array Value}{r:bc}(R0:bo.rd h cs.toList r)(hr:r.ok=true):ae ai jw #[.agg cs] (λu h'=>u = .bool r.zero∧Ext h h') h:=by
 refine sM.call (fj R0 λg h1 x1 R=>R.gi rfl λc2 R2=>R.oL2 λb l c S=>goX (Rl R2 hr) λh2 x2=>cX (R.Cs (by decide) x2 (goX (kN _ _ _ _) λh3 x3=>cX ⟨?_,x1.trans (x2.trans x3)⟩)))
 have hl:r.af.length=l:=S.len
 have:=Yh hr
 congr 1
 rw[Bool.eq_iff_iff,← this,beq_iff_eq]
 omega
theorem Hf{cs:Array Value}{x:bP}(R0:aX.rd h cs.toList x)(hr:x.Loop.ok=true):ae ai mO #[.agg cs] (λu h'=>u = .bool x.tg∧Ext h h') h:=by
 have k:x.tg=(x.Loop.zero&&x.mK.still&&x.gl.still):=rfl
 refine oK.call (fj R0 λg h1 x1 R=>R.fc dg rfl λc2 R2=>goX (ET R2 hr) λh2 x2=>bd (br (λb1=>?_) λb1=>⟨by rw[k,b1];rfl,x1.trans x2⟩))
 refine (R.ext x2).fc dh rfl λc3 R3=>goX (pe R3) λh3 x3=>bd (br (λb2=>?_) λb2=>⟨by rw[k,b1,b2];rfl,x1.trans (x2.trans x3)⟩)
 exact (R.ext (x2.trans x3)).fc df rfl λc4 R4=>goX (pe R4) λh4 x4=>bd ⟨by rw[k,b1,b2];rfl,x1.trans (x2.trans (x3.trans x4))⟩
theorem UG{x:cF}(R:RdP ck h q x):ae ai tX #[.pointer (some q)] (λu h'=>u = .bool x.tg∧Ext h h') h:=by
 have k:x.tg=(x.aY.all bc.zero&&x.Left.all bc.zero&&x.End.still):=rfl
 refine yv.call (R.oL1 λb l c S=>goX (Jr S) λh1 x1=>bd (br (λb1=>?_) λb1=>⟨by rw[k,b1];rfl,x1⟩))
 refine (R.ext x1).oL λb l c S=>goX (Jr S) λh2 x2=>bd (br (λb2=>?_) λb2=>⟨by rw[k,b1,b2];rfl,x1.trans x2⟩)
 exact goX (C8 ((R.ext (x1.trans x2)).foc dO)) λh3 x3=>bd ⟨by rw[k,b1,b2];rfl,x1.trans (x2.trans x3)⟩
theorem OA{cs:Array Value}{x:jh}(R0:fQ.rd h cs.toList x)(hx:x.ok=true):ae ai qT #[.agg cs] (λu h'=>u = .tuple ⟨[.bool x.tg,.int .i64 (0:Int)]⟩∧Ext h h') h:=by
 have k:x.tg=([x.bX,x.aK].all bc.zero&&x.gl.still):=by unfold jh.tg;simp
 refine ux.call (fj R0 λg h1 x1 R=>goX (UH R) λh2 x2=>bd (brN (λe=>by rw[hx] at e;cases e) λ_=>?_))
 have R:=R.ext x2
 have z0:(iv 2 bo).rd h2 [Value.slice none 0 0,Value.int .i64 (0:Int),Value.slice none 0 0,Value.int .i64 (0:Int)] [oY,oY]:=⟨rfl,[Value.slice none 0 0,Value.int .i64 (0:Int)],[Value.slice none 0 0,Value.int .i64 (0:Int)],rfl,bo.look qt (Mem.start h2) (List.nil_sublist _),[Value.slice none 0 0,Value.int .i64 (0:Int)],[],rfl,bo.look qt (Mem.start h2) (List.nil_sublist _),rfl⟩
 refine (R.fst fa).gi rfl λc1 R1=>R.fc dz rfl λc2 R2=>siz (rsz R1 rfl) (siz (rsz R2 rfl) ?_)
 have z1:=Fa (put:=λl b=>l.set 0 b) (get:=λl=>l[0]!) z0 (λR=>Ld (i:=0) (by decide) R) R1
 have z2:=Fa (put:=λl b=>l.set 1 b) (get:=λl=>l[1]!) z1 (λR=>Ld (i:=1) (by decide) R) R2
 refine Ef (r:=bo) (n:=2) (xs:=[x.bX,x.aK]) z2 (by decide) λg h3 x3 S=>goX (Jr S) λh4 x4=>bd ?_
 have X:=(x1.trans x2).trans (x3.trans x4)
 refine br (λb1=>?_) λb1=>⟨by rw[k,b1];rfl,X⟩
 exact goX (C8 ((R.ext (x3.trans x4)).Sj eP)) λh5 x5=>bd ⟨by rw[k,b1];rfl,X.trans x5⟩
theorem aBa{x:cF}(R:RdP ck h q x)(Ru:x.mi):ae ai pM #[.pointer (some q)] (λu h'=>∃b l c B ps,u = .slice b l c∧SlO pU rP B b l c ps∧Mem h h' B∧PR h ps (YF x.aY x.Left x.aY.length)) h:=by
 have n1:=Ru.n1
 have n3:=Ru.n3
 have nl:=Ru.ll
 have hm:(7:Nat)≤maxLen:=by decide
 obtain⟨v,e1,b4,l4,c4,e2,S4⟩:=R.cell Qp.f rfl
 obtain rfl:v = .slice b4 l4 c4:=by simpa using e2
 rw[ny] at e1
 obtain⟨v,e3,b6,l6,c6,e2,S6⟩:=R.cell Qq.f rfl
 obtain rfl:v = .slice b6 l6 c6:=by simpa using e2
 have e4:x.aY.length=l4:=S4.len
 have e6:x.Left.length=l6:=S6.len
 refine eV.call (o_l e1 ?_)
 refine loop (λy hh=>∃(n:Nat) (b:Option Addr) (c:Nat) (B:List Blk) (ps:List Addr),y=(q,b,2*n,c,(l4:Int),(n:Int))∧n≤l4∧SlO pU rP B b (2*n) c ps∧Mem h hh B∧PR h ps (YF x.aY x.Left n)) (λy=>(l4-y.2.2.2.2.2).toNat)
  ⟨0,_,_,_,[],rfl,by omega,SlO.nil,Mem.start h,rfl,λi hi=>by simp at hi⟩ ?_
 rintro y hh ⟨n,b,c,B,ps,rfl,hn,O,M,H⟩
 refine brd (λhc=>?_) λhc=>?_
 ·refine o_l (M.ext.cell e1) (S4.idx lV (by omega) (by omega) λp5 R5=>o_l (M.ext.cell e3) (S6.idx lV (by omega) (by omega) λp7 R7=>M.alc λg h1 x1 M1=>?_))
  rw[Int.toNat_natCast] at R5 R7
  have M2:Mem h h1 (B++([]++[(g,pU,⟨[.pointer (some (p5.add (n*2))),.pointer (some (p7.add (n*2)))]⟩)])):=M1.cnt λp=>by simp only[Int.toNat_natCast,List.append_eq,bO,bz,cg];omega
  refine O.app (Bn:=[]) (news:=[.pointer (some (p5.add (n*2))),.pointer (some (p7.add (n*2)))]) (ys:=[p5.add (n*2),p7.add (n*2)]) IP M2 rfl ⟨[],[],[_],[_],rfl,rfl,⟨rfl,rfl⟩,[],[],[_],[],rfl,rfl,⟨rfl,rfl⟩,rfl,rfl⟩ (λj v hj=>?_) (by omega) (by omega) λb' c' h' B' O' M'=>lZ ?_
  ·rw[eW,Nat.zero_add,M1.cell .here,← hj,List.getElem?_toArray];rfl
  exact ⟨⟨n+1,b',c',B',_,by rw[ag (by omega)];rfl,by omega,O',M'.cnt (λp=>by simp only[bO,bz,cg];omega),H.auT R5 (Ru.r _ (jT (by omega))) R7 (Ru.l _ (jT (by omega)))⟩,by rw[ag (by omega)];show _<_;simp;omega⟩
 ·obtain rfl:n=l4:=by omega
  rw[e4]
  exact ⟨b,_,c,B,ps,rfl,O,M,H⟩
theorem Wx{b:Option Addr}{l c:Nat}{ps:List Addr}{rs:List bc}(S:SlR rP h b l c ps)(H:PR h ps rs):ae ai vr #[.slice b l c] (λu h'=>u = .bool (rs.all bc.zero)∧Ext h h') h:=by
 have hl:=S.len
 have s1:=S.2.1
 have s2:=S.2.2.1
 have:=bW
 have hlr:=H.1
 have I:ae ai gD #[.slice b l c,.func (.func mS) #[] #[]] (λu h'=>u = .int .i64 (ko (λr:bc=>!r.zero) rs)∧Ext h h') h:=by
  refine bp.call ?_
  refine loop (λx hh=>∃n:Nat,x=(b,l,c,.func (.func mS) #[] #[],(l:Int),(n:Int))∧n≤l∧Ext h hh∧∀i,i<n->(!rs[i]!.zero)=false) (λx=>(l-x.2.2.2.2.2).toNat) ⟨0,rfl,by omega,Ext.refl _,λi hi=>by omega⟩ ?_
  rintro x hh ⟨n,rfl,hn,X,hf⟩
  refine brd (λhc=>?_) λhc=>⟨by rw[pr λi hi=>hf i (by omega)],X⟩
  refine (S.ext X).idx (by decide) (by omega) (by omega) λa Ra=>Ra.oP1 ?_
  rw[Int.toNat_natCast]
  obtain⟨Rr,ok⟩:=H.2 n (by omega)
  show ae ai mS #[.pointer (some ps[n]!)] _ hh
  refine ue.call ((Rr.ext X).gi rfl λcs Rc=>goE X (ET Rc ok) λh1 x1=>bd (bd (br (λhb=>?_) λhb=>?_)))
  ·exact ⟨by rw[pv (by omega) hf hb],x1⟩
  ·refine ⟨⟨n+1,by rw[ag (by omega)],by omega,x1,λi hi=>?_⟩,by rw[ag (by omega)];show _<_;simp;omega⟩
   by_cases e:i=n
   ·subst e;exact hb
   ·exact hf i (by omega)
 refine zT.call (goX (gr.call (goX I λh1 x1=>cX ⟨rfl,x1⟩)) λh2 x2=>bd ⟨?_,x2⟩)
 congr 1
 rw[DD,List.any_eq_not_all_not]
 simp
theorem PE{x:cF}(Ru:x.mi):(YF x.aY x.Left x.aY.length).all bc.zero=(x.aY.all bc.zero&&x.Left.all bc.zero):=by
 rw[VZ _ _ _ _ (Nat.le_refl _) (by rw[Ru.ll];exact Nat.le_refl _),List.take_length,← Ru.ll,List.take_length]
end
end Go.Sx
