/- Lemmas. -/
import Derived.Test.YthhepeklpgefkaaGreatDoorLk29
import Derived.Test.YthhepeklpgefkaaGreatDoorH1
import Derived.Test.YthhepeklpgefkaaGreatDoorK9
import Derived.Test.YthhepeklpgefkaaGreatDoorTab
import Derived.Test.YthhepeklpgefkaaGreatDoorLr7
set_option linter.unusedVariables false
set_option linter.unusedSimpArgs false
namespace Go.Sx
open FloatKind (f32 f64)
open IntKind (i64)
open Go.Proofs Ieee
set_option maxRecDepth 100000
set_option maxHeartbeats 1000000
def lY(f:Nat):cN:=if inside f 0 1073741824 then ⟨3,[fdiv .f32 (jC .f32 1065353216 f) (mF .f32 1065353216 f),0,0],[0,0]⟩ else lX
def T6(m:Nat):cN:=⟨2,[jC .f32 1065353216 m,m,0],[0,0]⟩
def uP(k:Nat):cN:=⟨1,[jC .f32 1065353216 k,k,0],[0,0]⟩
def Dd(p m:Nat):Nat:=if flt .f32 (jC .f32 (jC .f32 p m) (f32.nearest ((zO (jC .f32 p m):Nat):Int))) 1048576000 then zO (jC .f32 p m)-1 else zO (jC .f32 p m)
def strOf(p m l:Nat):bP:={ Loop:=⟨List.replicate (Dd p m) 0,0⟩,mK:=lY (jC .f32 (jC .f32 p m) (f32.nearest ((Dd p m:Nat):Int))),gl:=T6 m,fi:=l }
def cT(p m l:Nat):bP×Int:=if inside p 1077936128 1149239296 then if inside m 0 1056964608 then if inside l 0 1065353216 then (strOf p m l,0) else (ff,2) else (ff,2) else (ff,2)
def flC(k:Int)(a b c d e:Nat):List Value:=[.int .i64 k,.float .f32 a,.float .f32 b,.float .f32 c,.float .f32 d,.float .f32 e]
theorem xl{k:Int}{a b c d e a' b' c' d' e':Nat}(ha:FW .f32 a a')(hb:FW .f32 b b')(hc:FW .f32 c c')(hd:FW .f32 d d')(he:FW .f32 e e'):bQ.ow [] (flC k a b c d e) ⟨k,[a',b',c'],[d',e']⟩:=
 ⟨[],[],[.int .i64 k],_,rfl,rfl,⟨rfl,rfl⟩,[],[],[.float .f32 a,.float .f32 b,.float .f32 c],[.float .f32 d,.float .f32 e],rfl,rfl,
  ⟨rfl,[],[],[.float .f32 a],_,rfl,rfl,⟨rfl,a,rfl,ha⟩,[],[],[.float .f32 b],_,rfl,rfl,⟨rfl,b,rfl,hb⟩,[],[],[.float .f32 c],[],rfl,rfl,⟨rfl,c,rfl,hc⟩,rfl,rfl⟩,
  ⟨rfl,[],[],[.float .f32 d],_,rfl,rfl,⟨rfl,d,rfl,hd⟩,[],[],[.float .f32 e],[],rfl,rfl,⟨rfl,e,rfl,he⟩,rfl,rfl⟩⟩
theorem Bd{x:bP}{B:List Blk}{b:Option Addr}{l c:Nat}{v1 v2:List Value}{y:Nat}(O:SlO au (rF .f32) B b l c x.Loop.af)(h1:bQ.ow [] v1 x.mK)(h2:bQ.ow [] v2 x.gl)(hy:FW .f32 y x.fi):
  aX.ow B ([.slice b l c,.int .i64 x.Loop.At]++(v1++(v2++[.float .f32 y]))) x:=
 ⟨B,[],[.slice b l c,.int .i64 x.Loop.At],_,by simp,rfl,⟨B,[],[.slice b l c],[.int .i64 x.Loop.At],by simp,rfl,⟨b,l,c,rfl,O⟩,⟨rfl,rfl⟩⟩,[],[],v1,_,rfl,rfl,h1,[],[],v2,[.float .f32 y],rfl,rfl,h2,⟨rfl,y,rfl,hy⟩⟩
theorem oT{B:List Blk}{cs:Array Value}{r:bc}(O:bo.ow B cs.toList r):∃b l c,cs=⟨[.slice b l c,.int .i64 r.At]⟩∧SlO au (rF .f32) B b l c r.af:=by
 obtain⟨B1,B2,v1,v2,rfl,e,⟨b,l,c,rfl,O1⟩,⟨rfl,rfl⟩⟩:=O
 exact ⟨b,l,c,by cases cs;simpa using e,by simpa using O1⟩
theorem Cx{B:List Blk}{b:Option Addr}{l c:Nat}{r:bc}(O:SlO au (rF .f32) B b l c r.af):bo.ow B [.slice b l c,.int .i64 r.At] r:=
 ⟨B,[],[.slice b l c],[.int .i64 r.At],by simp,rfl,⟨b,l,c,rfl,O⟩,⟨rfl,rfl⟩⟩
theorem XW{n:Nat}(h:n<2 ^ 24):(f32.decode (f32.nearest (n:Int))).toInt .zero=some (n:Int):=by
 rw[rE]
 by_cases h0:n=0
 ·subst h0
  have:f32.format.read (f32.format.nearest false 0 0) = .number false 0 (-149):=by rw[gZ];exact Of false
  rw[Ln this];rfl
 ·have hl:n.log2≤23:=by
   have:=(Nat.log2_lt h0 (k:=24)).2 h
   omega
  rw[Ln (JJ false h0 h (by decide) (by decide))]
  unfold whole
  rw[show (0+(n.log2:Int)-23).toNat=0 by omega,Nat.shiftLeft_zero,show (-(0+(n.log2:Int)-23)).toNat=23-n.log2 by omega,Nat.mul_div_cancel _ (Nat.two_pow_pos _)]
theorem sub_one{n:Nat}(h1:1≤n)(h:n<2 ^ 24):jC .f32 (f32.nearest (n:Int)) 1065353216=f32.nearest ((n-1:Nat):Int):=by
 have hl:n.log2≤23:=by
  have:=(Nat.log2_lt (n:=n) (by omega) (k:=24)).2 h
  omega
 have r1:f32.format.read 1065353216 = .number false (2 ^ 23) (-23):=by decide +kernel
 have rn:=JJ false (m:=n) (p:=0) (by omega) h (by decide) (by decide)
 have wR:(Datum.number false (n*2 ^ (23-n.log2)) (0+(n.log2:Int)-23)).sum (Datum.number false (2 ^ 23) (-23)).opposite=some (.number false ((n-1)*2 ^ 23) (-23)):=by
  show some (Datum.number _ _ _)=_
  have hb:min (0+(n.log2:Int)-23) (-23) = -23:=by omega
  have ht:signed false (n*2 ^ (23-n.log2)) (0+(n.log2:Int)-23 - -23).toNat+signed (!false) (2 ^ 23) ((-23:Int) - -23).toNat=(((n-1)*2 ^ 23:Nat):Int):=by
   show signed false _ _+signed true _ _=_
   rw[fZ,mB,Nat.mul_assoc,← Nat.pow_add,show 23-n.log2+(0+(n.log2:Int)-23 - -23).toNat=23 by omega,show ((-23:Int) - -23).toNat=0 by decide,Nat.pow_zero,Nat.mul_one,Nat.sub_mul]
   omega
  rw[hb,ht]
  by_cases h0:n=1
  ·subst h0;rfl
  ·rw[if_neg (by omega),Int.natAbs_natCast,decide_eq_false (by omega)]
 have Pm:f32.format.sub (f32.nearest (n:Int)) 1065353216=some (f32.nearest ((n-1:Nat):Int)):=by
  rw[rE,rE]
  unfold Format.sub
  rw[rn,r1,wR]
  exact congrArg some (vc _ _ 23 rfl (by decide))
 unfold jC
 rw[Pm,Option.getD_some]
 exact (dr .f32 _).self
theorem c2:FW .f32 1073741824 1073741824:=fK (by decide) (by decide)
theorem c3:FW .f32 1077936128 1077936128:=fK (by decide) (by decide)
theorem YX:FW .f32 1149239296 1149239296:=fK (by decide) (by decide)
theorem api:FW .f32 1048576000 1048576000:=fK (by decide) (by decide)
section
variable {h:ab}{x a:Nat}
def ApR(u:Value)(f:Nat):Prop:=∃(k n:Int) (y:Nat),u = .tuple ⟨[.agg ⟨flC k y 0 0 0 0⟩,.int .i64 n]⟩∧bQ.ow [] (flC k y 0 0 0 0) (lY f)
theorem Rh(hx:FW .f32 x a):ae ai sa #[.float .f32 x] (λu h'=>ApR u a∧Ext h h') h:=by
 refine hZ.call ((Mem.start h).alc λg1 h1 x1 M=>?_)
 rw[cY hx fw0,cY hx c2]
 have bad:lY a=lX->STA 6 h1 ⟨g1,0,none⟩ ⟨fH⟩ λh8=>LDA 6 h8 ⟨g1,0,none⟩ λa9=>ApR (.tuple ⟨[.agg a9,.int .i64 (2:Int)]⟩) a∧Ext h h8:=λe=>
  M.dy .here rfl (eG rfl) rfl .here λh3 M=>M.cM .here rfl ⟨⟨0,2,0,rfl,by rw[e];exact nw⟩,M.ext⟩
 refine br (λk1=>brN (λk2=>bad (by rw[lY,inside,fge,fle,k1,k2];rfl)) λk2=>?_) λk1=>bad (by rw[lY,inside,fge,k1];rfl)
 have e:inside a 0 1073741824=true:=by rw[inside,fge,fle,k1,k2];rfl
 unfold hZ.J3
 refine fS c1 hx λr7 h7=>fA c1 hx λr8 h8=>fD h7 h8 λr9 h9=>siz rfl (M.dy .here rfl (eG rfl) rfl .here λh3 M=>M.cM .here rfl ⟨⟨3,0,r9,rfl,?_⟩,M.ext⟩)
 rw[lY,e,if_pos rfl]
 exact xl h9 fw0 fw0 fw0 fw0
theorem It(hx:FW .f32 x a):ae ai sD #[.float .f32 x] (λu h'=>ApR u a∧Ext h h') h:=by
 refine ij.call ((Mem.start h).alc λg1 h1 x1 M=>?_)
 rw[cY hx fw0,cY hx c2]
 have bad:lY a=lX->STA 6 h1 ⟨g1,0,none⟩ ⟨fH⟩ λh8=>LDA 6 h8 ⟨g1,0,none⟩ λa9=>ApR (.tuple ⟨[.agg a9,.int .i64 (2:Int)]⟩) a∧Ext h h8:=λe=>
  M.dy .here rfl (eG rfl) rfl .here λh3 M=>M.cM .here rfl ⟨⟨0,2,0,rfl,by rw[e];exact nw⟩,M.ext⟩
 refine br (λk1=>brN (λk2=>bad (by rw[lY,inside,fge,fle,k1,k2];rfl)) λk2=>?_) λk1=>bad (by rw[lY,inside,fge,k1];rfl)
 have e:inside a 0 1073741824=true:=by rw[inside,fge,fle,k1,k2];rfl
 unfold ij.J3
 refine fS c1 hx λr7 h7=>fA c1 hx λr8 h8=>fD h7 h8 λr9 h9=>siz rfl (M.dy .here rfl (eG rfl) rfl .here λh3 M=>M.cM .here rfl ⟨⟨3,0,r9,rfl,?_⟩,M.ext⟩)
 rw[lY,e,if_pos rfl]
 exact xl h9 fw0 fw0 fw0 fw0
def FlR(u:Value)(f:cN):Prop:=∃(k:Int) (y z:Nat),u = .agg ⟨flC k y z 0 0 0⟩∧bQ.ow [] (flC k y z 0 0 0) f
theorem aad(hx:FW .f32 x a):ae ai xz #[.float .f32 x] (λu h'=>FlR u (T6 a)∧Ext h h') h:=
 BV.call ((Mem.start h).alc λg1 h1 x1 M=>fS c1 hx λr3 h3=>siz rfl (M.dy .here rfl (eG rfl) rfl .here λh3' M=>M.cM .here rfl ⟨⟨2,r3,x,rfl,xl h3 hx fw0 fw0 fw0⟩,M.ext⟩))
theorem Ek(hx:FW .f32 x a):ae ai sF #[.float .f32 x] (λu h'=>FlR u (T6 a)∧Ext h h') h:=
 CB.call ((Mem.start h).alc λg1 h1 x1 M=>fS c1 hx λr3 h3=>siz rfl (M.dy .here rfl (eG rfl) rfl .here λh3' M=>M.cM .here rfl ⟨⟨2,r3,x,rfl,xl h3 hx fw0 fw0 fw0⟩,M.ext⟩))
theorem PV(hx:FW .f32 x a):ae ai sd #[.float .f32 x] (λu h'=>FlR u (uP a)∧Ext h h') h:=
 BU.call ((Mem.start h).alc λg1 h1 x1 M=>fS c1 hx λr3 h3=>siz rfl (M.dy .here rfl (eG rfl) rfl .here λh3' M=>M.cM .here rfl ⟨⟨1,r3,x,rfl,xl h3 hx fw0 fw0 fw0⟩,M.ext⟩))
theorem Ej(hx:FW .f32 x a):ae ai iN #[.float .f32 x] (λu h'=>FlR u (uP a)∧Ext h h') h:=
 CA.call ((Mem.start h).alc λg1 h1 x1 M=>fS c1 hx λr3 h3=>siz rfl (M.dy .here rfl (eG rfl) rfl .here λh3' M=>M.cM .here rfl ⟨⟨1,r3,x,rfl,xl h3 hx fw0 fw0 fw0⟩,M.ext⟩))
end
section
variable {h:ab}{x a p q m n:Nat}
theorem NL{p m l:Nat}(h1:inside p 1077936128 1149239296=true)(h2:inside m 0 1056964608=true):∃k e,f32.format.read (jC .f32 p m) = .number false k e∧zO (jC .f32 p m)=whole k e∧2≤whole k e∧whole k e≤1024∧1≤Dd p m∧Dd p m≤1024:=by
 obtain⟨k,e,hr,g1,g2⟩:=Y6 h1 h2
 have hf:zO (jC .f32 p m)=whole k e:=by unfold zO;rw[hr]
 refine ⟨k,e,hr,hf,g1,g2,?_⟩
 unfold Dd
 rw[hf]
 split <;> omega
theorem JM{l z:Nat}(hp:FW .f32 x p)(hm:FW .f32 a m)(hl:FW .f32 z l):ae ai tV #[.float .f32 x,.float .f32 a,.float .f32 z] (λu h'=>jG aX h h' u (cT p m l).1 (cT p m l).2) h:=by
 refine dC.call ((Mem.start h).alc λg1 h1 x1 M=>?_)
 rw[cY hp c3,cY hp YX,cY hm fw0,cY hm c05,cY hl fw0,cY hl c1]
 have bad:cT p m l=(ff,2)->STA 15 h1 ⟨g1,0,none⟩ ⟨aL⟩ λh8=>LDA 15 h8 ⟨g1,0,none⟩ λa9=>jG aX h h8 (.tuple ⟨[.agg a9,.int .i64 (2:Int)]⟩) (cT p m l).1 (cT p m l).2:=λe=>by
  rw[e]
  exact M.dy .here rfl (eG rfl) rfl .here λh3 M=>M.cM .here rfl ⟨_,[],rfl,uG,(Mem.start h).grow M.ext⟩
 refine br (λk1=>brN (λk2=>bad (by rw[cT,inside,fge,fle,k1,k2];rfl)) λk2=>?_) λk1=>bad (by rw[cT,inside,fge,k1];rfl)
 have e1:inside p 1077936128 1149239296=true:=by rw[inside,fge,fle,k1,k2];rfl
 refine br (λk3=>brN (λk4=>bad (by rw[cT,e1,inside,fge,fle,k3,k4];rfl)) λk4=>?_) λk3=>bad (by rw[cT,e1,inside,fge,k3];rfl)
 have e2:inside m 0 1056964608=true:=by rw[inside,fge,fle,k3,k4];rfl
 refine br (λk5=>brN (λk6=>bad (by rw[cT,e1,e2,inside,fge,fle,k5,k6];rfl)) λk6=>?_) λk5=>bad (by rw[cT,e1,e2,inside,fge,k5];rfl)
 have e3:inside l 0 1065353216=true:=by rw[inside,fge,fle,k5,k6];rfl
 have Gz:cT p m l=(strOf p m l,0):=by rw[cT,e1,e2,e3];rfl
 rw[Gz]
 obtain⟨k,e,hr,hf,g1',g2',g3,g4⟩:=NL (l:=l) e1 e2
 have fin:∀{hh:ab}{B:List Blk}{cells:List Value},Mem h hh ((g1,aB,⟨aL⟩) :: B)->aX.ow B cells (strOf p m l)->STA 15 hh ⟨g1,0,none⟩ ⟨cells⟩ λwQ=>LDA 15 wQ ⟨g1,0,none⟩ λRQ=>jG aX h wQ (.tuple ⟨[.agg RQ,.int .i64 (0:Int)]⟩) (strOf p m l) 0:=λM O=>
  M.dy .here (aX.kF O) (aX.iH O) rfl .here λwQ M=>M.cM .here (aX.kF O) ⟨_,_,rfl,O,M.drop⟩
 have key:∀n9:Nat,n9=Dd p m->∀{uQ:Nat},FW .f32 uQ (jC .f32 p m)->dC.J7 (λu h'=>jG aX h h' u (strOf p m l) 0) a z ⟨g1,0,none⟩ uQ (n9:Int) h1:=by
  intro n9 hn uQ kB
  subst hn
  unfold dC.J7
  refine fS kB (dr .f32 _) λzf jn=>(It jn).mono ?_
  rintro _ h2 ⟨⟨k2,n2,y2,rfl,O2⟩,x2⟩
  refine nq (fe (cX ((M.grow x2).alc λg25 h3 x3 M=>M.dy .here rfl (eG rfl) rfl .here λh4 M=>M.cM .here rfl ⟨?_,?_⟩)))
  ·have P:RdP bQ h4 ⟨g25,0,none⟩ _:=M.rdp .here (bQ.look O2 M (List.nil_sublist _))
   refine wV (r:=rF .f32) (z:=0) (zc:=[.float .f32 0]) ⟨rfl,0,rfl,fw0⟩ rfl rfl (by decide) M (by show 4*Dd p m≤2 ^ 48;omega) (Nat.le_trans g4 (by decide)) λg29 h5 x5 M O=>P.pin rfl x5 ?_
   refine (Ek hm).mono ?_
   rintro _ h6 ⟨⟨k3,y3,z3,rfl,O3⟩,x6⟩
   refine fe (P.pin rfl (x5.trans x6) (siz rfl (siz rfl (siz rfl (fin ((M.grow x6).cnt (λp=>by simp only[bO,bz,cg] at *;omega)) (Bd (x:=strOf p m l) O O2 O3 hl))))))
  ·have P:RdP bQ h4 ⟨g25,0,none⟩ _:=M.rdp .here (bQ.look O2 M (List.nil_sublist _))
   refine (Ek hm).mono ?_
   rintro _ h5 ⟨⟨k3,y3,z3,rfl,O3⟩,x5⟩
   refine fe (P.pin rfl x5 ?_)
   refine wV (r:=rF .f32) (z:=0) (zc:=[.float .f32 0]) ⟨rfl,0,rfl,fw0⟩ rfl rfl (by decide) (M.grow x5) (by show 4*Dd p m≤2 ^ 48;omega) (Nat.le_trans g4 (by decide)) λg29 h6 x6 M O=>P.pin rfl (x5.trans x6) ?_
   exact siz rfl (siz rfl (siz rfl (fin (M.cnt (λp=>by simp only[bO,bz,cg] at *;omega)) (Bd (x:=strOf p m l) O O2 O3 hl))))
 unfold dC.J3
 refine fS hp hm λuQ kB=>?_
 have aqv:nan .f32 (jC .f32 p m)=false:=by unfold Sx.nan;rw[hr];rfl
 have avY:=kB.eq aqv
 subst avY
 refine Ul (Ln hr) (by omega) (by omega) (fS kB (dr .f32 _) λG2 oZ=>?_)
 rw[cY oZ api,← hf]
 rw[← hf] at g1'
 refine br (λkk=>?_) λkk=>?_
 ·rw[Fm (by omega) (by omega)]
  exact key _ (by unfold Dd flt;rw[if_pos kk]) kB
 ·exact key _ (by unfold Dd flt;rw[kk];rfl) kB
theorem TS{l z:Nat}(hp:FW .f32 x p)(hm:FW .f32 a m)(hl:FW .f32 z l):ae ai tN #[.float .f32 x,.float .f32 a,.float .f32 z] (λu h'=>jG aX h h' u (cT p m l).1 (cT p m l).2) h:=by
 refine dA.call ((Mem.start h).alc λg1 h1 x1 M=>?_)
 have bad:∀{hh:ab},Mem h hh [(g1,aB,⟨aL⟩)]->cT p m l=(ff,2)->STA 15 hh ⟨g1,0,none⟩ ⟨aL⟩ λh8=>LDA 15 h8 ⟨g1,0,none⟩ λa9=>jG aX h h8 (.tuple ⟨[.agg a9,.int .i64 (2:Int)]⟩) (cT p m l).1 (cT p m l).2:=λM e=>by
  rw[e]
  exact M.dy .here rfl (eG rfl) rfl .here λh3 M=>M.cM .here rfl ⟨_,[],rfl,uG,(Mem.start h).grow M.ext⟩
 refine goM M (lS hp c3 YX _) λh2 M=>bd (brN (λe=>bad M (by rw[cT,e];rfl)) λe1=>?_)
 refine goM M (lS hm fw0 c05 _) λh3 M=>bd (brN (λe=>bad M (by rw[cT,e1,e];rfl)) λe2=>?_)
 refine goM M (lS hl fw0 c1 _) λh4 M=>bd (brN (λe=>bad M (by rw[cT,e1,e2,e];rfl)) λe3=>?_)
 have Gz:cT p m l=(strOf p m l,0):=by rw[cT,e1,e2,e3];rfl
 rw[Gz]
 obtain⟨k,e,hr,hf,g1',g2',g3,g4⟩:=NL (l:=l) e1 e2
 have fin:∀{hh:ab}{B:List Blk}{cells:List Value},Mem h hh ((g1,aB,⟨aL⟩) :: B)->aX.ow B cells (strOf p m l)->STA 15 hh ⟨g1,0,none⟩ ⟨cells⟩ λwQ=>LDA 15 wQ ⟨g1,0,none⟩ λRQ=>jG aX h wQ (.tuple ⟨[.agg RQ,.int .i64 (0:Int)]⟩) (strOf p m l) 0:=λM O=>
  M.dy .here (aX.kF O) (aX.iH O) rfl .here λwQ M=>M.cM .here (aX.kF O) ⟨_,_,rfl,O,M.drop⟩
 have key:∀n9:Nat,n9=Dd p m->∀{hh:ab}{uQ y9:Nat},Mem h hh [(g1,aB,⟨aL⟩)]->FW .f32 uQ (jC .f32 p m)->FW .f32 y9 (f32.nearest (n9:Int))->dA.J7 (λu h'=>jG aX h h' u (strOf p m l) 0) a z ⟨g1,0,none⟩ uQ y9 hh:=by
  intro n9 hn hh uQ y9 M kB h9
  subst hn
  unfold dA.J7
  have h9e:=h9.eq (dW _ _)
  subst h9e
  refine Ul (XW (by omega)) (by omega) (by omega) ((PU _ _).mono ?_)
  rintro _ h2 ⟨cR,BR,rfl,OR,N⟩
  have K6:inR ((Dd p m:Nat):Int) 1 1024=true:=by rw[inR,decide_eq_true (by omega),decide_eq_true (by omega)];rfl
  rw[K6] at OR
  obtain⟨b,l',c',rfl,OS⟩:=oT OR
  have OS:SlO au (rF .f32) BR b l' c' (List.replicate (Dd p m) 0):=OS
  have M:=M.join N
  refine nq (fe (cX (M.alc λZ6 h3 x3 M=>M.dy .here rfl (eG rfl) rfl .here λh4 M=>fS kB h9 λTP Ur=>(Rh Ur).mono ?_)))
  rintro _ h5 ⟨⟨k2,n2,y2,rfl,O2⟩,x5⟩
  refine nq (fe (cX ((M.grow x5).alc λg43 h6 x6 M=>M.dy .here rfl (eG rfl) rfl .here λh7 M=>M.cM (.there .here) rfl (M.cM .here rfl ((aad hm).mono ?_)))))
  rintro _ h8 ⟨⟨k3,y3,z3,rfl,O3⟩,x8⟩
  have P:RdP bQ h7 ⟨g43,0,none⟩ _:=M.rdp .here (bQ.look O2 M (List.nil_sublist _))
  have Q:RdP bo h7 ⟨Z6,0,none⟩ ⟨List.replicate (Dd p m) 0,0⟩:=M.rdp (.there .here) (bo.look (Cx (r:=⟨List.replicate (Dd p m) 0,0⟩) OS) (M.cnt (W:=BR)) (List.Sublist.refl _))
  refine fe (P.pin rfl x8 (Q.pin rfl x8 (siz rfl (siz rfl (siz rfl (fin ((M.grow x8).cnt (λp=>by simp only[bO,bz,cg] at *;omega)) (Bd (x:=strOf p m l) OS O2 O3 hl)))))))
 unfold dA.J3
 refine fS hp hm λuQ kB=>?_
 have aqv:nan .f32 (jC .f32 p m)=false:=by unfold Sx.nan;rw[hr];rfl
 obtain⟨B,hB⟩:∃B:Nat,1100≤B:=⟨1100,Nat.le_refl _⟩
 obtain⟨_,_,hw,_⟩:=xr hB hr
 have ae5:wid (jC .f32 p m)=wide (jC .f32 p m):=nR hw
 have hnw:nan .f64 (wide (jC .f32 p m))=false:=by unfold Sx.nan;rw[hw];rfl
 obtain⟨_,_,hwr,_⟩:=yG hB false (N:=whole k e) (by omega)
 have hnf:nan .f64 (flr (wide (jC .f32 p m)))=false:=by rw[HI hr];unfold Sx.nan;rw[hwr];rfl
 obtain⟨nf1,nf2⟩:=abv (N:=whole k e) (by omega)
 refine cK kB λZE tz=>?_
 rw[ae5] at tz
 have aw6:=tz.eq hnw
 subst aw6
 refine goM M (EJ hnw _) λh5 M=>dv ?_
 refine Lj (WM hnf) (by rw[HI hr];exact nf1) λF9 mZ=>?_
 rw[HI hr,nf2,← rE,← hf] at mZ
 rw[← hf] at g1'
 refine fS kB mZ λIN D6=>?_
 rw[cY D6 api]
 refine br (λkk=>fS mZ c1 λQL oJ=>?_) λkk=>?_
 ·rw[sub_one (by omega) (by omega)] at oJ
  exact key _ (by unfold Dd flt;rw[if_pos kk]) M kB oJ
 ·exact key _ (by unfold Dd flt;rw[kk];rfl) M kB mZ
end
end Go.Sx
namespace Go.Sx
open FloatKind (f32 f64)
open IntKind (i64)
open Go.Proofs
set_option maxRecDepth 100000
def iW.B4(aa:VH)(b:(Addr×Addr×Int)->ab->Prop):Addr×Addr×Int->ab->Prop
 | (f_0,g_1,i_5),h=>
 BIF ((decide (i_5<3))) (
 IDX i_5 3 <|
 oF .f32 (cell h ((Addr.add (f_0.add 1) (i_5.toNat*1)))) λc=>
 IDX i_5 3 <|
 oF .f32 (cell h ((Addr.add (g_1.add 1) (i_5.toNat*1)))) λd=>
 ae ai eL #[.float .f32 c,.float .f32 d] (λe a=>
 asB e λf=>
 BIF (!f) (
 aa (.bool false) a) (
 b (f_0,g_1,((i64.wrap (i_5+1)))) a)) h) (
 IDX 0 2 <|
 oF .f32 (cell h (f_0.add 4)) λg=>
 IDX 0 2 <|
 oF .f32 (cell h (g_1.add 4)) λi=>
 ae ai eL #[.float .f32 g,.float .f32 i] (λAf kc=>
 asB Af λLe=>
 BIF Le (
 IDX 1 2 <|
 oF .f32 (cell kc (f_0.add 5)) λCu=>
 IDX 1 2 <|
 oF .f32 (cell kc (g_1.add 5)) λFJ=>
 ae ai eL #[.float .f32 Cu,.float .f32 FJ] (λDc iJ=>
 asB Dc λOY=>
 aa (.bool OY) iJ) kc) (
 aa (.bool false) kc)) h)
def iW.g4(fr:Frame):Addr×Addr×Int:=((gP (ah fr 0)),(gP (ah fr 1)),(gI (ah fr 5)))
def iW.l4(aa:VH):=gg (kds 57 [(0,.p),(1,.p),(5,.i .i64)]) λfr=>bh (iW.B4 aa) (iW.g4 fr)
def iW.S(f_0:Addr)(g_1:Addr)(aa:VH)(h:ab):=
 oI .i64 (cell h f_0) λa=>
 oI .i64 (cell h g_1) λb=>
 BIF (a != b) (
 aa (.bool false) h) (
 bh (iW.B4 aa) (f_0,g_1,0) h)
theorem iW.call{f_0:Addr}{g_1:Addr}{aa:VH}{h:ab}(H:iW.S f_0 g_1 aa h):ae ai mo #[.pointer (some f_0),.pointer (some g_1)] aa h:=
 qc (Λ:=an [(1000004,iW.l4 aa)]) Tryz.func315
 (qs qf (qs qf (qs (qs qf (Rq.block (ql (iW.l4 aa) (qg (g:=iW.g4) (Λ:=λa=>an []) (λ_ _ _=>by kernel_rfl) (λa=>qf))))) qf)))
 (qe H)
def aO.B4(aa:VH)(e:(Option Addr×Nat×Nat×Value×Option Addr×Nat×Nat×Int×Int)->ab->Prop):Option Addr×Nat×Nat×Value×Option Addr×Nat×Nat×Int×Int->ab->Prop
 | (oW,mA,rH,eq_2,b,c,f,d,a),h=>
 BIF (decide (a<d)) (
 bg b a c λg=>
 oF .f32 (cell h ((Addr.add g (a.toNat*1)))) λi=>
 bg oW a mA λj=>
 oF .f32 (cell h ((Addr.add j (a.toNat*1)))) λAg=>
 oc ai eq_2 #[.float .f32 i,.float .f32 Ag] (λwi iG=>
 asB wi λHb=>
 BIF (!Hb) (
 aa (.bool false) iG) (
 e (oW,mA,rH,eq_2,b,c,f,d,((i64.wrap (a+1)))) iG)) h) (
 aa (.bool true) h)
def aO.g4(fr:Frame):Option Addr×Nat×Nat×Value×Option Addr×Nat×Nat×Int×Int:=((gLb (ah fr 1)),(gLl (ah fr 1)),(gLc (ah fr 1)),(ah fr 2),(gLb (ah fr 15)),(gLl (ah fr 15)),(gLc (ah fr 15)),(gI (ah fr 16)),(gI (ah fr 17)))
def aO.l4(aa:VH):=gg (kds 32 [(1,.l),(2,.v),(15,.l),(16,.i .i64),(17,.i .i64)]) λfr=>bh (aO.B4 aa) (aO.g4 fr)
def aO.S(a:Option Addr)(oU va:Nat)(oW:Option Addr)(mA rH:Nat)(eq_2:Value)(aa:VH)(h:ab):=
 BIF ((oU:Int) != (mA:Int)) (
 aa (.bool false) h) (
 bh (aO.B4 aa) (oW,mA,rH,eq_2,a,oU,va,(oU:Int),0) h)
theorem aO.call{a:Option Addr}{oU va:Nat}{oW:Option Addr}{mA rH:Nat}{eq_2:Value}{aa:VH}{h:ab}(H:aO.S a oU va oW mA rH eq_2 aa h):ae ai ep #[.slice a oU va,.slice oW mA rH,eq_2] aa h:=
 qc (Λ:=an [(1000004,aO.l4 aa)]) Tryz.func296
 (qs qf (qs qf (qs (qs qf (Rq.block (ql (aO.l4 aa) (qg (g:=aO.g4) (Λ:=λb=>an []) (λ_ _ _=>by kernel_rfl) (λb=>qf))))) qf)))
 (qe H)
def uf.S(aQ:Option Addr)(aD bC:Nat)(lr:Option Addr)(kE mE:Nat)(aa:VH)(h:ab):=
 ae ai ep #[.slice aQ aD bC,.slice lr kE mE,.func (.func 150) #[] #[]] (λa b=>
 asB a λc=>
 aa (.bool c) b) h
theorem uf.call{aQ:Option Addr}{aD bC:Nat}{lr:Option Addr}{kE mE:Nat}{aa:VH}{h:ab}(H:uf.S aQ aD bC lr kE mE aa h):ae ai jJ #[.slice aQ aD bC,.slice lr kE mE] aa h:=
 qc (Λ:=an []) Tryz.func206
 qf
 (qe H)
def zQ.S(r_0:Array Value)(s_1:Array Value)(aa:VH)(h:ab):=
 ALC r_0 aq (λc e=>
 ALC s_1 aq (λd b=>
 oL (cell b ⟨c,0,none⟩) λEY Df HY=>
 oL (cell b ⟨d,0,none⟩) λMz MA TO=>
 ae ai jJ #[.slice EY Df HY,.slice Mz MA TO] (λf a=>
 asB f λg=>
 BIF g (
 oI .i64 (cell a ⟨c,1,none⟩) λrD=>
 oI .i64 (cell a ⟨d,1,none⟩) λBq=>
 aa (.bool (rD==Bq)) a) (
 aa (.bool false) a)) b) e) h
theorem zQ.call{r_0:Array Value}{s_1:Array Value}{aa:VH}{h:ab}(H:zQ.S r_0 s_1 aa h):ae ai kA #[.agg r_0,.agg s_1] aa h:=
 qc (Λ:=an []) Tryz.func368
 qf
 (qe H)
def vW.S(f_0:Array Value)(g_1:Array Value)(aa:VH)(h:ab):=
 ALC f_0 db (λb e=>
 ALC g_1 db (λc a=>
 oI .i64 (cell a ⟨b,0,none⟩) λf=>
 oI .i64 (cell a ⟨c,0,none⟩) λg=>
 BIF (f==g) (
 SLB 0 3 3 <|
 SLB 0 3 3 <|
 ae ai jJ #[.slice (some (slP ⟨b,1,none⟩ 3 0 1)) (3-0) (3-0),.slice (some (slP ⟨c,1,none⟩ 3 0 1)) (3-0) (3-0)] (λi d=>
 asB i λj=>
 BIF j (
 SLB 0 2 2 <|
 SLB 0 2 2 <|
 ae ai jJ #[.slice (some (slP ⟨b,4,none⟩ 2 0 1)) (2-0) (2-0),.slice (some (slP ⟨c,4,none⟩ 2 0 1)) (2-0) (2-0)] (λAf kc=>
 asB Af λLe=>
 aa (.bool Le) kc) d) (
 aa (.bool false) d)) a) (
 aa (.bool false) a)) e) h
theorem vW.call{f_0:Array Value}{g_1:Array Value}{aa:VH}{h:ab}(H:vW.S f_0 g_1 aa h):ae ai ki #[.agg f_0,.agg g_1] aa h:=
 qc (Λ:=an []) Tryz.func369
 qf
 (qe H)
def vY.S(x_0:Array Value)(y_1:Array Value)(aa:VH)(h:ab):=
 ALC x_0 aB (λa e=>
 ALC y_1 aB (λb d=>
 LDA 2 d ⟨a,0,none⟩ λf=>
 LDA 2 d ⟨b,0,none⟩ λg=>
 ae ai kA #[.agg f,.agg g] (λi c=>
 asB i λj=>
 BIF j (
 LDA 6 c ⟨a,2,none⟩ λAz=>
 LDA 6 c ⟨b,2,none⟩ λtq=>
 ae ai ki #[.agg Az,.agg tq] (λuu gf=>
 asB uu λFv=>
 BIF Fv (
 LDA 6 gf ⟨a,8,none⟩ λRP=>
 LDA 6 gf ⟨b,8,none⟩ λIK=>
 ae ai ki #[.agg RP,.agg IK] (λGV jn=>
 asB GV λLJ=>
 BIF LJ (
 oF .f32 (cell jn ⟨a,14,none⟩) λIk=>
 oF .f32 (cell jn ⟨b,14,none⟩) λIl=>
 ae ai fy #[.float .f32 Ik,.float .f32 Il] (λGW mZ=>
 asB GW λk=>
 aa (.bool k) mZ) jn) (
 aa (.bool false) jn)) gf) (
 aa (.bool false) gf)) c) (
 aa (.bool false) c)) d) e) h
theorem vY.call{x_0:Array Value}{y_1:Array Value}{aa:VH}{h:ab}(H:vY.S x_0 y_1 aa h):ae ai sg #[.agg x_0,.agg y_1] aa h:=
 qc (Λ:=an []) Tryz.func321
 qf
 (qe H)
def aC.B4(aa:VH)(g:(Option Addr×Nat×Nat×Value×Option Addr×Nat×Nat×Int×Int)->ab->Prop):Option Addr×Nat×Nat×Value×Option Addr×Nat×Nat×Int×Int->ab->Prop
 | (oW,mA,rH,eq_2,b,c,i,d,a),h=>
 BIF (decide (a<d)) (
 bg b a c λj=>
 LDA 2 h ((Addr.add j (a.toNat*2))) λk=>
 ALC ⟨fO⟩ aq (λe gd=>
 STA 2 gd ⟨e,0,none⟩ k λkc=>
 bg oW a mA λOo=>
 LDA 2 kc ((Addr.add Oo (a.toNat*2))) λOX=>
 ALC ⟨fO⟩ aq (λf kB=>
 STA 2 kB ⟨f,0,none⟩ OX λiJ=>
 LDA 2 iJ ⟨e,0,none⟩ λHt=>
 LDA 2 iJ ⟨f,0,none⟩ λl=>
 oc ai eq_2 #[.agg Ht,.agg l] (λFH jZ=>
 asB FH λm=>
 BIF (!m) (
 aa (.bool false) jZ) (
 g (oW,mA,rH,eq_2,b,c,i,d,((i64.wrap (a+1)))) jZ)) iJ) kc) h) (
 aa (.bool true) h)
def aC.g4(fr:Frame):Option Addr×Nat×Nat×Value×Option Addr×Nat×Nat×Int×Int:=((gLb (ah fr 1)),(gLl (ah fr 1)),(gLc (ah fr 1)),(ah fr 2),(gLb (ah fr 15)),(gLl (ah fr 15)),(gLc (ah fr 15)),(gI (ah fr 16)),(gI (ah fr 17)))
def aC.l4(aa:VH):=gg (kds 32 [(1,.l),(2,.v),(15,.l),(16,.i .i64),(17,.i .i64)]) λfr=>bh (aC.B4 aa) (aC.g4 fr)
def aC.S(a:Option Addr)(oU va:Nat)(oW:Option Addr)(mA rH:Nat)(eq_2:Value)(aa:VH)(h:ab):=
 BIF ((oU:Int) != (mA:Int)) (
 aa (.bool false) h) (
 bh (aC.B4 aa) (oW,mA,rH,eq_2,a,oU,va,(oU:Int),0) h)
theorem aC.call{a:Option Addr}{oU va:Nat}{oW:Option Addr}{mA rH:Nat}{eq_2:Value}{aa:VH}{h:ab}(H:aC.S a oU va oW mA rH eq_2 aa h):ae ai cJ #[.slice a oU va,.slice oW mA rH,eq_2] aa h:=
 qc (Λ:=an [(1000004,aC.l4 aa)]) Tryz.func370
 (qs qf (qs qf (qs (qs qf (Rq.block (ql (aC.l4 aa) (qg (g:=aC.g4) (Λ:=λb=>an []) (λ_ _ _=>by kernel_rfl) (λb=>qf))))) qf)))
 (qe H)
def iO.J2(aa:VH)(x_2:Addr)(y_3:Addr)(a:Bool)(h:ab):=
 BIF a (
 oL (cell h (x_2.add 2)) λFD b HX=>
 oL (cell h (y_3.add 2)) λDY DZ FE=>
 ae ai jJ #[.slice FD b HX,.slice DY DZ FE] (λGV jn=>
 asB GV λLJ=>
 BIF LJ (
 LDA 6 jn (x_2.add 3) λHu=>
 LDA 6 jn (y_3.add 3) λc=>
 ae ai ki #[.agg Hu,.agg c] (λGW mZ=>
 asB GW λd=>
 BIF d (
 oB (cell mZ (x_2.add 9)) λe=>
 oB (cell mZ (y_3.add 9)) λf=>
 BIF (e==f) (
 oF .f32 (cell mZ (x_2.add 10)) λNq=>
 oF .f32 (cell mZ (y_3.add 10)) λg=>
 ae ai fy #[.float .f32 Nq,.float .f32 g] (λVp GD=>
 asB Vp λi=>
 BIF i (
 oF .f32 (cell GD (x_2.add 11)) λWe=>
 oF .f32 (cell GD (y_3.add 11)) λj=>
 ae ai fy #[.float .f32 We,.float .f32 j] (λWd tA=>
 asB Wd λk=>
 BIF k (
 oF .f32 (cell tA (x_2.add 12)) λWf=>
 oF .f32 (cell tA (y_3.add 12)) λZF=>
 ae ai fy #[.float .f32 Wf,.float .f32 ZF] (λl IL=>
 asB l λm=>
 aa (.bool m) IL) tA) (
 aa (.bool false) tA)) GD) (
 aa (.bool false) GD)) mZ) (
 aa (.bool false) mZ)) (
 aa (.bool false) mZ)) jn) (
 aa (.bool false) jn)) h) (
 aa (.bool false) h)
def iO.j2(aa:VH):=gg (kds 61 [(2,.p),(3,.p),(5,.b)]) λfr=>iO.J2 aa (gP (ah fr 2)) (gP (ah fr 3)) (gB (ah fr 5))
def iO.S(x_0:Array Value)(y_1:Array Value)(aa:VH)(h:ab):=
 ALC x_0 av (λa e=>
 ALC y_1 av (λb d=>
 oL (cell d ⟨a,0,none⟩) λEY Df HY=>
 oL (cell d ⟨b,0,none⟩) λMz MA TO=>
 ae ai cJ #[.slice EY Df HY,.slice Mz MA TO,.func (.func 368) #[] #[]] (λf c=>
 asB f λg=>
 BIF g (
 oL (cell c ⟨a,1,none⟩) λuY rj yg=>
 oL (cell c ⟨b,1,none⟩) λrN qd ui=>
 ae ai cJ #[.slice uY rj yg,.slice rN qd ui,.func (.func 368) #[] #[]] (λuu gf=>
 asB uu λFv=>
 iO.J2 aa ⟨a,0,none⟩ ⟨b,0,none⟩ Fv gf) c) (
 iO.J2 aa ⟨a,0,none⟩ ⟨b,0,none⟩ false c)) d) e) h
theorem iO.call{x_0:Array Value}{y_1:Array Value}{aa:VH}{h:ab}(H:iO.S x_0 y_1 aa h):ae ai vp #[.agg x_0,.agg y_1] aa h:=
 qc (Λ:=an [(2,iO.j2 aa)]) Tryz.func322
 (qs qf (qj (iO.j2 aa) qf
 qf))
 (qe H)
def BW.S(x_0:Array Value)(y_1:Array Value)(aa:VH)(h:ab):=
 ALC x_0 dc (λa e=>
 ALC y_1 dc (λb d=>
 LDA 2 d ⟨a,0,none⟩ λf=>
 LDA 2 d ⟨b,0,none⟩ λg=>
 ae ai kA #[.agg f,.agg g] (λi c=>
 asB i λj=>
 BIF j (
 LDA 2 c ⟨a,2,none⟩ λAz=>
 LDA 2 c ⟨b,2,none⟩ λtq=>
 ae ai kA #[.agg Az,.agg tq] (λuu gf=>
 asB uu λFv=>
 BIF Fv (
 LDA 6 gf ⟨a,4,none⟩ λRP=>
 LDA 6 gf ⟨b,4,none⟩ λIK=>
 ae ai ki #[.agg RP,.agg IK] (λGV jn=>
 asB GV λLJ=>
 BIF LJ (
 oF .f32 (cell jn ⟨a,10,none⟩) λIk=>
 oF .f32 (cell jn ⟨b,10,none⟩) λIl=>
 ae ai fy #[.float .f32 Ik,.float .f32 Il] (λGW mZ=>
 asB GW λk=>
 BIF k (
 oF .f32 (cell mZ ⟨a,11,none⟩) λQL=>
 oF .f32 (cell mZ ⟨b,11,none⟩) λYi=>
 ae ai fy #[.float .f32 QL,.float .f32 Yi] (λTj uN=>
 asB Tj λl=>
 aa (.bool l) uN) mZ) (
 aa (.bool false) mZ)) jn) (
 aa (.bool false) jn)) gf) (
 aa (.bool false) gf)) c) (
 aa (.bool false) c)) d) e) h
theorem BW.call{x_0:Array Value}{y_1:Array Value}{aa:VH}{h:ab}(H:BW.S x_0 y_1 aa h):ae ai xA #[.agg x_0,.agg y_1] aa h:=
 qc (Λ:=an []) Tryz.func323
 qf
 (qe H)
set_option maxHeartbeats 1000000
section
variable {h:ab}
theorem Kw{b1 b2:Option Addr}{l1 c1 l2 c2:Nat}{xs ys:List Nat}(S1:SlR (rF .f32) h b1 l1 c1 xs)(S2:SlR (rF .f32) h b2 l2 c2 ys):
  ae ai ep #[.slice b1 l1 c1,.slice b2 l2 c2,.func (.func fy) #[] #[]] (λu h'=>u = .bool (same xs ys)∧Ext h h') h:=by
 have e1:=S1.len
 have e2:=S2.len
 have h2:=S1.2.1
 have h3:=S1.2.2.1
 have:=bW
 refine aO.call (br (λhb=>⟨by rw[Vy (by simp at hb;omega)],Ext.refl _⟩) λhb=>?_)
 obtain rfl:l1=l2:=by simp at hb;omega
 refine loop (λx hh=>∃n:Nat,x=(b2,l1,c2,.func (.func fy) #[] #[],b1,l1,c1,(l1:Int),(n:Int))∧n≤l1∧Ext h hh∧∀i,i<n->same xs[i]! ys[i]! = true) (λx=>(l1-x.2.2.2.2.2.2.2.2).toNat) ⟨0,rfl,by omega,Ext.refl _,λi hi=>by omega⟩ ?_
 rintro x hh ⟨n,rfl,hn,X,hs⟩
 refine brd (λhc=>?_) λhc=>⟨by rw[NC (by omega) λi hi=>hs i (by omega)],X⟩
 refine (S1.ext X).idx (by decide) (by omega) (by omega) λa Ra=>Ra.oF1 λy hy=>(S2.ext X).idx (by decide) (by omega) (by omega) λa' Rb=>Rb.oF1 λz hz=>goD X (show ae ai fy #[.float .f32 y,.float .f32 z] _ hh from rU hy hz _) λh8 x8=>bd (br (λhb=>⟨?_,x8⟩) λhb=>?_)
 ·have hb:=nt hb
  rw[Ip] at hb
  rw[Tk hb]
 ·have hb:=nf hb
  rw[Ip] at hb
  refine ⟨⟨n+1,by rw[ag (by omega)],by omega,x8,λi hi=>?_⟩,by rw[ag (by omega)];show _<_;simp;omega⟩
  by_cases e:i=n
  ·subst e;exact hb
  ·exact hs i (by omega)
theorem qm{b1 b2:Option Addr}{l1 c1 l2 c2:Nat}{xs ys:List Nat}(S1:SlR (rF .f32) h b1 l1 c1 xs)(S2:SlR (rF .f32) h b2 l2 c2 ys):
  ae ai jJ #[.slice b1 l1 c1,.slice b2 l2 c2] (λu h'=>u = .bool (same xs ys)∧Ext h h') h:=uf.call (goX (Kw S1 S2) λh' x=>bd ⟨rfl,x⟩)
theorem Gl{ca cb:Array Value}{x y:bc}(Ra:bo.rd h ca.toList x)(Rb:bo.rd h cb.toList y):ae ai kA #[.agg ca,.agg cb] (λu h'=>u = .bool (same x y)∧Ext h h') h:=by
 refine zQ.call (fj Ra λg1 h1 x1 A=>fj (bo.ext x1 Rb) λg2 h2 x2 B0=>?_)
 have A0:=A.ext x2
 have X0:=x1.trans x2
 have E0:=Ext.refl h2
 have A:∀{hh:ab},Ext h2 hh->RdP bo hh ⟨g1,0,none⟩ x:=λe=>A0.ext e
 have B:∀{hh:ab},Ext h2 hh->RdP bo hh ⟨g2,0,none⟩ y:=λe=>B0.ext e
 (repeat' (first
  | exact (Bool.false_ne_true hb).elim
  | refine bd ?_
  | refine dS ?_
  | refine RdP.oL2 (A (by assumption)) λ_ _ _ _=>?_
  | refine RdP.oI2 (A (by assumption)) ?_
  | refine RdP.oL2 (B (by assumption)) λ_ _ _ _=>?_
  | refine RdP.oI2 (B (by assumption)) ?_
  | refine RdP.gi (A (by assumption)) rfl λ_ _=>?_
  | refine RdP.gi (B (by assumption)) rfl λ_ _=>?_
  | refine goE (by assumption) (qm (by assumption) (by assumption)) λ_ _=>?_
  | refine brN (λhb=>?_) (λhb=>?_)
  | refine br (λhb=>?_) (λhb=>?_)
  | exact ⟨by rw[Fb];simp[*],X0.trans (by assumption)⟩))
theorem wF{ca cb:Array Value}{x y:cN}(Ra:bQ.rd h ca.toList x)(Rb:bQ.rd h cb.toList y):ae ai ki #[.agg ca,.agg cb] (λu h'=>u = .bool (same x y)∧Ext h h') h:=by
 refine vW.call (fj Ra λg1 h1 x1 A=>fj (bQ.ext x1 Rb) λg2 h2 x2 B0=>?_)
 have A0:=A.ext x2
 have X0:=x1.trans x2
 have E0:=Ext.refl h2
 have A:∀{hh:ab},Ext h2 hh->RdP bQ hh ⟨g1,0,none⟩ x:=λe=>A0.ext e
 have B:∀{hh:ab},Ext h2 hh->RdP bQ hh ⟨g2,0,none⟩ y:=λe=>B0.ext e
 have SxC:∀{hh:ab},Ext h2 hh->SlR (rF .f32) hh (some (slP ⟨g1,1,none⟩ 3 0 1)) (3-0) (3-0) x.C:=λe=>by rw[vf];exact ((A e).Sj cV).arr (by decide)
 have SxS:∀{hh:ab},Ext h2 hh->SlR (rF .f32) hh (some (slP ⟨g1,4,none⟩ 2 0 1)) (2-0) (2-0) x.S:=λe=>by rw[vf];exact ((A e).Sj cW).arr (by decide)
 have SyC:∀{hh:ab},Ext h2 hh->SlR (rF .f32) hh (some (slP ⟨g2,1,none⟩ 3 0 1)) (3-0) (3-0) y.C:=λe=>by rw[vf];exact ((B e).Sj cV).arr (by decide)
 have SyS:∀{hh:ab},Ext h2 hh->SlR (rF .f32) hh (some (slP ⟨g2,4,none⟩ 2 0 1)) (2-0) (2-0) y.S:=λe=>by rw[vf];exact ((B e).Sj cW).arr (by decide)
 (repeat' (first
  | refine slb (by decide) (by decide) (by decide) ?_
  | exact (Bool.false_ne_true hb).elim
  | refine bd ?_
  | refine dS ?_
  | refine RdP.oI2 (A (by assumption)) ?_
  | refine RdP.fc (A (by assumption)) cV rfl λ_ _=>?_
  | refine RdP.fc (A (by assumption)) cW rfl λ_ _=>?_
  | refine RdP.oI2 (B (by assumption)) ?_
  | refine RdP.fc (B (by assumption)) cV rfl λ_ _=>?_
  | refine RdP.fc (B (by assumption)) cW rfl λ_ _=>?_
  | refine RdP.gi (A (by assumption)) rfl λ_ _=>?_
  | refine RdP.gi (B (by assumption)) rfl λ_ _=>?_
  | refine goE (by assumption) (qm (SxC (by assumption)) (SyC (by assumption))) λ_ _=>?_
  | refine goE (by assumption) (qm (SxS (by assumption)) (SyS (by assumption))) λ_ _=>?_
  | refine brN (λhb=>?_) (λhb=>?_)
  | refine br (λhb=>?_) (λhb=>?_)
  | exact ⟨by rw[vb];simp[*],X0.trans (by assumption)⟩))
theorem NO:acZ ai bo (.func (.func kA) #[] #[]):=λca cb x y h Ra Rb=>by
 show ae ai kA #[.agg ca,.agg cb] _ h
 exact Gl Ra Rb
theorem Av{b1 b2:Option Addr}{l1 c1 l2 c2:Nat}{xs ys:List bc}{f:Value}(S1:SlR bo h b1 l1 c1 xs)(S2:SlR bo h b2 l2 c2 ys)(T:acZ ai bo f):
  ae ai cJ #[.slice b1 l1 c1,.slice b2 l2 c2,f] (λu h'=>u = .bool (same xs ys)∧Ext h h') h:=by
 have e1:=S1.len
 have e2:=S2.len
 have h2:=S1.2.1
 have h3:=S1.2.2.1
 have:=bW
 refine aC.call (br (λhb=>⟨by rw[Vy (by simp at hb;omega)],Ext.refl _⟩) λhb=>?_)
 obtain rfl:l1=l2:=by simp at hb;omega
 refine loop (λx hh=>∃n:Nat,x=(b2,l1,c2,f,b1,l1,c1,(l1:Int),(n:Int))∧n≤l1∧Ext h hh∧∀i,i<n->same xs[i]! ys[i]! = true) (λx=>(l1-x.2.2.2.2.2.2.2.2).toNat) ⟨0,rfl,by omega,Ext.refl _,λi hi=>by omega⟩ ?_
 rintro x hh ⟨n,rfl,hn,X,hs⟩
 refine brd (λhc=>?_) λhc=>⟨by rw[NC (by omega) λi hi=>hs i (by omega)],X⟩
 refine (S1.ext X).idx (by decide) (by omega) (by omega) λa Ra=>Ra.gi rfl λca R1=>(Mem.start hh).alc λg1 h4 x4 M=>M.dy .here (rsz R1 rfl) (bo.rQ R1) rfl .here λh5 M=>?_
 refine (S2.ext (X.trans M.ext)).idx (by decide) (by omega) (by omega) λa' Rb=>Rb.gi rfl λcb R2=>(Mem.start h5).alc λg2 h6 x6 N=>N.dy .here (rsz R2 rfl) (bo.rQ R2) rfl .here λh7 N=>?_
 have M:=M.join N
 refine M.cM (.there .here) (rsz R1 rfl) (M.cM .here (rsz R2 rfl) (goD (X.trans M.ext) (T _ _ _ _ _ (bo.ext M.ext R1) (bo.ext (N.ext) R2)) λh8 x8=>bd (br (λhb=>⟨?_,x8⟩) λhb=>?_)))
 ·rw[Tk (nt hb)]
 ·refine ⟨⟨n+1,by rw[ag (by omega)],by omega,x8,λi hi=>?_⟩,by rw[ag (by omega)];show _<_;simp;omega⟩
  by_cases e:i=n
  ·subst e;exact nf hb
  ·exact hs i (by omega)
end
section
variable {h:ab}
theorem Rm{ca cb:Array Value}{x y:bP}(Ra:aX.rd h ca.toList x)(Rb:aX.rd h cb.toList y):ae ai sg #[.agg ca,.agg cb] (λu h'=>u = .bool (same x y)∧Ext h h') h:=by
 refine vY.call (fj Ra λg1 h1 x1 A=>fj (aX.ext x1 Rb) λg2 h2 x2 B0=>?_)
 have A0:=A.ext x2
 have X0:=x1.trans x2
 have E0:=Ext.refl h2
 have A:∀{hh:ab},Ext h2 hh->RdP aX hh ⟨g1,0,none⟩ x:=λe=>A0.ext e
 have B:∀{hh:ab},Ext h2 hh->RdP aX hh ⟨g2,0,none⟩ y:=λe=>B0.ext e
 (repeat' (first
  | exact (Bool.false_ne_true hb).elim
  | refine bd ?_
  | refine dS ?_
  | refine RdP.fc (A (by assumption)) dg rfl λ_ _=>?_
  | refine RdP.fc (A (by assumption)) dh rfl λ_ _=>?_
  | refine RdP.fc (A (by assumption)) df rfl λ_ _=>?_
  | refine RdP.oF2 (A (by assumption)) λ_ _=>?_
  | refine RdP.fc (B (by assumption)) dg rfl λ_ _=>?_
  | refine RdP.fc (B (by assumption)) dh rfl λ_ _=>?_
  | refine RdP.fc (B (by assumption)) df rfl λ_ _=>?_
  | refine RdP.oF2 (B (by assumption)) λ_ _=>?_
  | refine RdP.gi (A (by assumption)) rfl λ_ _=>?_
  | refine RdP.gi (B (by assumption)) rfl λ_ _=>?_
  | refine goE (by assumption) (rU (by assumption) (by assumption) _) λ_ _=>?_
  | refine goE (by assumption) (Gl (by assumption) (by assumption)) λ_ _=>?_
  | refine goE (by assumption) (wF (by assumption) (by assumption)) λ_ _=>?_
  | refine brN (λhb=>?_) (λhb=>?_)
  | refine br (λhb=>?_) (λhb=>?_)
  | exact ⟨by rw[Kl];simp[*],X0.trans (by assumption)⟩))
theorem aae{ca cb:Array Value}{x y:jh}(Ra:fQ.rd h ca.toList x)(Rb:fQ.rd h cb.toList y):ae ai xA #[.agg ca,.agg cb] (λu h'=>u = .bool (same x y)∧Ext h h') h:=by
 refine BW.call (fj Ra λg1 h1 x1 A=>fj (fQ.ext x1 Rb) λg2 h2 x2 B0=>?_)
 have A0:=A.ext x2
 have X0:=x1.trans x2
 have E0:=Ext.refl h2
 have A:∀{hh:ab},Ext h2 hh->RdP fQ hh ⟨g1,0,none⟩ x:=λe=>A0.ext e
 have B:∀{hh:ab},Ext h2 hh->RdP fQ hh ⟨g2,0,none⟩ y:=λe=>B0.ext e
 (repeat' (first
  | exact (Bool.false_ne_true hb).elim
  | refine bd ?_
  | refine dS ?_
  | refine RdP.fc (A (by assumption)) fa rfl λ_ _=>?_
  | refine RdP.fc (A (by assumption)) dz rfl λ_ _=>?_
  | refine RdP.fc (A (by assumption)) eP rfl λ_ _=>?_
  | refine RdP.oF2 (A (by assumption)) λ_ _=>?_
  | refine RdP.fc (B (by assumption)) fa rfl λ_ _=>?_
  | refine RdP.fc (B (by assumption)) dz rfl λ_ _=>?_
  | refine RdP.fc (B (by assumption)) eP rfl λ_ _=>?_
  | refine RdP.oF2 (B (by assumption)) λ_ _=>?_
  | refine RdP.gi (A (by assumption)) rfl λ_ _=>?_
  | refine RdP.gi (B (by assumption)) rfl λ_ _=>?_
  | refine goE (by assumption) (rU (by assumption) (by assumption) _) λ_ _=>?_
  | refine goE (by assumption) (Gl (by assumption) (by assumption)) λ_ _=>?_
  | refine goE (by assumption) (wF (by assumption) (by assumption)) λ_ _=>?_
  | refine brN (λhb=>?_) (λhb=>?_)
  | refine br (λhb=>?_) (λhb=>?_)
  | exact ⟨by rw[Vx];simp[*],X0.trans (by assumption)⟩))
theorem Wm{ca cb:Array Value}{x y:cF}(Ra:ck.rd h ca.toList x)(Rb:ck.rd h cb.toList y):ae ai vp #[.agg ca,.agg cb] (λu h'=>u = .bool (same x y)∧Ext h h') h:=by
 refine iO.call (fj Ra λg1 h1 x1 A=>fj (ck.ext x1 Rb) λg2 h2 x2 B0=>?_)
 have A0:=A.ext x2
 have X0:=x1.trans x2
 have E0:=Ext.refl h2
 have A:∀{hh:ab},Ext h2 hh->RdP ck hh ⟨g1,0,none⟩ x:=λe=>A0.ext e
 have B:∀{hh:ab},Ext h2 hh->RdP ck hh ⟨g2,0,none⟩ y:=λe=>B0.ext e
 (repeat' (first
  | unfold iO.J2
  | exact (Bool.false_ne_true hb).elim
  | refine bd ?_
  | refine dS ?_
  | refine RdP.oL1 (A (by assumption)) λ_ _ _ _=>?_
  | refine RdP.oL (A (by assumption)) λ_ _ _ _=>?_
  | refine RdP.lda (A (by assumption)) dO rfl λ_ _=>?_
  | refine RdP.oB (A (by assumption)) ?_
  | refine RdP.oF (A (by assumption)) λ_ _=>?_
  | refine RdP.oL1 (B (by assumption)) λ_ _ _ _=>?_
  | refine RdP.oL (B (by assumption)) λ_ _ _ _=>?_
  | refine RdP.lda (B (by assumption)) dO rfl λ_ _=>?_
  | refine RdP.oB (B (by assumption)) ?_
  | refine RdP.oF (B (by assumption)) λ_ _=>?_
  | refine RdP.gi (A (by assumption)) rfl λ_ _=>?_
  | refine RdP.gi (B (by assumption)) rfl λ_ _=>?_
  | refine goE (by assumption) (rU (by assumption) (by assumption) _) λ_ _=>?_
  | refine goE (by assumption) (qm (by assumption) (by assumption)) λ_ _=>?_
  | refine goE (by assumption) (wF (by assumption) (by assumption)) λ_ _=>?_
  | refine goE (by assumption) (Av (by assumption) (by assumption) NO) λ_ _=>?_
  | refine brN (λhb=>?_) (λhb=>?_)
  | exact (Bool.false_ne_true hb).elim
  | refine bd ?_
  | refine dS ?_
  | refine RdP.oL2 (A (by assumption)) λ_ _ _ _=>?_
  | refine RdP.fc (A (by assumption)) dO rfl λ_ _=>?_
  | refine RdP.oB2 (A (by assumption)) ?_
  | refine RdP.oF2 (A (by assumption)) λ_ _=>?_
  | refine RdP.oL2 (B (by assumption)) λ_ _ _ _=>?_
  | refine RdP.fc (B (by assumption)) dO rfl λ_ _=>?_
  | refine RdP.oB2 (B (by assumption)) ?_
  | refine RdP.oF2 (B (by assumption)) λ_ _=>?_
  | refine RdP.gi (A (by assumption)) rfl λ_ _=>?_
  | refine RdP.gi (B (by assumption)) rfl λ_ _=>?_
  | refine goE (by assumption) (rU (by assumption) (by assumption) _) λ_ _=>?_
  | refine goE (by assumption) (qm (by assumption) (by assumption)) λ_ _=>?_
  | refine goE (by assumption) (wF (by assumption) (by assumption)) λ_ _=>?_
  | refine goE (by assumption) (Av (by assumption) (by assumption) NO) λ_ _=>?_
  | refine brN (λhb=>?_) (λhb=>?_)
  | refine br (λhb=>?_) (λhb=>?_)
  | exact ⟨by rw[QN];simp[*],X0.trans (by assumption)⟩))
end
section
variable {h:ab}
theorem EW{p q:Addr}{x y:cN}(A0:RdP bQ h p x)(B0:RdP bQ h q y):ae ai mo #[.pointer (some p),.pointer (some q)] (λu h'=>u = .bool (same x y)∧Ext h h') h:=by
 have hC:=(A0.foc cV).len
 have hC':=(B0.foc cV).len
 have hS:=aj7 (A0.foc cW).len (B0.foc cW).len
 refine iW.call (A0.oI1 (B0.oI1 (br (λhb=>⟨by rw[vb,show (x.Kind==y.Kind)=false from nt hb];rfl,Ext.refl _⟩) λhk=>?_)))
 have hk:(x.Kind==y.Kind)=true:=nf hk
 refine loop (λz hh=>∃n:Nat,z=(p,q,(n:Int))∧n≤3∧Ext h hh∧∀i,i<n->same x.C[i]! y.C[i]! = true) (λz=>(3-z.2.2).toNat) ⟨0,rfl,by omega,Ext.refl _,λi hi=>by omega⟩ ?_
 rintro z hh ⟨n,rfl,hn,X,hs⟩
 refine brd (λhc=>?_) λhc=>?_
 ·refine idx (by omega) (by omega) ((((A0.ext X).foc cV).elem (i:=n) (by omega)).oF1 λa ha=>idx (by omega) (by omega) ((((B0.ext X).foc cV).elem (i:=n) (by omega)).oF1 λb hb=>goE X (kq ha hb _) λh8 x8=>bd (br (λhb=>⟨?_,x8⟩) λhb=>?_)))
  ·have hb:=nt hb
   rw[Ip] at hb
   rw[vb,Tk hb,Bool.and_false,Bool.false_and]
  ·have hb:=nf hb
   rw[Ip] at hb
   refine ⟨⟨n+1,by rw[ag (by omega)],by omega,x8,λi hi=>?_⟩,by rw[ag (by omega)];show _<_;simp;omega⟩
   by_cases e:i=n
   ·subst e;exact hb
   ·exact hs i (by omega)
 ·have hCC:same x.C y.C=true:=NC (by omega) λi hi=>hs i (by omega)
  refine idx (by omega) (by omega) ((A0.ext X).oF λa ha=>idx (by omega) (by omega) ((B0.ext X).oF λb hb=>goE X (kq ha hb _) λh8 x8=>bd (br (λhz=>?_) λhz=>⟨?_,x8⟩)))
  ·refine idx (by omega) (by omega) ((A0.ext x8).oF λa ha=>idx (by omega) (by omega) ((B0.ext x8).oF λb hb=>goE x8 (kq ha hb _) λh9 x9=>bd ⟨?_,x9⟩))
   rw[vb,hk,hCC,hS,hz];rfl
  ·rw[vb,hk,hCC,hS,hz];rfl
end
end Go.Sx
