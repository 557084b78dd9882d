/- Lemmas. -/
import Derived.Test.YthgnpepchedpbaaGreatDoorLk29
import Derived.Test.YthgnpepchedpbaaGreatDoorH1
import Derived.Test.YthgnpepchedpbaaGreatDoorK9
import Derived.Test.YthgnpepchedpbaaGreatDoorTab
import Derived.Test.YthgnpepchedpbaaGreatDoorLr7
set_option linter.unusedVariables false
set_option linter.unusedSimpArgs false
namespace Go.Sx
open FloatKind (f32 f64)
open IntKind (i64)
open Go.Proofs Ieee
set_option maxRecDepth 100000
set_option maxHeartbeats 1000000
def ju(f:Nat):cz:=if inside f 0 1073741824 then⟨3,[fdiv .f32 (hH .f32 1065353216 f) (jW .f32 1065353216 f),0,0],[0,0]⟩ else pU
def LM(m:Nat):cz:=⟨2,[hH .f32 1065353216 m,m,0],[0,0]⟩
def py(k:Nat):cz:=⟨1,[hH .f32 1065353216 k,k,0],[0,0]⟩
def xC(p m:Nat):Nat:=if flt .f32 (hH .f32 (hH .f32 p m) (f32.nearest ((u4 (hH .f32 p m):Nat):Int))) 1048576000 then u4 (hH .f32 p m)-1 else u4 (hH .f32 p m)
def strOf(p m l:Nat):bK:={ Loop:=⟨List.replicate (xC p m) 0,0⟩,kS:=ju (hH .f32 (hH .f32 p m) (f32.nearest ((xC p m:Nat):Int))),fz:=LM m,fT:=l }
def ck(p m l:Nat):bK×Int:=if inside p 1077936128 1149239296 then if inside m 0 1056964608 then if inside l 0 1065353216 then(strOf p m l,0) else(iw,2) else(iw,2) else(iw,2)
def flC(k:Int)(a b c d e:Nat):List Value:=[.int .i64 k,.float .f32 a,.float .f32 b,.float .f32 c,.float .f32 d,.float .f32 e]
theorem rG{k:Int}{a b c d e a' b' c' d' e':Nat}(ha:FW .f32 a a')(hb:FW .f32 b b')(hc:FW .f32 c c')(hd:FW .f32 d d')(he:FW .f32 e e'):cx.ow [] (flC k a b c d e) ⟨k,[a',b',c'],[d',e']⟩:=
 ⟨[],[],[.int .i64 k],_,rfl,rfl,⟨rfl,rfl⟩,[],[],[.float .f32 a,.float .f32 b,.float .f32 c],[.float .f32 d,.float .f32 e],rfl,rfl,
  ⟨rfl,[],[],[.float .f32 a],_,rfl,rfl,⟨rfl,a,rfl,ha⟩,[],[],[.float .f32 b],_,rfl,rfl,⟨rfl,b,rfl,hb⟩,[],[],[.float .f32 c],[],rfl,rfl,⟨rfl,c,rfl,hc⟩,rfl,rfl⟩,
  ⟨rfl,[],[],[.float .f32 d],_,rfl,rfl,⟨rfl,d,rfl,hd⟩,[],[],[.float .f32 e],[],rfl,rfl,⟨rfl,e,rfl,he⟩,rfl,rfl⟩⟩
theorem vj{x:bK}{B:List Blk}{b:Option Addr}{l c:Nat}{v1 v2:List Value}{y:Nat}(O:SlO 22 (rF .f32) B b l c x.Loop.ae)(h1:cx.ow [] v1 x.kS)(h2:cx.ow [] v2 x.fz)(hy:FW .f32 y x.fT):
  bf.ow B ([.slice b l c,.int .i64 x.Loop.At]++(v1++(v2++[.float .f32 y]))) x:=
 ⟨B,[],[.slice b l c,.int .i64 x.Loop.At],_,by simp,rfl,⟨B,[],[.slice b l c],[.int .i64 x.Loop.At],by simp,rfl,⟨b,l,c,rfl,O⟩,⟨rfl,rfl⟩⟩,[],[],v1,_,rfl,rfl,h1,[],[],v2,[.float .f32 y],rfl,rfl,h2,⟨rfl,y,rfl,hy⟩⟩
theorem wh{B:List Blk}{cs:Array Value}{r:aY}(O:bQ.ow B cs.toList r):∃b l c,cs=⟨[.slice b l c,.int .i64 r.At]⟩∧SlO 22 (rF .f32) B b l c r.ae:=by
 obtain⟨B1,B2,v1,v2,rfl,e,⟨b,l,c,rfl,O1⟩,⟨rfl,rfl⟩⟩:=O
 exact⟨b,l,c,by cases cs;simpa using e,by simpa using O1⟩
theorem wi{B:List Blk}{b:Option Addr}{l c:Nat}{r:aY}(O:SlO 22 (rF .f32) B b l c r.ae):bQ.ow B [.slice b l c,.int .i64 r.At] r:=
 ⟨B,[],[.slice b l c],[.int .i64 r.At],by simp,rfl,⟨b,l,c,rfl,O⟩,⟨rfl,rfl⟩⟩
theorem R8{n:Nat}(h:n<2 ^ 24):(f32.decode (f32.nearest (n:Int))).toInt .zero=some (n:Int):=by
 rw[mI]
 by_cases h0:n=0
 ·subst h0
  have:f32.format.read (f32.format.nearest false 0 0) = .number false 0 (-149):=by rw[fv];exact HK false
  rw[Fm this];rfl
 ·have hl:n.log2≤23:=by
   have:=(Nat.log2_lt h0 (k:=24)).2 h
   omega
  rw[Fm (DL false h0 h (by decide) (by decide))]
  unfold whole
  rw[show(0+(n.log2:Int)-23).toNat=0 by omega,Nat.shiftLeft_zero,show(-(0+(n.log2:Int)-23)).toNat=23-n.log2 by omega,Nat.mul_div_cancel _ (Nat.two_pow_pos _)]
theorem sub_one{n:Nat}(h1:1≤n)(h:n<2 ^ 24):hH .f32 (f32.nearest (n:Int)) 1065353216=f32.nearest ((n-1:Nat):Int):=by
 have hl:n.log2≤23:=by
  have:=(Nat.log2_lt (n:=n) (by omega) (k:=24)).2 h
  omega
 have r1:f32.format.read 1065353216 = .number false (2 ^ 23) (-23):=by decide +kernel
 have rn:=DL false (m:=n) (p:=0) (by omega) h (by decide) (by decide)
 have rf:(Datum.number false (n*2 ^ (23-n.log2)) (0+(n.log2:Int)-23)).sum (Datum.number false (2 ^ 23) (-23)).opposite=some (.number false ((n-1)*2 ^ 23) (-23)):=by
  show some (Datum.number _ _ _)=_
  have hb:min (0+(n.log2:Int)-23) (-23) = -23:=by omega
  have ht:signed false (n*2 ^ (23-n.log2)) (0+(n.log2:Int)-23 - -23).toNat+signed (!false) (2 ^ 23) ((-23:Int) - -23).toNat=(((n-1)*2 ^ 23:Nat):Int):=by
   show signed false _ _+signed true _ _=_
   rw[eP,jS,Nat.mul_assoc,← Nat.pow_add,show 23-n.log2+(0+(n.log2:Int)-23 - -23).toNat=23 by omega,show((-23:Int) - -23).toNat=0 by decide,Nat.pow_zero,Nat.mul_one,Nat.sub_mul]
   omega
  rw[hb,ht]
  by_cases h0:n=1
  ·subst h0;rfl
  ·rw[if_neg (by omega),Int.natAbs_natCast,decide_eq_false (by omega)]
 have IE:f32.format.sub (f32.nearest (n:Int)) 1065353216=some (f32.nearest ((n-1:Nat):Int)):=by
  rw[mI,mI]
  unfold Format.sub
  rw[rn,r1,rf]
  exact congrArg some (pT _ _ 23 rfl (by decide))
 unfold hH
 rw[IE,Option.getD_some]
 exact(cK .f32 _).self
theorem c2:FW .f32 1073741824 1073741824:=eM (by decide) (by decide)
theorem c3:FW .f32 1077936128 1077936128:=eM (by decide) (by decide)
theorem Sw:FW .f32 1149239296 1149239296:=eM (by decide) (by decide)
theorem aia:FW .f32 1048576000 1048576000:=eM (by decide) (by decide)
section
variable {h:ab}{x a:Nat}
def ApR(u:Value)(f:Nat):Prop:=∃(k n:Int) (y:Nat),u = .tuple ⟨[.agg ⟨flC k y 0 0 0 0⟩,.int .i64 n]⟩∧cx.ow [] (flC k y 0 0 0 0) (ju f)
theorem Ko(hx:FW .f32 x a):af ak 282 #[.float .f32 x] (λu h'=>ApR u a∧Ext h h') h:=by
 refine fI.call ((Mem.start h).alc λg1 h1 x1 M=>?_)
 rw[cw hx fw0,cw hx c2]
 have bad:ju a=pU->STA 6 h1 ⟨g1,0,none⟩ ⟨gf⟩ λh8=>LDA 6 h8 ⟨g1,0,none⟩ λa9=>ApR (.tuple ⟨[.agg a9,.int .i64 (2:Int)]⟩) a∧Ext h h8:=λe=>
  M.dH .here rfl (dI rfl) rfl .here λh3 M=>M.df .here rfl ⟨⟨0,2,0,rfl,by rw[e];exact pj⟩,M.ext⟩
 refine br (λk1=>brN (λk2=>bad (by rw[ju,inside,fge,fle,k1,k2];rfl)) λk2=>?_) λk1=>bad (by rw[ju,inside,fge,k1];rfl)
 have e:inside a 0 1073741824=true:=by rw[inside,fge,fle,k1,k2];rfl
 unfold fI.J3
 refine fS c1 hx λr7 h7=>fA c1 hx λr8 h8=>fD h7 h8 λr9 h9=>siz rfl (M.dH .here rfl (dI rfl) rfl .here λh3 M=>M.df .here rfl ⟨⟨3,0,r9,rfl,?_⟩,M.ext⟩)
 rw[ju,e,if_pos rfl]
 exact rG h9 fw0 fw0 fw0 fw0
theorem CI(hx:FW .f32 x a):af ak 251 #[.float .f32 x] (λu h'=>ApR u a∧Ext h h') h:=by
 refine fO.call ((Mem.start h).alc λg1 h1 x1 M=>?_)
 rw[cw hx fw0,cw hx c2]
 have bad:ju a=pU->STA 6 h1 ⟨g1,0,none⟩ ⟨gf⟩ λh8=>LDA 6 h8 ⟨g1,0,none⟩ λa9=>ApR (.tuple ⟨[.agg a9,.int .i64 (2:Int)]⟩) a∧Ext h h8:=λe=>
  M.dH .here rfl (dI rfl) rfl .here λh3 M=>M.df .here rfl ⟨⟨0,2,0,rfl,by rw[e];exact pj⟩,M.ext⟩
 refine br (λk1=>brN (λk2=>bad (by rw[ju,inside,fge,fle,k1,k2];rfl)) λk2=>?_) λk1=>bad (by rw[ju,inside,fge,k1];rfl)
 have e:inside a 0 1073741824=true:=by rw[inside,fge,fle,k1,k2];rfl
 unfold fO.J3
 refine fS c1 hx λr7 h7=>fA c1 hx λr8 h8=>fD h7 h8 λr9 h9=>siz rfl (M.dH .here rfl (dI rfl) rfl .here λh3 M=>M.df .here rfl ⟨⟨3,0,r9,rfl,?_⟩,M.ext⟩)
 rw[ju,e,if_pos rfl]
 exact rG h9 fw0 fw0 fw0 fw0
def FlR(u:Value)(f:cz):Prop:=∃(k:Int) (y z:Nat),u = .agg ⟨flC k y z 0 0 0⟩∧cx.ow [] (flC k y z 0 0 0) f
theorem TG(hx:FW .f32 x a):af ak 283 #[.float .f32 x] (λu h'=>FlR u (LM a)∧Ext h h') h:=
 vH.call ((Mem.start h).alc λg1 h1 x1 M=>fS c1 hx λr3 h3=>siz rfl (M.dH .here rfl (dI rfl) rfl .here λh3' M=>M.df .here rfl ⟨⟨2,r3,x,rfl,rG h3 hx fw0 fw0 fw0⟩,M.ext⟩))
theorem yW(hx:FW .f32 x a):af ak 252 #[.float .f32 x] (λu h'=>FlR u (LM a)∧Ext h h') h:=
 wq.call ((Mem.start h).alc λg1 h1 x1 M=>fS c1 hx λr3 h3=>siz rfl (M.dH .here rfl (dI rfl) rfl .here λh3' M=>M.df .here rfl ⟨⟨2,r3,x,rfl,rG h3 hx fw0 fw0 fw0⟩,M.ext⟩))
theorem Jq(hx:FW .f32 x a):af ak 287 #[.float .f32 x] (λu h'=>FlR u (py a)∧Ext h h') h:=
 vG.call ((Mem.start h).alc λg1 h1 x1 M=>fS c1 hx λr3 h3=>siz rfl (M.dH .here rfl (dI rfl) rfl .here λh3' M=>M.df .here rfl ⟨⟨1,r3,x,rfl,rG h3 hx fw0 fw0 fw0⟩,M.ext⟩))
theorem yV(hx:FW .f32 x a):af ak 254 #[.float .f32 x] (λu h'=>FlR u (py a)∧Ext h h') h:=
 wo.call ((Mem.start h).alc λg1 h1 x1 M=>fS c1 hx λr3 h3=>siz rfl (M.dH .here rfl (dI rfl) rfl .here λh3' M=>M.df .here rfl ⟨⟨1,r3,x,rfl,rG h3 hx fw0 fw0 fw0⟩,M.ext⟩))
end
section
variable {h:ab}{x a p q m n:Nat}
theorem Hm{p m l:Nat}(h1:inside p 1077936128 1149239296=true)(h2:inside m 0 1056964608=true):∃k e,f32.format.read (hH .f32 p m) = .number false k e∧u4 (hH .f32 p m)=whole k e∧2≤whole k e∧whole k e≤1024∧1≤xC p m∧xC p m≤1024:=by
 obtain⟨k,e,hr,g1,g2⟩:=Rm h1 h2
 have hf:u4 (hH .f32 p m)=whole k e:=by unfold u4;rw[hr]
 refine⟨k,e,hr,hf,g1,g2,?_⟩
 unfold xC
 rw[hf]
 split <;> omega
theorem DO{l z:Nat}(hp:FW .f32 x p)(hm:FW .f32 a m)(hl:FW .f32 z l):af ak 181 #[.float .f32 x,.float .f32 a,.float .f32 z] (λu h'=>fk bf h h' u (ck p m l).1 (ck p m l).2) h:=by
 refine cU.call ((Mem.start h).alc λg1 h1 x1 M=>?_)
 rw[cw hp c3,cw hp Sw,cw hm fw0,cw hm c05,cw hl fw0,cw hl c1]
 have bad:ck p m l=(iw,2)->STA 15 h1 ⟨g1,0,none⟩ ⟨aF⟩ λh8=>LDA 15 h8 ⟨g1,0,none⟩ λa9=>fk bf h h8 (.tuple ⟨[.agg a9,.int .i64 (2:Int)]⟩) (ck p m l).1 (ck p m l).2:=λe=>by
  rw[e]
  exact M.dH .here rfl (dI rfl) rfl .here λh3 M=>M.df .here rfl ⟨_,[],rfl,wL,(Mem.start h).grow M.ext⟩
 refine br (λk1=>brN (λk2=>bad (by rw[ck,inside,fge,fle,k1,k2];rfl)) λk2=>?_) λk1=>bad (by rw[ck,inside,fge,k1];rfl)
 have e1:inside p 1077936128 1149239296=true:=by rw[inside,fge,fle,k1,k2];rfl
 refine br (λk3=>brN (λk4=>bad (by rw[ck,e1,inside,fge,fle,k3,k4];rfl)) λk4=>?_) λk3=>bad (by rw[ck,e1,inside,fge,k3];rfl)
 have e2:inside m 0 1056964608=true:=by rw[inside,fge,fle,k3,k4];rfl
 refine br (λk5=>brN (λk6=>bad (by rw[ck,e1,e2,inside,fge,fle,k5,k6];rfl)) λk6=>?_) λk5=>bad (by rw[ck,e1,e2,inside,fge,k5];rfl)
 have e3:inside l 0 1065353216=true:=by rw[inside,fge,fle,k5,k6];rfl
 have AL:ck p m l=(strOf p m l,0):=by rw[ck,e1,e2,e3];rfl
 rw[AL]
 obtain⟨k,e,hr,hf,g1',g2',g3,g4⟩:=Hm (l:=l) e1 e2
 have fin:∀{hh:ab}{B:List Blk}{cells:List Value},Mem h hh ((g1,115,⟨aF⟩) :: B)->bf.ow B cells (strOf p m l)->STA 15 hh ⟨g1,0,none⟩ ⟨cells⟩ λxl=>LDA 15 xl ⟨g1,0,none⟩ λTL=>fk bf h xl (.tuple ⟨[.agg TL,.int .i64 (0:Int)]⟩) (strOf p m l) 0:=λM O=>
  M.dH .here (bf.jX O) (bf.jy O) rfl .here λxl M=>M.df .here (bf.jX O) ⟨_,_,rfl,O,M.drop⟩
 have key:∀n9:Nat,n9=xC p m->∀{rM:Nat},FW .f32 rM (hH .f32 p m)->cU.J7 (λu h'=>fk bf h h' u (strOf p m l) 0) a z ⟨g1,0,none⟩ rM (n9:Int) h1:=by
  intro n9 hn rM kB
  subst hn
  unfold cU.J7
  refine fS kB (cK .f32 _) λvn jF=>(CI jF).mono ?_
  rintro _ h2 ⟨⟨k2,n2,y2,rfl,O2⟩,x2⟩
  refine jJ (gw (cN ((M.grow x2).alc λg25 h3 x3 M=>M.dH .here rfl (dI rfl) rfl .here λh4 M=>M.df .here rfl ⟨?_,?_⟩)))
  ·have P:RdP cx h4 ⟨g25,0,none⟩ _:=M.rdp .here (cx.look O2 M (List.nil_sublist _))
   refine vW (r:=rF .f32) (z:=0) (zc:=[.float .f32 0]) ⟨rfl,0,rfl,fw0⟩ rfl rfl (by decide) M (by show 4*xC p m≤2 ^ 48;omega) (Nat.le_trans g4 (by decide)) λg29 h5 x5 M O=>P.pin rfl x5 ?_
   refine(yW hm).mono ?_
   rintro _ h6 ⟨⟨k3,y3,z3,rfl,O3⟩,x6⟩
   refine gw (P.pin rfl (x5.trans x6) (siz rfl (siz rfl (siz rfl (fin ((M.grow x6).cnt (λp=>by simp only[bN,bu,bZ] at *;omega)) (vj (x:=strOf p m l) O O2 O3 hl))))))
  ·have P:RdP cx h4 ⟨g25,0,none⟩ _:=M.rdp .here (cx.look O2 M (List.nil_sublist _))
   refine(yW hm).mono ?_
   rintro _ h5 ⟨⟨k3,y3,z3,rfl,O3⟩,x5⟩
   refine gw (P.pin rfl x5 ?_)
   refine vW (r:=rF .f32) (z:=0) (zc:=[.float .f32 0]) ⟨rfl,0,rfl,fw0⟩ rfl rfl (by decide) (M.grow x5) (by show 4*xC p m≤2 ^ 48;omega) (Nat.le_trans g4 (by decide)) λg29 h6 x6 M O=>P.pin rfl (x5.trans x6) ?_
   exact siz rfl (siz rfl (siz rfl (fin (M.cnt (λp=>by simp only[bN,bu,bZ] at *;omega)) (vj (x:=strOf p m l) O O2 O3 hl))))
 unfold cU.J3
 refine fS hp hm λrM kB=>?_
 have ajq:nan .f32 (hH .f32 p m)=false:=by unfold Sx.nan;rw[hr];rfl
 have anY:=kB.eq ajq
 subst anY
 refine Nc (Fm hr) (by omega) (by omega) (fS kB (cK .f32 _) λCy qQ=>?_)
 rw[cw qQ aia,← hf]
 rw[← hf] at g1'
 refine br (λkk=>?_) λkk=>?_
 ·rw[zK (by omega) (by omega)]
  exact key _ (by unfold xC flt;rw[if_pos kk]) kB
 ·exact key _ (by unfold xC flt;rw[kk];rfl) kB
theorem Mw{l z:Nat}(hp:FW .f32 x p)(hm:FW .f32 a m)(hl:FW .f32 z l):af ak 234 #[.float .f32 x,.float .f32 a,.float .f32 z] (λu h'=>fk bf h h' u (ck p m l).1 (ck p m l).2) h:=by
 refine cT.call ((Mem.start h).alc λg1 h1 x1 M=>?_)
 have bad:∀{hh:ab},Mem h hh [(g1,115,⟨aF⟩)]->ck p m l=(iw,2)->STA 15 hh ⟨g1,0,none⟩ ⟨aF⟩ λh8=>LDA 15 h8 ⟨g1,0,none⟩ λa9=>fk bf h h8 (.tuple ⟨[.agg a9,.int .i64 (2:Int)]⟩) (ck p m l).1 (ck p m l).2:=λM e=>by
  rw[e]
  exact M.dH .here rfl (dI rfl) rfl .here λh3 M=>M.df .here rfl ⟨_,[],rfl,wL,(Mem.start h).grow M.ext⟩
 refine goM M (jO hp c3 Sw _) λh2 M=>bt (brN (λe=>bad M (by rw[ck,e];rfl)) λe1=>?_)
 refine goM M (jO hm fw0 c05 _) λh3 M=>bt (brN (λe=>bad M (by rw[ck,e1,e];rfl)) λe2=>?_)
 refine goM M (jO hl fw0 c1 _) λh4 M=>bt (brN (λe=>bad M (by rw[ck,e1,e2,e];rfl)) λe3=>?_)
 have AL:ck p m l=(strOf p m l,0):=by rw[ck,e1,e2,e3];rfl
 rw[AL]
 obtain⟨k,e,hr,hf,g1',g2',g3,g4⟩:=Hm (l:=l) e1 e2
 have fin:∀{hh:ab}{B:List Blk}{cells:List Value},Mem h hh ((g1,115,⟨aF⟩) :: B)->bf.ow B cells (strOf p m l)->STA 15 hh ⟨g1,0,none⟩ ⟨cells⟩ λxl=>LDA 15 xl ⟨g1,0,none⟩ λTL=>fk bf h xl (.tuple ⟨[.agg TL,.int .i64 (0:Int)]⟩) (strOf p m l) 0:=λM O=>
  M.dH .here (bf.jX O) (bf.jy O) rfl .here λxl M=>M.df .here (bf.jX O) ⟨_,_,rfl,O,M.drop⟩
 have key:∀n9:Nat,n9=xC p m->∀{hh:ab}{rM y9:Nat},Mem h hh [(g1,115,⟨aF⟩)]->FW .f32 rM (hH .f32 p m)->FW .f32 y9 (f32.nearest (n9:Int))->cT.J7 (λu h'=>fk bf h h' u (strOf p m l) 0) a z ⟨g1,0,none⟩ rM y9 hh:=by
  intro n9 hn hh rM y9 M kB h9
  subst hn
  unfold cT.J7
  have h9e:=h9.eq (dp _ _)
  subst h9e
  refine Nc (R8 (by omega)) (by omega) (by omega) ((Jp _ _).mono ?_)
  rintro _ h2 ⟨cR,BR,rfl,OR,N⟩
  have zq:inR ((xC p m:Nat):Int) 1 1024=true:=by rw[inR,decide_eq_true (by omega),decide_eq_true (by omega)];rfl
  rw[zq] at OR
  obtain⟨b,l',c',rfl,OS⟩:=wh OR
  have OS:SlO 22 (rF .f32) BR b l' c' (List.replicate (xC p m) 0):=OS
  have M:=M.join N
  refine jJ (gw (cN (M.alc λZJ h3 x3 M=>M.dH .here rfl (dI rfl) rfl .here λh4 M=>fS kB h9 λRI Ps=>(Ko Ps).mono ?_)))
  rintro _ h5 ⟨⟨k2,n2,y2,rfl,O2⟩,x5⟩
  refine jJ (gw (cN ((M.grow x5).alc λg43 h6 x6 M=>M.dH .here rfl (dI rfl) rfl .here λh7 M=>M.df (.there .here) rfl (M.df .here rfl ((TG hm).mono ?_)))))
  rintro _ h8 ⟨⟨k3,y3,z3,rfl,O3⟩,x8⟩
  have P:RdP cx h7 ⟨g43,0,none⟩ _:=M.rdp .here (cx.look O2 M (List.nil_sublist _))
  have Q:RdP bQ h7 ⟨ZJ,0,none⟩ ⟨List.replicate (xC p m) 0,0⟩:=M.rdp (.there .here) (bQ.look (wi (r:=⟨List.replicate (xC p m) 0,0⟩) OS) (M.cnt (W:=BR)) (List.Sublist.refl _))
  refine gw (P.pin rfl x8 (Q.pin rfl x8 (siz rfl (siz rfl (siz rfl (fin ((M.grow x8).cnt (λp=>by simp only[bN,bu,bZ] at *;omega)) (vj (x:=strOf p m l) OS O2 O3 hl)))))))
 unfold cT.J3
 refine fS hp hm λrM kB=>?_
 have ajq:nan .f32 (hH .f32 p m)=false:=by unfold Sx.nan;rw[hr];rfl
 obtain⟨B,hB⟩:∃B:Nat,1100≤B:=⟨1100,Nat.le_refl _⟩
 obtain⟨_,_,hw,_⟩:=rO hB hr
 have Xw:wid (hH .f32 p m)=wide (hH .f32 p m):=kJ hw
 have hnw:nan .f64 (wide (hH .f32 p m))=false:=by unfold Sx.nan;rw[hw];rfl
 obtain⟨_,_,hwr,_⟩:=sV hB false (N:=whole k e) (by omega)
 have hnf:nan .f64 (flr (wide (hH .f32 p m)))=false:=by rw[C4 hr];unfold Sx.nan;rw[hwr];rfl
 obtain⟨nf1,nf2⟩:=UW (N:=whole k e) (by omega)
 refine cg kB λVU ta=>?_
 rw[Xw] at ta
 have ao6:=ta.eq hnw
 subst ao6
 refine goM M (zh hnw _) λh5 M=>cW ?_
 refine Fg (Q7 hnf) (by rw[C4 hr];exact nf1) λzF nR=>?_
 rw[C4 hr,nf2,← mI,← hf] at nR
 rw[← hf] at g1'
 refine fS kB nR λHW AP=>?_
 rw[cw AP aia]
 refine br (λkk=>fS nR c1 λMv pw=>?_) λkk=>?_
 ·rw[sub_one (by omega) (by omega)] at pw
  exact key _ (by unfold xC flt;rw[if_pos kk]) M kB pw
 ·exact key _ (by unfold xC flt;rw[kk];rfl) M kB nR
end
end Go.Sx
namespace Go.Sx
open FloatKind (f32 f64)
open IntKind (i64)
open Go.Proofs
set_option maxRecDepth 100000
def aci.B4(aa:VH)(b:(Addr×Addr×Int)->ab->Prop):Addr×Addr×Int->ab->Prop |(f_0,g_1,i_5),h=> BIF ((decide (i_5<3))) (IDX i_5 3 <|oF .f32 (cell h ((Addr.add (f_0.add 1) (i_5.toNat*1)))) λc=> IDX i_5 3 <|oF .f32 (cell h ((Addr.add (g_1.add 1) (i_5.toNat*1)))) λd=> af ak 155 #[.float .f32 c,.float .f32 d] (λe a=> asB e λf=> BIF (!f) (aa (.bool false) a) (b (f_0,g_1,((i64.wrap (i_5+1)))) a)) h) (IDX 0 2 <|oF .f32 (cell h (f_0.add 4)) λg=> IDX 0 2 <|oF .f32 (cell h (g_1.add 4)) λi=> af ak 155 #[.float .f32 g,.float .f32 i] (λCx me=> asB Cx λKK=> BIF KK (IDX 1 2 <|oF .f32 (cell me (f_0.add 5)) λxB=> IDX 1 2 <|oF .f32 (cell me (g_1.add 5)) λDK=> af ak 155 #[.float .f32 xB,.float .f32 DK] (λIV kT=> asB IV λj=> aa (.bool j) kT) me) (aa (.bool false) me)) h)
def aci.g4(fr:Frame):Addr×Addr×Int:=((gP (ah fr 0)),(gP (ah fr 1)),(gI (ah fr 5)))
def aci.l4(aa:VH):=gg (kds 57 [(0,.p),(1,.p),(5,.i .i64)]) λfr=>bk (aci.B4 aa) (aci.g4 fr)
def aci.S(f_0:Addr)(g_1:Addr)(aa:VH)(h:ab):=oI .i64 (cell h f_0) λa=> oI .i64 (cell h g_1) λb=> BIF (a !=b) (aa (.bool false) h) (bk (aci.B4 aa) (f_0,g_1,0) h)
theorem aci.call{f_0 g_1 aa h}(H:aci.S f_0 g_1 aa h):af ak 265 #[.pointer (some f_0),.pointer (some g_1)] aa h:=qc (Λ:=aS [(1000004,aci.l4 aa)]) Tryz.func265 (qs qf (qs qf (qs (qs qf (Rq.block (ql (aci.l4 aa) (qg (g:=aci.g4) (Λ:=λa=>aS []) (λ_ _ _=>by kernel_rfl) (λa=>qf))))) qf))) (qe H)
def aa1.B4(aa:VH)(a:(Option Addr×Nat×Nat×Value×Option Addr×Nat×Nat×Int×Int)->ab->Prop):Option Addr×Nat×Nat×Value×Option Addr×Nat×Nat×Int×Int->ab->Prop |(He,CD,Kb,eq_2,t15b,t15l,t15c,t16,t17),h=> BIF (decide (t17<t16)) (bd t15b t17 t15l λb=> oF .f32 (cell h ((Addr.add b (t17.toNat*1)))) λc=> bd He t17 CD λd=> oF .f32 (cell h ((Addr.add d (t17.toNat*1)))) λxA=> pE ak eq_2 #[.float .f32 c,.float .f32 xA] (λzX jl=> asB zX λPV=> BIF (!PV) (aa (.bool false) jl) (a (He,CD,Kb,eq_2,t15b,t15l,t15c,t16,((i64.wrap (t17+1)))) jl)) h) (aa (.bool true) h)
def aa1.g4(fr:Frame):Option Addr×Nat×Nat×Value×Option Addr×Nat×Nat×Int×Int:=((gLb (ah fr 1)),(gLl (ah fr 1)),(gLc (ah fr 1)),(ah fr 2),(gLb (ah fr 15)),(gLl (ah fr 15)),(gLc (ah fr 15)),(gI (ah fr 16)),(gI (ah fr 17)))
def aa1.l4(aa:VH):=gg (kds 32 [(1,.l),(2,.v),(15,.l),(16,.i .i64),(17,.i .i64)]) λfr=>bk (aa1.B4 aa) (aa1.g4 fr)
def aa1.S(Hc:Option Addr)(CC Hd:Nat)(He:Option Addr)(CD Kb:Nat)(eq_2:Value)(aa:VH)(h:ab):=BIF ((CC:Int) !=(CD:Int)) (aa (.bool false) h) (bk (aa1.B4 aa) (He,CD,Kb,eq_2,Hc,CC,Hd,(CC:Int),0) h)
theorem aa1.call{Hc CC Hd He CD Kb eq_2 aa h}(H:aa1.S Hc CC Hd He CD Kb eq_2 aa h):af ak 297 #[.slice Hc CC Hd,.slice He CD Kb,eq_2] aa h:=qc (Λ:=aS [(1000004,aa1.l4 aa)]) Tryz.func297 (qs qf (qs qf (qs (qs qf (Rq.block (ql (aa1.l4 aa) (qg (g:=aa1.g4) (Λ:=λa=>aS []) (λ_ _ _=>by kernel_rfl) (λa=>qf))))) qf))) (qe H)
def aec.S(aO:Option Addr)(aB bH:Nat)(jV:Option Addr)(jb kY:Nat)(aa:VH)(h:ab):=af ak 297 #[.slice aO aB bH,.slice jV jb kY,.func (.func 271) #[] #[]] (λa b=> asB a λc=> aa (.bool c) b) h
theorem aec.call{aO aB bH jV jb kY aa h}(H:aec.S aO aB bH jV jb kY aa h):af ak 273 #[.slice aO aB bH,.slice jV jb kY] aa h:=qk Tryz.func273 H
def agN.S(r_0:Array Value)(s_1:Array Value)(aa:VH)(h:ab):=ALC r_0 109 (λc e=> ALC s_1 109 (λd b=> oL (cell b ⟨c,0,none⟩) λII HR PA=> oL (cell b ⟨d,0,none⟩) λUH UI f=> af ak 273 #[.slice II HR PA,.slice UH UI f] (λg a=> asB g λi=> BIF i (oI .i64 (cell a ⟨c,1,none⟩) λxn=> oI .i64 (cell a ⟨d,1,none⟩) λj=> aa (.bool (xn==j)) a) (aa (.bool false) a)) b) e) h
theorem agN.call{r_0 s_1 aa h}(H:agN.S r_0 s_1 aa h):af ak 269 #[.agg r_0,.agg s_1] aa h:=qk Tryz.func269 H
def aez.S(f_0:Array Value)(g_1:Array Value)(aa:VH)(h:ab):=ALC f_0 113 (λb e=> ALC g_1 113 (λc a=> oI .i64 (cell a ⟨b,0,none⟩) λf=> oI .i64 (cell a ⟨c,0,none⟩) λg=> BIF (f==g) (SLB 0 3 3 <|SLB 0 3 3 <|af ak 273 #[.slice (some (slP ⟨b,1,none⟩ 3 0 1)) (3-0) (3-0),.slice (some (slP ⟨c,1,none⟩ 3 0 1)) (3-0) (3-0)] (λi d=> asB i λj=> BIF j (SLB 0 2 2 <|SLB 0 2 2 <|af ak 273 #[.slice (some (slP ⟨b,4,none⟩ 2 0 1)) (2-0) (2-0),.slice (some (slP ⟨c,4,none⟩ 2 0 1)) (2-0) (2-0)] (λCx me=> asB Cx λKK=> aa (.bool KK) me) d) (aa (.bool false) d)) a) (aa (.bool false) a)) e) h
theorem aez.call{f_0 g_1 aa h}(H:aez.S f_0 g_1 aa h):af ak 270 #[.agg f_0,.agg g_1] aa h:=qk Tryz.func270 H
def aeE.S(x_0:Array Value)(y_1:Array Value)(aa:VH)(h:ab):=ALC x_0 115 (λa e=> ALC y_1 115 (λb d=> LDA 2 d ⟨a,0,none⟩ λf=> LDA 2 d ⟨b,0,none⟩ λg=> af ak 269 #[.agg f,.agg g] (λi c=> asB i λj=> BIF j (LDA 6 c ⟨a,2,none⟩ λzO=> LDA 6 c ⟨b,2,none⟩ λzi=> af ak 270 #[.agg zO,.agg zi] (λyQ hP=> asB yQ λMH=> BIF MH (LDA 6 hP ⟨a,8,none⟩ λk=> LDA 6 hP ⟨b,8,none⟩ λPL=> af ak 270 #[.agg k,.agg PL] (λDJ jF=> asB DJ λMI=> BIF MI (oF .f32 (cell jF ⟨a,14,none⟩) λIW=> oF .f32 (cell jF ⟨b,14,none⟩) λIX=> af ak 271 #[.float .f32 IW,.float .f32 IX] (λGZ nR=> asB GZ λl=> aa (.bool l) nR) jF) (aa (.bool false) jF)) hP) (aa (.bool false) hP)) c) (aa (.bool false) c)) d) e) h
theorem aeE.call{x_0 y_1 aa h}(H:aeE.S x_0 y_1 aa h):af ak 212 #[.agg x_0,.agg y_1] aa h:=qk Tryz.func212 H
def aa0.B4(aa:VH)(c:(Option Addr×Nat×Nat×Value×Option Addr×Nat×Nat×Int×Int)->ab->Prop):Option Addr×Nat×Nat×Value×Option Addr×Nat×Nat×Int×Int->ab->Prop |(He,CD,Kb,eq_2,t15b,t15l,t15c,t16,t17),h=> BIF (decide (t17<t16)) (bd t15b t17 t15l λd=> LDA 2 h ((Addr.add d (t17.toNat*2))) λe=> ALC ⟨jh⟩ 109 (λa gv=> STA 2 gv ⟨a,0,none⟩ e λme=> bd He t17 CD λPC=> LDA 2 me ((Addr.add PC (t17.toNat*2))) λWl=> ALC ⟨jh⟩ 109 (λb kB=> STA 2 kB ⟨b,0,none⟩ Wl λkT=> LDA 2 kT ⟨a,0,none⟩ λSk=> LDA 2 kT ⟨b,0,none⟩ λf=> pE ak eq_2 #[.agg Sk,.agg f] (λGY jU=> asB GY λg=> BIF (!g) (aa (.bool false) jU) (c (He,CD,Kb,eq_2,t15b,t15l,t15c,t16,((i64.wrap (t17+1)))) jU)) kT) me) h) (aa (.bool true) h)
def aa0.g4(fr:Frame):Option Addr×Nat×Nat×Value×Option Addr×Nat×Nat×Int×Int:=((gLb (ah fr 1)),(gLl (ah fr 1)),(gLc (ah fr 1)),(ah fr 2),(gLb (ah fr 15)),(gLl (ah fr 15)),(gLc (ah fr 15)),(gI (ah fr 16)),(gI (ah fr 17)))
def aa0.l4(aa:VH):=gg (kds 32 [(1,.l),(2,.v),(15,.l),(16,.i .i64),(17,.i .i64)]) λfr=>bk (aa0.B4 aa) (aa0.g4 fr)
def aa0.S(Hc:Option Addr)(CC Hd:Nat)(He:Option Addr)(CD Kb:Nat)(eq_2:Value)(aa:VH)(h:ab):=BIF ((CC:Int) !=(CD:Int)) (aa (.bool false) h) (bk (aa0.B4 aa) (He,CD,Kb,eq_2,Hc,CC,Hd,(CC:Int),0) h)
theorem aa0.call{Hc CC Hd He CD Kb eq_2 aa h}(H:aa0.S Hc CC Hd He CD Kb eq_2 aa h):af ak 272 #[.slice Hc CC Hd,.slice He CD Kb,eq_2] aa h:=qc (Λ:=aS [(1000004,aa0.l4 aa)]) Tryz.func272 (qs qf (qs qf (qs (qs qf (Rq.block (ql (aa0.l4 aa) (qg (g:=aa0.g4) (Λ:=λa=>aS []) (λ_ _ _=>by kernel_rfl) (λa=>qf))))) qf))) (qe H)
def acf.J2(aa:VH)(x_2:Addr)(y_3:Addr)(aug:Bool)(h:ab):=BIF aug (oL (cell h (x_2.add 2)) λNC Lv UA=> oL (cell h (y_3.add 2)) λLw Lx ND=> af ak 273 #[.slice NC Lv UA,.slice Lw Lx ND] (λDJ jF=> asB DJ λMI=> BIF MI (LDA 6 jF (x_2.add 3) λMF=> LDA 6 jF (y_3.add 3) λWm=> af ak 270 #[.agg MF,.agg Wm] (λGZ nR=> asB GZ λa=> BIF a (oB (cell nR (x_2.add 9)) λb=> oB (cell nR (y_3.add 9)) λc=> BIF (b==c) (oF .f32 (cell nR (x_2.add 10)) λIY=> oF .f32 (cell nR (y_3.add 10)) λBz=> af ak 271 #[.float .f32 IY,.float .f32 Bz] (λYV Mm=> asB YV λd=> BIF d (oF .f32 (cell Mm (x_2.add 11)) λVV=> oF .f32 (cell Mm (y_3.add 11)) λe=> af ak 271 #[.float .f32 VV,.float .f32 e] (λZZ EP=> asB ZZ λf=> BIF f (oF .f32 (cell EP (x_2.add 12)) λTa=> oF .f32 (cell EP (y_3.add 12)) λg=> af ak 271 #[.float .f32 Ta,.float .f32 g] (λi Mn=> asB i λj=> aa (.bool j) Mn) EP) (aa (.bool false) EP)) Mm) (aa (.bool false) Mm)) nR) (aa (.bool false) nR)) (aa (.bool false) nR)) jF) (aa (.bool false) jF)) h) (aa (.bool false) h)
def acf.j2(aa:VH):=gg (kds 61 [(2,.p),(3,.p),(5,.b)]) λfr=>acf.J2 aa (gP (ah fr 2)) (gP (ah fr 3)) (gB (ah fr 5))
def acf.S(x_0:Array Value)(y_1:Array Value)(aa:VH)(h:ab):=ALC x_0 118 (λa e=> ALC y_1 118 (λb d=> oL (cell d ⟨a,0,none⟩) λII HR PA=> oL (cell d ⟨b,0,none⟩) λUH UI f=> af ak 272 #[.slice II HR PA,.slice UH UI f,.func (.func 269) #[] #[]] (λg c=> asB g λi=> BIF i (oL (cell c ⟨a,1,none⟩) λzU uf Du=> oL (cell c ⟨b,1,none⟩) λpQ nT sH=> af ak 272 #[.slice zU uf Du,.slice pQ nT sH,.func (.func 269) #[] #[]] (λyQ hP=> asB yQ λMH=> acf.J2 aa ⟨a,0,none⟩ ⟨b,0,none⟩ MH hP) c) (acf.J2 aa ⟨a,0,none⟩ ⟨b,0,none⟩ false c)) d) e) h
theorem acf.call{x_0 y_1 aa h}(H:acf.S x_0 y_1 aa h):af ak 213 #[.agg x_0,.agg y_1] aa h:=qc (Λ:=aS [(2,acf.j2 aa)]) Tryz.func213 (qs qf (qj (acf.j2 aa) qf qf)) (qe H)
def ahq.S(x_0:Array Value)(y_1:Array Value)(aa:VH)(h:ab):=ALC x_0 120 (λa e=> ALC y_1 120 (λb d=> LDA 2 d ⟨a,0,none⟩ λf=> LDA 2 d ⟨b,0,none⟩ λg=> af ak 269 #[.agg f,.agg g] (λi c=> asB i λj=> BIF j (LDA 2 c ⟨a,2,none⟩ λzO=> LDA 2 c ⟨b,2,none⟩ λzi=> af ak 269 #[.agg zO,.agg zi] (λyQ hP=> asB yQ λMH=> BIF MH (LDA 6 hP ⟨a,4,none⟩ λk=> LDA 6 hP ⟨b,4,none⟩ λPL=> af ak 270 #[.agg k,.agg PL] (λDJ jF=> asB DJ λMI=> BIF MI (oF .f32 (cell jF ⟨a,10,none⟩) λIW=> oF .f32 (cell jF ⟨b,10,none⟩) λIX=> af ak 271 #[.float .f32 IW,.float .f32 IX] (λGZ nR=> asB GZ λl=> BIF l (oF .f32 (cell nR ⟨a,11,none⟩) λMv=> oF .f32 (cell nR ⟨b,11,none⟩) λVb=> af ak 271 #[.float .f32 Mv,.float .f32 Vb] (λOA sW=> asB OA λm=> aa (.bool m) sW) nR) (aa (.bool false) nR)) jF) (aa (.bool false) jF)) hP) (aa (.bool false) hP)) c) (aa (.bool false) c)) d) e) h
theorem ahq.call{x_0 y_1 aa h}(H:ahq.S x_0 y_1 aa h):af ak 214 #[.agg x_0,.agg y_1] aa h:=qk Tryz.func214 H
set_option maxHeartbeats 1000000
section
variable {h:ab}
theorem akl{b1 b2:Option Addr}{l1 c1 l2 c2:Nat}{xs ys:List Nat}(S1:SlR (rF .f32) h b1 l1 c1 xs)(S2:SlR (rF .f32) h b2 l2 c2 ys):
  af ak 297 #[.slice b1 l1 c1,.slice b2 l2 c2,.func (.func 271) #[] #[]] (λu h'=>u = .bool (same xs ys)∧Ext h h') h:=by
 have e1:=S1.len
 have e2:=S2.len
 have h2:=S1.2.1
 have h3:=S1.2.2.1
 have:=cu
 refine aa1.call (br (λhb=>⟨by rw[alV (by simp at hb;omega)],Ext.refl _⟩) λhb=>?_)
 obtain rfl:l1=l2:=by simp at hb;omega
 refine loop (λx hh=>∃n:Nat,x=(b2,l1,c2,.func (.func 271) #[] #[],b1,l1,c1,(l1:Int),(n:Int))∧n≤l1∧Ext h hh∧∀i,i<n->same xs[i]! ys[i]! = true) (λx=>(l1-x.2.2.2.2.2.2.2.2).toNat) ⟨0,rfl,by omega,Ext.refl _,λi hi=>by omega⟩ ?_
 rintro x hh ⟨n,rfl,hn,X,hs⟩
 refine brd (λhc=>?_) λhc=>⟨by rw[akA (by omega) λi hi=>hs i (by omega)],X⟩
 refine(S1.ext X).idx (by decide) (by omega) (by omega) λa Ra=>Ra.oF1 λy hy=>(S2.ext X).idx (by decide) (by omega) (by omega) λa' Rb=>Rb.oF1 λz hz=>goD X (show af ak 271 #[.float .f32 y,.float .f32 z] _ hh from adu hy hz _) λh8 x8=>bt (br (λhb=>⟨?_,x8⟩) λhb=>?_)
 ·have hb:=nt hb
  rw[ak6] at hb
  rw[alD hb]
 ·have hb:=nf hb
  rw[ak6] at hb
  refine⟨⟨n+1,by rw[ag (by omega)],by omega,x8,λi hi=>?_⟩,by rw[ag (by omega)];show _<_;simp;omega⟩
  by_cases e:i=n
  ·subst e;exact hb
  ·exact hs i (by omega)
theorem adq{b1 b2:Option Addr}{l1 c1 l2 c2:Nat}{xs ys:List Nat}(S1:SlR (rF .f32) h b1 l1 c1 xs)(S2:SlR (rF .f32) h b2 l2 c2 ys):
  af ak 273 #[.slice b1 l1 c1,.slice b2 l2 c2] (λu h'=>u = .bool (same xs ys)∧Ext h h') h:=aec.call (goX (akl S1 S2) λh' x=>bt ⟨rfl,x⟩)
theorem aji{ca cb:Array Value}{x y:aY}(Ra:bQ.rd h ca.toList x)(Rb:bQ.rd h cb.toList y):af ak 269 #[.agg ca,.agg cb] (λu h'=>u = .bool (same x y)∧Ext h h') h:=by
 refine agN.call (gD Ra λg1 h1 x1 A=>gD (bQ.ext x1 Rb) λg2 h2 x2 B0=>?_)
 have A0:=A.ext x2
 have X0:=x1.trans x2
 have E0:=Ext.refl h2
 have A:∀{hh:ab},Ext h2 hh->RdP bQ hh ⟨g1,0,none⟩ x:=λe=>A0.ext e
 have B:∀{hh:ab},Ext h2 hh->RdP bQ hh ⟨g2,0,none⟩ y:=λe=>B0.ext e
 (repeat' (first
  | exact(Bool.false_ne_true hb).elim
  | refine bt ?_
  | refine dT ?_
  | refine RdP.oL2 (A (by assumption)) λ_ _ _ _=>?_
  | refine RdP.oI2 (A (by assumption)) ?_
  | refine RdP.oL2 (B (by assumption)) λ_ _ _ _=>?_
  | refine RdP.oI2 (B (by assumption)) ?_
  | refine RdP.jc (A (by assumption)) rfl λ_ _=>?_
  | refine RdP.jc (B (by assumption)) rfl λ_ _=>?_
  | refine goE (by assumption) (adq (by assumption) (by assumption)) λ_ _=>?_
  | refine brN (λhb=>?_) (λhb=>?_)
  | refine br (λhb=>?_) (λhb=>?_)
  | exact⟨by rw[aiK];simp[*],X0.trans (by assumption)⟩))
theorem afc{ca cb:Array Value}{x y:cz}(Ra:cx.rd h ca.toList x)(Rb:cx.rd h cb.toList y):af ak 270 #[.agg ca,.agg cb] (λu h'=>u = .bool (same x y)∧Ext h h') h:=by
 refine aez.call (gD Ra λg1 h1 x1 A=>gD (cx.ext x1 Rb) λg2 h2 x2 B0=>?_)
 have A0:=A.ext x2
 have X0:=x1.trans x2
 have E0:=Ext.refl h2
 have A:∀{hh:ab},Ext h2 hh->RdP cx hh ⟨g1,0,none⟩ x:=λe=>A0.ext e
 have B:∀{hh:ab},Ext h2 hh->RdP cx hh ⟨g2,0,none⟩ y:=λe=>B0.ext e
 have SxC:∀{hh:ab},Ext h2 hh->SlR (rF .f32) hh (some (slP ⟨g1,1,none⟩ 3 0 1)) (3-0) (3-0) x.C:=λe=>by rw[CH];exact((A e).WJ dU).arr (by decide)
 have SxS:∀{hh:ab},Ext h2 hh->SlR (rF .f32) hh (some (slP ⟨g1,4,none⟩ 2 0 1)) (2-0) (2-0) x.S:=λe=>by rw[CH];exact((A e).WJ dx).arr (by decide)
 have SyC:∀{hh:ab},Ext h2 hh->SlR (rF .f32) hh (some (slP ⟨g2,1,none⟩ 3 0 1)) (3-0) (3-0) y.C:=λe=>by rw[CH];exact((B e).WJ dU).arr (by decide)
 have SyS:∀{hh:ab},Ext h2 hh->SlR (rF .f32) hh (some (slP ⟨g2,4,none⟩ 2 0 1)) (2-0) (2-0) y.S:=λe=>by rw[CH];exact((B e).WJ dx).arr (by decide)
 (repeat' (first
  | refine slb (by decide) (by decide) (by decide) ?_
  | exact(Bool.false_ne_true hb).elim
  | refine bt ?_
  | refine dT ?_
  | refine RdP.oI2 (A (by assumption)) ?_
  | refine RdP.jH (A (by assumption)) dU rfl λ_ _=>?_
  | refine RdP.jH (A (by assumption)) dx rfl λ_ _=>?_
  | refine RdP.oI2 (B (by assumption)) ?_
  | refine RdP.jH (B (by assumption)) dU rfl λ_ _=>?_
  | refine RdP.jH (B (by assumption)) dx rfl λ_ _=>?_
  | refine RdP.jc (A (by assumption)) rfl λ_ _=>?_
  | refine RdP.jc (B (by assumption)) rfl λ_ _=>?_
  | refine goE (by assumption) (adq (SxC (by assumption)) (SyC (by assumption))) λ_ _=>?_
  | refine goE (by assumption) (adq (SxS (by assumption)) (SyS (by assumption))) λ_ _=>?_
  | refine brN (λhb=>?_) (λhb=>?_)
  | refine br (λhb=>?_) (λhb=>?_)
  | exact⟨by rw[aew];simp[*],X0.trans (by assumption)⟩))
theorem akC:aqU ak bQ (.func (.func 269) #[] #[]):=λca cb x y h Ra Rb=>by
 show af ak 269 #[.agg ca,.agg cb] _ h
 exact aji Ra Rb
theorem ahi{b1 b2:Option Addr}{l1 c1 l2 c2:Nat}{xs ys:List aY}{f:Value}(S1:SlR bQ h b1 l1 c1 xs)(S2:SlR bQ h b2 l2 c2 ys)(T:aqU ak bQ f):
  af ak 272 #[.slice b1 l1 c1,.slice b2 l2 c2,f] (λu h'=>u = .bool (same xs ys)∧Ext h h') h:=by
 have e1:=S1.len
 have e2:=S2.len
 have h2:=S1.2.1
 have h3:=S1.2.2.1
 have:=cu
 refine aa0.call (br (λhb=>⟨by rw[alV (by simp at hb;omega)],Ext.refl _⟩) λhb=>?_)
 obtain rfl:l1=l2:=by simp at hb;omega
 refine loop (λx hh=>∃n:Nat,x=(b2,l1,c2,f,b1,l1,c1,(l1:Int),(n:Int))∧n≤l1∧Ext h hh∧∀i,i<n->same xs[i]! ys[i]! = true) (λx=>(l1-x.2.2.2.2.2.2.2.2).toNat) ⟨0,rfl,by omega,Ext.refl _,λi hi=>by omega⟩ ?_
 rintro x hh ⟨n,rfl,hn,X,hs⟩
 refine brd (λhc=>?_) λhc=>⟨by rw[akA (by omega) λi hi=>hs i (by omega)],X⟩
 refine(S1.ext X).idx (by decide) (by omega) (by omega) λa Ra=>Ra.jc rfl λca R1=>(Mem.start hh).alc λg1 h4 x4 M=>M.dH .here (rsz R1 rfl) (bQ.wj R1) rfl .here λh5 M=>?_
 refine(S2.ext (X.trans M.ext)).idx (by decide) (by omega) (by omega) λa' Rb=>Rb.jc rfl λcb R2=>(Mem.start h5).alc λg2 h6 x6 N=>N.dH .here (rsz R2 rfl) (bQ.wj R2) rfl .here λh7 N=>?_
 have M:=M.join N
 refine M.df (.there .here) (rsz R1 rfl) (M.df .here (rsz R2 rfl) (goD (X.trans M.ext) (T _ _ _ _ _ (bQ.ext M.ext R1) (bQ.ext (N.ext) R2)) λh8 x8=>bt (br (λhb=>⟨?_,x8⟩) λhb=>?_)))
 ·rw[alD (nt hb)]
 ·refine⟨⟨n+1,by rw[ag (by omega)],by omega,x8,λi hi=>?_⟩,by rw[ag (by omega)];show _<_;simp;omega⟩
  by_cases e:i=n
  ·subst e;exact nf hb
  ·exact hs i (by omega)
end
section
variable {h:ab}
theorem als{ca cb:Array Value}{x y:bK}(Ra:bf.rd h ca.toList x)(Rb:bf.rd h cb.toList y):af ak 212 #[.agg ca,.agg cb] (λu h'=>u = .bool (same x y)∧Ext h h') h:=by
 refine aeE.call (gD Ra λg1 h1 x1 A=>gD (bf.ext x1 Rb) λg2 h2 x2 B0=>?_)
 have A0:=A.ext x2
 have X0:=x1.trans x2
 have E0:=Ext.refl h2
 have A:∀{hh:ab},Ext h2 hh->RdP bf hh ⟨g1,0,none⟩ x:=λe=>A0.ext e
 have B:∀{hh:ab},Ext h2 hh->RdP bf hh ⟨g2,0,none⟩ y:=λe=>B0.ext e
 (repeat' (first
  | exact(Bool.false_ne_true hb).elim
  | refine bt ?_
  | refine dT ?_
  | refine RdP.jH (A (by assumption)) dL rfl λ_ _=>?_
  | refine RdP.jH (A (by assumption)) dM rfl λ_ _=>?_
  | refine RdP.jH (A (by assumption)) dK rfl λ_ _=>?_
  | refine RdP.oF2 (A (by assumption)) λ_ _=>?_
  | refine RdP.jH (B (by assumption)) dL rfl λ_ _=>?_
  | refine RdP.jH (B (by assumption)) dM rfl λ_ _=>?_
  | refine RdP.jH (B (by assumption)) dK rfl λ_ _=>?_
  | refine RdP.oF2 (B (by assumption)) λ_ _=>?_
  | refine RdP.jc (A (by assumption)) rfl λ_ _=>?_
  | refine RdP.jc (B (by assumption)) rfl λ_ _=>?_
  | refine goE (by assumption) (adu (by assumption) (by assumption) _) λ_ _=>?_
  | refine goE (by assumption) (aji (by assumption) (by assumption)) λ_ _=>?_
  | refine goE (by assumption) (afc (by assumption) (by assumption)) λ_ _=>?_
  | refine brN (λhb=>?_) (λhb=>?_)
  | refine br (λhb=>?_) (λhb=>?_)
  | exact⟨by rw[aki];simp[*],X0.trans (by assumption)⟩))
theorem aoX{ca cb:Array Value}{x y:iU}(Ra:jI.rd h ca.toList x)(Rb:jI.rd h cb.toList y):af ak 214 #[.agg ca,.agg cb] (λu h'=>u = .bool (same x y)∧Ext h h') h:=by
 refine ahq.call (gD Ra λg1 h1 x1 A=>gD (jI.ext x1 Rb) λg2 h2 x2 B0=>?_)
 have A0:=A.ext x2
 have X0:=x1.trans x2
 have E0:=Ext.refl h2
 have A:∀{hh:ab},Ext h2 hh->RdP jI hh ⟨g1,0,none⟩ x:=λe=>A0.ext e
 have B:∀{hh:ab},Ext h2 hh->RdP jI hh ⟨g2,0,none⟩ y:=λe=>B0.ext e
 (repeat' (first
  | exact(Bool.false_ne_true hb).elim
  | refine bt ?_
  | refine dT ?_
  | refine RdP.jH (A (by assumption)) ik rfl λ_ _=>?_
  | refine RdP.jH (A (by assumption)) fE rfl λ_ _=>?_
  | refine RdP.jH (A (by assumption)) gj rfl λ_ _=>?_
  | refine RdP.oF2 (A (by assumption)) λ_ _=>?_
  | refine RdP.jH (B (by assumption)) ik rfl λ_ _=>?_
  | refine RdP.jH (B (by assumption)) fE rfl λ_ _=>?_
  | refine RdP.jH (B (by assumption)) gj rfl λ_ _=>?_
  | refine RdP.oF2 (B (by assumption)) λ_ _=>?_
  | refine RdP.jc (A (by assumption)) rfl λ_ _=>?_
  | refine RdP.jc (B (by assumption)) rfl λ_ _=>?_
  | refine goE (by assumption) (adu (by assumption) (by assumption) _) λ_ _=>?_
  | refine goE (by assumption) (aji (by assumption) (by assumption)) λ_ _=>?_
  | refine goE (by assumption) (afc (by assumption) (by assumption)) λ_ _=>?_
  | refine brN (λhb=>?_) (λhb=>?_)
  | refine br (λhb=>?_) (λhb=>?_)
  | exact⟨by rw[alU];simp[*],X0.trans (by assumption)⟩))
theorem am4{ca cb:Array Value}{x y:cp}(Ra:dX.rd h ca.toList x)(Rb:dX.rd h cb.toList y):af ak 213 #[.agg ca,.agg cb] (λu h'=>u = .bool (same x y)∧Ext h h') h:=by
 refine acf.call (gD Ra λg1 h1 x1 A=>gD (dX.ext x1 Rb) λg2 h2 x2 B0=>?_)
 have A0:=A.ext x2
 have X0:=x1.trans x2
 have E0:=Ext.refl h2
 have A:∀{hh:ab},Ext h2 hh->RdP dX hh ⟨g1,0,none⟩ x:=λe=>A0.ext e
 have B:∀{hh:ab},Ext h2 hh->RdP dX hh ⟨g2,0,none⟩ y:=λe=>B0.ext e
 (repeat' (first
  | unfold acf.J2
  | exact(Bool.false_ne_true hb).elim
  | refine bt ?_
  | refine dT ?_
  | refine RdP.oL1 (A (by assumption)) λ_ _ _ _=>?_
  | refine RdP.oL (A (by assumption)) λ_ _ _ _=>?_
  | refine RdP.lda (A (by assumption)) gK rfl λ_ _=>?_
  | refine RdP.oB (A (by assumption)) ?_
  | refine RdP.oF (A (by assumption)) λ_ _=>?_
  | refine RdP.oL1 (B (by assumption)) λ_ _ _ _=>?_
  | refine RdP.oL (B (by assumption)) λ_ _ _ _=>?_
  | refine RdP.lda (B (by assumption)) gK rfl λ_ _=>?_
  | refine RdP.oB (B (by assumption)) ?_
  | refine RdP.oF (B (by assumption)) λ_ _=>?_
  | refine RdP.jc (A (by assumption)) rfl λ_ _=>?_
  | refine RdP.jc (B (by assumption)) rfl λ_ _=>?_
  | refine goE (by assumption) (adu (by assumption) (by assumption) _) λ_ _=>?_
  | refine goE (by assumption) (adq (by assumption) (by assumption)) λ_ _=>?_
  | refine goE (by assumption) (afc (by assumption) (by assumption)) λ_ _=>?_
  | refine goE (by assumption) (ahi (by assumption) (by assumption) akC) λ_ _=>?_
  | refine brN (λhb=>?_) (λhb=>?_)
  | exact(Bool.false_ne_true hb).elim
  | refine bt ?_
  | refine dT ?_
  | refine RdP.oL2 (A (by assumption)) λ_ _ _ _=>?_
  | refine RdP.jH (A (by assumption)) gK rfl λ_ _=>?_
  | refine RdP.oB2 (A (by assumption)) ?_
  | refine RdP.oF2 (A (by assumption)) λ_ _=>?_
  | refine RdP.oL2 (B (by assumption)) λ_ _ _ _=>?_
  | refine RdP.jH (B (by assumption)) gK rfl λ_ _=>?_
  | refine RdP.oB2 (B (by assumption)) ?_
  | refine RdP.oF2 (B (by assumption)) λ_ _=>?_
  | refine RdP.jc (A (by assumption)) rfl λ_ _=>?_
  | refine RdP.jc (B (by assumption)) rfl λ_ _=>?_
  | refine goE (by assumption) (adu (by assumption) (by assumption) _) λ_ _=>?_
  | refine goE (by assumption) (adq (by assumption) (by assumption)) λ_ _=>?_
  | refine goE (by assumption) (afc (by assumption) (by assumption)) λ_ _=>?_
  | refine goE (by assumption) (ahi (by assumption) (by assumption) akC) λ_ _=>?_
  | refine brN (λhb=>?_) (λhb=>?_)
  | refine br (λhb=>?_) (λhb=>?_)
  | exact⟨by rw[alp];simp[*],X0.trans (by assumption)⟩))
end
section
variable {h:ab}
theorem aiI{p q:Addr}{x y:cz}(A0:RdP cx h p x)(B0:RdP cx h q y):af ak 265 #[.pointer (some p),.pointer (some q)] (λu h'=>u = .bool (same x y)∧Ext h h') h:=by
 have hC:=(A0.foc dU).len
 have hC':=(B0.foc dU).len
 have hS:=auh (A0.foc dx).len (B0.foc dx).len
 refine aci.call (A0.oI1 (B0.oI1 (br (λhb=>⟨by rw[aew,show(x.Kind==y.Kind)=false from nt hb];rfl,Ext.refl _⟩) λhk=>?_)))
 have hk:(x.Kind==y.Kind)=true:=nf hk
 refine loop (λz hh=>∃n:Nat,z=(p,q,(n:Int))∧n≤3∧Ext h hh∧∀i,i<n->same x.C[i]! y.C[i]! = true) (λz=>(3-z.2.2).toNat) ⟨0,rfl,by omega,Ext.refl _,λi hi=>by omega⟩ ?_
 rintro z hh ⟨n,rfl,hn,X,hs⟩
 refine brd (λhc=>?_) λhc=>?_
 ·refine idx (by omega) (by omega) ((((A0.ext X).foc dU).elem (i:=n) (by omega)).oF1 λa ha=>idx (by omega) (by omega) ((((B0.ext X).foc dU).elem (i:=n) (by omega)).oF1 λb hb=>goE X (zu ha hb _) λh8 x8=>bt (br (λhb=>⟨?_,x8⟩) λhb=>?_)))
  ·have hb:=nt hb
   rw[ak6] at hb
   rw[aew,alD hb,Bool.and_false,Bool.false_and]
  ·have hb:=nf hb
   rw[ak6] at hb
   refine⟨⟨n+1,by rw[ag (by omega)],by omega,x8,λi hi=>?_⟩,by rw[ag (by omega)];show _<_;simp;omega⟩
   by_cases e:i=n
   ·subst e;exact hb
   ·exact hs i (by omega)
 ·have hCC:same x.C y.C=true:=akA (by omega) λi hi=>hs i (by omega)
  refine idx (by omega) (by omega) ((A0.ext X).oF λa ha=>idx (by omega) (by omega) ((B0.ext X).oF λb hb=>goE X (zu ha hb _) λh8 x8=>bt (br (λhz=>?_) λhz=>⟨?_,x8⟩)))
  ·refine idx (by omega) (by omega) ((A0.ext x8).oF λa ha=>idx (by omega) (by omega) ((B0.ext x8).oF λb hb=>goE x8 (zu ha hb _) λh9 x9=>bt ⟨?_,x9⟩))
   rw[aew,hk,hCC,hS,hz];rfl
  ·rw[aew,hk,hCC,hS,hz];rfl
end
end Go.Sx
