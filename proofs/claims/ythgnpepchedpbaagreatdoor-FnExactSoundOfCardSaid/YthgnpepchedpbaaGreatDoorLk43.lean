/- Lemmas. -/
import Derived.Test.YthgnpepchedpbaaGreatDoorLk41
import Derived.Test.YthgnpepchedpbaaGreatDoorLh0
import Derived.Test.YthgnpepchedpbaaGreatDoorK9
import Derived.Test.YthgnpepchedpbaaGreatDoorLk33
set_option linter.unusedVariables false
set_option linter.unusedSimpArgs false
namespace Go.Sx
open FloatKind (f32 f64)
open IntKind (i64)
open Go.Proofs Ieee
set_option maxRecDepth 100000
set_option maxHeartbeats 1000000
def ju(f:Nat):cz:=if inside f 0 1073741824 then⟨3,[fdiv .f32 (hH .f32 1065353216 f) (jW .f32 1065353216 f),0,0],[0,0]⟩ else pU
def LM(m:Nat):cz:=⟨2,[hH .f32 1065353216 m,m,0],[0,0]⟩
def py(k:Nat):cz:=⟨1,[hH .f32 1065353216 k,k,0],[0,0]⟩
def xC(p m:Nat):Nat:=if flt .f32 (hH .f32 (hH .f32 p m) (f32.nearest ((u4 (hH .f32 p m):Nat):Int))) 1048576000 then u4 (hH .f32 p m)-1 else u4 (hH .f32 p m)
def strOf(p m l:Nat):bK:={ Loop:=⟨List.replicate (xC p m) 0,0⟩,kS:=ju (hH .f32 (hH .f32 p m) (f32.nearest ((xC p m:Nat):Int))),fz:=LM m,fT:=l }
def ck(p m l:Nat):bK×Int:=if inside p 1077936128 1149239296 then if inside m 0 1056964608 then if inside l 0 1065353216 then(strOf p m l,0) else(iw,2) else(iw,2) else(iw,2)
def flC(k:Int)(a b c d e:Nat):List Value:=[.int .i64 k,.float .f32 a,.float .f32 b,.float .f32 c,.float .f32 d,.float .f32 e]
theorem rG{k:Int}{a b c d e a' b' c' d' e':Nat}(ha:FW .f32 a a')(hb:FW .f32 b b')(hc:FW .f32 c c')(hd:FW .f32 d d')(he:FW .f32 e e'):cx.ow [] (flC k a b c d e) ⟨k,[a',b',c'],[d',e']⟩:=
 ⟨[],[],[.int .i64 k],_,rfl,rfl,⟨rfl,rfl⟩,[],[],[.float .f32 a,.float .f32 b,.float .f32 c],[.float .f32 d,.float .f32 e],rfl,rfl,
  ⟨rfl,[],[],[.float .f32 a],_,rfl,rfl,⟨rfl,a,rfl,ha⟩,[],[],[.float .f32 b],_,rfl,rfl,⟨rfl,b,rfl,hb⟩,[],[],[.float .f32 c],[],rfl,rfl,⟨rfl,c,rfl,hc⟩,rfl,rfl⟩,
  ⟨rfl,[],[],[.float .f32 d],_,rfl,rfl,⟨rfl,d,rfl,hd⟩,[],[],[.float .f32 e],[],rfl,rfl,⟨rfl,e,rfl,he⟩,rfl,rfl⟩⟩
theorem vj{x:bK}{B:List Blk}{b:Option Addr}{l c:Nat}{v1 v2:List Value}{y:Nat}(O:SlO 22 (rF .f32) B b l c x.Loop.ae)(h1:cx.ow [] v1 x.kS)(h2:cx.ow [] v2 x.fz)(hy:FW .f32 y x.fT):
  bf.ow B ([.slice b l c,.int .i64 x.Loop.At]++(v1++(v2++[.float .f32 y]))) x:=
 ⟨B,[],[.slice b l c,.int .i64 x.Loop.At],_,by simp,rfl,⟨B,[],[.slice b l c],[.int .i64 x.Loop.At],by simp,rfl,⟨b,l,c,rfl,O⟩,⟨rfl,rfl⟩⟩,[],[],v1,_,rfl,rfl,h1,[],[],v2,[.float .f32 y],rfl,rfl,h2,⟨rfl,y,rfl,hy⟩⟩
theorem wh{B:List Blk}{cs:Array Value}{r:aY}(O:bQ.ow B cs.toList r):∃b l c,cs=⟨[.slice b l c,.int .i64 r.At]⟩∧SlO 22 (rF .f32) B b l c r.ae:=by
 obtain⟨B1,B2,v1,v2,rfl,e,⟨b,l,c,rfl,O1⟩,⟨rfl,rfl⟩⟩:=O
 exact⟨b,l,c,by cases cs;simpa using e,by simpa using O1⟩
theorem wi{B:List Blk}{b:Option Addr}{l c:Nat}{r:aY}(O:SlO 22 (rF .f32) B b l c r.ae):bQ.ow B [.slice b l c,.int .i64 r.At] r:=
 ⟨B,[],[.slice b l c],[.int .i64 r.At],by simp,rfl,⟨b,l,c,rfl,O⟩,⟨rfl,rfl⟩⟩
theorem R8{n:Nat}(h:n<2 ^ 24):(f32.decode (f32.nearest (n:Int))).toInt .zero=some (n:Int):=by
 rw[mI]
 by_cases h0:n=0
 ·subst h0
  have:f32.format.read (f32.format.nearest false 0 0) = .number false 0 (-149):=by rw[fv];exact HK false
  rw[Fm this];rfl
 ·have hl:n.log2≤23:=by
   have:=(Nat.log2_lt h0 (k:=24)).2 h
   omega
  rw[Fm (DL false h0 h (by decide) (by decide))]
  unfold whole
  rw[show(0+(n.log2:Int)-23).toNat=0 by omega,Nat.shiftLeft_zero,show(-(0+(n.log2:Int)-23)).toNat=23-n.log2 by omega,Nat.mul_div_cancel _ (Nat.two_pow_pos _)]
theorem sub_one{n:Nat}(h1:1≤n)(h:n<2 ^ 24):hH .f32 (f32.nearest (n:Int)) 1065353216=f32.nearest ((n-1:Nat):Int):=by
 have hl:n.log2≤23:=by
  have:=(Nat.log2_lt (n:=n) (by omega) (k:=24)).2 h
  omega
 have r1:f32.format.read 1065353216 = .number false (2 ^ 23) (-23):=by decide +kernel
 have rn:=DL false (m:=n) (p:=0) (by omega) h (by decide) (by decide)
 have rf:(Datum.number false (n*2 ^ (23-n.log2)) (0+(n.log2:Int)-23)).sum (Datum.number false (2 ^ 23) (-23)).opposite=some (.number false ((n-1)*2 ^ 23) (-23)):=by
  show some (Datum.number _ _ _)=_
  have hb:min (0+(n.log2:Int)-23) (-23) = -23:=by omega
  have ht:signed false (n*2 ^ (23-n.log2)) (0+(n.log2:Int)-23 - -23).toNat+signed (!false) (2 ^ 23) ((-23:Int) - -23).toNat=(((n-1)*2 ^ 23:Nat):Int):=by
   show signed false _ _+signed true _ _=_
   rw[eP,jS,Nat.mul_assoc,← Nat.pow_add,show 23-n.log2+(0+(n.log2:Int)-23 - -23).toNat=23 by omega,show((-23:Int) - -23).toNat=0 by decide,Nat.pow_zero,Nat.mul_one,Nat.sub_mul]
   omega
  rw[hb,ht]
  by_cases h0:n=1
  ·subst h0;rfl
  ·rw[if_neg (by omega),Int.natAbs_natCast,decide_eq_false (by omega)]
 have IE:f32.format.sub (f32.nearest (n:Int)) 1065353216=some (f32.nearest ((n-1:Nat):Int)):=by
  rw[mI,mI]
  unfold Format.sub
  rw[rn,r1,rf]
  exact congrArg some (pT _ _ 23 rfl (by decide))
 unfold hH
 rw[IE,Option.getD_some]
 exact(cK .f32 _).self
theorem c2:FW .f32 1073741824 1073741824:=eM (by decide) (by decide)
theorem c3:FW .f32 1077936128 1077936128:=eM (by decide) (by decide)
theorem Sw:FW .f32 1149239296 1149239296:=eM (by decide) (by decide)
theorem aia:FW .f32 1048576000 1048576000:=eM (by decide) (by decide)
section
variable {h:ab}{x a:Nat}
def ApR(u:Value)(f:Nat):Prop:=∃(k n:Int) (y:Nat),u = .tuple ⟨[.agg ⟨flC k y 0 0 0 0⟩,.int .i64 n]⟩∧cx.ow [] (flC k y 0 0 0 0) (ju f)
theorem Ko(hx:FW .f32 x a):af ak 282 #[.float .f32 x] (λu h'=>ApR u a∧Ext h h') h:=by
 refine fI.call ((Mem.start h).alc λg1 h1 x1 M=>?_)
 rw[cw hx fw0,cw hx c2]
 have bad:ju a=pU->STA 6 h1 ⟨g1,0,none⟩ ⟨gf⟩ λh8=>LDA 6 h8 ⟨g1,0,none⟩ λa9=>ApR (.tuple ⟨[.agg a9,.int .i64 (2:Int)]⟩) a∧Ext h h8:=λe=>
  M.dH .here rfl (dI rfl) rfl .here λh3 M=>M.df .here rfl ⟨⟨0,2,0,rfl,by rw[e];exact pj⟩,M.ext⟩
 refine br (λk1=>brN (λk2=>bad (by rw[ju,inside,fge,fle,k1,k2];rfl)) λk2=>?_) λk1=>bad (by rw[ju,inside,fge,k1];rfl)
 have e:inside a 0 1073741824=true:=by rw[inside,fge,fle,k1,k2];rfl
 unfold fI.J3
 refine fS c1 hx λr7 h7=>fA c1 hx λr8 h8=>fD h7 h8 λr9 h9=>siz rfl (M.dH .here rfl (dI rfl) rfl .here λh3 M=>M.df .here rfl ⟨⟨3,0,r9,rfl,?_⟩,M.ext⟩)
 rw[ju,e,if_pos rfl]
 exact rG h9 fw0 fw0 fw0 fw0
theorem CI(hx:FW .f32 x a):af ak 251 #[.float .f32 x] (λu h'=>ApR u a∧Ext h h') h:=by
 refine fO.call ((Mem.start h).alc λg1 h1 x1 M=>?_)
 rw[cw hx fw0,cw hx c2]
 have bad:ju a=pU->STA 6 h1 ⟨g1,0,none⟩ ⟨gf⟩ λh8=>LDA 6 h8 ⟨g1,0,none⟩ λa9=>ApR (.tuple ⟨[.agg a9,.int .i64 (2:Int)]⟩) a∧Ext h h8:=λe=>
  M.dH .here rfl (dI rfl) rfl .here λh3 M=>M.df .here rfl ⟨⟨0,2,0,rfl,by rw[e];exact pj⟩,M.ext⟩
 refine br (λk1=>brN (λk2=>bad (by rw[ju,inside,fge,fle,k1,k2];rfl)) λk2=>?_) λk1=>bad (by rw[ju,inside,fge,k1];rfl)
 have e:inside a 0 1073741824=true:=by rw[inside,fge,fle,k1,k2];rfl
 unfold fO.J3
 refine fS c1 hx λr7 h7=>fA c1 hx λr8 h8=>fD h7 h8 λr9 h9=>siz rfl (M.dH .here rfl (dI rfl) rfl .here λh3 M=>M.df .here rfl ⟨⟨3,0,r9,rfl,?_⟩,M.ext⟩)
 rw[ju,e,if_pos rfl]
 exact rG h9 fw0 fw0 fw0 fw0
def FlR(u:Value)(f:cz):Prop:=∃(k:Int) (y z:Nat),u = .agg ⟨flC k y z 0 0 0⟩∧cx.ow [] (flC k y z 0 0 0) f
theorem TG(hx:FW .f32 x a):af ak 283 #[.float .f32 x] (λu h'=>FlR u (LM a)∧Ext h h') h:=
 vH.call ((Mem.start h).alc λg1 h1 x1 M=>fS c1 hx λr3 h3=>siz rfl (M.dH .here rfl (dI rfl) rfl .here λh3' M=>M.df .here rfl ⟨⟨2,r3,x,rfl,rG h3 hx fw0 fw0 fw0⟩,M.ext⟩))
theorem yW(hx:FW .f32 x a):af ak 252 #[.float .f32 x] (λu h'=>FlR u (LM a)∧Ext h h') h:=
 wq.call ((Mem.start h).alc λg1 h1 x1 M=>fS c1 hx λr3 h3=>siz rfl (M.dH .here rfl (dI rfl) rfl .here λh3' M=>M.df .here rfl ⟨⟨2,r3,x,rfl,rG h3 hx fw0 fw0 fw0⟩,M.ext⟩))
theorem Jq(hx:FW .f32 x a):af ak 287 #[.float .f32 x] (λu h'=>FlR u (py a)∧Ext h h') h:=
 vG.call ((Mem.start h).alc λg1 h1 x1 M=>fS c1 hx λr3 h3=>siz rfl (M.dH .here rfl (dI rfl) rfl .here λh3' M=>M.df .here rfl ⟨⟨1,r3,x,rfl,rG h3 hx fw0 fw0 fw0⟩,M.ext⟩))
theorem yV(hx:FW .f32 x a):af ak 254 #[.float .f32 x] (λu h'=>FlR u (py a)∧Ext h h') h:=
 wo.call ((Mem.start h).alc λg1 h1 x1 M=>fS c1 hx λr3 h3=>siz rfl (M.dH .here rfl (dI rfl) rfl .here λh3' M=>M.df .here rfl ⟨⟨1,r3,x,rfl,rG h3 hx fw0 fw0 fw0⟩,M.ext⟩))
end
section
variable {h:ab}{x a p q m n:Nat}
theorem Hm{p m l:Nat}(h1:inside p 1077936128 1149239296=true)(h2:inside m 0 1056964608=true):∃k e,f32.format.read (hH .f32 p m) = .number false k e∧u4 (hH .f32 p m)=whole k e∧2≤whole k e∧whole k e≤1024∧1≤xC p m∧xC p m≤1024:=by
 obtain⟨k,e,hr,g1,g2⟩:=Rm h1 h2
 have hf:u4 (hH .f32 p m)=whole k e:=by unfold u4;rw[hr]
 refine⟨k,e,hr,hf,g1,g2,?_⟩
 unfold xC
 rw[hf]
 split <;> omega
theorem DO{l z:Nat}(hp:FW .f32 x p)(hm:FW .f32 a m)(hl:FW .f32 z l):af ak 181 #[.float .f32 x,.float .f32 a,.float .f32 z] (λu h'=>fk bf h h' u (ck p m l).1 (ck p m l).2) h:=by
 refine cU.call ((Mem.start h).alc λg1 h1 x1 M=>?_)
 rw[cw hp c3,cw hp Sw,cw hm fw0,cw hm c05,cw hl fw0,cw hl c1]
 have bad:ck p m l=(iw,2)->STA 15 h1 ⟨g1,0,none⟩ ⟨aF⟩ λh8=>LDA 15 h8 ⟨g1,0,none⟩ λa9=>fk bf h h8 (.tuple ⟨[.agg a9,.int .i64 (2:Int)]⟩) (ck p m l).1 (ck p m l).2:=λe=>by
  rw[e]
  exact M.dH .here rfl (dI rfl) rfl .here λh3 M=>M.df .here rfl ⟨_,[],rfl,wL,(Mem.start h).grow M.ext⟩
 refine br (λk1=>brN (λk2=>bad (by rw[ck,inside,fge,fle,k1,k2];rfl)) λk2=>?_) λk1=>bad (by rw[ck,inside,fge,k1];rfl)
 have e1:inside p 1077936128 1149239296=true:=by rw[inside,fge,fle,k1,k2];rfl
 refine br (λk3=>brN (λk4=>bad (by rw[ck,e1,inside,fge,fle,k3,k4];rfl)) λk4=>?_) λk3=>bad (by rw[ck,e1,inside,fge,k3];rfl)
 have e2:inside m 0 1056964608=true:=by rw[inside,fge,fle,k3,k4];rfl
 refine br (λk5=>brN (λk6=>bad (by rw[ck,e1,e2,inside,fge,fle,k5,k6];rfl)) λk6=>?_) λk5=>bad (by rw[ck,e1,e2,inside,fge,k5];rfl)
 have e3:inside l 0 1065353216=true:=by rw[inside,fge,fle,k5,k6];rfl
 have AL:ck p m l=(strOf p m l,0):=by rw[ck,e1,e2,e3];rfl
 rw[AL]
 obtain⟨k,e,hr,hf,g1',g2',g3,g4⟩:=Hm (l:=l) e1 e2
 have fin:∀{hh:ab}{B:List Blk}{cells:List Value},Mem h hh ((g1,115,⟨aF⟩) :: B)->bf.ow B cells (strOf p m l)->STA 15 hh ⟨g1,0,none⟩ ⟨cells⟩ λxl=>LDA 15 xl ⟨g1,0,none⟩ λTL=>fk bf h xl (.tuple ⟨[.agg TL,.int .i64 (0:Int)]⟩) (strOf p m l) 0:=λM O=>
  M.dH .here (bf.jX O) (bf.jy O) rfl .here λxl M=>M.df .here (bf.jX O) ⟨_,_,rfl,O,M.drop⟩
 have key:∀n9:Nat,n9=xC p m->∀{rM:Nat},FW .f32 rM (hH .f32 p m)->cU.J7 (λu h'=>fk bf h h' u (strOf p m l) 0) a z ⟨g1,0,none⟩ rM (n9:Int) h1:=by
  intro n9 hn rM kB
  subst hn
  unfold cU.J7
  refine fS kB (cK .f32 _) λvn jF=>(CI jF).mono ?_
  rintro _ h2 ⟨⟨k2,n2,y2,rfl,O2⟩,x2⟩
  refine jJ (gw (cN ((M.grow x2).alc λg25 h3 x3 M=>M.dH .here rfl (dI rfl) rfl .here λh4 M=>M.df .here rfl ⟨?_,?_⟩)))
  ·have P:RdP cx h4 ⟨g25,0,none⟩ _:=M.rdp .here (cx.look O2 M (List.nil_sublist _))
   refine vW (r:=rF .f32) (z:=0) (zc:=[.float .f32 0]) ⟨rfl,0,rfl,fw0⟩ rfl rfl (by decide) M (by show 4*xC p m≤2 ^ 48;omega) (Nat.le_trans g4 (by decide)) λg29 h5 x5 M O=>P.pin rfl x5 ?_
   refine(yW hm).mono ?_
   rintro _ h6 ⟨⟨k3,y3,z3,rfl,O3⟩,x6⟩
   refine gw (P.pin rfl (x5.trans x6) (siz rfl (siz rfl (siz rfl (fin ((M.grow x6).cnt (λp=>by simp only[bN,bu,bZ] at *;omega)) (vj (x:=strOf p m l) O O2 O3 hl))))))
  ·have P:RdP cx h4 ⟨g25,0,none⟩ _:=M.rdp .here (cx.look O2 M (List.nil_sublist _))
   refine(yW hm).mono ?_
   rintro _ h5 ⟨⟨k3,y3,z3,rfl,O3⟩,x5⟩
   refine gw (P.pin rfl x5 ?_)
   refine vW (r:=rF .f32) (z:=0) (zc:=[.float .f32 0]) ⟨rfl,0,rfl,fw0⟩ rfl rfl (by decide) (M.grow x5) (by show 4*xC p m≤2 ^ 48;omega) (Nat.le_trans g4 (by decide)) λg29 h6 x6 M O=>P.pin rfl (x5.trans x6) ?_
   exact siz rfl (siz rfl (siz rfl (fin (M.cnt (λp=>by simp only[bN,bu,bZ] at *;omega)) (vj (x:=strOf p m l) O O2 O3 hl))))
 unfold cU.J3
 refine fS hp hm λrM kB=>?_
 have ajq:nan .f32 (hH .f32 p m)=false:=by unfold Sx.nan;rw[hr];rfl
 have anY:=kB.eq ajq
 subst anY
 refine Nc (Fm hr) (by omega) (by omega) (fS kB (cK .f32 _) λCy qQ=>?_)
 rw[cw qQ aia,← hf]
 rw[← hf] at g1'
 refine br (λkk=>?_) λkk=>?_
 ·rw[zK (by omega) (by omega)]
  exact key _ (by unfold xC flt;rw[if_pos kk]) kB
 ·exact key _ (by unfold xC flt;rw[kk];rfl) kB
theorem Mw{l z:Nat}(hp:FW .f32 x p)(hm:FW .f32 a m)(hl:FW .f32 z l):af ak 234 #[.float .f32 x,.float .f32 a,.float .f32 z] (λu h'=>fk bf h h' u (ck p m l).1 (ck p m l).2) h:=by
 refine cT.call ((Mem.start h).alc λg1 h1 x1 M=>?_)
 have bad:∀{hh:ab},Mem h hh [(g1,115,⟨aF⟩)]->ck p m l=(iw,2)->STA 15 hh ⟨g1,0,none⟩ ⟨aF⟩ λh8=>LDA 15 h8 ⟨g1,0,none⟩ λa9=>fk bf h h8 (.tuple ⟨[.agg a9,.int .i64 (2:Int)]⟩) (ck p m l).1 (ck p m l).2:=λM e=>by
  rw[e]
  exact M.dH .here rfl (dI rfl) rfl .here λh3 M=>M.df .here rfl ⟨_,[],rfl,wL,(Mem.start h).grow M.ext⟩
 refine goM M (jO hp c3 Sw _) λh2 M=>bt (brN (λe=>bad M (by rw[ck,e];rfl)) λe1=>?_)
 refine goM M (jO hm fw0 c05 _) λh3 M=>bt (brN (λe=>bad M (by rw[ck,e1,e];rfl)) λe2=>?_)
 refine goM M (jO hl fw0 c1 _) λh4 M=>bt (brN (λe=>bad M (by rw[ck,e1,e2,e];rfl)) λe3=>?_)
 have AL:ck p m l=(strOf p m l,0):=by rw[ck,e1,e2,e3];rfl
 rw[AL]
 obtain⟨k,e,hr,hf,g1',g2',g3,g4⟩:=Hm (l:=l) e1 e2
 have fin:∀{hh:ab}{B:List Blk}{cells:List Value},Mem h hh ((g1,115,⟨aF⟩) :: B)->bf.ow B cells (strOf p m l)->STA 15 hh ⟨g1,0,none⟩ ⟨cells⟩ λxl=>LDA 15 xl ⟨g1,0,none⟩ λTL=>fk bf h xl (.tuple ⟨[.agg TL,.int .i64 (0:Int)]⟩) (strOf p m l) 0:=λM O=>
  M.dH .here (bf.jX O) (bf.jy O) rfl .here λxl M=>M.df .here (bf.jX O) ⟨_,_,rfl,O,M.drop⟩
 have key:∀n9:Nat,n9=xC p m->∀{hh:ab}{rM y9:Nat},Mem h hh [(g1,115,⟨aF⟩)]->FW .f32 rM (hH .f32 p m)->FW .f32 y9 (f32.nearest (n9:Int))->cT.J7 (λu h'=>fk bf h h' u (strOf p m l) 0) a z ⟨g1,0,none⟩ rM y9 hh:=by
  intro n9 hn hh rM y9 M kB h9
  subst hn
  unfold cT.J7
  have h9e:=h9.eq (dp _ _)
  subst h9e
  refine Nc (R8 (by omega)) (by omega) (by omega) ((Jp _ _).mono ?_)
  rintro _ h2 ⟨cR,BR,rfl,OR,N⟩
  have zq:inR ((xC p m:Nat):Int) 1 1024=true:=by rw[inR,decide_eq_true (by omega),decide_eq_true (by omega)];rfl
  rw[zq] at OR
  obtain⟨b,l',c',rfl,OS⟩:=wh OR
  have OS:SlO 22 (rF .f32) BR b l' c' (List.replicate (xC p m) 0):=OS
  have M:=M.join N
  refine jJ (gw (cN (M.alc λZJ h3 x3 M=>M.dH .here rfl (dI rfl) rfl .here λh4 M=>fS kB h9 λRI Ps=>(Ko Ps).mono ?_)))
  rintro _ h5 ⟨⟨k2,n2,y2,rfl,O2⟩,x5⟩
  refine jJ (gw (cN ((M.grow x5).alc λg43 h6 x6 M=>M.dH .here rfl (dI rfl) rfl .here λh7 M=>M.df (.there .here) rfl (M.df .here rfl ((TG hm).mono ?_)))))
  rintro _ h8 ⟨⟨k3,y3,z3,rfl,O3⟩,x8⟩
  have P:RdP cx h7 ⟨g43,0,none⟩ _:=M.rdp .here (cx.look O2 M (List.nil_sublist _))
  have Q:RdP bQ h7 ⟨ZJ,0,none⟩ ⟨List.replicate (xC p m) 0,0⟩:=M.rdp (.there .here) (bQ.look (wi (r:=⟨List.replicate (xC p m) 0,0⟩) OS) (M.cnt (W:=BR)) (List.Sublist.refl _))
  refine gw (P.pin rfl x8 (Q.pin rfl x8 (siz rfl (siz rfl (siz rfl (fin ((M.grow x8).cnt (λp=>by simp only[bN,bu,bZ] at *;omega)) (vj (x:=strOf p m l) OS O2 O3 hl)))))))
 unfold cT.J3
 refine fS hp hm λrM kB=>?_
 have ajq:nan .f32 (hH .f32 p m)=false:=by unfold Sx.nan;rw[hr];rfl
 obtain⟨B,hB⟩:∃B:Nat,1100≤B:=⟨1100,Nat.le_refl _⟩
 obtain⟨_,_,hw,_⟩:=rO hB hr
 have Xw:wid (hH .f32 p m)=wide (hH .f32 p m):=kJ hw
 have hnw:nan .f64 (wide (hH .f32 p m))=false:=by unfold Sx.nan;rw[hw];rfl
 obtain⟨_,_,hwr,_⟩:=sV hB false (N:=whole k e) (by omega)
 have hnf:nan .f64 (flr (wide (hH .f32 p m)))=false:=by rw[C4 hr];unfold Sx.nan;rw[hwr];rfl
 obtain⟨nf1,nf2⟩:=UW (N:=whole k e) (by omega)
 refine cg kB λVU ta=>?_
 rw[Xw] at ta
 have ao6:=ta.eq hnw
 subst ao6
 refine goM M (zh hnw _) λh5 M=>cW ?_
 refine Fg (Q7 hnf) (by rw[C4 hr];exact nf1) λzF nR=>?_
 rw[C4 hr,nf2,← mI,← hf] at nR
 rw[← hf] at g1'
 refine fS kB nR λHW AP=>?_
 rw[cw AP aia]
 refine br (λkk=>fS nR c1 λMv pw=>?_) λkk=>?_
 ·rw[sub_one (by omega) (by omega)] at pw
  exact key _ (by unfold xC flt;rw[if_pos kk]) M kB pw
 ·exact key _ (by unfold xC flt;rw[kk];rfl) M kB nR
end
def pg(r:aY)(i:Nat):Nat:=((r.At+(i:Int)) % r.len).toNat
def chg(f:Nat->Nat->Nat)(r:aY):Nat->aY
 | 0=>r
 | i+1=>⟨(chg f r i).ae.set (pg r i) (f i (chg f r i).ae[pg r i]!),r.At⟩
theorem D9(f:Nat->Nat->Nat)(r:aY)(i:Nat):(chg f r i).At=r.At:=by cases i <;> rfl
theorem zm(f:Nat->Nat->Nat)(r:aY):∀i,(chg f r i).ae.length=r.ae.length
 | 0=>rfl
 | i+1=>by rw[chg,List.length_set];exact zm f r i
theorem Tq{r:aY}(h:r.ok=true)(i:Nat):0≤(r.At+(i:Int)) % r.len∧pg r i<r.ae.length∧(r.At+(i:Int)) % r.len<r.ae.length:=by
 obtain⟨k1,k2,k3,k4,k5⟩:=kO h
 have hl:r.len=(r.ae.length:Int):=rfl
 have h1:=Int.emod_nonneg (r.At+(i:Int)) (show r.len≠0 by omega)
 have h2:=Int.emod_lt_of_pos (r.At+(i:Int)) (show 0<r.len by omega)
 unfold pg
 refine⟨h1,by omega,by omega⟩
def DH(n p f i:Nat):Nat:=eG .f32 f (if flt .f32 (f32.nearest ((i:Nat):Int)) p then fdiv .f32 (f32.nearest ((i:Nat):Int)) p else fdiv .f32 (hH .f32 n (f32.nearest ((i:Nat):Int))) (hH .f32 n p))
def lx(n p f i a:Nat):Nat:=jW .f32 a (DH n p f i)
def bK.nH(x:bK)(pl f:Nat):bK:={ x with Loop:=chg (lx (f32.nearest ((x.Loop.ae.length:Nat):Int)) (eG .f32 pl (f32.nearest ((x.Loop.ae.length:Nat):Int))) f) x.Loop x.Loop.ae.length }
def bK.iH(x:bK)(pl f:Nat):bK×Int:=if x.ok then if place pl then if fin f then(x.nH pl f,0) else(iw,2) else(iw,2) else(iw,1)
def flT(v:Int×Nat×Nat×Nat×Nat×Nat):List Value:=flC v.1 v.2.1 v.2.2.1 v.2.2.2.1 v.2.2.2.2.1 v.2.2.2.2.2
theorem L6:Flat cx:=G3 (lh (AM _) (lh (Nd _ (u0 _)) (Nd _ (u0 _))))
theorem qY{h:ab}{vs:List Value}{f:cz}(R:cx.rd h vs f):∃v,vs=flT v∧cx.ow [] (flT v) f:=by
 have O:=L6 _ _ _ R
 obtain⟨v1,r1,e1,e2,v2,v3,rfl,⟨l2,R2⟩,⟨l3,R3⟩⟩:=R
 have e2:v1=[.int .i64 f.Kind]:=e2
 have l2:f.C.length=3:=l2
 have l3:f.S.length=2:=l3
 obtain⟨p,q,r,hC⟩:∃p q r,f.C=[p,q,r]:=by
  match hf:f.C,l2 with
  | [p,q,r],_=>exact⟨p,q,r,rfl⟩
 obtain⟨s,t,hS⟩:∃s t,f.S=[s,t]:=by
  match hf:f.S,l3 with
  | [s,t],_=>exact⟨s,t,rfl⟩
 have R2:rds (rF .f32) h v2 f.C:=R2
 have R3:rds (rF .f32) h v3 f.S:=R3
 rw[hC] at R2
 rw[hS] at R3
 obtain⟨_,_,rfl,⟨a,rfl,_⟩,_,_,rfl,⟨b,rfl,_⟩,_,_,rfl,⟨c,rfl,_⟩,rfl⟩:=R2
 obtain⟨_,_,rfl,⟨d,rfl,_⟩,_,_,rfl,⟨e,rfl,_⟩,rfl⟩:=R3
 subst e2
 have hv:vs=flT (f.Kind,a,b,c,d,e):=by rw[e1];rfl
 exact⟨_,hv,by rw[← hv];exact O⟩
def stL(b:Option Addr)(l c:Nat)(t:Int)(v1 v2:Int×Nat×Nat×Nat×Nat×Nat)(y:Nat):List Value:=[.slice b l c,.int .i64 t]++(flT v1++(flT v2++[.float .f32 y]))
theorem M8{h:ab}{cs:Array Value}{x:bK}(R:bf.rd h cs.toList x):∃b l c v1 v2 y,cs=⟨stL b l c x.Loop.At v1 v2 y⟩∧SlR (rF .f32) h b l c x.Loop.ae∧cx.ow [] (flT v1) x.kS∧cx.ow [] (flT v2) x.fz∧FW .f32 y x.fT:=by
 obtain⟨w1,r1,e1,⟨u1,u2,rfl,⟨b,l,c,rfl,S⟩,hat⟩,w2,r2,rfl,F1,w3,w4,rfl,F2,⟨y,rfl,Fy⟩⟩:=R
 have hat:u2=[.int .i64 x.Loop.At]:=hat
 subst hat
 obtain⟨v1,rfl,O1⟩:=qY F1
 obtain⟨v2,rfl,O2⟩:=qY F2
 exact⟨b,l,c,v1,v2,y,by cases cs;simpa [stL] using e1,S,O1,O2,Fy⟩
theorem To{b:Option Addr}{l c:Nat}{t:Int}{v1 v2:Int×Nat×Nat×Nat×Nat×Nat}{y:Nat}:∀v ∈ (⟨stL b l c t v1 v2 y⟩:Array Value).toList,v.oneCell'=true:=dI rfl
section
variable {h:ab}{x a:Nat}
theorem Uq{q:Addr}{x:bK}(R:RdP bf h q x)(hl:x.Loop.ae.length≤1048576):af ak 133 #[.pointer (some q)] (λu h'=>mN bf h h' u x) h:=by
 refine wA.call ((Mem.start h).alc λg1 h1 x1 M=>?_)
 have A:∀{hh:ab},Ext h hh->RdP bf hh q x:=λe=>R.ext e
 refine(A M.ext).lda dM rfl λa3 R3=>(A M.ext).lda dK rfl λa4 R4=>(A M.ext).oF λr5 h5=>?_
 obtain⟨v1,e3,O1⟩:=qY R3
 obtain⟨v2,e4,O2⟩:=qY R4
 obtain rfl:a3=⟨flT v1⟩:=by cases a3;simpa using e3
 obtain rfl:a4=⟨flT v2⟩:=by cases a4;simpa using e4
 refine mN.go (Mem.start h1) (Un ((A M.ext).fst dL) hl) λh7 a8 B8 N O8 s8=>?_
 obtain⟨b,l,c,rfl,OS⟩:=wh O8
 have P:RdP bf h1 q x:=A M.ext
 refine gw (P.lN (by decide) N.ext (P.lN (by decide) N.ext (P.lN (by decide) N.ext (siz rfl (siz rfl (siz rfl ?_))))))
 have M:=(M.join N).cnt (W:=(g1,115,⟨aF⟩) :: B8)
 exact M.dH .here rfl To rfl .here λh8 M=>M.df .here rfl ⟨_,B8,rfl,vj (x:=x) OS O1 O2 h5,M.drop⟩
theorem FB{cs:Array Value}{x:bK}(R0:bf.rd h cs.toList x)(hl:x.Loop.ae.length≤1048576):af ak 148 #[.agg cs] (λu h'=>mN bf h h' u x) h:=by
 obtain⟨b,l,c,v1,v2,y,rfl,S,O1,O2,hy⟩:=M8 R0
 refine nj.call ((Mem.start h).alc λg1 h1 x1 M=>M.alc λg3 h2 x2 M=>?_)
 have R:RdP bf h2 ⟨g1,0,none⟩ x:=M.rdp (.there .here) (bf.ext M.ext R0)
 refine(R.fst dL).jc rfl λa5 R5=>mN.go M (Kr R5 hl) λh7 a8 B8 M O8 s8=>gw ?_
 obtain⟨b',l',c',rfl,OS⟩:=wh O8
 have M:=M.cnt (W:=(g1,115,⟨stL b l c x.Loop.At v1 v2 y⟩) :: (g3,115,⟨aF⟩) :: B8)
 refine M.sta .here rfl (dI rfl) (by show 0+2≤15;decide) .here λh9 M=>?_
 have M:Mem h h9 ((g1,115,⟨stL b' l' c' x.Loop.At v1 v2 y⟩) :: (g3,115,⟨aF⟩) :: B8):=M
 exact M.df .here rfl (M.dH (.there .here) rfl To rfl (.there .here) λgv M=>M.df (.there .here) rfl ⟨_,B8,rfl,vj (x:=x) OS O1 O2 hy,M.drop.drop⟩)
theorem XG{h0:ab}{q:Addr}{F:Fr}{L:List Blk}{r:aY}{i:Nat}{y d:Nat}(P:Pt bQ h0 h q F L r)(hr:r.ok=true)(hi:i<1048576)(hy:FW .f32 y d):
  af ak 253 #[.pointer (some q),.int .i64 (i:Int),.float .f32 y] (λu h'=>Pt bQ h0 h' q F L ⟨r.ae.set (pg r i) (jW .f32 r.ae[pg r i]! d),r.At⟩) h:=by
 obtain⟨b,l,c,hb,S⟩:=P.Ua
 obtain⟨k1,k2,k3,k4,k5⟩:=kO hr
 obtain⟨t1,t2,t3⟩:=Tq hr i
 have hl:=S.len
 refine z8.call (P.rd.oI (o_l hb (nz (by omega) (o_l hb (o_l hb ?_)))))
 have ht:Int.tmod (i64.wrap (r.At+(i:Int))) (l:Int)=(r.At+(i:Int)) % r.len:=by
  rw[wrap64 (by omega) (by omega),aY.len,hl,Int.tmod_eq_emod_of_nonneg (by omega)]
 rw[ht]
 refine S.idx (by decide) t1 (by omega) λp Rp=>Rp.oF1 λr8 h8=>fA h8 hy λr9 h9=>dT ?_
 obtain⟨a0,F',L',rfl,P',hs,close⟩:=P.SB hb (i:=((r.At+(i:Int)) % r.len).toNat) (by omega)
 exact idxs t1 (by omega) (P'.Vj h9 λh1 P1=>(close _ _ _ P1).1)
def ahQ(h0:ab)(f:Value)(g:Nat->Nat->Nat):Prop:=∀(i r a:Nat) (h:ab),Ext h0 h->i<1048576->FW .f32 r a->pE ak f #[.int .i64 (i:Int),.float .f32 r] (λu h'=>(∃y,u = .float .f32 y∧FW .f32 y (g i a))∧Ext h h') h
theorem TR{cs:Array Value}{x:bK}{f:Value}{g:Nat->Nat->Nat}(R0:bf.rd h cs.toList x)(hr:x.Loop.ok=true)(D:ahQ h f g):
  af ak 284 #[.agg cs,f] (λu h'=>mN bf h h' u { x with Loop:=chg g x.Loop x.Loop.ae.length }) h:=by
 obtain⟨k1,k2,k3,k4,k5⟩:=kO hr
 refine cX.call ((Mem.start h).alc λg1 h1 x1 M=>M.alc λg3 h2 x2 M=>M.df (.there .here) (rsz R0 rfl) (mN.go M (FB (bf.ext M.ext R0) (by omega)) λh7 a8 B8 M O8 s8=>gw ?_))
 have M:=M.cnt (W:=(g1,115,cs) :: (B8++[(g3,115,⟨aF⟩)]))
 refine M.dH .here s8 (bf.jy O8) (rsz R0 rfl) .here λh9 M=>?_
 have P:Pt bf h h9 ⟨g1,0,none⟩ ⟨g1,115,[],[]⟩ [(g3,115,⟨aF⟩)] x:=Pt.new O8 M
 obtain⟨b,l,c,hb,S⟩:=P.Ua
 have hl:=S.len
 refine o_l hb ?_
 refine loop (λy hh=>∃i:Nat,y=(f,⟨g1,0,none⟩,⟨g3,0,none⟩,(l:Int),(l:Int),(i:Int))∧i≤l∧Pt bf h hh ⟨g1,0,none⟩ ⟨g1,115,[],[]⟩ [(g3,115,⟨aF⟩)] { x with Loop:=chg g x.Loop i })
  (λy=>(l-y.2.2.2.2.2).toNat) ⟨0,rfl,by omega,P⟩ ?_
 rintro y hh ⟨i,rfl,hi,P⟩
 unfold cX.B4
 refine brd (λhc=>?_) λhc=>?_
 ·obtain⟨t1,t2,t3⟩:=Tq hr i
  have ht:Int.tmod (i64.wrap (x.Loop.At+(i:Int))) (l:Int)=(x.Loop.At+(i:Int)) % x.Loop.len:=by
   rw[wrap64 (by omega) (by omega),aY.len,hl,Int.tmod_eq_emod_of_nonneg (by omega)]
  obtain⟨b',l',c',hb',S'⟩:=P.Ua
  have hl':=S'.len
  have hl':x.Loop.ae.length=l':=by rw[← hl'];exact(zm g x.Loop i).symm
  refine P.rd.oI (nz (by omega) (o_l hb' (o_l hb' ?_)))
  show bd b' (Int.tmod (i64.wrap ((chg g x.Loop i).At+(i:Int))) (l:Int)) l' _
  rw[D9,ht]
  refine S'.idx (by decide) t1 (by omega) λp Rp=>Rp.oF1 λCy qQ=>?_
  refine pE.mono ?_ (D i Cy _ hh P.ext (by omega) qQ)
  rintro _ ta ⟨⟨IW,rfl,jU⟩,x19⟩
  refine cW ((P.rd.fst dL |>.fst lK).pin rfl x19 ?_)
  have P:=P.grow x19
  have aoL:=xT hb' x19
  obtain⟨a0,F',L',rfl,P',hs,close⟩:=P.SB aoL (i:=((x.Loop.At+(i:Int)) % x.Loop.len).toNat) (by omega)
  refine idxs t1 (by omega) (P'.Vj jU λuD P1=>⟨⟨i+1,by rw[ag (by omega)],by omega,?_⟩,by rw[ag (by omega)];show _<_;simp;omega⟩)
  have P2:Pt bf h uD ⟨g1,0,none⟩ ⟨g1,115,[],[]⟩ [(g3,115,⟨aF⟩)] { x with Loop:=⟨(chg g x.Loop i).ae.set (pg x.Loop i) (g i (chg g x.Loop i).ae[pg x.Loop i]!),(chg g x.Loop i).At⟩ }:=(close _ _ _ P1).1
  rw[D9] at P2
  exact P2
 ·obtain rfl:i=l:=by omega
  obtain⟨BP,B',M',O'⟩:=P.out
  refine M'.df .here (osz O' rfl) ?_
  have M':=M'.cnt (W:=(g3,115,⟨aF⟩) :: B')
  rw[hl]
  exact M'.dH .here (osz O' rfl) (bf.jy O') rfl .here λh3 M=>M.df .here (osz O' rfl) ⟨_,B',rfl,O',M.drop⟩
theorem sO{x:bK}{pl f:Nat}{k:Int}{g:Nat}{hh:ab}{L:List Blk}(M:Mem h hh ((g,115,⟨aF⟩) :: L))(e:x.iH pl f=(iw,k)):
  STA 15 hh ⟨g,0,none⟩ ⟨aF⟩ λh8=>LDA 15 h8 ⟨g,0,none⟩ λa9=>fk bf h h8 (.tuple ⟨[.agg a9,.int .i64 k]⟩) (x.iH pl f).1 (x.iH pl f).2:=by
 rw[e]
 exact M.dH .here rfl (dI rfl) rfl .here λh3 M=>M.df .here rfl ⟨_,[],rfl,wL,(Mem.start h).grow M.ext⟩
theorem JH{x:bK}(h:x.ok=true):x.Loop.ok=true:=by
 unfold bK.ok at h
 simp only[Bool.and_eq_true] at h
 exact h.1.1.1
theorem Bd{cs:Array Value}{x:bK}{y z pl f:Nat}(R0:bf.rd h cs.toList x)(hp:FW .f32 y pl)(hf:FW .f32 z f):
  af ak 182 #[.agg cs,.float .f32 y,.float .f32 z] (λu h'=>fk bf h h' u (x.iH pl f).1 (x.iH pl f).2) h:=by
 refine cm.call ((Mem.start h).alc λg1 h1 x1 M=>M.alc λg3 h2 x2 M=>?_)
 have R:RdP bf h2 ⟨g1,0,none⟩ x:=M.rdp (.there .here) (bf.ext M.ext R0)
 refine goM M (abA R) λh3 M=>bt (brN (λe=>sO M (by rw[bK.iH,e];rfl)) λe1=>?_)
 rw[cw hp fw0,cw hp c1]
 refine br (λk1=>brN (λk2=>sO M (by rw[bK.iH,e1,place,fge,flt,k1,k2];rfl)) λk2=>?_) λk1=>sO M (by rw[bK.iH,e1,place,fge,k1];rfl)
 have e2:place pl=true:=by rw[place,fge,flt,k1,k2];rfl
 refine goM M (jm hf _) λh4 M=>bt (brN (λe=>sO M (by rw[bK.iH,e1,e2,e];rfl)) λe3=>?_)
 have AL:x.iH pl f=(x.nH pl f,0):=by rw[bK.iH,e1,e2,e3];rfl
 rw[AL]
 have hr:=JH e1
 obtain⟨k1,k2,k3,k4,k5⟩:=kO hr
 unfold cm.J5
 have R4:RdP bf h4 ⟨g1,0,none⟩ x:=M.rdp (.there .here) (bf.ext M.ext R0)
 refine mN.go M (Uq R4 (by omega)) λh5 c5 B5 M O5 s5=>gw (M.alc λIx h6 x6 M=>M.dH .here s5 (bf.jy O5) rfl .here λh7 M=>?_)
 have P:Pt bf h h7 ⟨Ix,0,none⟩ ⟨Ix,115,[],[]⟩ [(g3,115,⟨aF⟩),(g1,115,cs)] x:=Pt.new O5 M
 have A:∀{hh:ab}{W:bK},Pt bf h hh ⟨Ix,0,none⟩ ⟨Ix,115,[],[]⟩ [(g3,115,⟨aF⟩),(g1,115,cs)] W->RdP bf hh ⟨g1,0,none⟩ x:=λP=>P.mem.rdp (.there .here) (bf.ext P.ext R0)
 refine(A P).oL1 λb l c S=>fM hp (cK .f32 _) λBz sW=>?_
 have hl:=S.len
 have S:x.Loop.ae.length=l:=hl
 refine loop (λw hh=>∃i:Nat,w=(z,⟨g1,0,none⟩,⟨g3,0,none⟩,⟨Ix,0,none⟩,f32.nearest (l:Int),Bz,(i:Int))∧i≤l∧Pt bf h hh ⟨Ix,0,none⟩ ⟨Ix,115,[],[]⟩ [(g3,115,⟨aF⟩),(g1,115,cs)] { x with Loop:=chg (lx (f32.nearest (l:Int)) (eG .f32 pl (f32.nearest (l:Int))) f) x.Loop i })
  (λw=>(l-w.2.2.2.2.2.2).toNat) ⟨0,rfl,by omega,P⟩ ?_
 rintro w hh ⟨i,rfl,hi,P⟩
 unfold cm.B9
 refine(A P).oL1 λb' l' c' S'=>?_
 have hl':x.Loop.ae.length=l':=S'.len
 have hll:l'=l:=by omega
 subst hll
 have hri:(chg (lx (f32.nearest (l':Int)) (eG .f32 pl (f32.nearest (l':Int))) f) x.Loop i).ok=true:=by
  rw[aY.ok,aY.len,D9,zm];exact hr
 have next:∀{d:Nat},d=DH (f32.nearest (l':Int)) (eG .f32 pl (f32.nearest (l':Int))) f i->i<l'->∀{y9:Nat},FW .f32 y9 d->∀{K:Value->ab->Prop},
   (∀u h',Pt bf h h' ⟨Ix,0,none⟩ ⟨Ix,115,[],[]⟩ [(g3,115,⟨aF⟩),(g1,115,cs)] { x with Loop:=chg (lx (f32.nearest (l':Int)) (eG .f32 pl (f32.nearest (l':Int))) f) x.Loop (i+1) }->K u h') ->
   af ak 253 #[.pointer (some ⟨Ix,0,none⟩),.int .i64 (i:Int),.float .f32 y9] K hh:=by
  intro d hd HP y9 hy9 K H
  obtain⟨F',L',P',hs,close⟩:=P.foc dL
  rw[kW] at P'
  refine(XG P' hri (by omega) hy9).mono λu h' P1=>H u h' ?_
  have P2:=close _ _ _ (by rw[kW];exact P1)
  have et:∀r:aY,r.ae.length=x.Loop.ae.length->r.At=x.Loop.At->pg r i=pg x.Loop i:=λr h1 h2=>by unfold pg aY.len;rw[h1,h2]
  have e4:=et (chg (lx (f32.nearest (l':Int)) (eG .f32 pl (f32.nearest (l':Int))) f) x.Loop i) (zm _ _ _) (D9 _ _ _)
  have P2:Pt bf h h' ⟨Ix,0,none⟩ ⟨Ix,115,[],[]⟩ [(g3,115,⟨aF⟩),(g1,115,cs)] { x with Loop:=⟨(chg (lx (f32.nearest (l':Int)) (eG .f32 pl (f32.nearest (l':Int))) f) x.Loop i).ae.set (pg (chg (lx (f32.nearest (l':Int)) (eG .f32 pl (f32.nearest (l':Int))) f) x.Loop i) i) (jW .f32 (chg (lx (f32.nearest (l':Int)) (eG .f32 pl (f32.nearest (l':Int))) f) x.Loop i).ae[pg (chg (lx (f32.nearest (l':Int)) (eG .f32 pl (f32.nearest (l':Int))) f) x.Loop i) i]! d),(chg (lx (f32.nearest (l':Int)) (eG .f32 pl (f32.nearest (l':Int))) f) x.Loop i).At⟩ }:=P2
  rw[e4,D9,hd] at P2
  exact P2
 have done:∀{h':ab},Pt bf h h' ⟨Ix,0,none⟩ ⟨Ix,115,[],[]⟩ [(g3,115,⟨aF⟩),(g1,115,cs)] { x with Loop:=chg (lx (f32.nearest (l':Int)) (eG .f32 pl (f32.nearest (l':Int))) f) x.Loop (i+1) }->i<l' ->
   ((∃i':Nat,(z,(⟨g1,0,none⟩:Addr),(⟨g3,0,none⟩:Addr),(⟨Ix,0,none⟩:Addr),f32.nearest (l':Int),Bz,i64.wrap ((i:Int)+1))=(z,⟨g1,0,none⟩,⟨g3,0,none⟩,⟨Ix,0,none⟩,f32.nearest (l':Int),Bz,(i':Int))∧i'≤l'∧Pt bf h h' ⟨Ix,0,none⟩ ⟨Ix,115,[],[]⟩ [(g3,115,⟨aF⟩),(g1,115,cs)] { x with Loop:=chg (lx (f32.nearest (l':Int)) (eG .f32 pl (f32.nearest (l':Int))) f) x.Loop i' })∧((l':Int)-i64.wrap ((i:Int)+1)).toNat<((l':Int)-i).toNat):=λP HP=>
  ⟨⟨i+1,by rw[ag (by omega)],by omega,P⟩,by rw[ag (by omega)];omega⟩
 refine brd (λhc=>?_) λhc=>?_
 ·rw[cw (cK .f32 _) sW]
  refine br (λkk=>fD (cK .f32 _) sW λVV Gg=>fM hf Gg λr33 Lf=>next (by unfold DH flt;rw[if_pos kk]) (by omega) Lf λu h' P=>done P (by omega)) λkk=>?_
  refine fS (cK .f32 _) (cK .f32 _) λRI Ps=>fS (cK .f32 _) sW λTa JI=>fD Ps JI λr38 Dn=>fM hf Dn λZ3 zR=>next (by unfold DH flt;rw[kk];rfl) (by omega) zR λu h' P=>done P (by omega)
 ·obtain rfl:i=l':=by omega
  obtain⟨BP,B',M',O'⟩:=P.out
  refine M'.df .here (osz O' rfl) ?_
  have M':=M'.cnt (W:=(g3,115,⟨aF⟩) :: B')
  refine M'.dH .here (osz O' rfl) (bf.jy O') rfl .here λh3 M=>M.df .here (osz O' rfl) ⟨_,B',rfl,?_,M.drop⟩
  have:x.nH pl f={ x with Loop:=chg (lx (f32.nearest (i:Int)) (eG .f32 pl (f32.nearest (i:Int))) f) x.Loop i }:=by unfold bK.nH;rw[S]
  rw[this];exact O'
theorem Rn{g1 g2 g3 n p f r1 r2 r3:Nat}{h0:ab}(hn:RdP (rF .f32) h0 ⟨g3,0,none⟩ n)(hp:RdP (rF .f32) h0 ⟨g1,0,none⟩ p)(hf:RdP (rF .f32) h0 ⟨g2,0,none⟩ f):
  ahQ h0 (.func (.func 285) #[] #[.pointer (some ⟨g1,0,none⟩),.pointer (some ⟨g2,0,none⟩),.pointer (some ⟨g3,0,none⟩)]) (lx n p f):=λi r a h X hi hr=>by
 show af ak 285 #[.int .i64 (i:Int),.float .f32 r,.pointer (some ⟨g1,0,none⟩),.pointer (some ⟨g2,0,none⟩),.pointer (some ⟨g3,0,none⟩)] _ h
 have N:=hn.ext X
 have Q:=hp.ext X
 have R:=hf.ext X
 refine lU.call (Q.oF1 λy1 h1=>?_)
 rw[cw (cK .f32 _) h1]
 refine br (λkk=>R.oF1 λy2 h2=>Q.oF1 λy3 h3=>fD (cK .f32 _) h3 λr4 h4=>fM h2 h4 λr5 h5=>fA hr h5 λr6 h6=>⟨⟨r6,rfl,?_⟩,Ext.refl _⟩) λkk=>?_
 ·unfold lx DH flt
  rw[if_pos kk];exact h6
 ·refine R.oF1 λy2 h2=>N.oF1 λy3 h3=>fS h3 (cK .f32 _) λr9 h9=>N.oF1 λy4 h4=>Q.oF1 λy5 h5=>fS h4 h5 λrk jl=>fD h9 jl λxB hP=>fM h2 hP λDK j0=>fA hr j0 λrM kB=>⟨⟨rM,rfl,?_⟩,Ext.refl _⟩
  unfold lx DH flt
  rw[kk];exact kB
theorem I7{cs:Array Value}{x:bK}{y z pl f:Nat}(R0:bf.rd h cs.toList x)(hp:FW .f32 y pl)(hf:FW .f32 z f):
  af ak 235 #[.agg cs,.float .f32 y,.float .f32 z] (λu h'=>fk bf h h' u (x.iH pl f).1 (x.iH pl f).2) h:=by
 refine fj.call ((Mem.start h).alc λg1 h1 x1 M=>M.alc λg3 h2 x2 M=>M.alc λg5 h3 x3 M=>M.df (.there (.there .here)) (rsz R0 rfl) ?_)
 have fw:∀{y a:Nat},FW .f32 y a->∀{hh:ab},(rF .f32).rd hh [.float .f32 y] a:=λhy _=>⟨_,rfl,hy⟩
 refine goM M (Ie (bf.ext M.ext R0)) λh4 M=>bt (brN (λe=>sO M (by rw[bK.iH,e];rfl)) λe1=>?_)
 refine goM M (JL hp _) λh5 M=>bt (brN (λe=>sO M (by rw[bK.iH,e1,e];rfl)) λe2=>?_)
 have RF:RdP (rF .f32) h5 ⟨g3,0,none⟩ f:=M.rdp (.there .here) (fw hf)
 refine RF.oF1 λvn jF=>goM M (mw jF _) λh6 M=>bt (brN (λe=>sO M (by rw[bK.iH,e1,e2,e];rfl)) λe3=>?_)
 have AL:x.iH pl f=(x.nH pl f,0):=by rw[bK.iH,e1,e2,e3];rfl
 rw[AL]
 have hr:=JH e1
 unfold fj.J5
 have R6:RdP bf h6 ⟨g1,0,none⟩ x:=M.rdp (.there (.there .here)) (bf.ext M.ext R0)
 refine R6.oL1 λb l c S=>M.alc λg27 h7 x7 M=>M.st1 .here (by decide) .here λh8 M=>?_
 have hl:x.Loop.ae.length=l:=S.len
 have M:Mem h h8 ((g27,22,⟨[.float .f32 (f32.nearest (l:Int))]⟩) :: _):=M
 have RN:RdP (rF .f32) h8 ⟨g27,0,none⟩ (f32.nearest (l:Int)):=M.rdp .here (fw (cK .f32 _))
 refine RN.oF1 λOB Mm=>fM hp Mm λVc Dm=>M.alc λg32 h9 x9 M=>M.st1 .here (by decide) .here λgv M=>?_
 have M:Mem h gv ((g32,22,⟨[.float .f32 Vc]⟩) :: (g27,22,⟨[.float .f32 (f32.nearest (l:Int))]⟩) :: _):=M
 have D:=Rn (r1:=0) (r2:=0) (r3:=0) (M.rdp (.there .here) (fw (cK .f32 (l:Int)))) (M.rdp .here (fw Dm)) (M.rdp (.there (.there (.there .here))) (fw hf))
 refine M.df (.there (.there (.there (.there .here)))) (rsz R0 rfl) (mN.go M (TR (bf.ext M.ext R0) hr D) λme c11 B11 M O11 s11=>gw ?_)
 have M:=M.cnt (W:=(g5,115,⟨aF⟩) :: B11)
 refine M.dH .here s11 (bf.jy O11) rfl .here λjl M=>M.df .here s11 ⟨_,B11,rfl,?_,M.drop⟩
 have:x.nH pl f={ x with Loop:=chg (lx (f32.nearest (l:Int)) (eG .f32 pl (f32.nearest (l:Int))) f) x.Loop x.Loop.ae.length }:=by unfold bK.nH;rw[hl]
 rw[this];exact O11
end
end Go.Sx
