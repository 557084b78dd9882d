/- Lemmas. -/
import Derived.Test.YthgnpepchedpbaaGreatDoorLk43
set_option linter.unusedVariables false
set_option linter.unusedSimpArgs false
namespace Go.Sx
open FloatKind (f32 f64)
open IntKind (i64)
open Go.Proofs Ieee
set_option maxRecDepth 100000
set_option maxHeartbeats 1000000
def ia(a:Nat):Int:=if flt .f32 a 1232348160 then((u4 a:Nat):Int) else 0
def ox(a:Nat):Int:=if fle .f32 a 1232348160 then((u4 a:Nat):Int) else 1000000
theorem Cz:f32.format.read 1232348160 = .number false 16000000 (-4):=by decide +kernel
theorem Rw{a c n:Nat}{j:Int}(hp:Pos a)(hc:f32.format.read c = .number false n j)(h:fle .f32 a c=true):∃m e,f32.format.read a = .number false m e:=by
 have hn:=Cv hp
 unfold fle at h
 cases e:f32.format.read a with
 | nan s t=>rw[gN e hc] at h;cases h
 | infinity s=>
  rw[e] at hn
  obtain rfl:s=false:=hn
  rw[gN e hc] at h;cases h
 | number s m i=>
  rw[e] at hn
  obtain rfl:s=false:=hn
  exact⟨m,i,rfl⟩
theorem Df{a:Nat}(hp:Pos a)(h:fle .f32 a 1232348160=true):∃m e,f32.format.read a = .number false m e∧u4 a=whole m e∧whole m e≤1000000:=by
 obtain⟨m,e,hr⟩:=Rw hp Cz h
 obtain⟨B,hB⟩:∃B:Nat,1100≤B:=⟨1100,Nat.le_refl _⟩
 have h1:=SS hB Cz hr (λh=>by cases h) h
 have h2:=fG a hr
 refine⟨m,e,hr,by unfold u4;rw[hr],?_⟩
 rw[CM (B:=B) (by omega)]
 refine Nat.div_le_of_le_mul ?_
 refine Nat.le_trans h1 ?_
 unfold sv
 rw[show(16000000:Nat)=1000000*2 ^ 4 by rfl,Nat.mul_assoc,← Nat.pow_add,show 4+((-4:Int)+(B:Int)).toNat=B by omega,Nat.mul_comm]
 exact Nat.le_refl _
theorem SD{k:FloatKind}{a b:Nat}(h:flt k a b=true):fle k a b=true:=by unfold flt at h;unfold fle;rw[h];rfl
theorem G4{a:Nat}(hp:Pos a):ox a=ia a∨(inR (ox a) 1 1024=false∧inR (ia a) 1 1024=false∧inR (ox a) 2 1024=false∧inR (ia a) 2 1024=false):=by
 unfold ox ia
 by_cases h1:flt .f32 a 1232348160=true
 ·rw[if_pos h1,if_pos (SD h1)];exact .inl rfl
 ·right
  rw[if_neg h1]
  have z:∀n:Int,1024<n->inR n 1 1024=false∧inR n 2 1024=false:=λn hn=>by
   unfold inR
   rw[decide_eq_false (p:=n≤1024) (by omega),Bool.and_false,Bool.and_false];exact⟨rfl,rfl⟩
  by_cases h2:fle .f32 a 1232348160=true
  ·rw[if_pos h2]
   obtain⟨m,e,hr,hf,hle⟩:=Df hp h2
   obtain⟨B,hB⟩:∃B:Nat,1100≤B:=⟨1100,Nat.le_refl _⟩
   have hge:fge .f32 a 1232348160=true:=by
    unfold fle at h2
    unfold flt at h1
    unfold fge
    rw[Bool.not_eq_true] at h1
    rw[h1,Bool.false_or] at h2
    rw[h2,Bool.or_true]
   rcases SF hB Cz hge with hi | ⟨s,m',e',VJ,hs,hl⟩
   ·rw[hr] at hi;cases hi
   ·rw[hr] at VJ
    obtain⟨rfl,rfl,rfl⟩:false=s∧m=m'∧e=e':=by simpa using VJ
    have h3:=fG a hr
    have:1000000≤whole m e:=by
     rw[CM (B:=B) (by omega)]
     refine(Nat.le_div_iff_mul_le (Nat.two_pow_pos _)).2 (Nat.le_trans ?_ hl)
     unfold sv
     rw[show(16000000:Nat)=1000000*2 ^ 4 by rfl,Nat.mul_assoc (1000000:Nat),← Nat.pow_add,show 4+((-4:Int)+(B:Int)).toNat=B by omega]
     exact Nat.le_refl _
    rw[hf]
    have:=z ((whole m e:Nat):Int) (by omega)
    exact⟨this.1,rfl,this.2,rfl⟩
  ·rw[if_neg h2]
   exact⟨rfl,rfl,rfl,rfl⟩
def mj(p:Int):Int:=if p / 8<1 then 1 else p / 8
def Jt(p:Int)(k l s:Nat):iU:={ bT:=⟨List.replicate (p-mj p).toNat 0,0⟩,aH:=⟨List.replicate (mj p).toNat 0,0⟩,fz:=py k,fX:=s,fT:=l }
def fp(p:Int)(k l s:Nat):iU×Int:=if inR p 2 1024 then if place k then if inside l 0 1065353216 then if fin s then(Jt p k l s,0) else(vl,2) else(vl,2) else(vl,2) else(vl,2)
theorem Jz:inside 1040187392 0 1065353216=true:=by decide +kernel
theorem c8:FW .f32 1040187392 1040187392:=eM (by decide) (by decide)
theorem Z4:f32.format.read 1040187392 = .number false (2 ^ 23) (-26):=by decide +kernel
theorem aeP{p:Nat}(h1:1≤p)(h2:p<2 ^ 24):f32.format.mul (f32.nearest (p:Int)) 1040187392=some (f32.format.nearest false p (-3))∧f32.format.mul 1040187392 (f32.nearest (p:Int))=some (f32.format.nearest false p (-3)) ∧
  ∃m e,f32.format.read (f32.format.nearest false p (-3)) = .number false m e∧whole m e=p / 8:=by
 have hl:p.log2≤23:=by
  have:=(Nat.log2_lt (n:=p) (by omega) (k:=24)).2 h2
  omega
 have rp:=DL false (m:=p) (p:=0) (by omega) h2 (by decide) (by decide)
 rw[← mI] at rp
 refine⟨?_,?_,_,_,DL false (m:=p) (p:=-3) (by omega) h2 (by decide) (by decide),?_⟩
 ·rw[zA (by rw[rp,Z4,mJ])]
  exact congrArg some (pT _ _ (23-p.log2+23) (by rw[Nat.pow_add,Nat.mul_assoc]) (by omega))
 ·rw[zA (by rw[rp,Z4,mJ])]
  exact congrArg some (pT _ _ (23-p.log2+23) (by rw[Nat.pow_add,Nat.mul_comm,Nat.mul_assoc]) (by omega))
 ·unfold whole
  rw[show((-3:Int)+(p.log2:Int)-23).toNat=0 by omega,Nat.shiftLeft_zero,show(-((-3:Int)+(p.log2:Int)-23)).toNat=3+(23-p.log2) by omega,Nat.pow_add,Nat.mul_comm p,Nat.mul_comm (2 ^ 3),Nat.mul_div_mul_left _ _ (Nat.two_pow_pos _)]
theorem FL{p:Int}(h:inR p 2 1024=true):2≤p∧p≤1024∧1≤mj p∧mj p≤p-1:=by
 simp only[inR,Bool.and_eq_true,decide_eq_true_eq] at h
 unfold mj
 refine⟨h.1,h.2,?_,?_⟩ <;> split <;> omega
theorem Wv{x:iU}{B1 B2:List Blk}{b1 b2:Option Addr}{l1 c1 l2 c2:Nat}{v:List Value}{y z:Nat}(O1:SlO 22 (rF .f32) B1 b1 l1 c1 x.bT.ae)(O2:SlO 22 (rF .f32) B2 b2 l2 c2 x.aH.ae)(hv:cx.ow [] v x.fz)(hy:FW .f32 y x.fX)(hz:FW .f32 z x.fT):
  jI.ow (B1++B2) ([.slice b1 l1 c1,.int .i64 x.bT.At]++([.slice b2 l2 c2,.int .i64 x.aH.At]++(v++[.float .f32 y,.float .f32 z]))) x:=
 ⟨B1,B2,[.slice b1 l1 c1,.int .i64 x.bT.At],_,rfl,rfl,wi O1,B2,[],[.slice b2 l2 c2,.int .i64 x.aH.At],_,by simp,rfl,wi O2,[],[],v,_,rfl,rfl,hv,[],[],[.float .f32 y],[.float .f32 z],rfl,rfl,⟨rfl,y,rfl,hy⟩,⟨rfl,z,rfl,hz⟩⟩
theorem ak0{ts:Array TypeId}{t:TypeId}{cs:Array Bool}{n m:Int}{K:Value->ab->Prop}{h:ab}(H:K (.int .i64 (if m > n then m else n)) h):jt ak (builtin .max ts t cs #[.int .i64 n,.int .i64 m]) K h:=
 vf λw hw=>⟨_,w,rfl,hZ.refl _,by rw[hw];exact H⟩
theorem ak1{ts:Array TypeId}{t:TypeId}{cs:Array Bool}{n m:Int}{K:Value->ab->Prop}{h:ab}(H:K (.int .i64 (if m<n then m else n)) h):jt ak (builtin .min ts t cs #[.int .i64 n,.int .i64 m]) K h:=
 vf λw hw=>⟨_,w,rfl,hZ.refl _,by rw[hw];exact H⟩
section
variable {h:ab}{x a:Nat}
theorem JE(hx:FW .f32 x a)(hp:Pos a):Ret ak 237 #[.float .f32 x] (.int .i64 (ia a)):=λh=>by
 refine rh.call ?_
 unfold rh.S
 rw[cw hx (show FW .f32 1232348160 1232348160 from cR)]
 refine brN (λe=>⟨by unfold ia flt;rw[e];rfl,Ext.refl _⟩) λe=>?_
 have qR:flt .f32 a 1232348160=true:=e
 obtain⟨m,e',hr,hf,hle⟩:=Df hp (SD qR)
 obtain⟨B,hB⟩:∃B:Nat,1100≤B:=⟨1100,Nat.le_refl _⟩
 obtain⟨_,_,hw,_⟩:=rO hB hr
 have Xw:wid a=wide a:=kJ hw
 have hnw:nan .f64 (wide a)=false:=by unfold Sx.nan;rw[hw];rfl
 refine cg hx λr1 h1=>?_
 rw[Xw] at h1
 have e1:=h1.eq hnw
 subst e1
 refine goX (zh hnw h) λh2 x2=>cW ?_
 refine Nc (z:=((whole m e':Nat):Int)) (by rw[C4 hr,DX false (by omega),eP,Nat.pow_zero,Nat.mul_one]) (by omega) (by omega) ⟨?_,x2⟩
 unfold ia
 rw[qR,if_pos rfl,hf]
theorem Gp(hx:FW .f32 x a)(hp:Pos a):Ret ak 184 #[.float .f32 x] (.int .i64 (ox a)):=λh=>by
 refine pD.call ?_
 unfold pD.S
 rw[cw hx (show FW .f32 1232348160 1232348160 from cR)]
 refine brN (λe=>⟨by unfold ox fle;rw[e];rfl,Ext.refl _⟩) λe=>?_
 have hle:fle .f32 a 1232348160=true:=e
 obtain⟨m,e',hr,hf,avU⟩:=Df hp hle
 have VI:nan .f32 a=false:=by unfold Sx.nan;rw[hr];rfl
 have hxa:=hx.eq VI
 subst hxa
 refine Nc (Fm hr) (by omega) (by omega) ⟨?_,Ext.refl _⟩
 unfold ox
 rw[hle,if_pos rfl,hf]
end
set_option maxHeartbeats 2000000
section
variable {h:ab}{x a:Nat}
theorem tV{p:Int}{k l s:Nat}{n:Int}{g:Nat}{hh:ab}{L:List Blk}(M:Mem h hh ((g,120,⟨dg⟩) :: L))(e:fp p k l s=(vl,n)):
  STA 12 hh ⟨g,0,none⟩ ⟨dg⟩ λh8=>LDA 12 h8 ⟨g,0,none⟩ λa9=>fk jI h h8 (.tuple ⟨[.agg a9,.int .i64 n]⟩) (fp p k l s).1 (fp p k l s).2:=by
 rw[e]
 exact M.dH .here rfl (dI rfl) rfl .here λh3 M=>M.df .here rfl ⟨_,[],rfl,Tz,(Mem.start h).grow M.ext⟩
theorem qx{n:Nat}{F:Nat->ab->Prop}{h0 hh:ab}{L:List Blk}(M:Mem h0 hh L)(hn:n≤1024)(H:∀g h' B,Ext hh h'->Mem h0 h' (B++L)->SlO 22 (rF .f32) B (some ⟨g,0,none⟩) n n (List.replicate n 0)->F g h'):MKS eC 22 (n:Int) (n:Int) F hh:=
 vW (r:=rF .f32) (z:=0) (zc:=[.float .f32 0]) ⟨rfl,0,rfl,fw0⟩ rfl rfl (by decide) M (by show 4*n≤2 ^ 48;omega) (Nat.le_trans hn (by decide)) λg h' x M O=>H g h' _ x M O
theorem MK{p:Int}(h:inR p 2 1024=true):∃N:Nat,(N:Int)=p / 8∧N≤128∧f32.format.mul (f32.nearest p) 1040187392=f32.format.mul 1040187392 (f32.nearest p) ∧
  ∀{r:Nat},IsF .f32 (f32.format.mul 1040187392 (f32.nearest p)) r->∀{r2:Nat},I3 .f32 r .f64 r2->nan .f64 r2=false∧(f64.decode (flr r2)).toInt .zero=some (N:Int):=by
 obtain⟨p1,p2,_,_⟩:=FL h
 obtain⟨P,rfl⟩:∃P:Nat,p=(P:Int):=⟨p.toNat,by omega⟩
 obtain⟨e1,e2,m,e,hr,hw⟩:=aeP (p:=P) (by omega) (by omega)
 refine⟨P / 8,by omega,by omega,by rw[e1,e2],?_⟩
 intro r hr1 r2 Mq
 rw[e2] at hr1
 have hre:r=f32.format.nearest false P (-3):=hr1
 subst hre
 obtain⟨B,hB⟩:∃B:Nat,1100≤B:=⟨1100,Nat.le_refl _⟩
 obtain⟨_,_,hwd,_⟩:=rO hB hr
 have Xw:wid (f32.format.nearest false P (-3))=wide (f32.format.nearest false P (-3)):=kJ hwd
 have hnw:nan .f64 (wide (f32.format.nearest false P (-3)))=false:=by unfold Sx.nan;rw[hwd];rfl
 have h2:r2=wide (f32.format.nearest false P (-3)):=by
  have:FW .f64 r2 (wid (f32.format.nearest false P (-3))):=cg (F:=λr=>FW .f64 r (wid (f32.format.nearest false P (-3)))) (T0 hr) (λ_ h=>h) r2 Mq
  rw[Xw] at this
  exact this.eq hnw
 subst h2
 refine⟨hnw,?_⟩
 rw[C4 hr,hw,DX false (by omega),eP,Nat.pow_zero,Nat.mul_one]
theorem XF(a b:Int):Ret ak 257 #[.int .i64 a,.int .i64 b] (.int .i64 (if a<b then a else b)):=λh=>
 yY.call (brd (λk=>⟨by rw[if_pos k],Ext.refl _⟩) λk=>⟨by rw[if_neg k],Ext.refl _⟩)
theorem XE(a b:Int):Ret ak 256 #[.int .i64 a,.int .i64 b] (.int .i64 (if b<a then a else b)):=λh=>
 yX.call (brd (λk=>⟨by rw[if_pos k],Ext.refl _⟩) λk=>⟨by rw[if_neg k],Ext.refl _⟩)
theorem J8{p:Int}{k l s k' l' s':Nat}(hk:FW .f32 k k')(hl:FW .f32 l l')(hs:FW .f32 s s'):af ak 185 #[.int .i64 p,.float .f32 1040187392,.float .f32 k,.float .f32 l,.float .f32 s] (λu h'=>fk jI h h' u (fp p k' l' s').1 (fp p k' l' s').2) h:=by
 refine iR.call ((Mem.start h).alc λg1 h1 x1 M=>goM M (kQ _ _ _ _) λh2 M=>bt (brN (λe=>tV M (by rw[fp,e];rfl)) λe1=>?_))
 have i8:=Jz
 unfold inside fge fle at i8
 rw[Bool.and_eq_true] at i8
 rw[i8.1,i8.2,cw hk fw0,cw hk c1,cw hl fw0,cw hl c1]
 refine vu rfl (cM rfl ?_)
 refine br (λk1=>brN (λk2=>tV M (by rw[fp,e1,place,fge,flt,k1,k2];rfl)) λk2=>?_) λk1=>tV M (by rw[fp,e1,place,fge,k1];rfl)
 have e2:place k'=true:=by rw[place,fge,flt,k1,k2];rfl
 refine br (λk3=>brN (λk4=>tV M (by rw[fp,e1,e2,inside,fge,fle,k3,k4];rfl)) λk4=>?_) λk3=>tV M (by rw[fp,e1,e2,inside,fge,k3];rfl)
 have e3:inside l' 0 1065353216=true:=by rw[inside,fge,fle,k3,k4];rfl
 refine goM M (jm hs _) λh3 M=>bt (brN (λe=>tV M (by rw[fp,e1,e2,e3,e];rfl)) λe4=>?_)
 have AL:fp p k' l' s'=(Jt p k' l' s',0):=by rw[fp,e1,e2,e3,e4];rfl
 rw[AL]
 obtain⟨p1,p2,b1,b2⟩:=FL e1
 obtain⟨N,hN,hN2,adm,Xx⟩:=MK e1
 unfold iR.J3
 intro Mv pw Vb vD
 obtain⟨UT,i26⟩:=Xx pw vD
 refine goM M (zh UT _) λh4 M=>cW (Nc i26 (by omega) (by omega) ?_)
 rw[wrap64 (n:=p-1) (by omega) (by omega)]
 have fin:∀{hh:ab}{B1 B2:List Blk}{g1' g2':Addr}{n1 n2:Nat}{vd:List Value},n1=(p-mj p).toNat->n2=(mj p).toNat->Mem h hh ((g1,120,⟨dg⟩) :: (B1++B2))->SlO 22 (rF .f32) B1 (some g1') n1 n1 (List.replicate n1 0)->SlO 22 (rF .f32) B2 (some g2') n2 n2 (List.replicate n2 0)->cx.ow [] vd (py k') ->
   STA 12 hh ⟨g1,0,none⟩ ⟨[.slice (some g1') n1 n1,.int .i64 (0:Int)]++([.slice (some g2') n2 n2,.int .i64 (0:Int)]++(vd++[.float .f32 s,.float .f32 l]))⟩ λxl=>LDA 12 xl ⟨g1,0,none⟩ λTL=>fk jI h xl (.tuple ⟨[.agg TL,.int .i64 (0:Int)]⟩) (Jt p k' l' s') 0:=λen1 en2 M O1 O2 hv=>by
  subst en1 en2
  have O:=Wv (x:=Jt p k' l' s') O1 O2 hv hs hl
  exact M.dH .here (jI.jX O) (jI.jy O) rfl .here λxl M=>M.df .here (jI.jX O) ⟨_,_,rfl,O,M.drop⟩
 refine goM M (XF _ _ _) λh5 M=>cN (goM M (XE _ _ _) λh6 M=>cN ?_)
 have hm:(if(if p-1<(N:Int) then p-1 else(N:Int))<1 then 1 else(if p-1<(N:Int) then p-1 else(N:Int)))=mj p:=by
  unfold mj
  rw[hN]
  repeat' split
  all_goals omega
 rw[hm,wrap64 (n:=p-mj p) (by omega) (by omega)]
 obtain⟨nb,hnb⟩:∃nb:Nat,(nb:Int)=mj p:=⟨(mj p).toNat,by omega⟩
 obtain⟨na,VI⟩:∃na:Nat,(na:Int)=p-mj p:=⟨(p-mj p).toNat,by omega⟩
 rw[← VI,← hnb]
 have f1:na=(p-mj p).toNat:=by omega
 have f2:nb=(mj p).toNat:=by omega
 have C:∀{hh:ab},af ak 254 #[.float .f32 k] (λu h'=>FlR u (py k')∧Ext hh h') hh:=yV hk
 refine⟨?_,?_,?_⟩
 ·refine qx M (by omega) λg7 h7 B7 x7 M O7=>⟨?_,?_⟩
  ·refine qx M (by omega) λg8 h8 B8 x8 M O8=>C.mono ?_
   rintro _ h9 ⟨⟨kk,yy,zz,rfl,O9⟩,x9⟩
   exact gw (siz rfl (siz rfl (siz rfl (fin f1 f2 ((M.grow x9).cnt (λp=>by simp only[bN,bu,bZ] at *;omega)) O7 O8 O9))))
  ·refine C.mono ?_
   rintro _ h9 ⟨⟨kk,yy,zz,rfl,O9⟩,x9⟩
   refine gw (qx (M.grow x9) (by omega) λg8 h8 B8 x8 M O8=>?_)
   exact siz rfl (siz rfl (siz rfl (fin f1 f2 (M.cnt (λp=>by simp only[bN,bu,bZ] at *;omega)) O7 O8 O9)))
 ·refine qx M (by omega) λg8 h8 B8 x8 M O8=>⟨?_,?_⟩
  ·refine qx M (by omega) λg7 h7 B7 x7 M O7=>C.mono ?_
   rintro _ h9 ⟨⟨kk,yy,zz,rfl,O9⟩,x9⟩
   exact gw (siz rfl (siz rfl (siz rfl (fin f1 f2 ((M.grow x9).cnt (λp=>by simp only[bN,bu,bZ] at *;omega)) O7 O8 O9))))
  ·refine C.mono ?_
   rintro _ h9 ⟨⟨kk,yy,zz,rfl,O9⟩,x9⟩
   refine gw (qx (M.grow x9) (by omega) λg7 h7 B7 x7 M O7=>?_)
   exact siz rfl (siz rfl (siz rfl (fin f1 f2 (M.cnt (λp=>by simp only[bN,bu,bZ] at *;omega)) O7 O8 O9)))
 ·refine C.mono ?_
  rintro _ h9 ⟨⟨kk,yy,zz,rfl,O9⟩,x9⟩
  have M:=M.grow x9
  refine gw ⟨?_,?_⟩
  ·refine qx M (by omega) λg7 h7 B7 x7 M O7=>qx M (by omega) λg8 h8 B8 x8 M O8=>?_
   exact siz rfl (siz rfl (siz rfl (fin f1 f2 (M.cnt (λp=>by simp only[bN,bu,bZ] at *;omega)) O7 O8 O9)))
  ·refine qx M (by omega) λg8 h8 B8 x8 M O8=>qx M (by omega) λg7 h7 B7 x7 M O7=>?_
   exact siz rfl (siz rfl (siz rfl (fin f1 f2 (M.cnt (λp=>by simp only[bN,bu,bZ] at *;omega)) O7 O8 O9)))
theorem Cn{n:Nat}{h0 hh:ab}{L:List Blk}{K:Value->ab->Prop}(M:Mem h0 hh L)(h1:1≤n)(h2:n≤1024)(H:∀h' B b l c,Ext hh h'->Mem h0 h' (B++L)->SlO 22 (rF .f32) B b l c (List.replicate n 0)->K (.tuple ⟨[.agg ⟨[.slice b l c,.int .i64 (0:Int)]⟩,.int .i64 (0:Int)]⟩) h'):af ak 281 #[.int .i64 (n:Int)] K hh:=by
 refine(Jp _ _).mono ?_
 rintro _ h' ⟨cR,BR,rfl,OR,N⟩
 have zq:inR (n:Int) 1 1024=true:=by rw[inR,decide_eq_true (by omega),decide_eq_true (by omega)];rfl
 rw[zq] at OR ⊢
 obtain⟨b,l',c',rfl,OS⟩:=wh OR
 exact H h' BR b l' c' N.ext (M.join N) OS
theorem W2{p:Int}{k l s k' l' s':Nat}(hk:FW .f32 k k')(hl:FW .f32 l l')(hs:FW .f32 s s'):af ak 238 #[.int .i64 p,.float .f32 1040187392,.float .f32 k,.float .f32 l,.float .f32 s] (λu h'=>fk jI h h' u (fp p k' l' s').1 (fp p k' l' s').2) h:=by
 refine iQ.call ((Mem.start h).alc λg1 h1 x1 M=>goM M (js _ _ _ _) λh2 M=>bt (brN (λe=>tV M (by rw[fp,e];rfl)) λe1=>?_))
 refine goM M (jO c8 fw0 c1 _) λh3 M=>bt (brN (λe=>by rw[Jz] at e;cases e) λ_=>?_)
 refine goM M (Cb hk _) λh4 M=>bt (brN (λe=>tV M (by rw[fp,e1,e];rfl)) λe2=>?_)
 refine goM M (jO hl fw0 c1 _) λh5 M=>bt (brN (λe=>tV M (by rw[fp,e1,e2,e];rfl)) λe3=>?_)
 refine goM M (mw hs _) λh6 M=>bt (brN (λe=>tV M (by rw[fp,e1,e2,e3,e];rfl)) λe4=>?_)
 have AL:fp p k' l' s'=(Jt p k' l' s',0):=by rw[fp,e1,e2,e3,e4];rfl
 rw[AL]
 obtain⟨p1,p2,b1,b2⟩:=FL e1
 obtain⟨N,hN,hN2,adm,Xx⟩:=MK e1
 unfold iQ.J3
 rw[adm]
 intro Mv pw Vb vD
 obtain⟨UT,i26⟩:=Xx pw vD
 refine goM M (zh UT _) λh7 M=>cW (Nc i26 (by omega) (by omega) (ak0 (cN (ak1 (cN ?_)))))
 have hm:(if i64.wrap (p-1)<(if(1:Int) > (N:Int) then 1 else(N:Int)) then i64.wrap (p-1) else(if(1:Int) > (N:Int) then 1 else(N:Int)))=mj p:=by
  rw[wrap64 (n:=p-1) (by omega) (by omega)]
  unfold mj
  rw[hN]
  repeat' split
  all_goals omega
 rw[hm,wrap64 (n:=p-mj p) (by omega) (by omega)]
 obtain⟨nb,hnb⟩:∃nb:Nat,(nb:Int)=mj p:=⟨(mj p).toNat,by omega⟩
 obtain⟨na,VI⟩:∃na:Nat,(na:Int)=p-mj p:=⟨(p-mj p).toNat,by omega⟩
 rw[← VI,← hnb]
 refine Cn M (by omega) (by omega) λh8 B8 q8 l8 c8' x8 M O8=>jJ (gw (cN (M.alc λg46 h9 x9 M=>M.dH .here rfl (dI rfl) rfl .here λgv M=>?_)))
 refine Cn M (by omega) (by omega) λme B11 zX l11 c11 x11 M O11=>jJ (gw (cN (M.alc λSE jl x12 M=>M.dH .here rfl (dI rfl) rfl .here λhP M=>?_)))
 have M:=M.cnt (W:=(SE,109,⟨[.slice zX l11 c11,.int .i64 (0:Int)]⟩) :: (g46,109,⟨[.slice q8 l8 c8',.int .i64 (0:Int)]⟩) :: (g1,120,⟨dg⟩) :: (B8++B11))
 refine M.df (.there .here) rfl (M.df .here rfl ((Jq hk).mono ?_))
 rintro _ j0 ⟨⟨kk,yy,zz,rfl,O9⟩,x14⟩
 have P:RdP bQ hP ⟨SE,0,none⟩ ⟨List.replicate nb 0,0⟩:=M.rdp .here (bQ.look (wi (r:=⟨List.replicate nb 0,0⟩) O11) (M.cnt (W:=B11)) (List.Sublist.refl _))
 have Q:RdP bQ hP ⟨g46,0,none⟩ ⟨List.replicate na 0,0⟩:=M.rdp (.there .here) (bQ.look (wi (r:=⟨List.replicate na 0,0⟩) O8) (M.cnt (W:=B8)) (List.Sublist.refl _))
 refine gw (P.pin rfl x14 (Q.pin rfl x14 (siz rfl (siz rfl (siz rfl ?_)))))
 have f1:na=(p-mj p).toNat:=by omega
 have f2:nb=(mj p).toNat:=by omega
 subst f1 f2
 have O:=Wv (x:=Jt p k' l' s') O8 O11 O9 hs hl
 have M:=(M.grow x14).cnt (W:=(g1,120,⟨dg⟩) :: (B8++B11))
 exact M.dH .here (jI.jX O) (jI.jy O) rfl .here λxl M=>M.df .here (jI.jX O) ⟨_,_,rfl,O,M.drop⟩
end
end Go.Sx
