/- Lemmas. -/
import Derived.Test.YthgnpepchedpbaaGreatDoorLm7
import Derived.Test.YthgnpepchedpbaaGreatDoorTabE
set_option linter.unusedVariables false
set_option linter.unusedSimpArgs false
namespace Go.Sx
open FloatKind (f32 f64)
open IntKind (i64)
open Ieee
def flr(w:Nat):Nat:=f64.encode ((f64.decode w).integral .down)
theorem CG{B M:Nat}{E:Int}(h:-(B:Int)≤E):M*2 ^ (E+(B:Int)).toNat=(M <<< E.toNat)*2 ^ (B-(-E).toNat):=by
 rw[Nat.shiftLeft_eq,Nat.mul_assoc,← Nat.pow_add]
 congr 2
 omega
theorem Kf{B d:Nat}(h:d≤B):2 ^ B=2 ^ d*2 ^ (B-d):=by rw[← Nat.pow_add];congr 1;omega
theorem ru{B M:Nat}{E:Int}(h:-(B:Int)≤E):(M <<< E.toNat) / 2 ^ (-E).toNat=M*2 ^ (E+(B:Int)).toNat / 2 ^ B:=by
 rw[CG h,Kf (B:=B) (d:=(-E).toNat) (by omega),Nat.mul_div_mul_right _ _ (Nat.two_pow_pos _)]
theorem rO{B a m:Nat}{s:Bool}{e:Int}(hB:1100≤B)(hr:f32.format.read a = .number s m e):∃(M:Nat) (E:Int),f64.format.read (wide a) = .number s M E∧-1074≤E∧E≤200∧M*2 ^ (E+(B:Int)).toNat=m*2 ^ (e+(B:Int)).toNat:=by
 obtain⟨h1,h2,h3⟩:=fG a hr
 have hw:wide a=f64.format.nearest s m e:=by
  unfold wide FloatKind.decode
  rw[hr,og]
 by_cases h0:m=0
 ·subst h0
  exact⟨0,-1074,by rw[hw,fv,Mk],by omega,by omega,by rw[Nat.zero_mul,Nat.zero_mul]⟩
 ·have hl:m.log2≤23:=by
   have:=(Nat.log2_lt h0 (k:=24)).2 h1
   omega
  refine⟨_,_,by rw[hw];exact H4 s h0 h1 h2 (by omega),by omega,by omega,?_⟩
  rw[Nat.mul_assoc,← Nat.pow_add]
  congr 2
  omega
theorem sV{B:Nat}(hB:1100≤B)(s:Bool){N:Nat}(h:N<2 ^ 24):∃(M:Nat) (E:Int),f64.format.read (f64.format.nearest s N 0) = .number s M E∧-1074≤E∧E≤0∧M*2 ^ (E+(B:Int)).toNat=N*2 ^ B:=by
 by_cases h0:N=0
 ·subst h0
  exact⟨0,-1074,by rw[fv,Mk],by omega,by omega,by rw[Nat.zero_mul,Nat.zero_mul]⟩
 ·have hl:N.log2≤23:=by
   have:=(Nat.log2_lt h0 (k:=24)).2 h
   omega
  refine⟨_,_,H4 s h0 h (by omega) (by omega),by omega,by omega,?_⟩
  rw[Nat.mul_assoc,← Nat.pow_add]
  congr 2
  omega
theorem DX(s:Bool){N:Nat}(h:N<2 ^ 24):(f64.decode (f64.format.nearest s N 0)).toInt .zero=some (signed s N 0):=by
 obtain⟨B,hB⟩:∃B:Nat,1100≤B:=⟨1100,Nat.le_refl _⟩
 obtain⟨M,E,hr,h1,h2,h3⟩:=sV hB s h
 unfold FloatKind.decode
 rw[hr,CS,E5,ru (B:=B) (by omega),h3,Nat.mul_div_cancel _ (Nat.two_pow_pos _)]
theorem aby{k:FloatKind}{b:Nat}{n z:Int}(hz:(k.decode b).toInt .zero=some z)(h1:-9223372036854775808≤z)(h2:z≤9223372036854775807)(h:TB k b .i64 n):n=z:=by
 unfold TB at h
 rw[hz] at h
 have e1:IntKind.min .i64 = -9223372036854775808:=by decide
 have e2:IntKind.max .i64=9223372036854775807:=by decide
 dsimp only at h
 rw[e1,e2,if_pos ⟨h1,h2⟩] at h
 exact h
theorem Nc{k:FloatKind}{b:Nat}{z:Int}{F:Int->Prop}(hz:(k.decode b).toInt .zero=some z)(h1:-9223372036854775808≤z)(h2:z≤9223372036854775807)(H:F z):FIC k b .i64 F:=λn h=>by
 rw[aby hz h1 h2 h];exact H
def whole(m:Nat)(e:Int):Nat:=(m <<< e.toNat) / 2 ^ (-e).toNat
theorem C4{a m:Nat}{e:Int}(hr:f32.format.read a = .number false m e):flr (wide a)=f64.format.nearest false (whole m e) 0:=by
 obtain⟨B,hB⟩:∃B:Nat,1100≤B:=⟨1100,Nat.le_refl _⟩
 obtain⟨M,E,h1,h2,h3,h4⟩:=rO hB hr
 obtain⟨_,he,_⟩:=fG a hr
 unfold flr FloatKind.decode
 rw[h1]
 show f64.encode (Datum.number false (Toward.down.cut false (M <<< E.toNat) (-E).toNat) 0)=_
 unfold whole
 rw[og,FQ,ru (B:=B) (by omega),h4,ru (B:=B) (M:=m) (by omega)]
theorem Fm{a m:Nat}{e:Int}(hr:f32.format.read a = .number false m e):(f32.decode a).toInt .zero=some ((whole m e:Nat):Int):=by
 obtain⟨h1,h2,h3⟩:=fG a hr
 unfold FloatKind.decode
 rw[hr,CS,E5,eP,Nat.pow_zero,Nat.mul_one]
 rfl
theorem mI(k:FloatKind)(n:Nat):k.nearest (n:Int)=k.format.nearest false n 0:=by
 unfold FloatKind.nearest
 rw[og,Int.natAbs_natCast,decide_eq_false (by omega)]
theorem UW{N:Nat}(h:N<2 ^ 24):fits (f64.format.nearest false N 0)=true∧nar (f64.format.nearest false N 0)=f32.format.nearest false N 0:=by
 obtain⟨B,hB⟩:∃B:Nat,1100≤B:=⟨1100,Nat.le_refl _⟩
 obtain⟨M,E,hr,h1,h2,h3⟩:=sV hB false h
 have key:f32.encode (Datum.number false M E)=f32.format.nearest false N 0:=by
  rw[og]
  by_cases h0:N=0
  ·subst h0
   have:M=0:=by
    rw[Nat.zero_mul] at h3
    exact(Nat.mul_eq_zero.1 h3).resolve_right (Nat.ne_of_gt (Nat.two_pow_pos _))
   subst this
   rw[fv,fv]
  ·have hM:M=N*2 ^ (-E).toNat:=by
    have:(2:Nat) ^ B=2 ^ (-E).toNat*2 ^ (E+(B:Int)).toNat:=by rw[← Nat.pow_add];congr 1;omega
    rw[this,← Nat.mul_assoc] at h3
    exact Nat.eq_of_mul_eq_mul_right (Nat.two_pow_pos _) h3
   exact pT _ _ (-E).toNat hM (by omega)
 have CY:nan .f64 (f64.format.nearest false N 0)=false:=by
  unfold Sx.nan;rw[hr];rfl
 have Np:(f32.decode (f32.format.nearest false N 0)).isInfinity=false:=by
  unfold FloatKind.decode
  by_cases h0:N=0
  ·subst h0;rw[fv,HK];rfl
  ·rw[DL false h0 h (by decide) (by decide)];rfl
 have aoY:nan .f32 (f32.format.nearest false N 0)=false:=by
  unfold Sx.nan
  by_cases h0:N=0
  ·subst h0;rw[fv,HK];rfl
  ·rw[DL false h0 h (by decide) (by decide)];rfl
 refine⟨?_,?_⟩
 ·unfold fits FloatKind.decode
  rw[hr]
  dsimp only
  rw[key]
  unfold FloatKind.decode at Np
  rw[Np];rfl
 ·unfold nar
  rw[CY]
  have:f64.decode (f64.format.nearest false N 0) = .number false M E:=hr
  rw[this,key]
  rw[if_neg (by decide)]
  unfold cn
  rw[aoY,if_neg (by decide)]
theorem Q6{B a m:Nat}{s:Bool}{e:Int}(hB:1100≤B)(hr:f32.format.read a = .number s m e)(hb:m*2 ^ (e+(B:Int)).toNat≤120*2 ^ B):
  ∃N:Nat,N≤120∧flr (wide a)=f64.format.nearest s N 0∧∃d,f64.format.sub (wide a) (flr (wide a))=some d∧Up .f64 d 0:=by
 obtain⟨M,E,h1,h2,h3,h4⟩:=rO hB hr
 rw[← h4] at hb
 have hn:∃N:Nat,N=Toward.down.cut s (M <<< E.toNat) (-E).toNat:=⟨_,rfl⟩
 obtain⟨N,hN⟩:=hn
 have hs:=CG (B:=B) (M:=M) (E:=E) (by omega)
 have hd:(-E).toNat≤B:=by omega
 have hp:=Kf hd
 have ajc:N≤120:=by
  rw[hN]
  refine Q1 _ _ ?_
  rw[hs,hp,← Nat.mul_assoc] at hb
  exact Nat.le_of_mul_le_mul_right hb (Nat.two_pow_pos _)
 have hf:flr (wide a)=f64.format.nearest s N 0:=by
  unfold flr FloatKind.decode
  rw[h1,hN]
  rfl
 refine⟨N,ajc,hf,?_⟩
 obtain⟨N',P,g1,g2,g3,g4⟩:=sV hB s (N:=N) (by omega)
 rw[hf]
 -- the distance of the two
 have Ef:if s then M*2 ^ (E+(B:Int)).toNat≤N*2 ^ B∧N*2 ^ B≤M*2 ^ (E+(B:Int)).toNat+2 ^ B else N*2 ^ B≤M*2 ^ (E+(B:Int)).toNat∧M*2 ^ (E+(B:Int)).toNat≤N*2 ^ B+2 ^ B:=by
  have hg:=Nat.two_pow_pos (B-(-E).toNat)
  rw[hs,hp,← Nat.mul_assoc]
  generalize 2 ^ (B-(-E).toNat)=g at *
  generalize (M <<< E.toNat)=n at *
  rw[← Nat.add_mul,← Nat.add_mul]
  cases s
  ·rw[FQ] at hN
   have k1:=Nat.div_add_mod n (2 ^ (-E).toNat)
   have k2:=Nat.mod_lt n (Nat.two_pow_pos (-E).toNat)
   rw[← hN,Nat.mul_comm] at k1
   simp only[Bool.false_eq_true,if_false]
   exact⟨Nat.mul_le_mul_right _ (by omega),Nat.mul_le_mul_right _ (by omega)⟩
  ·obtain⟨k1,k2⟩:=PZ n (-E).toNat
   rw[← hN] at k1 k2
   simp only[if_true]
   exact⟨Nat.mul_le_mul_right _ k1,Nat.mul_le_mul_right _ k2⟩
 have sC:∃b:Int,b=min E P:=⟨_,rfl⟩
 obtain⟨b,sC⟩:=sC
 have w1:M*2 ^ (E+(B:Int)).toNat=M*2 ^ (E-b).toNat*2 ^ (b+(B:Int)).toNat:=by
  rw[Nat.mul_assoc,← Nat.pow_add];congr 2;omega
 have w2:N*2 ^ B=N'*2 ^ (P-b).toNat*2 ^ (b+(B:Int)).toNat:=by
  rw[← g4,Nat.mul_assoc,← Nat.pow_add];congr 2;omega
 have w3:(2:Nat) ^ B=2 ^ (-b).toNat*2 ^ (b+(B:Int)).toNat:=by rw[← Nat.pow_add];congr 1;omega
 have hT:∃T:Nat,T≤2 ^ (-b).toNat∧signed s M (E-b).toNat+signed (!s) N' (P-b).toNat=(T:Int):=by
  rw[w1,w2,w3] at Ef
  have hg:=Nat.two_pow_pos (b+(B:Int)).toNat
  generalize 2 ^ (b+(B:Int)).toNat=g at *
  rw[← Nat.add_mul,← Nat.add_mul] at Ef
  have c:∀{x y:Nat},x*g≤y*g->x≤y:=λh=>Nat.le_of_mul_le_mul_right h hg
  cases s
  ·simp only[Bool.false_eq_true,if_false] at Ef
   have c1:=c Ef.1
   have c2:=c Ef.2
   refine⟨M*2 ^ (E-b).toNat-N'*2 ^ (P-b).toNat,by omega,?_⟩
   show signed false _ _+signed true _ _=_
   rw[eP,jS];omega
  ·simp only[if_true] at Ef
   have c1:=c Ef.1
   have c2:=c Ef.2
   refine⟨N'*2 ^ (P-b).toNat-M*2 ^ (E-b).toNat,by omega,?_⟩
   show signed true _ _+signed false _ _=_
   rw[eP,jS];omega
 obtain⟨T,hT1,hT2⟩:=hT
 have rf:(Datum.number s M E).sum (Datum.number s N' P).opposite=some (.number false T b):=by
  show(Datum.number s M E).sum (.number (!s) N' P)=_
  show some (Datum.number _ _ _)=_
  rw[← sC,hT2]
  by_cases h0:T=0
  ·subst h0
   cases s <;> rfl
  ·rw[if_neg (by omega),Int.natAbs_natCast,decide_eq_false (by omega)]
 have IE:f64.format.sub (wide a) (f64.format.nearest s N 0)=some (f64.format.nearest false T b):=by
  unfold Format.sub
  rw[h1,g1,rf];rfl
 exact⟨_,IE,Mi (.inr ⟨by omega,by rw[show(0-b:Int).toNat=(-b).toNat by omega];exact hT1⟩) (by decide) (by decide)⟩
def bC.zl(t:bC)(key:Int):Nat:=jW .f32 (eG .f32 t.iV (f32.nearest (key / t.bG.length))) t.bG[(key % t.bG.length).toNat]!
def Pg(y:Nat)(s:Nat)(ms:List Nat):Nat:=ms.foldl (λs (m:Nat)=>jW .f64 4607182418800017408 (eG .f64 (fdiv .f64 y (f64.nearest ((m:Nat):Int))) s)) s
def Yx:List Nat:=[14,13,12,11,10,9,8,7,6,5,4,3,2,1]
def Sf(x:Nat):Nat:=eG .f64 (hH .f64 (wid x) (flr (wid x))) 4604418534313441775
def Bv(x:Nat):Int:=((f64.decode (flr (wid x))).toInt .zero).getD 0
def HD(x:Nat):Nat:=Pg (Sf x) 4607182418800017408 Yx
def kC(x:Nat):Bool:=inside x 3270508544 1123024896
def HE(x:Nat):Nat:=nar (eG .f64 (HD x) (ur (Bv x)))
theorem Tr{w:Nat}{j:Int}(h:Up .f64 w j):cn .f64 w=w:=by
 obtain⟨m,p,hr,_⟩:=h
 have:Sx.nan .f64 w=false:=by unfold Sx.nan;rw[hr];rfl
 unfold cn;rw[this,if_neg (by decide)]
theorem CU{a b:Nat}{i j:Int}(ha:Up .f64 a i)(hb:Up .f64 b j)(h1:-1000≤i+j)(h2:i+j≤900):Up .f64 (eG .f64 a b) (i+j):=by
 obtain⟨r,e,hr⟩:=up_mul ha hb h1 h2
 unfold eG;rw[e,Option.getD_some,Tr hr];exact hr
theorem Ts{a m:Nat}{i k:Int}(ha:Up .f64 a i)(hm:m<2 ^ 24)(hk:0≤k)(hn:2 ^ k.toNat≤m)(h1:-1000≤i-k)(h2:i-k≤900):Up .f64 (fdiv .f64 a (f64.nearest (m:Int))) (i-k):=by
 have h0:m≠0:=Nat.ne_of_gt (Nat.lt_of_lt_of_le (Nat.two_pow_pos _) hn)
 have hl:m.log2≤23:=by
  have:=(Nat.log2_lt h0 (k:=24)).2 hm
  omega
 have hc:=H4 false h0 hm (p:=0) (by decide) (by decide)
 rw[← mI] at hc
 obtain⟨r,e,hr⟩:=up_div (k:=k) ha hc (by omega) (by
  rw[show(k-(0+(m.log2:Int)-52)).toNat=k.toNat+(52-m.log2) by omega,Nat.pow_add]
  exact Nat.mul_le_mul_right _ hn) h1 h2
 unfold fdiv;rw[e,Option.getD_some,Tr hr];exact hr
theorem ML{v:Nat}{j:Int}(hv:Up .f64 v j)(h1:0≤j)(h2:j≤900):Btw (jW .f64 4607182418800017408 v) 0 (j+1):=by
 obtain⟨r,e,hr⟩:=one_add hv h1 h2
 unfold jW;rw[e,Option.getD_some,Tr hr.up];exact hr
theorem Zt{y s m:Nat}(hy:Up .f64 y 0)(hs:Up .f64 s 1)(hm:2≤m)(Fi:m<2 ^ 24):Btw (jW .f64 4607182418800017408 (eG .f64 (fdiv .f64 y (f64.nearest (m:Int))) s)) 0 1:=by
 have h1:=Ts (k:=1) hy Fi (by decide) (by show 2≤m;exact hm) (by decide) (by decide)
 have h2:=CU h1 hs (by decide) (by decide)
 exact ML (j:=0) h2 (by decide) (by decide)
theorem Zs{y s:Nat}(hy:Up .f64 y 0)(hs:Up .f64 s 1):Btw (jW .f64 4607182418800017408 (eG .f64 (fdiv .f64 y (f64.nearest ((1:Nat):Int))) s)) 0 2:=by
 have h1:=Ts (k:=0) (m:=1) hy (by decide) (by decide) (by decide) (by decide) (by decide)
 have h2:=CU h1 hs (by decide) (by decide)
 exact ML (j:=1) h2 (by decide) (by decide)
theorem Ph{y:Nat}(hy:Up .f64 y 0):∀(ms:List Nat) (s:Nat),(∀m ∈ ms,2≤m∧m<2 ^ 24)->Btw s 0 1->Btw (Pg y s ms) 0 1
 | [],s,_,hs=>hs
 | m :: ms,s,h,hs=>Ph hy ms _ (λk hk=>h k (.tail _ hk)) (Zt hy hs.up (h m (.head _)).1 (h m (.head _)).2)
theorem abZ:Btw 4607182418800017408 0 1:=⟨2 ^ 52,-52,AY,.inr ⟨by decide,by decide⟩,⟨by decide,by decide⟩,Nat.le_refl _,by decide⟩
theorem Zr{x:Nat}(hy:Up .f64 (Sf x) 0):Btw (HD x) 0 2:=by
 have e:HD x=jW .f64 4607182418800017408 (eG .f64 (fdiv .f64 (Sf x) (f64.nearest ((1:Nat):Int))) (Pg (Sf x) 4607182418800017408 [14,13,12,11,10,9,8,7,6,5,4,3,2])):=by
  simp only[HD,Pg,Yx,List.foldl_cons,List.foldl_nil]
 rw[e]
 exact Zs hy (Ph hy _ _ (by decide) abZ).up
theorem WD:Up .f64 4604418534313441775 0:=⟨6243314768165359,-53,by decide +kernel,.inr ⟨by decide,by decide⟩⟩
theorem aav{w:Nat}(h:Up .f64 w 122):fits w=true:=by
 obtain⟨m,p,hr,hv⟩:=h
 obtain⟨e1,e2,e3,e4⟩:=oh
 unfold fits FloatKind.decode
 rw[hr]
 dsimp only
 rw[og]
 by_cases h0:m=0
 ·subst h0;rw[fv,HK];rfl
 ·obtain⟨m',p',VJ,_⟩:=nD f32.format false h0 hv (by rw[e1,e2];omega) (by rw[e1,e2,e3,e4];decide)
  rw[VJ];rfl
theorem afo{x:Nat}(h:kC x=true):∃s m e,f32.format.read x = .number s m e∧∀B:Nat,1100≤B->m*2 ^ (e+(B:Int)).toNat≤120*2 ^ B:=by
 unfold kC inside fge fle at h
 rw[Bool.and_eq_true] at h
 obtain⟨h1,h2⟩:=h
 have r1:f32.format.read 3270508544 = .number true (120*2 ^ 17) (-17):=by decide +kernel
 have r2:f32.format.read 1123024896 = .number false (120*2 ^ 17) (-17):=by decide +kernel
 cases e:f32.format.read x with
 | nan s t=>rw[gN e r1] at h1;cases h1
 | infinity s=>
  rw[gN e r1] at h1
  rw[gN e r2] at h2
  cases s
  ·cases h2
  ·cases h1
 | number s m i=>
  have hs:=fG x e
  refine⟨s,m,i,rfl,λB hB=>?_⟩
  rw[gN e r1,oT _ _ _ _ _ _ (-(B:Int)) (by omega) (by omega)] at h1
  rw[gN e r2,oT _ _ _ _ _ _ (-(B:Int)) (by omega) (by omega)] at h2
  have ei:(i - -(B:Int)).toNat=(i+(B:Int)).toNat:=by congr 1;omega
  have ej:((-17:Int) - -(B:Int)).toNat=B-17:=by omega
  have f1:120*2 ^ 17*2 ^ (B-17)=120*2 ^ B:=by rw[Nat.mul_assoc,← Nat.pow_add];congr 2;omega
  cases s
  ·rw[eP,eP,ei,ej,f1] at h2
   have:¬compare ((m*2 ^ (i+(B:Int)).toNat:Nat):Int) ((120*2 ^ B:Nat):Int) = .gt:=λhc=>by rw[hc] at h2;cases h2
   exact Int.ofNat_le.1 (compare_ne_gt this)
  ·rw[jS,jS,ei,ej,f1] at h1
   have:¬compare (-((m*2 ^ (i+(B:Int)).toNat:Nat):Int)) (-((120*2 ^ B:Nat):Int)) = .lt:=λhc=>by rw[hc] at h1;cases h1
   exact Int.ofNat_le.1 (Int.neg_le_neg_iff.1 (compare_ne_lt this))
theorem kJ{k:FloatKind}{w m:Nat}{s:Bool}{e:Int}(h:k.format.read w = .number s m e):cn k w=w:=by
 have:Sx.nan k w=false:=by unfold Sx.nan;rw[h];rfl
 unfold cn;rw[this,if_neg (by decide)]
theorem zJ{x:Nat}(h:kC x=true):(f64.decode (flr (wid x))).toInt .zero=some (Bv x)∧-120≤Bv x∧Bv x≤120∧Sx.nan .f64 (wid x)=false∧Sx.nan .f64 (flr (wid x))=false∧Btw (HD x) 0 2∧fits (eG .f64 (HD x) (ur (Bv x)))=true:=by
 obtain⟨s,m,e,hr,hb⟩:=afo h
 obtain⟨B,hB⟩:∃B:Nat,1100≤B:=⟨1100,Nat.le_refl _⟩
 obtain⟨N,hN,hf,d,hd,hu⟩:=Q6 hB hr (hb B hB)
 obtain⟨M,E,hw,_⟩:=rO hB hr
 have ES:wid x=wide x:=kJ hw
 have hk:=DX s (N:=N) (by omega)
 obtain⟨M',E',hw',_⟩:=sV hB s (N:=N) (by omega)
 have hK:Bv x=signed s N 0:=by unfold Bv;rw[ES,hf,hk];rfl
 have hKb:-120≤Bv x∧Bv x≤120:=by
  rw[hK]
  cases s
  ·rw[eP];omega
  ·rw[jS];omega
 have hM:Btw (HD x) 0 2:=by
  refine Zr ?_
  unfold Sf
  rw[ES]
  have h1:hH .f64 (wide x) (flr (wide x))=d:=by unfold hH;rw[hd,Option.getD_some,Tr hu]
  rw[h1]
  exact CU (j:=0) hu WD (by decide) (by decide)
 refine⟨by rw[ES,hf,hk,hK],hKb.1,hKb.2,?_,?_,hM,?_⟩
 ·rw[ES];unfold Sx.nan;rw[hw];rfl
 ·rw[ES,hf];unfold Sx.nan;rw[hw'];rfl
 ·refine aav ?_
  obtain⟨m1,e1,r1,v1,_⟩:=hM
  have hp:Up .f64 (ur (Bv x)) (Bv x):=⟨_,_,rL (by omega) (by omega),.inr ⟨by omega,Nat.pow_le_pow_right (by decide) (by omega)⟩⟩
  have:=CU ⟨m1,e1,r1,v1⟩ hp (by omega) (by omega)
  obtain⟨m2,e2,r2,v2⟩:=this
  exact⟨m2,e2,r2,v2.mono (by omega)⟩
def Pos(a:Nat):Prop:=a<2 ^ 31
theorem ZC(f:Format)(r:Nat):f.word false r=r:=kr f r
theorem Of(m:Nat)(p:Int):Pos (f32.format.nearest false m p):=by
 have hi:f32.format.infRung<2 ^ 31:=by decide +kernel
 unfold Format.nearest
 split
 ·rw[ZC];exact(by decide:(0:Nat)<2 ^ 31)
 ·rw[ZC]
  exact Nat.lt_of_le_of_lt (Nat.min_le_right _ _) hi
theorem abx:Pos (f32.format.word false f32.format.infRung):=by unfold Pos;decide +kernel
theorem Cv{a:Nat}(h:Pos a):(f32.format.read a).neg=false:=by
 have e:a / f32.format.signWeight % 2=0:=by
  have:f32.format.signWeight=2 ^ 31:=rfl
  rw[this,Nat.div_eq_of_lt h]
 unfold Format.read
 dsimp only
 rw[e]
 split
 ·rfl
 ·split
  ·rfl
  ·split <;> rfl
theorem YO{a:Nat}(h:Pos a):Pos (cn .f32 a):=by
 unfold cn
 split
 ·show qn .f32<2 ^ 31;decide
 ·exact h
theorem mK{d:Datum}(h:d.neg=false)(hn:d.isNaN=false):Pos (f32.format.write d):=by
 cases d with
 | number s m p=>obtain rfl:s=false:=h;exact Of m p
 | infinity s=>obtain rfl:s=false:=h;exact abx
 | nan s t=>cases hn
theorem YF{o:Option Nat}(h:∀w,o=some w->Pos w):Pos (cn .f32 (o.getD (qn .f32))):=by
 refine YO ?_
 cases o with
 | none=>show qn .f32<2 ^ 31;decide
 | some w=>exact h w rfl
theorem ac5{a b:Nat}(ha:Pos a)(hb:Pos b):Pos (eG .f32 a b):=by
 have h1:=Cv ha
 have h2:=Cv hb
 refine YF λw hw=>?_
 unfold Format.mul at hw
 cases e1:f32.format.read a <;> cases e2:f32.format.read b <;> rw[e1] at h1 <;> rw[e2] at h2 <;> rw[e1,e2] at hw <;> simp only[Datum.neg] at h1 h2 <;> subst h1 h2 <;> simp only[Datum.product,Option.map_some,Option.map_none,Option.some.injEq,reduceCtorEq] at hw
 ·subst hw;exact mK rfl rfl
 ·split at hw
  ·cases hw
  ·simp only[Option.map_some,Option.some.injEq] at hw;subst hw;exact mK rfl rfl
 ·split at hw
  ·cases hw
  ·simp only[Option.map_some,Option.some.injEq] at hw;subst hw;exact mK rfl rfl
 ·subst hw;exact mK rfl rfl
theorem LU{a b:Nat}(ha:Pos a)(hb:Pos b):Pos (fdiv .f32 a b):=by
 have h1:=Cv ha
 have h2:=Cv hb
 refine YF λw hw=>?_
 unfold Format.div at hw
 cases e1:f32.format.read a <;> cases e2:f32.format.read b <;> rw[e1] at h1 <;> rw[e2] at h2 <;> rw[e1,e2] at hw <;> simp only[Datum.neg] at h1 h2 <;> subst h1 h2 <;> simp only[Datum.quotient,Option.map_some,Option.map_none,Option.some.injEq,reduceCtorEq] at hw
 ·split at hw
  ·split at hw
   ·cases hw
   ·simp only[Option.map_some,Option.some.injEq] at hw;subst hw;exact mK rfl rfl
  ·simp only[Option.map_some,Option.some.injEq] at hw;subst hw;exact mK rfl rfl
 ·subst hw;exact mK rfl rfl
 ·subst hw;exact mK rfl rfl
def sv(B:Nat)(m:Nat)(e:Int):Nat:=m*2 ^ (e+(B:Int)).toNat
theorem CM{B m:Nat}{e:Int}(h:-(B:Int)≤e):whole m e=sv B m e / 2 ^ B:=ru h
theorem SF{B:Nat}(hB:1100≤B){x c n:Nat}{j:Int}(hc:f32.format.read c = .number false n j)(h:fge .f32 x c=true):
  f32.format.read x = .infinity false∨∃s m e,f32.format.read x = .number s m e∧(s=true->m=0)∧sv B n j≤sv B m e:=by
 have hj:=fG c hc
 unfold fge at h
 cases e:f32.format.read x with
 | nan s t=>rw[gN e hc] at h;cases h
 | infinity s=>
  rw[gN e hc] at h
  cases s
  ·exact .inl rfl
  ·cases h
 | number s m i=>
  have hs:=fG x e
  refine .inr ⟨s,m,i,rfl,?_⟩
  rw[gN e hc,oT _ _ _ _ _ _ (-(B:Int)) (by omega) (by omega)] at h
  have ei:(i - -(B:Int)).toNat=(i+(B:Int)).toNat:=by congr 1;omega
  have ej:(j - -(B:Int)).toNat=(j+(B:Int)).toNat:=by congr 1;omega
  rw[ei,ej,eP] at h
  have By:¬compare (signed s m (i+(B:Int)).toNat) ((n*2 ^ (j+(B:Int)).toNat:Nat):Int) = .lt:=λhc=>by rw[hc] at h;cases h
  have hle:=compare_ne_lt By
  unfold sv
  cases s
  ·rw[eP] at hle
   exact⟨(λh=>nomatch h),Int.ofNat_le.1 hle⟩
  ·rw[jS] at hle
   have hp:=Nat.two_pow_pos (i+(B:Int)).toNat
   have:m*2 ^ (i+(B:Int)).toNat=0:=by omega
   have hm:m=0:=(Nat.mul_eq_zero.1 this).resolve_right (by omega)
   exact⟨λ_=>hm,by omega⟩
theorem SS{B:Nat}(hB:1100≤B){x c n m:Nat}{s:Bool}{j e:Int}(hc:f32.format.read c = .number false n j)(hx:f32.format.read x = .number s m e)(hs:s=true->m=0)(h:fle .f32 x c=true):sv B m e≤sv B n j:=by
 have hj:=fG c hc
 have hi:=fG x hx
 unfold fle at h
 rw[gN hx hc,oT _ _ _ _ _ _ (-(B:Int)) (by omega) (by omega)] at h
 have ei:(e - -(B:Int)).toNat=(e+(B:Int)).toNat:=by congr 1;omega
 have ej:(j - -(B:Int)).toNat=(j+(B:Int)).toNat:=by congr 1;omega
 rw[ei,ej,eP] at h
 have By:¬compare (signed s m (e+(B:Int)).toNat) ((n*2 ^ (j+(B:Int)).toNat:Nat):Int) = .gt:=λhc=>by rw[hc] at h;cases h
 have hle:=compare_ne_gt By
 unfold sv
 cases s
 ·rw[eP] at hle;exact Int.ofNat_le.1 hle
 ·rw[hs rfl,Nat.zero_mul];exact Nat.zero_le _
theorem inf_le{x c n:Nat}{j:Int}(hc:f32.format.read c = .number false n j)(hx:f32.format.read x = .infinity false):fle .f32 x c=false:=by
 unfold fle
 rw[gN hx hc];rfl
theorem pP{B:Nat}(hB:1100≤B){x c d n k:Nat}{j i:Int}(hc:f32.format.read c = .number false n j)(hd:f32.format.read d = .number false k i)(h:inside x c d=true):
  ∃s m e,f32.format.read x = .number s m e∧(s=true->m=0)∧sv B n j≤sv B m e∧sv B m e≤sv B k i:=by
 unfold inside at h
 rw[Bool.and_eq_true] at h
 rcases SF hB hc h.1 with hx | ⟨s,m,e,hx,hs,hl⟩
 ·rw[inf_le hd hx] at h;cases h.2
 ·exact⟨s,m,e,hx,hs,hl,SS hB hd hx hs h.2⟩
theorem Zk{B:Nat}(hB:1100≤B){m:Nat}{e j:Int}(hm:m≠0)(he:-(B:Int)≤e)(hj:-(B:Int)≤j)(h:sv B m e≤2 ^ (j+(B:Int)).toNat):VLE m e j:=by
 unfold sv at h
 have h1:2 ^ (e+(B:Int)).toNat≤2 ^ (j+(B:Int)).toNat:=Nat.le_trans (Nat.le_mul_of_pos_left _ (by omega)) h
 have h2:(e+(B:Int)).toNat≤(j+(B:Int)).toNat:=(Nat.pow_le_pow_iff_right (by decide)).1 h1
 refine .inr ⟨by omega,?_⟩
 rw[show(j+(B:Int)).toNat=(j-e).toNat+(e+(B:Int)).toNat by omega,Nat.pow_add] at h
 exact Nat.le_of_mul_le_mul_right h (Nat.two_pow_pos _)
theorem ah3{B:Nat}(hB:1100≤B){m:Nat}{e i:Int}(he:-(B:Int)≤e)(hi:-(B:Int)≤i)(h:2 ^ (i+(B:Int)).toNat≤sv B m e):VGE m e i:=by
 unfold sv at h
 have hm:m≠0:=λh0=>by
  subst h0
  have:=Nat.two_pow_pos (i+(B:Int)).toNat
  omega
 refine⟨hm,?_⟩
 rcases Int.le_total e i with h1 | h1
 ·rw[show(i+(B:Int)).toNat=(i-e).toNat+(e+(B:Int)).toNat by omega,Nat.pow_add] at h
  exact Nat.le_of_mul_le_mul_right h (Nat.two_pow_pos _)
 ·rw[show(i-e).toNat=0 by omega];omega
theorem ahb{B:Nat}(hB:1100≤B){m:Nat}{e j:Int}(he:-(B:Int)≤e)(h:VLE m e j):sv B m e≤2 ^ (j+(B:Int)).toNat:=by
 unfold sv
 rcases h with h | ⟨h1,h2⟩
 ·rw[h,Nat.zero_mul];exact Nat.zero_le _
 ·refine Nat.le_trans (Nat.mul_le_mul_right _ h2) ?_
  rw[← Nat.pow_add]
  exact Nat.pow_le_pow_right (by decide) (by omega)
theorem aha{B:Nat}(hB:1100≤B){m:Nat}{e i:Int}(he:-(B:Int)≤e)(h:VGE m e i):2 ^ (i+(B:Int)).toNat≤sv B m e:=by
 unfold sv
 have h2:=h.2
 rcases Int.le_total e i with h1 | h1
 ·refine Nat.le_trans ?_ (Nat.mul_le_mul_right _ h2)
  rw[← Nat.pow_add]
  exact Nat.pow_le_pow_right (by decide) (by omega)
 ·refine Nat.le_trans (Nat.pow_le_pow_right (by decide) (show(i+(B:Int)).toNat≤(e+(B:Int)).toNat by omega)) (Nat.le_mul_of_pos_left _ (by have:=h.1;omega))
theorem RX{A D g u Q:Nat}(hg:0<g)(h1:3*(2*u)≤A*g)(h2:A*g≤Q)(h3:D*g≤u):∃T,A=T+D∧4*u≤T*g∧T*g≤Q:=by
 have hBA:D≤A:=Nat.le_of_mul_le_mul_right (c:=g) (by omega) hg
 refine⟨A-D,by omega,?_,?_⟩
 ·rw[Nat.sub_mul];omega
 ·rw[Nat.sub_mul];omega
def u4(a:Nat):Nat:=match f32.format.read a with | .number false m e=>whole m e | _=>0
theorem Rm{p x:Nat}(hp:inside p 1077936128 1149239296=true)(hx:inside x 0 1056964608=true):∃m e,f32.format.read (hH .f32 p x) = .number false m e∧2≤whole m e∧whole m e≤1024:=by
 obtain⟨B,hB⟩:∃B:Nat,1100≤B:=⟨1100,Nat.le_refl _⟩
 have c3:f32.format.read 1077936128 = .number false (3*2 ^ 22) (-22):=by decide +kernel
 have Sw:f32.format.read 1149239296 = .number false (2 ^ 23) (-13):=by decide +kernel
 have c0:f32.format.read 0 = .number false 0 (-149):=by decide +kernel
 have ch:f32.format.read 1056964608 = .number false (2 ^ 23) (-24):=by decide +kernel
 obtain⟨s,m,e,hr,hs,h1,h2⟩:=pP hB c3 Sw hp
 obtain⟨s',m',e',VJ,Qm,h1',h2'⟩:=pP hB c0 ch hx
 have v3:sv B (3*2 ^ 22) (-22)=3*2 ^ B:=by unfold sv;rw[Nat.mul_assoc,← Nat.pow_add];congr 2;omega
 have al2:sv B (2 ^ 23) (-13)=2 ^ (B+10):=by unfold sv;rw[← Nat.pow_add];congr 1;omega
 have vh:sv B (2 ^ 23) (-24)=2 ^ (B-1):=by unfold sv;rw[← Nat.pow_add];congr 1;omega
 rw[v3] at h1
 rw[al2] at h2
 rw[vh] at h2'
 have hb1:=fG p hr
 have U9:=fG x VJ
 have hm0:m≠0:=λh0=>by
  subst h0
  unfold sv at h1
  rw[Nat.zero_mul] at h1
  have:=Nat.two_pow_pos B
  omega
 have hsf:s=false:=by
  cases s
  ·rfl
  ·exact absurd (hs rfl) hm0
 subst hsf
 have sC:∃b:Int,b=min e e':=⟨_,rfl⟩
 obtain⟨b,sC⟩:=sC
 have w1:sv B m e=m*2 ^ (e-b).toNat*2 ^ (b+(B:Int)).toNat:=by unfold sv;rw[Nat.mul_assoc,← Nat.pow_add];congr 2;omega
 have w2:sv B m' e'=m'*2 ^ (e'-b).toNat*2 ^ (b+(B:Int)).toNat:=by unfold sv;rw[Nat.mul_assoc,← Nat.pow_add];congr 2;omega
 have Xq:signed (!s') m' (e'-b).toNat = -((m'*2 ^ (e'-b).toNat:Nat):Int):=by
  cases s'
  ·exact jS _ _
  ·rw[Qm rfl,Nat.zero_mul]
   show signed false 0 _=_
   rw[eP,Nat.zero_mul];rfl
 have eB:(2:Nat) ^ B=2*2 ^ (B-1):=by rw[← Nat.pow_succ'];congr 1;omega
 have eB1:(2:Nat) ^ (B+1)=4*2 ^ (B-1):=by rw[show(4:Nat)=2 ^ 2 by rfl,← Nat.pow_add];congr 1;omega
 have hT:∃T:Nat,m*2 ^ (e-b).toNat=T+m'*2 ^ (e'-b).toNat∧4*2 ^ (B-1)≤T*2 ^ (b+(B:Int)).toNat∧T*2 ^ (b+(B:Int)).toNat≤2 ^ (B+10):=by
  rw[w1] at h1 h2
  rw[w2] at h2'
  rw[eB] at h1
  exact RX (Nat.two_pow_pos _) h1 h2 h2'
 obtain⟨T,hT1,hT2,hT3⟩:=hT
 have hT0:T≠0:=λh0=>by
  subst h0
  rw[Nat.zero_mul] at hT2
  have:=Nat.two_pow_pos (B-1)
  omega
 have rf:(Datum.number false m e).sum (Datum.number s' m' e').opposite=some (.number false T b):=by
  show some (Datum.number _ _ _)=_
  rw[← sC,Xq,eP,hT1]
  have:((T+m'*2 ^ (e'-b).toNat:Nat):Int) + -((m'*2 ^ (e'-b).toNat:Nat):Int)=(T:Int):=by push_cast;omega
  rw[this,if_neg (by omega),Int.natAbs_natCast,decide_eq_false (by omega)]
 have IE:f32.format.sub p x=some (f32.format.nearest false T b):=by
  unfold Format.sub
  rw[hr,VJ,rf];rfl
 obtain⟨e1,e2,e3,e4⟩:=oh
 have hle:VLE T b 10:=Zk hB hT0 (by omega) (by omega) (by rw[show((10:Int)+(B:Int)).toNat=B+10 by omega];exact hT3)
 have hge:VGE T b 1:=ah3 hB (by omega) (by omega) (by rw[show((1:Int)+(B:Int)).toNat=B+1 by omega,eB1];exact hT2)
 obtain⟨m2,p2,Mq,hv2,_,hlp,_,hi⟩:=nD f32.format false hT0 hle (by rw[e1,e2];omega) (by rw[e1,e2,e3,e4];decide)
 have hg2:=(hi 1 (by rw[e1,e2];omega) hge).1
 rw[e2] at hlp
 have k1:=ahb hB (by omega) hv2
 have k2:=aha hB (by omega) hg2
 have hcn:hH .f32 p x=f32.format.nearest false T b:=by
  unfold hH
  rw[IE,Option.getD_some,kJ Mq]
 refine⟨m2,p2,by rw[hcn];exact Mq,?_,?_⟩
 ·rw[CM (B:=B) (by omega)]
  refine(Nat.le_div_iff_mul_le (Nat.two_pow_pos _)).2 ?_
  rw[show((1:Int)+(B:Int)).toNat=B+1 by omega] at k2
  rw[← Nat.pow_succ'];exact k2
 ·rw[CM (B:=B) (by omega)]
  refine Nat.div_le_of_le_mul ?_
  rw[show((10:Int)+(B:Int)).toNat=B+10 by omega] at k1
  rw[show(1024:Nat)=2 ^ 10 by rfl,← Nat.pow_add];exact k1
end Go.Sx
