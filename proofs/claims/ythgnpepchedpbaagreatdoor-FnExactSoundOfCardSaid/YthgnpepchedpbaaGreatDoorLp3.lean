/- Lemmas. -/
import Derived.Test.YthgnpepchedpbaaGreatDoorLp1
import Derived.Test.YthgnpepchedpbaaGreatDoorLg
set_option linter.unusedVariables false
set_option linter.unusedSimpArgs false
namespace Go.Sx
open FloatKind (f32 f64)
open IntKind (i64)
open Ieee
section
variable {k:FloatKind}{x y a b r:Nat}
theorem FW.nan(h:FW k x a):Sx.nan k x=Sx.nan k a:=by rw[← h.1,DD]
theorem FW.self(h:FW k x a):cn k a=a:=by rw[← h.1,E4]
theorem FW.eq(h:FW k x a)(hn:Sx.nan k a=false):x=a:=by
 have:=h.nan
 rw[hn] at this
 rw[← h.1];unfold cn;rw[this];rfl
theorem aif(h:x<2 ^ k.format.width):FW k x (cn k x):=⟨rfl,h⟩
theorem Z0(k:FloatKind):qn k<2 ^ k.format.width:=by cases k <;> decide +kernel
theorem FW.lt(h:FW k x a):a<2 ^ k.format.width:=by
 rw[← h.1];unfold cn;split
 ·exact Z0 k
 ·exact h.2
theorem Fp{op:Nat->Nat->Option Nat}(hl:∀x y,Sx.nan k x=true->op x y=none)(hr:∀x y,Sx.nan k y=true->op x y=none)(hx:FW k x a)(hy:FW k y b):op x y=op a b:=by
 have h1:=hx.nan
 have h2:=hy.nan
 cases e1:Sx.nan k a with
 | true=>rw[hl a b e1,hl x y (by rw[h1,e1])]
 | false=>
  cases e2:Sx.nan k b with
  | true=>rw[hr a b e2,hr x y (by rw[h2,e2])]
  | false=>rw[hx.eq e1,hy.eq e2]
theorem lq{k:FloatKind}{x:Nat}(h:Sx.nan k x=true):∃s t,k.format.read x = .nan s t:=by
 unfold Sx.nan at h
 cases e:k.format.read x <;> rw[e] at h <;> first | (cases h;done) | exact⟨_,_,rfl⟩
theorem aeC(x y:Nat)(h:Sx.nan k x=true):k.format.add x y=none:=by obtain⟨s,t,e⟩:=lq h;unfold Format.add;rw[e];rfl
theorem aeD(x y:Nat)(h:Sx.nan k y=true):k.format.add x y=none:=by obtain⟨s,t,e⟩:=lq h;unfold Format.add;rw[e];cases k.format.read x <;> rfl
theorem ah1(x y:Nat)(h:Sx.nan k x=true):k.format.sub x y=none:=by obtain⟨s,t,e⟩:=lq h;unfold Format.sub;rw[e];rfl
theorem ah2(x y:Nat)(h:Sx.nan k y=true):k.format.sub x y=none:=by obtain⟨s,t,e⟩:=lq h;unfold Format.sub;rw[e];cases k.format.read x <;> rfl
theorem ag8(x y:Nat)(h:Sx.nan k x=true):k.format.mul x y=none:=by obtain⟨s,t,e⟩:=lq h;unfold Format.mul;rw[e];rfl
theorem ag9(x y:Nat)(h:Sx.nan k y=true):k.format.mul x y=none:=by obtain⟨s,t,e⟩:=lq h;unfold Format.mul;rw[e];cases k.format.read x <;> rfl
theorem aeN(x y:Nat)(h:Sx.nan k x=true):k.format.div x y=none:=by obtain⟨s,t,e⟩:=lq h;unfold Format.div;rw[e];rfl
theorem aeO(x y:Nat)(h:Sx.nan k y=true):k.format.div x y=none:=by obtain⟨s,t,e⟩:=lq h;unfold Format.div;rw[e];cases k.format.read x <;> rfl
def jW(k:FloatKind)(a b:Nat):Nat:=cn k ((k.format.add a b).getD (qn k))
def hH(k:FloatKind)(a b:Nat):Nat:=cn k ((k.format.sub a b).getD (qn k))
def eG(k:FloatKind)(a b:Nat):Nat:=cn k ((k.format.mul a b).getD (qn k))
def fdiv(k:FloatKind)(a b:Nat):Nat:=cn k ((k.format.div a b).getD (qn k))
theorem Ds{k:FloatKind}{o:Option Nat}{r:Nat}(h:IsF k o r)(ho:∀v,o=some v->v<2 ^ k.format.width):r<2 ^ k.format.width:=by
 cases o with
 | some v=>rw[show r=v from h];exact ho v rfl
 | none=>
  cases k with
  | f32=>
   obtain⟨t,rfl⟩:=(h:vL .f32 r)
   show _<2 ^ 32
   have hs:t % 2=0∨t % 2=1:=by omega
   have hu:t / 2 % (2 ^ 23-1)<2 ^ 23-1:=Nat.mod_lt _ (by decide)
   generalize t / 2 % (2 ^ 23-1)=u at hu ⊢
   rcases hs with hs | hs <;> rw[hs] <;> omega
  | f64=>
   obtain⟨t,rfl⟩:=(h:vL .f64 r)
   show _<2 ^ 64
   have hs:t % 2=0∨t % 2=1:=by omega
   have hu:t / 2 % (2 ^ 52-1)<2 ^ 52-1:=Nat.mod_lt _ (by decide)
   generalize t / 2 % (2 ^ 52-1)=u at hu ⊢
   rcases hs with hs | hs <;> rw[hs] <;> omega
theorem aeV(hx:FW k x a)(hy:FW k y b)(h:IsF k (k.format.add x y) r):FW k r (jW k a b):=
 ⟨by rw[qU h,Fp aeC aeD hx hy];rfl,Ds h λv e=>k.format.add_lt e⟩
theorem aeZ(hx:FW k x a)(hy:FW k y b)(h:IsF k (k.format.sub x y) r):FW k r (hH k a b):=
 ⟨by rw[qU h,Fp ah1 ah2 hx hy];rfl,Ds h λv e=>k.format.sub_lt e⟩
theorem aeY(hx:FW k x a)(hy:FW k y b)(h:IsF k (k.format.mul x y) r):FW k r (eG k a b):=
 ⟨by rw[qU h,Fp ag8 ag9 hx hy];rfl,Ds h λv e=>k.format.mul_lt e⟩
theorem aeW(hx:FW k x a)(hy:FW k y b)(h:IsF k (k.format.div x y) r):FW k r (fdiv k a b):=
 ⟨by rw[qU h,Fp aeN aeO hx hy];rfl,Ds h λv e=>k.format.div_lt e⟩
theorem fA{F:Nat->Prop}(hx:FW k x a)(hy:FW k y b)(H:∀r,FW k r (jW k a b)->F r):FOP k (k.format.add x y) F:=λr h=>H r (aeV hx hy h)
theorem fS{F:Nat->Prop}(hx:FW k x a)(hy:FW k y b)(H:∀r,FW k r (hH k a b)->F r):FOP k (k.format.sub x y) F:=λr h=>H r (aeZ hx hy h)
theorem fM{F:Nat->Prop}(hx:FW k x a)(hy:FW k y b)(H:∀r,FW k r (eG k a b)->F r):FOP k (k.format.mul x y) F:=λr h=>H r (aeY hx hy h)
theorem fD{F:Nat->Prop}(hx:FW k x a)(hy:FW k y b)(H:∀r,FW k r (fdiv k a b)->F r):FOP k (k.format.div x y) F:=λr h=>H r (aeW hx hy h)
theorem cw(hx:FW k x a)(hy:FW k y b):k.format.order x y=k.format.order a b:=by
 have h1:=hx.nan
 have h2:=hy.nan
 cases e1:Sx.nan k a with
 | true=>rw[nE e1,nE (by rw[h1,e1])]
 | false=>
  cases e2:Sx.nan k b with
  | true=>rw[xp e2,xp (by rw[h2,e2])]
  | false=>rw[hx.eq e1,hy.eq e2]
theorem akd(c:Nat):Sx.nan .f32 c=decide (2139095040<c % 2147483648):=by
 unfold Sx.nan
 have e1:f32.format.signWeight=2147483648:=rfl
 have e2:f32.format.infRung=2139095040:=by decide +kernel
 have e3:f32.format.binade=8388608:=rfl
 rw[oX,e1,e2,e3,decide_eq_decide]
 omega
theorem ake(c:Nat):Sx.nan .f64 c=decide (9218868437227405312<c % 9223372036854775808):=by
 unfold Sx.nan
 have e1:f64.format.signWeight=9223372036854775808:=rfl
 have e2:f64.format.infRung=9218868437227405312:=by decide +kernel
 have e3:f64.format.binade=4503599627370496:=rfl
 rw[oX,e1,e2,e3,decide_eq_decide]
 omega
theorem eM{c:Nat}(h:c % 2147483648≤2139095040)(h2:c<4294967296):FW .f32 c c:=
 ⟨by unfold cn;rw[akd,if_neg (by simpa using h)],h2⟩
theorem WM{c:Nat}(h:c % 9223372036854775808≤9218868437227405312)(h2:c<18446744073709551616):FW .f64 c c:=
 ⟨by unfold cn;rw[ake,if_neg (by simpa using h)],h2⟩
theorem cK(k:FloatKind)(n:Int):FW k (k.nearest n) (k.nearest n):=
 ⟨by unfold cn;rw[dp];rfl,by show k.format.nearest _ _ _<_;exact k.format.nearest_lt _ _ _⟩
def Q8(k:FloatKind)(a:Nat):Nat:=cn k (Op.negFloat k a)
theorem w8{x y:Nat}(h:x % k.format.signWeight=y % k.format.signWeight):Sx.nan k x=Sx.nan k y:=by
 unfold Sx.nan
 rw[oX,oX,h]
theorem T1(x:Nat):Op.negFloat k x % k.format.signWeight=x % k.format.signWeight:=by
 unfold Op.negFloat Format.signWeight
 rw[Nat.xor_mod_two_pow,Nat.mod_self,Nat.xor_zero]
theorem kM(hx:FW k x a):FW k (Op.negFloat k x) (Q8 k a):=by
 refine⟨?_,?_⟩
 ·have h1:Sx.nan k (Op.negFloat k x)=Sx.nan k x:=w8 (T1 x)
  have h2:Sx.nan k (Op.negFloat k a)=Sx.nan k a:=w8 (T1 a)
  unfold Q8 cn
  rw[h1,h2,hx.nan]
  split
  ·rfl
  ·next h=>rw[hx.eq (by simpa using h)]
 ·unfold Op.negFloat
  refine Nat.xor_lt_two_pow hx.2 ?_
  exact Nat.pow_lt_pow_right (by decide) (by unfold Format.width;omega)
def wid(a:Nat):Nat:=cn .f64 (wide a)
theorem Uk{b r:Nat}(h:I3 .f32 b .f64 r):r<2 ^ f64.format.width:=by
 unfold I3 at h
 split at h
 ·exact Ds (k:=.f64) (o:=none) h (λv e=>by cases e)
 ·rw[h];exact f64.format.write_lt _
 ·split at h
  ·exact Nat.lt_trans h (show 2 ^ 32<2 ^ 64 by decide)
  ·rw[h];exact f64.format.write_lt _
theorem cg{F:Nat->Prop}(hx:FW .f32 x a)(H:∀r,FW .f64 r (wid a)->F r):FFC .f32 x .f64 F:=λr h=>
 H r ⟨by rw[Ul h,hx.1];rfl,Uk h⟩
def nar(a:Nat):Nat:=cn .f32 (if nan .f64 a then qn .f32 else f32.encode (f64.decode a))
def fits(a:Nat):Bool:=match f64.decode a with | .number n m e=>!(f32.decode (f32.encode (.number n m e))).isInfinity | _=>true
theorem Uj{s:FloatKind}{b r:Nat}(h:I3 s b .f32 r):r<2 ^ 32:=by
 unfold I3 at h
 split at h
 ·exact Ds (k:=.f32) (o:=none) h (λv e=>by cases e)
 ·rw[h];exact f32.format.write_lt _
 ·split at h
  ·exact h
  ·rw[h];exact f32.format.write_lt _
theorem Fg{F:Nat->Prop}(hx:FW .f64 x a)(hf:fits a=true)(H:∀r,FW .f32 r (nar a)->F r):FFC .f64 x .f32 F:=λr h=>by
 refine H r ⟨?_,Uj h⟩
 have hn:=hx.nan
 unfold I3 at h
 cases e:f64.decode x with
 | nan s t=>
  rw[e] at h
  have h1:nan .f64 x=true:=by unfold nan;rw[show f64.format.read x=_ from e];rfl
  rw[h1] at hn
  unfold nar
  rw[← hn,if_pos rfl]
  unfold cn
  rw[m4 (k:=.f32) h,GF,if_pos rfl,if_pos rfl]
 | infinity s=>
  rw[e] at h
  have h1:nan .f64 x=false:=by unfold nan;rw[show f64.format.read x=_ from e];rfl
  have h2:=hx.eq (by rw[← hn,h1])
  subst h2
  unfold nar
  rw[if_neg (by rw[h1];decide),e,show r=_ from h]
 | number s m i=>
  rw[e] at h
  have h1:nan .f64 x=false:=by unfold nan;rw[show f64.format.read x=_ from e];rfl
  have h2:=hx.eq (by rw[← hn,h1])
  subst h2
  unfold fits at hf
  rw[e] at hf
  dsimp only at h hf
  rw[show(f32.decode (f32.encode (Datum.number s m i))).isInfinity=false by simpa using hf] at h
  unfold nar
  rw[if_neg (by rw[h1];decide),e,show r=_ by simpa using h]
end
theorem w9(f:Format)(s:Bool){m:Nat}{p:Int}(h:m≠0)(hl:max (p+m.log2-f.fractionBits) f.leastPlace=p):
  f.nearest s m p=f.word s (min ((p-f.leastPlace).toNat*f.binade+m) f.infRung):=by
 unfold Format.nearest
 rw[if_neg h]
 dsimp only
 rw[hl]
 simp only[Int.sub_self,Int.toNat_zero,Nat.shiftLeft_zero,xW]
theorem kr(f:Format)(r:Nat):f.word false r=r:=by unfold Format.word;simp
theorem aeI{a m:Nat}{s:Bool}{e:Int}(h:f32.format.read a = .number s m e):f32.format.nearest false m e=a % 2 ^ 31∧(m=0->a % 2 ^ 31=0):=by
 obtain⟨e1,e2,e3,e4⟩:=oh
 have e5:f32.format.signWeight=2 ^ 31:=rfl
 unfold Format.read at h
 dsimp only at h
 rw[e5,e3,e4,e2] at h
 split at h
 ·next hr=>
  simp only[Datum.number.injEq] at h
  obtain⟨_,rfl,rfl⟩:=h
  refine⟨?_,λh=>h⟩
  by_cases hz:a % 2 ^ 31=0
  ·rw[hz,fv,kr]
  ·have hl:(a % 2 ^ 31).log2<23:=(Nat.log2_lt hz).2 hr
   rw[w9 _ _ hz (by rw[e1,e2];omega),e2,e3,e4,kr]
   simp only[Int.sub_self,Int.toNat_zero,Nat.zero_mul,Nat.zero_add]
   omega
 ·next hr=>
  split at h
  ·next Mq=>
   simp only[Datum.number.injEq] at h
   obtain⟨_,rfl,rfl⟩:=h
   have hm:(2 ^ 23+a % 2 ^ 31 % 2 ^ 23).log2=23:=by
    have h1:=(Nat.log2_lt (n:=2 ^ 23+a % 2 ^ 31 % 2 ^ 23) (k:=24) (by omega)).2 (by omega)
    have h2:=(Nat.le_log2 (n:=2 ^ 23+a % 2 ^ 31 % 2 ^ 23) (k:=23) (by omega)).2 (by omega)
    omega
   refine⟨?_,λh=>by omega⟩
   rw[w9 _ _ (by omega) (by rw[hm,e1,e2];omega),e2,e3,e4,kr]
   omega
  ·split at h <;> cases h
def Nb(a:Nat):Nat:=cn .f32 (a % 2 ^ 31)
theorem Pn(f:Format)(s:Bool){r:Nat}(h:r<f.signWeight):f.word s r % f.signWeight=r:=by
 unfold Format.word
 split
 ·rw[Nat.add_mod_left,Nat.mod_eq_of_lt h]
 ·exact Nat.mod_eq_of_lt h
theorem YD(f:Format)(s:Bool)(m:Nat)(p:Int):f.nearest s m p % f.signWeight=f.nearest false m p:=by
 have key:∀r,r≤f.infRung->f.word s r % f.signWeight=f.word false r:=λr hr=>by
  rw[Pn f s (Nat.lt_of_le_of_lt hr f.infRung_lt),kr]
 unfold Format.nearest
 split
 ·exact key 0 (Nat.zero_le _)
 ·exact key _ (Nat.min_le_right _ _)
theorem Wq{a:Nat}(h:nan .f32 a=false):nan .f64 (wide a % 2 ^ 63)=false∧f32.encode (f64.decode (wide a % 2 ^ 63))=a % 2 ^ 31∧fits (wide a % 2 ^ 63)=true:=by
 obtain⟨e1,e2,e3,e4⟩:=oh
 have w1:f64.format.signWeight=2 ^ 63:=rfl
 have w2:f32.format.signWeight=2 ^ 31:=rfl
 have hn:nan .f64 (wide a % 2 ^ 63)=nan .f64 (wide a):=w8 (by rw[w1,Nat.mod_mod])
 rw[CV h] at hn
 refine⟨hn,?_⟩
 unfold wide
 cases e:f32.decode a with
 | nan s t=>unfold nan at h;rw[show f32.format.read a=_ from e] at h;cases h
 | infinity s=>
  have h1:f64.encode (Datum.infinity s) % 2 ^ 63=f64.format.word false f64.format.infRung:=by
   rw[← w1];exact Pn _ _ f64.format.infRung_lt
  rw[h1,show f64.decode (f64.format.word false f64.format.infRung) = .infinity false from ady false]
  have h2:a % 2 ^ 31=f32.format.infRung:=by
   have e':f32.format.read a = .infinity s:=e
   unfold Format.read at e'
   dsimp only at e'
   rw[w2] at e'
   split at e'
   ·cases e'
   ·split at e'
    ·cases e'
    ·split at e'
     ·next h3=>exact h3
     ·cases e'
  refine⟨by rw[h2];show f32.format.word false f32.format.infRung=_;exact kr _ _,?_⟩
  unfold fits
  rw[show f64.decode (f64.format.word false f64.format.infRung) = .infinity false from ady false]
 | number s m i=>
  have e':f32.format.read a = .number s m i:=e
  obtain⟨h1,h2,h3⟩:=fG a e
  obtain⟨b1,b2⟩:=aeI e'
  have h4:f64.encode (Datum.number s m i) % 2 ^ 63=f64.format.nearest false m i:=by
   rw[← w1];exact YD _ _ _ _
  rw[h4]
  have key:∃m' i',f64.decode (f64.format.nearest false m i) = .number false m' i'∧f32.format.nearest false m' i'=a % 2 ^ 31:=by
   by_cases hz:m=0
   ·subst hz
    refine⟨0,-1074,?_,?_⟩
    ·rw[fv];exact Mk false
    ·rw[fv,b2 rfl,kr]
   ·refine⟨_,_,H4 false hz h1 h2 (by omega),?_⟩
    rw[← b1]
    have hl:m.log2≤23:=by
     have:=(Nat.log2_lt hz (k:=24)).2 h1
     omega
    have:=Ar f32.format false m i (52-m.log2)
    rw[show i+(m.log2:Int)-52=i-((52-m.log2:Nat):Int) by omega]
    exact this
  obtain⟨m',i',k1,k2⟩:=key
  have k3:f32.encode (Datum.number false m' i')=a % 2 ^ 31:=k2
  refine⟨by rw[k1,k3],?_⟩
  unfold fits
  rw[k1]
  dsimp only
  rw[k3]
  have k4:f32.decode (a % 2 ^ 31) = .number false m i∨∃x,f32.decode (a % 2 ^ 31)=x∧x.isInfinity=false:=by
   right
   refine⟨_,rfl,?_⟩
   have e6:f32.format.read a = .number s m i:=e
   show(f32.format.read (a % 2 ^ 31)).isInfinity=false
   unfold Format.read at e6 ⊢
   dsimp only at e6 ⊢
   rw[w2] at e6 ⊢
   rw[Nat.mod_mod]
   split at e6
   ·next g1=>rw[if_pos g1];rfl
   ·next g1=>
    split at e6
    ·next g2=>rw[if_neg g1,if_pos g2];rfl
    ·split at e6 <;> cases e6
  rcases k4 with k4 | ⟨x,k4,k5⟩
  ·rw[k4];rfl
  ·rw[k4,k5];rfl
theorem Wp(a:Nat)(ha:cn .f32 a=a):fits (cn .f64 (wid a % 2 ^ 63))=true∧nar (cn .f64 (wid a % 2 ^ 63))=Nb a:=by
 cases h:nan .f32 a with
 | true=>
  have h0:a=qn .f32:=by rw[← ha];unfold cn;rw[h];rfl
  subst h0
  decide +kernel
 | false=>
  obtain⟨h1,h2,h3⟩:=Wq h
  have h4:wid a=wide a:=by unfold wid cn;rw[CV h];rfl
  have h5:cn .f64 (wide a % 2 ^ 63)=wide a % 2 ^ 63:=by unfold cn;rw[h1];rfl
  rw[h4,h5]
  refine⟨h3,?_⟩
  unfold nar Nb
  rw[h1,h2];rfl
end Go.Sx
namespace Go.Sx
open FloatKind (f32 f64)
open IntKind (i64)
def flt(k:FloatKind)(a b:Nat):Bool:=k.format.order a b==some .lt
def fgt(k:FloatKind)(a b:Nat):Bool:=k.format.order a b==some .gt
def fle(k:FloatKind)(a b:Nat):Bool:=k.format.order a b==some .lt||k.format.order a b==some .eq
def fge(k:FloatKind)(a b:Nat):Bool:=k.format.order a b==some .gt||k.format.order a b==some .eq
def feq(k:FloatKind)(a b:Nat):Bool:=k.format.order a b==some .eq
def inR(n low high:Int):Bool:=decide (low≤n)&&decide (n≤high)
def fin(a:Nat):Bool:=feq .f32 (hH .f32 a a) 0
def flush(a:Nat):Nat:=if flt .f32 (Nb a) 8388608 then 0 else a
def kept(a:Nat):Nat:=if fin a then flush a else 0
def aY.len(r:aY):Int:=r.ae.length
def aY.ok(r:aY):Bool:=inR r.len 1 1024&&inR r.At 0 (r.len-1)
def aY.old(r:aY):Nat:=r.ae[r.At.toNat]!
def aY.push(r:aY)(a:Nat):aY:=⟨r.ae.set r.At.toNat a,(r.At+1) % r.len⟩
def aY.back(r:aY)(k:Int):Nat:=r.ae[((r.At-k+r.len) % r.len).toNat]!
def pW(l:List Nat):Bool:=l.all fin
def aY.okf(r:aY):Bool:=r.ok&&pW r.ae
def aY.zero(r:aY):Bool:=r.ae.all λa=>feq .f32 a 0
def Tm(n:Int):aY:=⟨List.replicate n.toNat 0,0⟩
def qT(k:Int):Int:=if k=1∨k=2 then 2 else if k=3∨k=5 then 1 else 3
def o6(k:Int):Int:=if k=1∨k=2 then 1 else 2
def used(l:List Nat)(n:Int):Bool:=(List.range l.length).all λi=>fin l[i]! && (decide ((i:Int)<n)||l[i]! == 0)
def cz.ok(f:cz):Bool:=inR f.Kind 1 5&&used f.C (qT f.Kind)&&used f.S (o6 f.Kind)
def cz.step(f:cz)(x:Nat):cz×Nat:=
 if f.Kind=1 then
  let y:=jW .f32 (eG .f32 f.C[0]! x) (eG .f32 f.C[1]! f.S[0]!)
  ({ f with S:=f.S.set 0 (kept y) },y)
 else if f.Kind=2 then
  let y:=jW .f32 (eG .f32 f.C[0]! x) (eG .f32 f.C[1]! f.S[0]!)
  ({ f with S:=f.S.set 0 (kept x) },y)
 else if f.Kind=3 then
  let y:=jW .f32 (eG .f32 f.C[0]! (hH .f32 x f.S[1]!)) f.S[0]!
  ({ f with S:=(f.S.set 0 (kept x)).set 1 (kept y) },y)
 else if f.Kind=4 then
  let y:=hH .f32 (hH .f32 (eG .f32 f.C[0]! x) (eG .f32 f.C[1]! f.S[0]!)) (eG .f32 f.C[2]! f.S[1]!)
  ({ f with S:=(f.S.set 0 (kept y)).set 1 (kept f.S[0]!) },y)
 else
  let y:=jW .f32 (hH .f32 x f.S[0]!) (eG .f32 f.C[0]! f.S[1]!)
  ({ f with S:=(f.S.set 0 (kept x)).set 1 (kept y) },y)
def cz.still(f:cz):Bool:=feq .f32 f.S[0]! 0&&feq .f32 f.S[1]! 0
def half:Nat:=1056964608
end Go.Sx
