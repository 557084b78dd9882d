/- Lemmas. -/
import Derived.Test.YthhepeklpgefkaaGreatDoorLp1
import Derived.Test.YthhepeklpgefkaaGreatDoorLg
set_option linter.unusedVariables false
set_option linter.unusedSimpArgs false
namespace Go.Sx
open FloatKind (f32 f64)
open IntKind (i64)
open Ieee
section
variable {k:FloatKind}{x y a b r:Nat}
theorem FW.nan(h:FW k x a):Sx.nan k x=Sx.nan k a:=by rw[← h.1,JC]
theorem FW.self(h:FW k x a):cn k a=a:=by rw[← h.1,JU]
theorem FW.eq(h:FW k x a)(hn:Sx.nan k a=false):x=a:=by
 have:=h.nan
 rw[hn] at this
 rw[← h.1];unfold cn;rw[this];rfl
theorem apm(h:x<2 ^ k.format.width):FW k x (cn k x):=⟨rfl,h⟩
theorem afz(k:FloatKind):qn k<2 ^ k.format.width:=by cases k <;> decide +kernel
theorem FW.lt(h:FW k x a):a<2 ^ k.format.width:=by
 rw[← h.1];unfold cn;split
 ·exact afz k
 ·exact h.2
theorem Lq{op:Nat->Nat->Option Nat}(hl:∀x y,Sx.nan k x=true->op x y=none)(hr:∀x y,Sx.nan k y=true->op x y=none)(hx:FW k x a)(hy:FW k y b):op x y=op a b:=by
 have h1:=hx.nan
 have h2:=hy.nan
 cases e1:Sx.nan k a with
 | true=>rw[hl a b e1,hl x y (by rw[h1,e1])]
 | false=>
  cases e2:Sx.nan k b with
  | true=>rw[hr a b e2,hr x y (by rw[h2,e2])]
  | false=>rw[hx.eq e1,hy.eq e2]
theorem oM{k:FloatKind}{x:Nat}(h:Sx.nan k x=true):∃s t,k.format.read x = .nan s t:=by
 unfold Sx.nan at h
 cases e:k.format.read x <;> rw[e] at h <;> first | (cases h;done) | exact ⟨_,_,rfl⟩
theorem al0(x y:Nat)(h:Sx.nan k x=true):k.format.add x y=none:=by obtain⟨s,t,e⟩:=oM h;unfold Format.add;rw[e];rfl
theorem al1(x y:Nat)(h:Sx.nan k y=true):k.format.add x y=none:=by obtain⟨s,t,e⟩:=oM h;unfold Format.add;rw[e];cases k.format.read x <;> rfl
theorem ao4(x y:Nat)(h:Sx.nan k x=true):k.format.sub x y=none:=by obtain⟨s,t,e⟩:=oM h;unfold Format.sub;rw[e];rfl
theorem ao5(x y:Nat)(h:Sx.nan k y=true):k.format.sub x y=none:=by obtain⟨s,t,e⟩:=oM h;unfold Format.sub;rw[e];cases k.format.read x <;> rfl
theorem amr(x y:Nat)(h:Sx.nan k x=true):k.format.mul x y=none:=by obtain⟨s,t,e⟩:=oM h;unfold Format.mul;rw[e];rfl
theorem ams(x y:Nat)(h:Sx.nan k y=true):k.format.mul x y=none:=by obtain⟨s,t,e⟩:=oM h;unfold Format.mul;rw[e];cases k.format.read x <;> rfl
theorem alb(x y:Nat)(h:Sx.nan k x=true):k.format.div x y=none:=by obtain⟨s,t,e⟩:=oM h;unfold Format.div;rw[e];rfl
theorem ald(x y:Nat)(h:Sx.nan k y=true):k.format.div x y=none:=by obtain⟨s,t,e⟩:=oM h;unfold Format.div;rw[e];cases k.format.read x <;> rfl
def mF(k:FloatKind)(a b:Nat):Nat:=cn k ((k.format.add a b).getD (qn k))
def jC(k:FloatKind)(a b:Nat):Nat:=cn k ((k.format.sub a b).getD (qn k))
def fP(k:FloatKind)(a b:Nat):Nat:=cn k ((k.format.mul a b).getD (qn k))
def fdiv(k:FloatKind)(a b:Nat):Nat:=cn k ((k.format.div a b).getD (qn k))
theorem Jp{k:FloatKind}{o:Option Nat}{r:Nat}(h:IsF k o r)(ho:∀v,o=some v->v<2 ^ k.format.width):r<2 ^ k.format.width:=by
 cases o with
 | some v=>rw[show r=v from h];exact ho v rfl
 | none=>
  cases k with
  | f32=>
   obtain⟨t,rfl⟩:=(h:C7 .f32 r)
   show _<2 ^ 32
   have hs:t % 2=0∨t % 2=1:=by omega
   have hu:t / 2 % (2 ^ 23-1)<2 ^ 23-1:=Nat.mod_lt _ (by decide)
   generalize t / 2 % (2 ^ 23-1)=u at hu ⊢
   rcases hs with hs | hs <;> rw[hs] <;> omega
  | f64=>
   obtain⟨t,rfl⟩:=(h:C7 .f64 r)
   show _<2 ^ 64
   have hs:t % 2=0∨t % 2=1:=by omega
   have hu:t / 2 % (2 ^ 52-1)<2 ^ 52-1:=Nat.mod_lt _ (by decide)
   generalize t / 2 % (2 ^ 52-1)=u at hu ⊢
   rcases hs with hs | hs <;> rw[hs] <;> omega
theorem alk(hx:FW k x a)(hy:FW k y b)(h:IsF k (k.format.add x y) r):FW k r (mF k a b):=
 ⟨by rw[wI h,Lq al0 al1 hx hy];rfl,Jp h λv e=>k.format.add_lt e⟩
theorem alp(hx:FW k x a)(hy:FW k y b)(h:IsF k (k.format.sub x y) r):FW k r (jC k a b):=
 ⟨by rw[wI h,Lq ao4 ao5 hx hy];rfl,Jp h λv e=>k.format.sub_lt e⟩
theorem alo(hx:FW k x a)(hy:FW k y b)(h:IsF k (k.format.mul x y) r):FW k r (fP k a b):=
 ⟨by rw[wI h,Lq amr ams hx hy];rfl,Jp h λv e=>k.format.mul_lt e⟩
theorem alm(hx:FW k x a)(hy:FW k y b)(h:IsF k (k.format.div x y) r):FW k r (fdiv k a b):=
 ⟨by rw[wI h,Lq alb ald hx hy];rfl,Jp h λv e=>k.format.div_lt e⟩
theorem fA{F:Nat->Prop}(hx:FW k x a)(hy:FW k y b)(H:∀r,FW k r (mF k a b)->F r):FOP k (k.format.add x y) F:=λr h=>H r (alk hx hy h)
theorem fS{F:Nat->Prop}(hx:FW k x a)(hy:FW k y b)(H:∀r,FW k r (jC k a b)->F r):FOP k (k.format.sub x y) F:=λr h=>H r (alp hx hy h)
theorem fM{F:Nat->Prop}(hx:FW k x a)(hy:FW k y b)(H:∀r,FW k r (fP k a b)->F r):FOP k (k.format.mul x y) F:=λr h=>H r (alo hx hy h)
theorem fD{F:Nat->Prop}(hx:FW k x a)(hy:FW k y b)(H:∀r,FW k r (fdiv k a b)->F r):FOP k (k.format.div x y) F:=λr h=>H r (alm hx hy h)
theorem cY(hx:FW k x a)(hy:FW k y b):k.format.order x y=k.format.order a b:=by
 have h1:=hx.nan
 have h2:=hy.nan
 cases e1:Sx.nan k a with
 | true=>rw[ta e1,ta (by rw[h1,e1])]
 | false=>
  cases e2:Sx.nan k b with
  | true=>rw[CY e2,CY (by rw[h2,e2])]
  | false=>rw[hx.eq e1,hy.eq e2]
theorem are(c:Nat):Sx.nan .f32 c=decide (2139095040<c % 2147483648):=by
 unfold Sx.nan
 have e1:f32.format.signWeight=2147483648:=rfl
 have e2:f32.format.infRung=2139095040:=by decide +kernel
 have e3:f32.format.binade=8388608:=rfl
 rw[uw,e1,e2,e3,decide_eq_decide]
 omega
theorem arf(c:Nat):Sx.nan .f64 c=decide (9218868437227405312<c % 9223372036854775808):=by
 unfold Sx.nan
 have e1:f64.format.signWeight=9223372036854775808:=rfl
 have e2:f64.format.infRung=9218868437227405312:=by decide +kernel
 have e3:f64.format.binade=4503599627370496:=rfl
 rw[uw,e1,e2,e3,decide_eq_decide]
 omega
theorem fK{c:Nat}(h:c % 2147483648≤2139095040)(h2:c<4294967296):FW .f32 c c:=
 ⟨by unfold cn;rw[are,if_neg (by simpa using h)],h2⟩
theorem adu{c:Nat}(h:c % 9223372036854775808≤9218868437227405312)(h2:c<18446744073709551616):FW .f64 c c:=
 ⟨by unfold cn;rw[arf,if_neg (by simpa using h)],h2⟩
theorem dr(k:FloatKind)(n:Int):FW k (k.nearest n) (k.nearest n):=
 ⟨by unfold cn;rw[dW];rfl,by show k.format.nearest _ _ _<_;exact k.format.nearest_lt _ _ _⟩
def WN(k:FloatKind)(a:Nat):Nat:=cn k (Op.negFloat k a)
theorem Co{x y:Nat}(h:x % k.format.signWeight=y % k.format.signWeight):Sx.nan k x=Sx.nan k y:=by
 unfold Sx.nan
 rw[uw,uw,h]
theorem Zw(x:Nat):Op.negFloat k x % k.format.signWeight=x % k.format.signWeight:=by
 unfold Op.negFloat Format.signWeight
 rw[Nat.xor_mod_two_pow,Nat.mod_self,Nat.xor_zero]
theorem o3(hx:FW k x a):FW k (Op.negFloat k x) (WN k a):=by
 refine ⟨?_,?_⟩
 ·have h1:Sx.nan k (Op.negFloat k x)=Sx.nan k x:=Co (Zw x)
  have h2:Sx.nan k (Op.negFloat k a)=Sx.nan k a:=Co (Zw a)
  unfold WN cn
  rw[h1,h2,hx.nan]
  split
  ·rfl
  ·next h=>rw[hx.eq (by simpa using h)]
 ·unfold Op.negFloat
  refine Nat.xor_lt_two_pow hx.2 ?_
  exact Nat.pow_lt_pow_right (by decide) (by unfold Format.width;omega)
def wid(a:Nat):Nat:=cn .f64 (wide a)
theorem aaW{b r:Nat}(h:Oz .f32 b .f64 r):r<2 ^ f64.format.width:=by
 unfold Oz at h
 split at h
 ·exact Jp (k:=.f64) (o:=none) h (λv e=>by cases e)
 ·rw[h];exact f64.format.write_lt _
 ·split at h
  ·exact Nat.lt_trans h (show 2 ^ 32<2 ^ 64 by decide)
  ·rw[h];exact f64.format.write_lt _
theorem cK{F:Nat->Prop}(hx:FW .f32 x a)(H:∀r,FW .f64 r (wid a)->F r):FFC .f32 x .f64 F:=λr h=>
 H r ⟨by rw[aaX h,hx.1];rfl,aaW h⟩
def nar(a:Nat):Nat:=cn .f32 (if nan .f64 a then qn .f32 else f32.encode (f64.decode a))
def fits(a:Nat):Bool:=match f64.decode a with | .number n m e=>!(f32.decode (f32.encode (.number n m e))).isInfinity | _=>true
theorem aaV{s:FloatKind}{b r:Nat}(h:Oz s b .f32 r):r<2 ^ 32:=by
 unfold Oz at h
 split at h
 ·exact Jp (k:=.f32) (o:=none) h (λv e=>by cases e)
 ·rw[h];exact f32.format.write_lt _
 ·split at h
  ·exact h
  ·rw[h];exact f32.format.write_lt _
theorem Lj{F:Nat->Prop}(hx:FW .f64 x a)(hf:fits a=true)(H:∀r,FW .f32 r (nar a)->F r):FFC .f64 x .f32 F:=λr h=>by
 refine H r ⟨?_,aaV h⟩
 have hn:=hx.nan
 unfold Oz at h
 cases e:f64.decode x with
 | nan s t=>
  rw[e] at h
  have h1:nan .f64 x=true:=by unfold nan;rw[show f64.format.read x=_ from e];rfl
  rw[h1] at hn
  unfold nar
  rw[← hn,if_pos rfl]
  unfold cn
  rw[qi (k:=.f32) h,MR,if_pos rfl,if_pos rfl]
 | infinity s=>
  rw[e] at h
  have h1:nan .f64 x=false:=by unfold nan;rw[show f64.format.read x=_ from e];rfl
  have h2:=hx.eq (by rw[← hn,h1])
  subst h2
  unfold nar
  rw[if_neg (by rw[h1];decide),e,show r=_ from h]
 | number s m i=>
  rw[e] at h
  have h1:nan .f64 x=false:=by unfold nan;rw[show f64.format.read x=_ from e];rfl
  have h2:=hx.eq (by rw[← hn,h1])
  subst h2
  unfold fits at hf
  rw[e] at hf
  dsimp only at h hf
  rw[show (f32.decode (f32.encode (Datum.number s m i))).isInfinity=false by simpa using hf] at h
  unfold nar
  rw[if_neg (by rw[h1];decide),e,show r=_ by simpa using h]
end
theorem Cp(f:Format)(s:Bool){m:Nat}{p:Int}(h:m≠0)(hl:max (p+m.log2-f.fractionBits) f.leastPlace=p):
  f.nearest s m p=f.word s (min ((p-f.leastPlace).toNat*f.binade+m) f.infRung):=by
 unfold Format.nearest
 rw[if_neg h]
 dsimp only
 rw[hl]
 simp only[Int.sub_self,Int.toNat_zero,Nat.shiftLeft_zero,Dy]
theorem nu(f:Format)(r:Nat):f.word false r=r:=by unfold Format.word;simp
theorem al6{a m:Nat}{s:Bool}{e:Int}(h:f32.format.read a = .number s m e):f32.format.nearest false m e=a % 2 ^ 31∧(m=0->a % 2 ^ 31=0):=by
 obtain⟨e1,e2,e3,e4⟩:=tK
 have e5:f32.format.signWeight=2 ^ 31:=rfl
 unfold Format.read at h
 dsimp only at h
 rw[e5,e3,e4,e2] at h
 split at h
 ·next hr=>
  simp only[Datum.number.injEq] at h
  obtain⟨_,rfl,rfl⟩:=h
  refine ⟨?_,λh=>h⟩
  by_cases hz:a % 2 ^ 31=0
  ·rw[hz,gZ,nu]
  ·have hl:(a % 2 ^ 31).log2<23:=(Nat.log2_lt hz).2 hr
   rw[Cp _ _ hz (by rw[e1,e2];omega),e2,e3,e4,nu]
   simp only[Int.sub_self,Int.toNat_zero,Nat.zero_mul,Nat.zero_add]
   omega
 ·next hr=>
  split at h
  ·next TM=>
   simp only[Datum.number.injEq] at h
   obtain⟨_,rfl,rfl⟩:=h
   have hm:(2 ^ 23+a % 2 ^ 31 % 2 ^ 23).log2=23:=by
    have h1:=(Nat.log2_lt (n:=2 ^ 23+a % 2 ^ 31 % 2 ^ 23) (k:=24) (by omega)).2 (by omega)
    have h2:=(Nat.le_log2 (n:=2 ^ 23+a % 2 ^ 31 % 2 ^ 23) (k:=23) (by omega)).2 (by omega)
    omega
   refine ⟨?_,λh=>by omega⟩
   rw[Cp _ _ (by omega) (by rw[hm,e1,e2];omega),e2,e3,e4,nu]
   omega
  ·split at h <;> cases h
def Uk(a:Nat):Nat:=cn .f32 (a % 2 ^ 31)
theorem W7(f:Format)(s:Bool){r:Nat}(h:r<f.signWeight):f.word s r % f.signWeight=r:=by
 unfold Format.word
 split
 ·rw[Nat.add_mod_left,Nat.mod_eq_of_lt h]
 ·exact Nat.mod_eq_of_lt h
theorem aff(f:Format)(s:Bool)(m:Nat)(p:Int):f.nearest s m p % f.signWeight=f.nearest false m p:=by
 have key:∀r,r≤f.infRung->f.word s r % f.signWeight=f.word false r:=λr hr=>by
  rw[W7 f s (Nat.lt_of_le_of_lt hr f.infRung_lt),nu]
 unfold Format.nearest
 split
 ·exact key 0 (Nat.zero_le _)
 ·exact key _ (Nat.min_le_right _ _)
theorem adb{a:Nat}(h:nan .f32 a=false):nan .f64 (wide a % 2 ^ 63)=false∧f32.encode (f64.decode (wide a % 2 ^ 63))=a % 2 ^ 31∧fits (wide a % 2 ^ 63)=true:=by
 obtain⟨e1,e2,e3,e4⟩:=tK
 have w1:f64.format.signWeight=2 ^ 63:=rfl
 have w2:f32.format.signWeight=2 ^ 31:=rfl
 have hn:nan .f64 (wide a % 2 ^ 63)=nan .f64 (wide a):=Co (by rw[w1,Nat.mod_mod])
 rw[II h] at hn
 refine ⟨hn,?_⟩
 unfold wide
 cases e:f32.decode a with
 | nan s t=>unfold nan at h;rw[show f32.format.read a=_ from e] at h;cases h
 | infinity s=>
  have h1:f64.encode (Datum.infinity s) % 2 ^ 63=f64.format.word false f64.format.infRung:=by
   rw[← w1];exact W7 _ _ f64.format.infRung_lt
  rw[h1,show f64.decode (f64.format.word false f64.format.infRung) = .infinity false from ajZ false]
  have h2:a % 2 ^ 31=f32.format.infRung:=by
   have e':f32.format.read a = .infinity s:=e
   unfold Format.read at e'
   dsimp only at e'
   rw[w2] at e'
   split at e'
   ·cases e'
   ·split at e'
    ·cases e'
    ·split at e'
     ·next h3=>exact h3
     ·cases e'
  refine ⟨by rw[h2];show f32.format.word false f32.format.infRung=_;exact nu _ _,?_⟩
  unfold fits
  rw[show f64.decode (f64.format.word false f64.format.infRung) = .infinity false from ajZ false]
 | number s m i=>
  have e':f32.format.read a = .number s m i:=e
  obtain⟨h1,h2,h3⟩:=hU a e
  obtain⟨b1,b2⟩:=al6 e'
  have h4:f64.encode (Datum.number s m i) % 2 ^ 63=f64.format.nearest false m i:=by
   rw[← w1];exact aff _ _ _ _
  rw[h4]
  have key:∃m' i',f64.decode (f64.format.nearest false m i) = .number false m' i'∧f32.format.nearest false m' i'=a % 2 ^ 31:=by
   by_cases hz:m=0
   ·subst hz
    refine ⟨0,-1074,?_,?_⟩
    ·rw[gZ];exact TC false
    ·rw[gZ,b2 rfl,nu]
   ·refine ⟨_,_,Nt false hz h1 h2 (by omega),?_⟩
    rw[← b1]
    have hl:m.log2≤23:=by
     have:=(Nat.log2_lt hz (k:=24)).2 h1
     omega
    have:=G1 f32.format false m i (52-m.log2)
    rw[show i+(m.log2:Int)-52=i-((52-m.log2:Nat):Int) by omega]
    exact this
  obtain⟨m',i',k1,k2⟩:=key
  have k3:f32.encode (Datum.number false m' i')=a % 2 ^ 31:=k2
  refine ⟨by rw[k1,k3],?_⟩
  unfold fits
  rw[k1]
  dsimp only
  rw[k3]
  have k4:f32.decode (a % 2 ^ 31) = .number false m i∨∃x,f32.decode (a % 2 ^ 31)=x∧x.isInfinity=false:=by
   right
   refine ⟨_,rfl,?_⟩
   have e6:f32.format.read a = .number s m i:=e
   show (f32.format.read (a % 2 ^ 31)).isInfinity=false
   unfold Format.read at e6 ⊢
   dsimp only at e6 ⊢
   rw[w2] at e6 ⊢
   rw[Nat.mod_mod]
   split at e6
   ·next g1=>rw[if_pos g1];rfl
   ·next g1=>
    split at e6
    ·next g2=>rw[if_neg g1,if_pos g2];rfl
    ·split at e6 <;> cases e6
  rcases k4 with k4 | ⟨x,k4,k5⟩
  ·rw[k4];rfl
  ·rw[k4,k5];rfl
theorem ada(a:Nat)(ha:cn .f32 a=a):fits (cn .f64 (wid a % 2 ^ 63))=true∧nar (cn .f64 (wid a % 2 ^ 63))=Uk a:=by
 cases h:nan .f32 a with
 | true=>
  have h0:a=qn .f32:=by rw[← ha];unfold cn;rw[h];rfl
  subst h0
  decide +kernel
 | false=>
  obtain⟨h1,h2,h3⟩:=adb h
  have h4:wid a=wide a:=by unfold wid cn;rw[II h];rfl
  have h5:cn .f64 (wide a % 2 ^ 63)=wide a % 2 ^ 63:=by unfold cn;rw[h1];rfl
  rw[h4,h5]
  refine ⟨h3,?_⟩
  unfold nar Uk
  rw[h1,h2];rfl
end Go.Sx
namespace Go.Sx
open FloatKind (f32 f64)
open IntKind (i64)
def flt(k:FloatKind)(a b:Nat):Bool:=k.format.order a b==some .lt
def fgt(k:FloatKind)(a b:Nat):Bool:=k.format.order a b==some .gt
def fle(k:FloatKind)(a b:Nat):Bool:=k.format.order a b==some .lt||k.format.order a b==some .eq
def fge(k:FloatKind)(a b:Nat):Bool:=k.format.order a b==some .gt||k.format.order a b==some .eq
def feq(k:FloatKind)(a b:Nat):Bool:=k.format.order a b==some .eq
def inR(n low high:Int):Bool:=decide (low≤n)&&decide (n≤high)
def fin(a:Nat):Bool:=feq .f32 (jC .f32 a a) 0
def flush(a:Nat):Nat:=if flt .f32 (Uk a) 8388608 then 0 else a
def kept(a:Nat):Nat:=if fin a then flush a else 0
def bc.len(r:bc):Int:=r.af.length
def bc.ok(r:bc):Bool:=inR r.len 1 1024&&inR r.At 0 (r.len-1)
def bc.old(r:bc):Nat:=r.af[r.At.toNat]!
def bc.push(r:bc)(a:Nat):bc:=⟨r.af.set r.At.toNat a,(r.At+1) % r.len⟩
def bc.back(r:bc)(k:Int):Nat:=r.af[((r.At-k+r.len) % r.len).toNat]!
def oq(l:List Nat):Bool:=l.all fin
def bc.okf(r:bc):Bool:=r.ok&&oq r.af
def bc.zero(r:bc):Bool:=r.af.all λa=>feq .f32 a 0
def ZU(n:Int):bc:=⟨List.replicate n.toNat 0,0⟩
def wD(k:Int):Int:=if k=1∨k=2 then 2 else if k=3∨k=5 then 1 else 3
def tE(k:Int):Int:=if k=1∨k=2 then 1 else 2
def used(l:List Nat)(n:Int):Bool:=(List.range l.length).all λi=>fin l[i]! && (decide ((i:Int)<n)||l[i]! == 0)
def cN.ok(f:cN):Bool:=inR f.Kind 1 5&&used f.C (wD f.Kind)&&used f.S (tE f.Kind)
def cN.step(f:cN)(x:Nat):cN×Nat:=
 if f.Kind=1 then
  let y:=mF .f32 (fP .f32 f.C[0]! x) (fP .f32 f.C[1]! f.S[0]!)
  ({ f with S:=f.S.set 0 (kept y) },y)
 else if f.Kind=2 then
  let y:=mF .f32 (fP .f32 f.C[0]! x) (fP .f32 f.C[1]! f.S[0]!)
  ({ f with S:=f.S.set 0 (kept x) },y)
 else if f.Kind=3 then
  let y:=mF .f32 (fP .f32 f.C[0]! (jC .f32 x f.S[1]!)) f.S[0]!
  ({ f with S:=(f.S.set 0 (kept x)).set 1 (kept y) },y)
 else if f.Kind=4 then
  let y:=jC .f32 (jC .f32 (fP .f32 f.C[0]! x) (fP .f32 f.C[1]! f.S[0]!)) (fP .f32 f.C[2]! f.S[1]!)
  ({ f with S:=(f.S.set 0 (kept y)).set 1 (kept f.S[0]!) },y)
 else
  let y:=mF .f32 (jC .f32 x f.S[0]!) (fP .f32 f.C[0]! f.S[1]!)
  ({ f with S:=(f.S.set 0 (kept x)).set 1 (kept y) },y)
def cN.still(f:cN):Bool:=feq .f32 f.S[0]! 0&&feq .f32 f.S[1]! 0
def half:Nat:=1056964608
end Go.Sx
