/- Lemmas. -/
import Derived.Test.YthgnpepchedpbaaGreatDoorLk29
import Derived.Test.YthgnpepchedpbaaGreatDoorLm6
import Derived.Test.YthgnpepchedpbaaGreatDoorLp1
import Derived.Test.YthgnpepchedpbaaGreatDoorLp3
set_option linter.unusedVariables false
set_option linter.unusedSimpArgs false
namespace Go.Sx
open FloatKind (f32 f64)
open IntKind (i64)
def bK.step(x:bK)(a:Nat):bK×Nat:=
 let o:=x.Loop.old
 let t:=x.kS.step o
 let d:=x.fz.step t.2
 ({ x with Loop:=x.Loop.push (kept (jW .f32 (eG .f32 d.2 x.fT) a)),kS:=t.1,fz:=d.1 },o)
def bK.nK(x:bK):Bool:=x.Loop.zero&&x.kS.still&&x.fz.still
def yu(s d:Nat):Nat:=
 let w:=jW .f32 (Nb (eG .f32 s d)) 1061158912
 let v:=eG .f32 w w
 let f:=fdiv .f32 1065353216 (eG .f32 v v)
 if fgt .f32 f 1065353216 then 1065353216 else f
def iU.e(x:iU):cz×Nat:=x.fz.step x.aH.old
def iU.u(x:iU):Nat:=Q8 .f32 (eG .f32 x.fT x.e.2)
def iU.v(x:iU):Nat:=Q8 .f32 x.bT.old
def iU.d(x:iU)(a:Nat):Nat:=hH .f32 a (jW .f32 x.u x.v)
def iU.w(x:iU)(a:Nat):Nat:=eG .f32 (x.d a) (yu x.fX (x.d a))
def iU.step(x:iU)(a:Nat):iU×Nat:=
 ({ x with bT:=x.bT.push (kept (jW .f32 x.u (x.w a))),aH:=x.aH.push (kept (jW .f32 x.v (x.w a))),fz:=x.e.1 },x.aH.old)
def iU.nK(x:iU):Bool:=x.bT.zero&&x.aH.zero&&x.fz.still
def cp.nK(x:cp):Bool:=x.aW.all aY.zero&&x.Left.all aY.zero&&x.End.still
end Go.Sx
namespace Go.Sx
open FloatKind (f32 f64)
open IntKind (i64)
open Ieee
theorem Ep(d:Nat)(s t:Bool)(m n:Nat)(i j:Int)(h:n≠0):(Datum.number s m i).quotient d (.number t n j) =
  some (.number (s ^^ t) (2*(m <<< (d+n.log2-m.log2) / n)+(m <<< (d+n.log2-m.log2) % n != 0).toNat) (i-j-(d+n.log2-m.log2:Nat)-1)):=by
 unfold Datum.quotient
 simp only[if_neg h]
theorem SA{f:Format}{x y:Nat}{d:Datum}(h:(f.read x).quotient (f.fractionBits+2) (f.read y)=some d):f.div x y=some (f.write d):=by
 unfold Format.div
 rw[h];rfl
theorem DL(s:Bool){m:Nat}{p:Int}(h:m≠0)(hm:m<2 ^ 24)(h1:-100≤p)(h2:p≤100):
  f32.format.read (f32.format.nearest s m p) = .number s (m*2 ^ (23-m.log2)) (p+m.log2-23):=by
 obtain⟨e1,e2,e3,e4⟩:=oh
 have hl:m.log2≤23:=by
  have:=(Nat.log2_lt h (k:=24)).2 hm
  omega
 have Gi:p+m.log2-23=max (p+m.log2-f32.format.fractionBits) f32.format.leastPlace:=by rw[e1,e2];omega
 have ht:(p-(p+m.log2-23)).toNat=23-m.log2:=by omega
 have hk:m*2 ^ (23-m.log2)<2 ^ 24:=by
  have b2:2 ^ 24=2 ^ (m.log2+1)*2 ^ (23-m.log2):=by rw[← Nat.pow_add];congr 1;omega
  rw[b2]
  exact Nat.mul_lt_mul_of_pos_right Nat.lt_log2_self (Nat.two_pow_pos _)
 have:=(CA f32.format s h (by rw[e1];omega) (by rw[e2];omega) Gi (by
  rw[e2,e3,e4,ht]
  generalize m*2 ^ (23-m.log2)=q at hk
  have h4:(p+(m.log2:Int)-23 - -149).toNat≤250:=by omega
  generalize (p+(m.log2:Int)-23 - -149).toNat=z at h4
  omega)).1
 rw[ht] at this
 exact this
theorem MT{a b q:Int}(hq:0<q):compare (a*q) (b*q)=compare a b:=by
 rcases Int.lt_trichotomy a b with h | h | h
 ·rw[vy h,vy (Int.mul_lt_mul_of_pos_right h hq)]
 ·subst h;simp
 ·rw[vx h,vx (Int.mul_lt_mul_of_pos_right h hq)]
theorem Hh(s:Bool)(m u v:Nat):signed s m (u+v)=signed s m u*((2 ^ v:Nat):Int):=by
 cases s
 ·rw[eP,eP,Nat.pow_add,← Nat.mul_assoc];exact Int.natCast_mul _ _
 ·rw[jS,jS,Nat.pow_add,← Nat.mul_assoc,Int.neg_mul];exact congrArg Neg.neg (Int.natCast_mul _ _)
theorem oT(s t:Bool)(m n:Nat)(i j b:Int)(hi:b≤i)(hj:b≤j):(Datum.number s m i).order (.number t n j)=some (compare (signed s m (i-b).toNat) (signed t n (j-b).toNat)):=by
 rw[LO]
 congr 1
 rw[show(i-b).toNat=(i-min i j).toNat+(min i j-b).toNat by omega,show(j-b).toNat=(j-min i j).toNat+(min i j-b).toNat by omega,Hh,Hh]
 exact(MT (by exact_mod_cast Nat.two_pow_pos _)).symm
def VLE(m:Nat)(p j:Int):Prop:=m=0∨(p≤j∧m≤2 ^ (j-p).toNat)
def VGE(m:Nat)(p i:Int):Prop:=m≠0∧2 ^ (i-p).toNat≤m
theorem AK(Kl:Toward)(s:Bool)(n d:Nat):n / 2 ^ min d (n.log2+2)≤Kl.cut s n d∧Kl.cut s n d≤n / 2 ^ min d (n.log2+2)+1∧(n % 2 ^ min d (n.log2+2)=0->Kl.cut s n d=n / 2 ^ min d (n.log2+2)):=by
 unfold Toward.cut
 dsimp only
 rw[Nat.shiftLeft_eq,Nat.one_mul]
 have hp:=Nat.two_pow_pos (min d (n.log2+2))
 generalize 2 ^ min d (n.log2+2)=JF at hp
 refine⟨Nat.le_add_right _ _,Nat.add_le_add_left (Bool.toNat_le _) _,λh=>?_⟩
 rw[h]
 have h1:decide (JF<2*0)=false:=by simp
 have h2:(JF==2*0)=false:=by simp;omega
 cases Kl
 ·show n / JF+(decide (JF<2*0)||JF==2*0&&n / JF % 2==1).toNat=_
  rw[h1,h2];rfl
 ·cases s <;> rfl
 ·cases s <;> rfl
 ·rfl
theorem Gv(n:Nat):n<2 ^ (n.log2+2):=Nat.lt_of_lt_of_le Nat.lt_log2_self (Nat.pow_le_pow_right (by decide) (by omega))
theorem Q1(Kl:Toward)(s:Bool){n d X:Nat}(h:n≤X*2 ^ d):Kl.cut s n d≤X:=by
 obtain⟨h1,h2,h3⟩:=AK Kl s n d
 rcases Nat.le_total d (n.log2+2) with hd | hd
 ·rw[Nat.min_eq_left hd] at h1 h2 h3
  have hp:=Nat.two_pow_pos d
  generalize 2 ^ d=g at *
  by_cases hr:n % g=0
  ·rw[h3 hr]
   exact Nat.div_le_of_le_mul (by rw[Nat.mul_comm];exact h)
  ·have h4:=Nat.div_add_mod n g
   have h5:n / g<X:=by
    refine Nat.lt_of_mul_lt_mul_left (a:=g) ?_
    rw[Nat.mul_comm g X];omega
   omega
 ·rw[Nat.min_eq_right hd] at h1 h2 h3
  have h4:=Gv n
  rw[Nat.div_eq_of_lt h4] at h1 h2 h3
  rw[Nat.mod_eq_of_lt h4] at h3
  by_cases hn:n=0
  ·rw[h3 hn];exact Nat.zero_le _
  ·have:X≠0:=λe=>by subst e;omega
   omega
theorem Q0(Kl:Toward)(s:Bool){n d X:Nat}(h:X*2 ^ d≤n):X≤Kl.cut s n d:=by
 obtain⟨h1,h2,h3⟩:=AK Kl s n d
 rcases Nat.le_total d (n.log2+2) with hd | hd
 ·rw[Nat.min_eq_left hd] at h1
  exact Nat.le_trans ((Nat.le_div_iff_mul_le (Nat.two_pow_pos d)).2 h) h1
 ·have h4:=Gv n
  have h5:2 ^ (n.log2+2)≤2 ^ d:=Nat.pow_le_pow_right (by decide) hd
  have:X=0:=by
   cases X with
   | zero=>rfl
   | succ X=>rw[Nat.succ_mul] at h;omega
  omega
theorem AZ(f:Format)(s:Bool){k q:Nat}(hk:k<2*f.binade)(h:q=0∨f.binade≤k)(ho:q*f.binade+k<f.infRung):f.read (f.word s (q*f.binade+k)) = .number s k (f.leastPlace+q):=by
 have hbp:0<f.binade:=Nat.two_pow_pos _
 have Np:=f.infRung_lt
 have hw:(f.word s (q*f.binade+k)) % f.signWeight=q*f.binade+k:=by
  unfold Format.word
  split
  ·rw[Nat.add_mod_left,Nat.mod_eq_of_lt (by omega)]
  ·rw[Nat.mod_eq_of_lt (by omega)]
 have hn:(f.word s (q*f.binade+k) / f.signWeight % 2==1)=s:=by
  have hsw:0<f.signWeight:=Nat.two_pow_pos _
  unfold Format.word
  cases s
  ·simp only[Bool.false_eq_true,if_false]
   rw[Nat.div_eq_of_lt (by omega)];rfl
  ·simp only[if_true]
   rw[Nat.add_div_left _ hsw,Nat.div_eq_of_lt (by omega)];rfl
 unfold Format.read
 dsimp only
 rw[hw,hn]
 by_cases hb:f.binade≤k
 ·have h7:k / f.binade=1:=by rw[Nat.div_eq_iff hbp];omega
  have h5:(q*f.binade+k) / f.binade=q+1:=by
   rw[Nat.mul_comm,Nat.mul_add_div hbp,h7]
  have h6:(q*f.binade+k) % f.binade=k-f.binade:=by
   rw[Nat.mul_comm,Nat.mul_add_mod]
   have:=Nat.div_add_mod k f.binade
   rw[h7] at this;omega
  rw[if_neg (by omega),if_pos ho,h5,h6,show f.binade+(k-f.binade)=k by omega]
  congr 1
 ·rcases h with h | h
  ·subst h
   simp only[Nat.zero_mul,Nat.zero_add] at ho ⊢
   rw[if_pos (by omega)]
   simp
  ·omega
theorem Vg(f:Format)(s:Bool){k q:Nat}(hk:k≤2*f.binade)(h:q=0∨f.binade≤k)(ho:q*f.binade+k<f.infRung):
  ∃(m':Nat) (p':Int),f.read (f.word s (q*f.binade+k)) = .number s m' p'∧((m'=k∧p'=f.leastPlace+q∧k<2*f.binade)∨(k=2*f.binade∧m'=f.binade∧p'=f.leastPlace+q+1)):=by
 have hbp:0<f.binade:=Nat.two_pow_pos _
 by_cases hc:k=2*f.binade
 ·subst hc
  have e:q*f.binade+2*f.binade=(q+1)*f.binade+f.binade:=by rw[Nat.add_mul];omega
  rw[e] at ho ⊢
  exact⟨_,_,AZ f s (by omega) (.inr (Nat.le_refl _)) ho,.inr ⟨rfl,rfl,by push_cast;omega⟩⟩
 ·exact⟨_,_,AZ f s (by omega) h ho,.inl ⟨rfl,rfl,by omega⟩⟩
theorem nD(f:Format)(s:Bool){m:Nat}{p j:Int}(h0:m≠0)(hle:VLE m p j)(hj:f.leastPlace+f.fractionBits≤j)(ho:((j-f.fractionBits-f.leastPlace).toNat+3)*f.binade≤f.infRung):
  ∃(m':Nat) (p':Int),f.read (f.nearest s m p) = .number s m' p'∧VLE m' p' j∧m'<2*f.binade∧f.leastPlace≤p'∧p'≤j-f.fractionBits∧∀i,f.leastPlace+f.fractionBits≤i->VGE m p i->VGE m' p' i∧f.binade≤m':=by
 rcases hle with hle | ⟨hpj,hle⟩
 ·exact absurd hle h0
 have a1:m<2 ^ (m.log2+1):=Nat.lt_log2_self
 have a2:2 ^ m.log2≤m:=Nat.log2_self_le h0
 have hlj:m.log2≤(j-p).toNat:=by
  have h1:2 ^ m.log2≤2 ^ (j-p).toNat:=Nat.le_trans a2 hle
  exact(Nat.pow_le_pow_iff_right (by decide)).1 h1
 have hb:f.binade=2 ^ f.fractionBits:=rfl
 unfold Format.nearest
 rw[if_neg h0]
 dsimp only
 have Gi:∃last:Int,last=max (p+m.log2-f.fractionBits) f.leastPlace:=⟨_,rfl⟩
 obtain⟨last,hl⟩:=Gi
 rw[← hl,Nat.shiftLeft_eq]
 have avW:last≤j-f.fractionBits:=by omega
 generalize hF:f.fractionBits=F at *
 have Cw:∀{x y:Nat},x≤y->2 ^ x≤2 ^ y:=λh=>Nat.pow_le_pow_right (by decide) h
 have k1:Toward.even.cut s (m*2 ^ (p-last).toNat) (last-p).toNat≤2*f.binade:=by
  refine Q1 _ _ ?_
  rw[hb,show 2*2 ^ F=2 ^ (F+1) by rw[Nat.pow_succ];omega,← Nat.pow_add]
  refine Nat.le_trans (Nat.mul_le_mul_right _ (Nat.le_of_lt a1)) ?_
  rw[← Nat.pow_add]
  exact Cw (by omega)
 have k2:last=f.leastPlace∨f.binade≤Toward.even.cut s (m*2 ^ (p-last).toNat) (last-p).toNat:=by
  rcases Int.le_total (p+m.log2-F) f.leastPlace with h3 | h3
  ·exact .inl (by omega)
  ·refine .inr (Q0 _ _ ?_)
   rw[hb,← Nat.pow_add]
   refine Nat.le_trans ?_ (Nat.mul_le_mul_right _ a2)
   rw[← Nat.pow_add]
   exact Cw (by omega)
 have k3:Toward.even.cut s (m*2 ^ (p-last).toNat) (last-p).toNat≤2 ^ (j-last).toNat:=by
  refine Q1 _ _ ?_
  refine Nat.le_trans (Nat.mul_le_mul_right _ hle) ?_
  rw[← Nat.pow_add,← Nat.pow_add]
  exact Cw (by omega)
 have k4:∀i,f.leastPlace+F≤i->VGE m p i->2 ^ (i-last).toNat≤Toward.even.cut s (m*2 ^ (p-last).toNat) (last-p).toNat∧f.binade≤Toward.even.cut s (m*2 ^ (p-last).toNat) (last-p).toNat:=by
  intro i hi hv
  have hv2:(i-p).toNat≤m.log2:=by
   have h1:2 ^ (i-p).toNat<2 ^ (m.log2+1):=Nat.lt_of_le_of_lt hv.2 a1
   have:=(Nat.pow_lt_pow_iff_right (by decide:1<2)).1 h1
   omega
  have hB:f.binade≤Toward.even.cut s (m*2 ^ (p-last).toNat) (last-p).toNat:=by
   rcases k2 with k2 | k2
   ·refine Q0 _ _ ?_
    rw[hb]
    rcases Int.le_total p i with h4 | h4
    ·refine Nat.le_trans ?_ (Nat.mul_le_mul_right _ hv.2)
     rw[← Nat.pow_add,← Nat.pow_add]
     exact Cw (by omega)
    ·refine Nat.le_trans ?_ (Nat.mul_le_mul_right _ (show 1≤m by omega))
     rw[Nat.one_mul,← Nat.pow_add]
     exact Cw (by omega)
   ·exact k2
  refine⟨?_,hB⟩
  rcases Int.le_total last i with h3 | h3
  ·refine Q0 _ _ ?_
   rcases Int.le_total p i with h4 | h4
   ·refine Nat.le_trans ?_ (Nat.mul_le_mul_right _ hv.2)
    rw[← Nat.pow_add,← Nat.pow_add]
    exact Cw (by omega)
   ·refine Nat.le_trans ?_ (Nat.mul_le_mul_right _ (show 1≤m by omega))
    rw[Nat.one_mul,← Nat.pow_add]
    exact Cw (by omega)
  ·rw[show(i-last).toNat=0 by omega,Nat.pow_zero]
   exact Nat.le_trans (Nat.two_pow_pos _) hB
 generalize Toward.even.cut s (m*2 ^ (p-last).toNat) (last-p).toNat=k at *
 have hq:((last-f.leastPlace).toNat:Int)=last-f.leastPlace:=by omega
 have hbp:0<f.binade:=Nat.two_pow_pos _
 have qR:(last-f.leastPlace).toNat*f.binade+k<f.infRung:=by
  have h1:(last-f.leastPlace).toNat*f.binade≤(j-F-f.leastPlace).toNat*f.binade:=Nat.mul_le_mul_right _ (by omega)
  rw[Nat.add_mul] at ho
  omega
 rw[Nat.min_eq_left (Nat.le_of_lt qR)]
 obtain⟨m',p',hr,hc⟩:=Vg f s k1 (k2.imp (λh=>by omega) id) qR
 refine⟨m',p',hr,?_⟩
 rcases hc with⟨rfl,rfl,hc⟩ | ⟨rfl,rfl,rfl⟩
 ·rw[hq,show f.leastPlace+(last-f.leastPlace)=last by omega]
  exact⟨.inr ⟨by omega,k3⟩,hc,by omega,by omega,λi hi hv=>⟨⟨by have:=(k4 i hi hv).2;omega,(k4 i hi hv).1⟩,(k4 i hi hv).2⟩⟩
 ·rw[hq,show f.leastPlace+(last-f.leastPlace)+1=last+1 by omega]
  have hp2:2*f.binade=2 ^ (F+1):=by rw[hb,Nat.pow_succ];omega
  rw[hp2] at k3
  have h3:F+1≤(j-last).toNat:=(Nat.pow_le_pow_iff_right (by decide)).1 k3
  refine⟨.inr ⟨by omega,?_⟩,by omega,by omega,by omega,λi hi hv=>⟨⟨by omega,?_⟩,Nat.le_refl _⟩⟩
  ·rw[hb];exact Cw (by omega)
  ·have h4:=(k4 i hi hv).1
   rw[hp2] at h4
   have h5:(i-last).toNat≤F+1:=(Nat.pow_le_pow_iff_right (by decide)).1 h4
   rw[hb];exact Cw (by omega)
theorem AY:f64.format.read 4607182418800017408 = .number false (2 ^ 52) (-52):=by decide +kernel
theorem H5:f64.format.read 4611686018427387904 = .number false (2 ^ 52) (-51):=by decide +kernel
def ur(k:Int):Nat:=f64.format.nearest false 1 k
theorem rL{k:Int}(h1:-149≤k)(h2:k≤200):f64.format.read (ur k) = .number false (2 ^ 52) (k-52):=by
 have:=H4 false (m:=1) (by decide) (by decide) h1 h2
 rw[show(1:Nat).log2=0 by decide] at this
 unfold ur
 rw[this,Nat.one_mul]
 congr 1
 omega
theorem pT(f:Format)(s:Bool){m n:Nat}{p q:Int}(k:Nat)(h1:n=m*2 ^ k)(h2:q=p-k):f.nearest s n q=f.nearest s m p:=by
 subst h1 h2;exact Ar f s m p k
theorem YS{k:Int}(h1:-149≤k)(h2:k≤200):f64.format.mul (ur k) 4611686018427387904=some (ur (k+1)):=by
 rw[zA (by rw[rL h1 h2,H5,mJ])]
 exact congrArg some (pT _ _ 104 (by decide) (by omega))
theorem YR{k:Int}(h1:-149≤k)(h2:k≤200):f64.format.div (ur k) 4611686018427387904=some (ur (k-1)):=by
 rw[SA (by rw[rL h1 h2,H5,Ep _ _ _ _ _ _ _ (agx 52)])]
 refine congrArg some ?_
 show f64.format.nearest (false ^^ false) _ _=_
 have e1:f64.format.fractionBits=52:=rfl
 have e2:(2 ^ 52:Nat).log2=52:=by decide +kernel
 rw[e1,e2]
 exact pT _ _ 55 (by decide) (by omega)
theorem Yz{s m:Nat}{e k:Int}(hs:f64.format.read s = .number false m e)(h1:-149≤k)(h2:k≤200):f64.format.mul s (ur k)=some (f64.format.nearest false m (e+k)):=by
 rw[zA (by rw[rL h1 h2,hs,mJ])]
 exact congrArg some (pT _ _ 52 rfl (by omega))
def Up(k:FloatKind)(w:Nat)(j:Int):Prop:=∃(m:Nat) (p:Int),k.format.read w = .number false m p∧VLE m p j
def Btw(w:Nat)(i j:Int):Prop:=∃(m:Nat) (p:Int),f64.format.read w = .number false m p∧VLE m p j∧VGE m p i∧2 ^ 52≤m∧m<2 ^ 53
theorem Btw.up{w:Nat}{i j:Int}(h:Btw w i j):Up .f64 w j:=by obtain⟨m,p,h1,h2,_⟩:=h;exact⟨m,p,h1,h2⟩
theorem VLE.mono{m:Nat}{p i j:Int}(h:VLE m p i)(Uc:i≤j):VLE m p j:=by
 rcases h with h | ⟨h1,h2⟩
 ·exact .inl h
 ·exact .inr ⟨by omega,Nat.le_trans h2 (Nat.pow_le_pow_right (by decide) (by omega))⟩
theorem VLE.mul{m n:Nat}{p q i j:Int}(h:VLE m p i)(g:VLE n q j):VLE (m*n) (p+q) (i+j):=by
 rcases h with h | ⟨h1,h2⟩
 ·exact .inl (by rw[h,Nat.zero_mul])
 rcases g with g | ⟨g1,g2⟩
 ·exact .inl (by rw[g,Nat.mul_zero])
 refine .inr ⟨by omega,?_⟩
 have:=Nat.mul_le_mul h2 g2
 rwa [← Nat.pow_add,show(i-p).toNat+(j-q).toNat=(i+j-(p+q)).toNat by omega] at this
theorem Mi{m:Nat}{p j:Int}(h:VLE m p j)(h1:-1000≤j)(h2:j≤900):Up .f64 (f64.format.nearest false m p) j:=by
 obtain⟨e1,e2,e3,e4⟩:=rU
 by_cases h0:m=0
 ·subst h0
  rw[fv]
  exact⟨0,_,Mk false,.inl rfl⟩
 ·obtain⟨m',p',hr,hv,_⟩:=nD f64.format false h0 h (by rw[e1,e2];omega) (by
   rw[e1,e2,e3,e4]
   exact Nat.mul_le_mul_right _ (by omega))
  exact⟨m',p',hr,hv⟩
theorem up_mul{a b:Nat}{i j:Int}(ha:Up .f64 a i)(hb:Up .f64 b j)(h1:-1000≤i+j)(h2:i+j≤900):∃r,f64.format.mul a b=some r∧Up .f64 r (i+j):=by
 obtain⟨m,p,hr,hv⟩:=ha
 obtain⟨n,q,Mq,hv2⟩:=hb
 refine⟨_,zA (by rw[hr,Mq,mJ]),?_⟩
 exact Mi (hv.mul hv2) h1 h2
theorem abn{D n Z:Nat}(hn:0<n)(h:D≤Z*n):2*(D / n)+(D % n != 0).toNat≤2*Z:=by
 have h4:=Nat.div_add_mod D n
 by_cases hr:D % n=0
 ·have:D / n≤Z:=Nat.div_le_of_le_mul (by rw[Nat.mul_comm];exact h)
  rw[hr]
  show 2*(D / n)+0≤2*Z
  omega
 ·have h5:D / n<Z:=by
   refine Nat.lt_of_mul_lt_mul_left (a:=n) ?_
   rw[Nat.mul_comm n Z];omega
  have:=Bool.toNat_le (D % n != 0)
  omega
theorem up_div{a c n:Nat}{i k q:Int}(ha:Up .f64 a i)(hc:f64.format.read c = .number false n q)(hk:q≤k)(hn:2 ^ (k-q).toNat≤n)(h1:-1000≤i-k)(h2:i-k≤900):∃r,f64.format.div a c=some r∧Up .f64 r (i-k):=by
 obtain⟨m,p,hr,hv⟩:=ha
 have VG:n≠0:=Nat.ne_of_gt (Nat.lt_of_lt_of_le (Nat.two_pow_pos _) hn)
 refine⟨_,SA (by rw[hr,hc,Ep _ _ _ _ _ _ _ VG]),?_⟩
 have e1:f64.format.fractionBits=52:=rfl
 rw[e1]
 refine Mi ?_ h1 h2
 rcases hv with hv | ⟨g1,g2⟩
 ·left
  subst hv
  simp
 ·by_cases hm:m=0
  ·left;subst hm;simp
  have l1:m.log2≤(i-p).toNat:=(Nat.pow_le_pow_iff_right (by decide)).1 (Nat.le_trans (Nat.log2_self_le hm) g2)
  have l2:(k-q).toNat≤n.log2:=by
   have:2 ^ (k-q).toNat<2 ^ (n.log2+1):=Nat.lt_of_le_of_lt hn Nat.lt_log2_self
   have:=(Nat.pow_lt_pow_iff_right (by decide:1<2)).1 this
   omega
  have ajn:∃more:Nat,more=52+2+n.log2-m.log2:=⟨_,rfl⟩
  obtain⟨more,Fi⟩:=ajn
  rw[← Fi]
  refine .inr ⟨by omega,?_⟩
  have hX:(i-k-(p-q-more-1)).toNat=(i-p-(k-q)+more).toNat+1:=by omega
  rw[hX,Nat.pow_succ,Nat.mul_comm (2 ^ _) 2]
  refine abn (by omega) ?_
  rw[Nat.shiftLeft_eq]
  refine Nat.le_trans (Nat.mul_le_mul_right _ g2) (Nat.le_trans ?_ (Nat.mul_le_mul_left _ hn))
  rw[← Nat.pow_add,← Nat.pow_add]
  exact Nat.pow_le_pow_right (by decide) (by omega)
theorem one_add{v:Nat}{j:Int}(hv:Up .f64 v j)(h1:0≤j)(h2:j≤900):∃r,f64.format.add 4607182418800017408 v=some r∧Btw r 0 (j+1):=by
 obtain⟨m,p,hr,hv⟩:=hv
 obtain⟨e1,e2,e3,e4⟩:=rU
 have hb:∃b:Int,b=min (-52) p:=⟨_,rfl⟩
 obtain⟨b,hb⟩:=hb
 have hT:signed false (2 ^ 52) (-52-b).toNat+signed false m (p-b).toNat=((2 ^ 52*2 ^ (-52-b).toNat+m*2 ^ (p-b).toNat:Nat):Int):=by
  rw[eP,eP];exact(Int.natCast_add _ _).symm
 have ap2:2 ^ 52*2 ^ (-52-b).toNat=2 ^ (-b).toNat:=by rw[← Nat.pow_add];congr 1;omega
 rw[ap2] at hT
 have Dp:=Nat.two_pow_pos (-b).toNat
 have rf:(Datum.number false (2 ^ 52) (-52)).sum (.number false m p)=some (.number false (2 ^ (-b).toNat+m*2 ^ (p-b).toNat) b):=by
  show some (Datum.number _ _ _)=_
  rw[← hb,hT]
  have hT0:2 ^ (-b).toNat+m*2 ^ (p-b).toNat≠0:=by omega
  generalize 2 ^ (-b).toNat+m*2 ^ (p-b).toNat=T at hT0
  rw[if_neg (by omega),Int.natAbs_natCast,decide_eq_false (by omega)]
 have aoJ:f64.format.add 4607182418800017408 v=some (f64.format.nearest false (2 ^ (-b).toNat+m*2 ^ (p-b).toNat) b):=by
  unfold Format.add
  rw[AY,hr,rf];rfl
 refine⟨_,aoJ,?_⟩
 have hle:VLE (2 ^ (-b).toNat+m*2 ^ (p-b).toNat) b (j+1):=by
  refine .inr ⟨by omega,?_⟩
  have hz:(j+1-b).toNat=(j-b).toNat+1:=by omega
  rw[hz,Nat.pow_succ]
  have g1:2 ^ (-b).toNat≤2 ^ (j-b).toNat:=Nat.pow_le_pow_right (by decide) (by omega)
  have g2:m*2 ^ (p-b).toNat≤2 ^ (j-b).toNat:=by
   rcases hv with hv | ⟨k1,k2⟩
   ·rw[hv,Nat.zero_mul];exact Nat.zero_le _
   ·refine Nat.le_trans (Nat.mul_le_mul_right _ k2) ?_
    rw[← Nat.pow_add]
    exact Nat.pow_le_pow_right (by decide) (by omega)
  omega
 have hge:VGE (2 ^ (-b).toNat+m*2 ^ (p-b).toNat) b 0:=⟨by omega,by rw[show(0-b:Int).toNat=(-b).toNat by omega];omega⟩
 obtain⟨m',p',VJ,hv',qR,_,_,hi⟩:=nD f64.format false (by omega) hle (by rw[e1,e2];omega) (by
   rw[e1,e2,e3,e4]
   exact Nat.mul_le_mul_right _ (by omega))
 obtain⟨k1,k2⟩:=hi 0 (by rw[e1,e2];omega) hge
 rw[e3] at k2 qR
 exact⟨m',p',VJ,hv',k1,k2,by omega⟩
theorem Ff(n d:Nat):n / 2 ^ min d (n.log2+2)=n / 2 ^ d:=by
 rcases Nat.le_total d (n.log2+2) with hd | hd
 ·rw[Nat.min_eq_left hd]
 ·rw[Nat.min_eq_right hd,Nat.div_eq_of_lt (Gv n),Nat.div_eq_of_lt (Nat.lt_of_lt_of_le (Gv n) (Nat.pow_le_pow_right (by decide) hd))]
theorem FQ(n d:Nat):Toward.down.cut false n d=n / 2 ^ d:=by
 rw[← Ff]
 unfold Toward.cut
 dsimp only
 rw[Nat.shiftLeft_eq,Nat.one_mul]
 rfl
theorem E5(s:Bool)(n d:Nat):Toward.zero.cut s n d=n / 2 ^ d:=by
 rw[← Ff]
 unfold Toward.cut
 dsimp only
 rw[Nat.shiftLeft_eq,Nat.one_mul]
 rfl
theorem PZ(n d:Nat):n≤Toward.down.cut true n d*2 ^ d∧Toward.down.cut true n d*2 ^ d≤n+2 ^ d:=by
 obtain⟨h1,h2,h3⟩:=AK .down true n d
 have hpd:=Nat.two_pow_pos d
 by_cases hr:n % 2 ^ min d (n.log2+2)=0
 ·have h4:=h3 hr
  rw[Ff] at h4
  have h5:n % 2 ^ d=0:=by
   rcases Nat.le_total d (n.log2+2) with hd | hd
   ·rwa [Nat.min_eq_left hd] at hr
   ·rw[Nat.min_eq_right hd,Nat.mod_eq_of_lt (Gv n)] at hr
    rw[hr,Nat.zero_mod]
  have h6:=Nat.div_add_mod n (2 ^ d)
  rw[h4,Nat.mul_comm];omega
 ·have h4:Toward.down.cut true n d=n / 2 ^ d+1:=by
   rw[← Ff]
   unfold Toward.cut
   dsimp only
   rw[Nat.shiftLeft_eq,Nat.one_mul]
   have:(n % 2 ^ min d (n.log2+2) != 0)=true:=bne_iff_ne.2 hr
   rw[this];rfl
  have h6:=Nat.div_add_mod n (2 ^ d)
  have h7:=Nat.mod_lt n hpd
  rw[h4,Nat.add_mul,Nat.one_mul,Nat.mul_comm (n / 2 ^ d)]
  omega
end Go.Sx
