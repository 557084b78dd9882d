/- Lemmas. -/
import Derived.Test.YthgnpepchedpbaaGreatDoorK8
import Derived.Test.YthgnpepchedpbaaGreatDoorLk29
import Derived.Test.YthgnpepchedpbaaGreatDoorLg
import Derived.Test.YthgnpepchedpbaaGreatDoorLk0b
import Derived.Test.YthgnpepchedpbaaGreatDoorTabE
import Derived.Test.YthgnpepchedpbaaGreatDoorTab
import Derived.Test.YthgnpepchedpbaaGreatDoorLk4
set_option linter.unusedVariables false
set_option linter.unusedSimpArgs false
namespace Go.Sx
open Go.Proofs Ieee
set_option maxRecDepth 100000
set_option maxHeartbeats 1000000
theorem aid{k:FloatKind}{x:Nat}(h:x<2 ^ k.format.width):cn k x<2 ^ k.format.width:=by
 unfold cn
 split
 ·exact Z0 k
 ·exact h
theorem aaw(k:FloatKind)(a b:Nat):FW k (eG k a b) (eG k a b):=by
 refine⟨E4 _ _,aid ?_⟩
 cases e:k.format.mul a b with
 | none=>exact Z0 k
 | some v=>exact k.format.mul_lt e
theorem T0{k:FloatKind}{s:Bool}{m m':Nat}{p p':Int}(h:k.format.read (k.format.nearest s m p) = .number s m' p'):FW k (k.format.nearest s m p) (k.format.nearest s m p):=⟨kJ h,k.format.write_lt (.number s m p)⟩
theorem ac6{k:Int}(h1:-149≤k)(h2:k≤200):FW .f64 (ur k) (ur k):=T0 (rL h1 h2)
theorem Q7{w:Nat}(h:nan .f64 (flr w)=false):FW .f64 (flr w) (flr w):=by
 refine⟨?_,FloatKind.f64.format.write_lt _⟩
 unfold cn;rw[h,if_neg (by decide)]
theorem ah4:∀j,j<14->Yx.take (j+1)=Yx.take j++[14-j]:=by decide
theorem Vr(y s:Nat)(l:List Nat)(m:Nat):Pg y s (l++[m])=jW .f64 4607182418800017408 (eG .f64 (fdiv .f64 y (FloatKind.f64.nearest ((m:Nat):Int))) (Pg y s l)):=by
 simp only[Pg,List.foldl_append,List.foldl_cons,List.foldl_nil]
theorem Wy:FW .f64 4607182418800017408 4607182418800017408:=WM (by decide) (by decide)
theorem ad2:FW .f64 4604418534313441775 4604418534313441775:=WM (by decide) (by decide)
theorem ad3:FW .f32 3270508544 3270508544:=eM (by decide) (by decide)
theorem ad4:FW .f32 1123024896 1123024896:=eM (by decide) (by decide)
abbrev S2:=Nat×Nat×Nat×Int
section
variable {h:ab}{x a:Nat}
theorem Pj{B:(S2->ab->Prop)->S2->ab->Prop}{k4 y5:Nat}(hy:FW .f64 y5 (Sf a))(step:∀(N:S2->ab->Prop) (s:Nat) (m:Int),1≤m->m≤14->(FOP .f64 (FloatKind.f64.format.div y5 (FloatKind.f64.nearest m)) λr8=>FOP .f64 (FloatKind.f64.format.mul r8 s) λr9=>FOP .f64 (FloatKind.f64.format.add 4607182418800017408 r9) λxA=>N (k4,y5,xA,IntKind.i64.wrap (m-1)) h)->B N (k4,y5,s,m) h)(last:∀(N:S2->ab->Prop) (s:Nat),FW .f64 s (HD a)->B N (k4,y5,s,0) h):bk B (k4,y5,4607182418800017408,(14:Int)) h:=by
 refine loop (λx hh=>∃(j s:Nat),x=(k4,y5,s,((14-j:Nat):Int))∧j≤14∧FW .f64 s (Pg (Sf a) 4607182418800017408 (Yx.take j))∧hh=h) (λx=>x.2.2.2.toNat) ⟨0,_,rfl,by omega,Wy,rfl⟩ ?_
 rintro x hh ⟨j,s,rfl,hj,hs,rfl⟩
 by_cases e:j=14
 ·subst e
  exact last _ s hs
 ·refine step _ s _ (by omega) (by omega) (fD hy (cK .f64 _) λr hr=>fM hr hs λr2 Mq=>fA Wy Mq λr3 hr3=>?_)
  refine⟨⟨j+1,r3,by rw[wrap64 (by omega) (by omega)];congr 3;omega,by omega,?_,rfl⟩,by rw[wrap64 (by omega) (by omega)];show(((14-j:Nat):Int)-1).toNat<((14-j:Nat):Int).toNat;omega⟩
  rw[ah4 j (by omega),Vr]
  exact hr3
theorem XI(hx:FW .f32 x a):af ak 309 #[.float .f32 x] (λu h'=>(∃y,u = .tuple ⟨[.float .f32 y,.bool (kC a)]⟩∧FW .f32 y (if kC a then HE a else 0))∧Ext h h') h:=by
 refine dG.call ?_
 unfold dG.S
 rw[cw hx ad3,cw hx ad4]
 have no:∀{b:Bool},kC a=b->b=false->((∃y,Value.tuple ⟨[.float .f32 0,.bool false]⟩ = .tuple ⟨[.float .f32 y,.bool (kC a)]⟩∧FW .f32 y (if kC a then HE a else 0))∧Ext h h):=λe1 e2=>by
  subst e1;rw[e2];exact⟨⟨0,rfl,fw0⟩,Ext.refl _⟩
 refine br (λk1=>brN (λk2=>no (by rw[kC,inside,fge,fle,k1,k2];rfl) rfl) λk2=>?_) λk1=>no (by rw[kC,inside,fge,k1];rfl) rfl
 have zq:kC a=true:=by rw[kC,inside,fge,fle,k1,k2];rfl
 obtain⟨f1,f2,f3,f4,f5,f6,f7⟩:=zJ zq
 rw[zq,if_pos rfl]
 have fin:∀{hh:ab}{y:Nat},FW .f32 y (nar (eG .f64 (HD a) (ur (Bv a))))->Ext h hh->((∃y',Value.tuple ⟨[.float .f32 y,.bool true]⟩ = .tuple ⟨[.float .f32 y',.bool true]⟩∧FW .f32 y' (HE a))∧Ext h hh):=λhy X=>⟨⟨_,rfl,hy⟩,X⟩
 unfold dG.J3
 refine cg hx λr1 hr1=>?_
 obtain rfl:=hr1.eq f4
 refine goX (zh f4 h) λh2 x2=>cW (cg hx λr5 hr5=>fS hr5 (Q7 f5) λr6 hr6=>fM hr6 ad2 λr7 hr7=>?_)
 refine Pj (a:=a) hr7 (λN s m m1 m2 H=>brd (λ_=>H) λhc=>by omega) λN s hs=>?_
 unfold dG.B7
 refine brd (λhc=>by omega) λ_=>?_
 refine Nc f1 (by omega) (by omega) ((Qt (by omega) (by omega)).go λh3 x3=>cW ?_)
 refine fM hs (ac6 (by omega) (by omega)) λr8 hr8=>?_
 refine Fg hr8 f7 λr9 hr9=>?_
 exact fin hr9 (x2.trans x3)
theorem aa7(hx:FW .f32 x a):af ak 318 #[.float .f32 x] (λu h'=>(∃y,u = .tuple ⟨[.float .f32 y,.int .i64 (if kC a then 0 else 2)]⟩∧FW .f32 y (if kC a then HE a else 0))∧Ext h h') h:=by
 refine ib.call (goX (jO hx ad3 ad4 h) λh1 x1=>bt (brN (λk=>?_) λk=>?_))
 ·have zq:kC a=false:=k
  rw[zq];exact⟨⟨0,rfl,fw0⟩,x1⟩
 have zq:kC a=true:=k
 obtain⟨f1,f2,f3,f4,f5,f6,f7⟩:=zJ zq
 rw[zq,if_pos rfl,if_pos rfl]
 have fin:∀{hh:ab}{y:Nat},FW .f32 y (nar (eG .f64 (HD a) (ur (Bv a))))->Ext h hh->((∃y',Value.tuple ⟨[.float .f32 y,.int .i64 (0:Int)]⟩ = .tuple ⟨[.float .f32 y',.int .i64 (0:Int)]⟩∧FW .f32 y' (HE a))∧Ext h hh):=λhy X=>⟨⟨_,rfl,hy⟩,X⟩
 refine cg hx λr1 hr1=>?_
 obtain rfl:=hr1.eq f4
 refine goX (zh f4 h1) λh2 x2=>cW (cg hx λr5 hr5=>fS hr5 (Q7 f5) λr6 hr6=>fM hr6 ad2 λr7 hr7=>?_)
 refine Pj (a:=a) hr7 (λN s m m1 m2 H=>brd (λ_=>H) λhc=>by omega) λN s hs=>?_
 unfold ib.B7
 refine brd (λhc=>by omega) λ_=>?_
 obtain⟨mm,ee,hrd,_⟩:=f6
 have CY:nan .f64 (HD a)=false:=by unfold Sx.nan;rw[hrd];rfl
 have hse:=hs.eq CY
 subst hse
 obtain⟨f1,f2,f3,f4,f5,f6,f7⟩:=zJ zq
 refine Nc f1 (by omega) (by omega) ((aa4 f6 hs.2 (by omega) (by omega)).go λh3 x3=>cW ?_)
 refine Fg (aaw _ _ _) f7 λr9 hr9=>?_
 exact fin hr9 (x1.trans (x2.trans x3))
end
theorem Dg{k n:Int}(hn:0<n):(Int.tmod k n<0->Int.tdiv k n-1=k / n)∧(¬Int.tmod k n<0->Int.tdiv k n=k / n)∧-n<Int.tmod k n∧Int.tmod k n<n∧(Int.tmod k n=k % n∨Int.tmod k n=k % n-n):=by
 rcases Int.lt_or_le k 0 with h | h
 ·obtain⟨j,rfl⟩:∃j,k = -j:=⟨-k,by omega⟩
  rw[Int.neg_tmod,Int.neg_tdiv,Int.tmod_eq_emod_of_nonneg (by omega),Int.tdiv_eq_ediv_of_nonneg (by omega)]
  have h1:=Int.emod_nonneg j (show n≠0 by omega)
  have h2:=Int.emod_lt_of_pos j hn
  have h3:=Int.emod_add_mul_ediv j n
  by_cases h0:j % n=0
  ·have:=(Int.ediv_emod_unique hn (a:=-j) (r:=0) (q:=-(j / n))).2 ⟨by rw[Int.mul_neg];omega,by omega,hn⟩
   rw[this.1,this.2]
   omega
  ·have:=(Int.ediv_emod_unique hn (a:=-j) (r:=n-j % n) (q:=-(j / n)-1)).2 ⟨by rw[Int.mul_sub,Int.mul_neg];omega,by omega,by omega⟩
   rw[this.1,this.2]
   omega
 ·rw[Int.tmod_eq_emod_of_nonneg h,Int.tdiv_eq_ediv_of_nonneg h]
  have h1:=Int.emod_nonneg k (show n≠0 by omega)
  have h2:=Int.emod_lt_of_pos k hn
  omega
theorem Zp{k n:Int}(hn:0<n):Int.tmod (Int.tmod k n+n) n=k % n:=by
 obtain⟨_,_,h1,h2,h3⟩:=Dg (k:=k) hn
 rw[Int.tmod_eq_emod_of_nonneg (by omega)]
 rcases h3 with h3 | h3
 ·rw[h3,Int.add_emod_right,Int.emod_emod_of_dvd _ (Int.dvd_refl n)]
 ·rw[h3,Int.sub_add_cancel,Int.emod_emod_of_dvd _ (Int.dvd_refl n)]
theorem Zm{k n:Int}(hn:0<n):Int.tdiv (k-k % n) n=k / n:=by
 have h3:=Int.emod_add_mul_ediv k n
 rw[show k-k % n=n*(k / n) by omega,Int.mul_tdiv_cancel_left _ (by omega)]
theorem FR{k n:Int}(hn:0<n)(h1:-100≤k)(h2:k≤100):-101≤k / n∧k / n≤100:=by
 constructor
 ·exact(Int.le_ediv_iff_mul_le hn).2 (by omega)
 ·have:=(Int.ediv_lt_iff_lt_mul hn (a:=k) (b:=101)).2 (by omega)
  omega
def bC.Sd(t:bC)(key:Int):Nat:=fdiv .f32 (t.zl key) 1150681088
def bC.hz(t:bC)(key:Int):Nat:=eG .f32 t.xH (HE (t.Sd key))
def bC.asked(t:bC)(key:Int):Nat×Int:=if t.ok then if inR key (-100) 100 then if kC (t.Sd key) then(t.hz key,0) else(0,2) else(0,2) else(0,1)
def bC.period(t:bC)(key:Int)(H2:Nat):Nat×Int:=if(t.asked key).2=0 then if inside H2 1065353216 1232348160 then(fdiv .f32 H2 (t.asked key).1,0) else(0,2) else(0,(t.asked key).2)
def FI(u:Value)(f:Nat)(n:Int):Prop:=∃y,u = .tuple ⟨[.float .f32 y,.int .i64 n]⟩∧FW .f32 y f
theorem goF{P:Program}{f:FuncId}{args:Array Value}{a:Nat}{h:ab}{K:Value->ab->Prop}(c:af P f args (λu h'=>(∃y,u = .float .f32 y∧FW .f32 y a)∧Ext h h') h)(H:∀h' y,Ext h h'->FW .f32 y a->K (.float .f32 y) h'):af P f args K h:=
 c.mono λu h' ⟨⟨y,e,hy⟩,x⟩=>by subst e;exact H h' y x hy
theorem aaG{P:Program}{f:FuncId}{args:Array Value}{a:Nat}{n:Int}{h:ab}{K:Value->ab->Prop}(c:af P f args (λu h'=>FI u a n∧Ext h h') h)(H:∀h' y,Ext h h'->FW .f32 y a->K (.tuple ⟨[.float .f32 y,.int .i64 n]⟩) h'):af P f args K h:=
 c.mono λu h' ⟨⟨y,e,hy⟩,x⟩=>by subst e;exact H h' y x hy
theorem ad1:FW .f32 1150681088 1150681088:=eM (by decide) (by decide)
theorem Sz{t:bC}(h:t.ok=true):1≤t.bG.length∧t.bG.length≤31:=by
 unfold bC.ok at h
 simp only[Bool.and_eq_true,inR,decide_eq_true_eq] at h
 omega
theorem XD{k:Int}(h:inR k (-100) 100=true):-100≤k∧k≤100:=by
 simpa only[inR,Bool.and_eq_true,decide_eq_true_eq] using h
theorem div_mul{k n:Int}:k-k / n*n=k % n:=by
 have:=Int.emod_add_mul_ediv k n
 rw[Int.mul_comm n] at this
 omega
section
variable {h:ab}{x a:Nat}
theorem IG{q:Addr}{t:bC}{key:Int}(R:RdP dD h q t)(zT:t.ok=true)(hk:inR key (-100) 100=true):af ak 310 #[.pointer (some q),.int .i64 key] (λu h'=>(∃y,u = .float .f32 y∧FW .f32 y (t.zl key))∧Ext h h') h:=by
 obtain⟨n1,n2⟩:=Sz zT
 obtain⟨k1,k2⟩:=XD hk
 have hn:(0:Int)<t.bG.length:=by omega
 obtain⟨d1,d2,d3,d4,d5⟩:=Dg (k:=key) hn
 obtain⟨b1,b2⟩:=FR hn k1 k2
 have m1:=Int.emod_nonneg key (show(t.bG.length:Int)≠0 by omega)
 have m2:=Int.emod_lt_of_pos key hn
 have dm:=div_mul (k:=key) (n:=(t.bG.length:Int))
 have ajF:ep.J5 (λu h'=>(∃y,u = .float .f32 y∧FW .f32 y (t.zl key))∧Ext h h') q key (t.bG.length:Int) (key / (t.bG.length:Int)) h:=by
  unfold ep.J5
  refine R.oF λr4 h4=>R.oL λb l c S=>?_
  have hl:=S.len
  rw[wrap64 (n:=key / (t.bG.length:Int)*(t.bG.length:Int)) (by omega) (by omega),dm,wrap64 (n:=key % (t.bG.length:Int)) (by omega) (by omega)]
  refine S.idx (by decide) m1 (by omega) λp Rp=>Rp.oF1 λr7 h7=>fM h4 (cK .f32 _) λr8 h8=>dT (dT (fA h8 h7 λr9 h9=>⟨⟨r9,rfl,h9⟩,Ext.refl _⟩))
 refine ep.call (R.oL λb l c S=>?_)
 have hl:=S.len
 rw[← hl]
 refine nz (by omega) (nz (by omega) (brd (λhc=>?_) λhc=>?_))
 ·rw[wrap64 (n:=Int.tdiv key (t.bG.length:Int)) (by have:=d1 hc;omega) (by have:=d1 hc;omega),d1 hc,wrap64 (n:=key / (t.bG.length:Int)) (by omega) (by omega)]
  exact ajF
 ·rw[d2 hc,wrap64 (n:=key / (t.bG.length:Int)) (by omega) (by omega)]
  exact ajF
theorem aar{cs:Array Value}{t:bC}{key:Int}(R0:dD.rd h cs.toList t)(zT:t.ok=true)(hk:inR key (-100) 100=true):af ak 319 #[.agg cs,.int .i64 key] (λu h'=>(∃y,u = .float .f32 y∧FW .f32 y (t.zl key))∧Ext h h') h:=by
 obtain⟨n1,n2⟩:=Sz zT
 obtain⟨k1,k2⟩:=XD hk
 have hn:(0:Int)<t.bG.length:=by omega
 obtain⟨d1,d2,d3,d4,d5⟩:=Dg (k:=key) hn
 obtain⟨b1,b2⟩:=FR hn k1 k2
 have m1:=Int.emod_nonneg key (show(t.bG.length:Int)≠0 by omega)
 have m2:=Int.emod_lt_of_pos key hn
 refine nk.call (gD R0 λg1 h1 x1 R=>R.oL2 λb l c S=>goX (iK b l c h1) λh2 x2=>cN ?_)
 have R2:=R.ext x2
 have hl:=S.len
 rw[← hl]
 have X:=x1.trans x2
 refine nz (by omega) (nz (by omega) (R2.oF2 λr7 h7=>nz (by omega) (R2.oL2 λb2 l2 c2 S2=>?_)))
 have hl2:=S2.len
 rw[wrap64 (n:=Int.tmod key (t.bG.length:Int)+(t.bG.length:Int)) (by omega) (by omega),Zp hn,wrap64 (n:=key-key % (t.bG.length:Int)) (by omega) (by omega),Zm hn,wrap64 (n:=key / (t.bG.length:Int)) (by omega) (by omega)]
 refine S2.idx (by decide) m1 (by omega) λp Rp=>Rp.oF1 λxA gv=>fM h7 (cK .f32 _) λxG me=>dT (dT (fA me gv λrk jl=>⟨⟨rk,rfl,jl⟩,X⟩))
theorem Qs{q:Addr}{t:bC}{key:Int}(R:RdP dD h q t)(zT:t.ok=true)(hk:inR key (-100) 100=true):af ak 292 #[.pointer (some q),.int .i64 key] (λu h'=>(∃y,u = .tuple ⟨[.float .f32 y,.bool (kC (t.Sd key))]⟩∧(kC (t.Sd key)=true->FW .f32 y (t.hz key)))∧Ext h h') h:=by
 refine ux.call (goF (IG R zT hk) λh1 y x1 hy=>cW (fD hy ad1 λr4 h4=>?_))
 refine(XI h4).mono ?_
 rintro _ h2 ⟨⟨z,rfl,hz⟩,x2⟩
 refine jJ (cW (bt ((R.ext (x1.trans x2)).oF1 λxG me=>fM me hz λrk jl=>?_)))
 refine⟨⟨rk,rfl,λzq=>?_⟩,x1.trans x2⟩
 have zq:kC (fdiv .f32 (t.zl key) 1150681088)=true:=zq
 rw[zq,if_pos rfl] at jl
 exact jl
theorem abr{cs:Array Value}{t:bC}{key:Int}(R0:dD.rd h cs.toList t)(zT:t.ok=true)(hk:inR key (-100) 100=true):af ak 307 #[.agg cs,.int .i64 key] (λu h'=>(∃y,u = .tuple ⟨[.float .f32 y,.int .i64 (if kC (t.Sd key) then 0 else 2)]⟩∧(kC (t.Sd key)=true->FW .f32 y (t.hz key)))∧Ext h h') h:=by
 refine np.call (gD R0 λg1 h1 x1 R=>R.jc rfl λc3 R3=>goF (aar R3 zT hk) λh2 y x2 hy=>cW (fD hy ad1 λr7 h7=>?_))
 refine(aa7 h7).mono ?_
 rintro _ h3 ⟨⟨z,rfl,hz⟩,x3⟩
 refine jJ (cW (cN ((R.ext (x2.trans x3)).oF1 λDK j0=>fM j0 hz λrM kB=>?_)))
 refine⟨⟨rM,rfl,λzq=>?_⟩,x1.trans (x2.trans x3)⟩
 have zq:kC (fdiv .f32 (t.zl key) 1150681088)=true:=zq
 rw[zq,if_pos rfl] at kB
 exact kB
theorem uG{t:bC}{key k:Int}(e:t.asked key=(0,k)):FI (.tuple ⟨[.float .f32 0,.int .i64 k]⟩) (t.asked key).1 (t.asked key).2:=by rw[e];exact⟨0,rfl,fw0⟩
theorem Qr{q:Addr}{t:bC}{key:Int}(R:RdP dD h q t):af ak 250 #[.pointer (some q),.int .i64 key] (λu h'=>FI u (t.asked key).1 (t.asked key).2∧Ext h h') h:=by
 refine uw.call (goX (SR R) λh1 x1=>bt (brN (λe=>⟨uG (by rw[bC.asked,e];rfl),x1⟩) λzT=>?_))
 refine za.call (goE x1 (kQ _ _ _ _) λh2 x2=>bt (bt (brN (λe=>⟨uG (by rw[bC.asked,zT,e];rfl),x2⟩) λhk=>?_)))
 refine(Qs (R.ext x2) zT hk).mono ?_
 rintro _ h3 ⟨⟨y,rfl,hy⟩,x3⟩
 refine jJ (cW (bt (brN (λe=>⟨uG (by rw[bC.asked,zT,hk,e];rfl),x2.trans x3⟩) λe=>⟨?_,x2.trans x3⟩)))
 have:t.asked key=(t.hz key,0):=by rw[bC.asked,zT,hk,e];rfl
 rw[this];exact⟨y,rfl,hy e⟩
theorem PG{cs:Array Value}{t:bC}{key:Int}(R0:dD.rd h cs.toList t):af ak 279 #[.agg cs,.int .i64 key] (λu h'=>FI u (t.asked key).1 (t.asked key).2∧Ext h h') h:=by
 refine u6.call (gD R0 λg1 h1 x1 R=>R.jc rfl λc3 R3=>goX (A6 R3) λh2 x2=>bt (brN (λe=>⟨uG (by rw[bC.asked,e];rfl),x1.trans x2⟩) λzT=>?_))
 refine goX (SQ _ _) λh3 x3=>bt (brN (λe=>⟨uG (by rw[bC.asked,zT,e];rfl),x1.trans (x2.trans x3)⟩) λhk=>?_)
 refine(R.ext (x2.trans x3)).jc rfl λc4 R4=>(abr R4 zT hk).mono ?_
 rintro _ h4 ⟨⟨y,rfl,hy⟩,x4⟩
 have X:=x1.trans (x2.trans (x3.trans x4))
 refine jJ (cW (cN ?_))
 cases zq:kC (t.Sd key) with
 | false=>exact vu rfl ⟨uG (by rw[bC.asked,zT,hk,zq];rfl),X⟩
 | true=>
  refine cM rfl ⟨?_,X⟩
  have:t.asked key=(t.hz key,0):=by rw[bC.asked,zT,hk,zq];rfl
  rw[this];exact⟨y,rfl,hy zq⟩
theorem GQ{t:bC}{key k:Int}{H2:Nat}(e:t.period key H2=(0,k)):FI (.tuple ⟨[.float .f32 0,.int .i64 k]⟩) (t.period key H2).1 (t.period key H2).2:=by rw[e];exact⟨0,rfl,fw0⟩
theorem Bc{cs:Array Value}{t:bC}{key:Int}(R0:dD.rd h cs.toList t)(hx:FW .f32 x a):af ak 180 #[.agg cs,.int .i64 key,.float .f32 x] (λu h'=>FI u (t.period key a).1 (t.period key a).2∧Ext h h') h:=by
 refine oZ.call (gD R0 λg1 h1 x1 R=>aaG (Qr R) λh2 y x2 hy=>jJ (cW (cN (br (λe=>?_) λe=>?_))))
 ·have e:¬(t.asked key).2=0:=by simpa using e
  exact⟨GQ (by rw[bC.period,if_neg e]),x1.trans x2⟩
 have e:(t.asked key).2=0:=by simpa using e
 rw[cw hx c1,cw hx cR]
 have X:=x1.trans x2
 refine br (λk1=>brN (λk2=>⟨GQ (by rw[bC.period,if_pos e,inside,fge,fle,k1,k2];rfl),X⟩) λk2=>?_) λk1=>⟨GQ (by rw[bC.period,if_pos e,inside,fge,k1];rfl),X⟩
 refine fD hx hy λr9 h9=>⟨?_,X⟩
 have:t.period key a=(fdiv .f32 a (t.asked key).1,0):=by rw[bC.period,if_pos e,inside,fge,fle,k1,k2];rfl
 rw[this];exact⟨r9,rfl,h9⟩
theorem XB(hx:FW .f32 x a):Ret ak 280 #[.float .f32 x] (.bool (inside a 1065353216 1232348160)):=λh=>
 yD.call ((jO hx c1 cR).go λh1 x1=>bt ⟨rfl,x1⟩)
theorem I5{cs:Array Value}{t:bC}{key:Int}(R0:dD.rd h cs.toList t)(hx:FW .f32 x a):af ak 233 #[.agg cs,.int .i64 key,.float .f32 x] (λu h'=>FI u (t.period key a).1 (t.period key a).2∧Ext h h') h:=by
 refine oA.call (gD R0 λg1 h1 x1 R=>R.jc rfl λc3 R3=>aaG (PG R3) λh2 y x2 hy=>jJ (cW (cN (br (λe=>?_) λe=>?_))))
 ·have e:¬(t.asked key).2=0:=by simpa using e
  exact⟨GQ (by rw[bC.period,if_neg e]),x1.trans x2⟩
 have e:(t.asked key).2=0:=by simpa using e
 refine goX (XB hx _) λh3 x3=>bt (brN (λk=>⟨GQ (by rw[bC.period,if_pos e,k];rfl),x1.trans (x2.trans x3)⟩) λk=>?_)
 refine fD hx hy λr9 h9=>⟨?_,x1.trans (x2.trans x3)⟩
 have:t.period key a=(fdiv .f32 a (t.asked key).1,0):=by rw[bC.period,if_pos e,k];rfl
 rw[this];exact⟨r9,rfl,h9⟩
end
end Go.Sx
namespace Go.Sx
open Go.Proofs
set_option maxRecDepth 100000
def dt.B5(a:(Option Addr×Nat×Nat×Int)->ab->Prop)(aa:VH)(b:(Option Addr×Nat×Nat×Int×Int)->ab->Prop):Option Addr×Nat×Nat×Int×Int->ab->Prop |(aE,ax,aP,i_3,k_4),h=> bd aE i_3 ax λc=> oL (cell h ((Addr.add c (i_3.toNat*2)))) λVN UG ZU=> BIF ((decide (k_4<(UG:Int)))) (bd aE i_3 ax λd=> oL (cell h ((Addr.add d (i_3.toNat*2)))) λe f i=> bd e k_4 f λg=> oF .f32 (cell h ((Addr.add g (k_4.toNat*1)))) λxA=> BIF (FloatKind.f32.format.order xA 0 !=some .eq) (aa (.bool false) h) (b (aE,ax,aP,i_3,((IntKind.i64.wrap (k_4+1)))) h)) (a (aE,ax,aP,((IntKind.i64.wrap (i_3+1)))) h)
def dt.g5(fr:Frame):Option Addr×Nat×Nat×Int×Int:=((gLb (ah fr 0)),(gLl (ah fr 0)),(gLc (ah fr 0)),(gI (ah fr 3)),(gI (ah fr 4)))
def dt.l5(a:(Option Addr×Nat×Nat×Int)->ab->Prop)(aa:VH):=gg (kds 30 [(0,.l),(3,.i .i64),(4,.i .i64)]) λfr=>bk (dt.B5 a aa) (dt.g5 fr)
def dt.B2(aa:VH)(a:(Option Addr×Nat×Nat×Int)->ab->Prop):Option Addr×Nat×Nat×Int->ab->Prop |(aE,ax,aP,i_3),h=> BIF ((decide (i_3<(ax:Int)))) (bk (dt.B5 a aa) (aE,ax,aP,i_3,0) h) (aa (.bool true) h)
def dt.g2(fr:Frame):Option Addr×Nat×Nat×Int:=((gLb (ah fr 0)),(gLl (ah fr 0)),(gLc (ah fr 0)),(gI (ah fr 3)))
def dt.l2(aa:VH):=gg (kds 30 [(0,.l),(3,.i .i64)]) λfr=>bk (dt.B2 aa) (dt.g2 fr)
def dt.S(aE:Option Addr)(ax aP:Nat)(aa:VH)(h:ab):=bk (dt.B2 aa) (aE,ax,aP,0) h
theorem dt.call{aE ax aP aa h}(H:dt.S aE ax aP aa h):af ak 194 #[.slice aE ax aP] aa h:=qc (Λ:=aS [(1000002,dt.l2 aa)]) Tryz.func194 (qs qf (qs (qs qf (Rq.block (ql (dt.l2 aa) (qg (g:=dt.g2) (Λ:=λa=>aS [(1000005,dt.l5 a aa)]) (λ_ _ _=>by kernel_rfl) (λa=>(qs qf (qs (Rq.block (qs qf (Rq.block (ql (dt.l5 a aa) (qg (g:=dt.g5) (Λ:=λb=>aS []) (λ_ _ _=>by kernel_rfl) (λb=>qf)))))) qf))))))) qf)) (qe H)
def vF.S(n_0:Int)(aa:VH)(h:ab):=ALC ⟨jh⟩ 109 (λa d=> af ak 46 #[.int .i64 n_0,.int .i64 1,.int .i64 1024] (λe b=> asB e λf=> BIF (!f) (STA 2 b ⟨a,0,none⟩ ⟨[.slice none 0 0,.int .i64 0]⟩ λc=> LDA 2 c ⟨a,0,none⟩ λg=> aa (.tuple ⟨[.agg g,.int .i64 2]⟩) c) (MKS eC 22 n_0 n_0 (λi j=> STA 2 j ⟨a,0,none⟩ ⟨[.slice (some ⟨i,0,none⟩) n_0.toNat n_0.toNat,.int .i64 0]⟩ λgv=> LDA 2 gv ⟨a,0,none⟩ λzi=> aa (.tuple ⟨[.agg zi,.int .i64 0]⟩) gv) b)) d) h
theorem vF.call{n_0 aa h}(H:vF.S n_0 aa h):af ak 281 #[.int .i64 n_0] aa h:=qk Tryz.func281 H
def eH.B3(aa:VH)(b:(Addr×Int×Int)->ab->Prop):Addr×Int×Int->ab->Prop |(r_1,n_3,k_4),h=> BIF (decide (k_4≤n_3)) (LDA 2 h r_1 λc=> af ak 239 #[.agg c,.int .i64 k_4] (λd a=> asF .f32 d λxA=> BIF (FloatKind.f32.format.order xA 0 !=some .eq) (aa (.int .i64 ((IntKind.i64.wrap (k_4-1)))) a) (b (r_1,n_3,((IntKind.i64.wrap (k_4+1)))) a)) h) (aa (.int .i64 n_3) h)
def eH.g3(fr:Frame):Addr×Int×Int:=((gP (ah fr 1)),(gI (ah fr 3)),(gI (ah fr 4)))
def eH.l3(aa:VH):=gg (kds 20 [(1,.p),(3,.i .i64),(4,.i .i64)]) λfr=>bk (eH.B3 aa) (eH.g3 fr)
def eH.S(r_0:Array Value)(aa:VH)(h:ab):=ALC r_0 109 (λa b=> oL (cell b ⟨a,0,none⟩) λNH NI Pz=> af ak 161 #[.slice NH NI Pz] (λc d=> asI .i64 c λe=> bk (eH.B3 aa) (⟨a,0,none⟩,e,1) d) b) h
theorem eH.call{r_0 aa h}(H:eH.S r_0 aa h):af ak 249 #[.agg r_0] aa h:=qc (Λ:=aS [(1000003,eH.l3 aa)]) Tryz.func249 (qs qf (qs qf (qs (qs qf (Rq.block (ql (eH.l3 aa) (qg (g:=eH.g3) (Λ:=λa=>aS []) (λ_ _ _=>by kernel_rfl) (λa=>qf))))) qf))) (qe H)
def nh.S(r_0:Array Value)(aa:VH)(h:ab):=ALC r_0 109 (λb a=> LDA 2 a ⟨b,0,none⟩ λd=> oL (cell a ⟨b,0,none⟩) λVN UG ZU=> af ak 249 #[.agg d] (λe c=> asI .i64 e λf=> PIN a ⟨b,0,none⟩ 1 c <|af ak 161 #[.slice VN UG ZU] (λg i=> asI .i64 g λxn=> aa (.bool (f==xn)) i) c) a) h
theorem nh.call{r_0 aa h}(H:nh.S r_0 aa h):af ak 179 #[.agg r_0] aa h:=qk Tryz.func179 H
section
variable {h:ab}{q:Addr}
theorem Jp(n:Int)(h:ab):af ak 281 #[.int .i64 n] (λu h'=>∃cs B,u = .tuple ⟨[.agg cs,.int .i64 (if inR n 1 1024 then 0 else 2)]⟩∧bQ.ow B cs.toList (if inR n 1 1024 then Tm n else wJ)∧Mem h h' B) h:=by
 refine vF.call ((Mem.start h).alc λg1 h1 x1 M=>goM M (js _ _ _ _) λh2 M=>bt (br (λhb=>?_) λhb=>?_))
 ·have hb:=nt hb
  rw[hb]
  exact M.dH .here rfl (dI rfl) rfl .here λh3 M=>M.df .here rfl ⟨_,[],rfl,pV,M.drop⟩
 ·have hn:=nf hb
  rw[hn]
  have hr:1≤n∧n≤1024:=by unfold inR at hn;simp only[Bool.and_eq_true,decide_eq_true_eq] at hn;exact hn
  obtain⟨m,rfl⟩:=Int.eq_ofNat_of_zero_le (show 0≤n by omega)
  refine Ei M (by omega) λg2 h2 x2 M O=>?_
  have M:=M.perm (.swap _ _ _)
  refine M.dH .here rfl (dI rfl) rfl .here λh3 M=>M.df .here rfl ?_
  exact⟨_,_,rfl,LP (r:=Tm m) O,M.drop⟩
end
end Go.Sx
