/- Lemmas. -/
import Derived.Test.YthgnpepchedpbaaGreatDoorTab
import Derived.Test.YthgnpepchedpbaaGreatDoorLg
import Derived.Test.YthgnpepchedpbaaGreatDoorLx1
import Derived.Test.YthgnpepchedpbaaGreatDoorLp3
set_option linter.unusedVariables false
set_option linter.unusedSimpArgs false
namespace Go.Sx
open Go.Proofs
theorem lD:xK ak 23 22 1 4:=⟨Tryz.underlying23,⟨Tryz.t22,_,by kernel_rfl,rfl,by kernel_rfl,by kernel_rfl,by kernel_rfl⟩⟩
theorem pF:xK ak 36 135 5 40:=⟨Tryz.underlying36,⟨Tryz.t135,_,by kernel_rfl,rfl,by kernel_rfl,by kernel_rfl,by kernel_rfl⟩⟩
theorem wM:xK ak 37 131 6 48:=⟨Tryz.underlying37,⟨Tryz.t131,_,by kernel_rfl,rfl,by kernel_rfl,by kernel_rfl,by kernel_rfl⟩⟩
theorem Ev:xK ak 49 122 45 360:=⟨Tryz.underlying49,⟨Tryz.t122,_,by kernel_rfl,rfl,by kernel_rfl,by kernel_rfl,by kernel_rfl⟩⟩
theorem xJ:xK ak 116 109 2 32:=⟨Tryz.underlying116,⟨Tryz.t109,_,by kernel_rfl,rfl,by kernel_rfl,by kernel_rfl,by kernel_rfl⟩⟩
theorem CZ:xK ak 253 268 1 8:=⟨Tryz.underlying253,⟨Tryz.t268,_,by kernel_rfl,rfl,by kernel_rfl,by kernel_rfl,by kernel_rfl⟩⟩
set_option maxRecDepth 100000
def Bf.S(n_0:Int)(sK:Int)(mu:Int)(aa:VH)(h:ab):=BIF (decide (sK≤n_0)) (aa (.bool (decide (n_0≤mu))) h) (aa (.bool false) h)
theorem Bf.call{n_0 sK mu aa h}(H:Bf.S n_0 sK mu aa h):af ak 41 #[.int .i64 n_0,.int .i64 sK,.int .i64 mu] aa h:=qk Tryz.func41 H
def yF.S(n_0:Int)(sK:Int)(mu:Int)(aa:VH)(h:ab):=BIF (decide (sK≤n_0)) (aa (.bool (decide (n_0≤mu))) h) (aa (.bool false) h)
theorem yF.call{n_0 sK mu aa h}(H:yF.S n_0 sK mu aa h):af ak 46 #[.int .i64 n_0,.int .i64 sK,.int .i64 mu] aa h:=qk Tryz.func46 H
def lV.S(aE:Option Addr)(ax aP:Nat)(aa:VH)(h:ab):=aa (.int .i64 (ax:Int)) h
theorem lV.call{aE ax aP aa h}(H:lV.S aE ax aP aa h):af ak 161 #[.slice aE ax aP] aa h:=qk Tryz.func161 H
def z7.S(a_0:Nat)(aa:VH)(h:ab):=aa (.bool (FloatKind.f32.format.order a_0 a_0 !=some .eq)) h
theorem z7.call{a_0 aa h}(H:z7.S a_0 aa h):af ak 226 #[.float .f32 a_0] aa h:=qk Tryz.func226 H
def GA.S(x_0:Nat)(aa:VH)(h:ab):=af ak 321 #[.float .f64 x_0] (λa b=> asI .u64 a λc=> af ak 320 #[.int .u64 (tU .andNot .u64 c 9223372036854775808)] (λd e=> asF .f64 d λf=> aa (.float .f64 f) e) b) h
theorem GA.call{x_0 aa h}(H:GA.S x_0 aa h):af ak 308 #[.float .f64 x_0] aa h:=qk Tryz.func308 H
def sR.S(a_0:Nat)(aa:VH)(h:ab):=FOP .f32 (ry a_0 a_0) λa=> aa (.bool (FloatKind.f32.format.order a 0==some .eq)) h
theorem sR.call{a_0 aa h}(H:sR.S a_0 aa h):af ak 154 #[.float .f32 a_0] aa h:=qk Tryz.func154 H
def uc.S(a_0:Nat)(aa:VH)(h:ab):=FOP .f32 (ry a_0 a_0) λa=> aa (.bool (FloatKind.f32.format.order a 0==some .eq)) h
theorem uc.call{a_0 aa h}(H:uc.S a_0 aa h):af ak 144 #[.float .f32 a_0] aa h:=qk Tryz.func144 H
def tJ.S(a_0:Nat)(aa:VH)(h:ab):=BIF (FloatKind.f32.format.order a_0 a_0 !=some .eq) (aa (.int .u32 2143289344) h) (af ak 215 #[.float .f32 a_0] (λa b=> asI .u32 a λc=> aa (.int .u32 c) b) h)
theorem tJ.call{a_0 aa h}(H:tJ.S a_0 aa h):af ak 142 #[.float .f32 a_0] aa h:=qk Tryz.func142 H
def gl.J2(aa:VH)(a_0:Nat)(b_1:Nat)(b:Bool)(h:ab):=BIF b (af ak 226 #[.float .f32 a_0] (λc a=> asB c λd=> BIF d (af ak 226 #[.float .f32 b_1] (λCx me=> asB Cx λKK=> aa (.bool KK) me) a) (aa (.bool false) a)) h) (af ak 215 #[.float .f32 a_0] (λxz e=> asI .u32 xz λEn=> af ak 215 #[.float .f32 b_1] (λLV qQ=> asI .u32 LV λf=> aa (.bool (En==f)) qQ) e) h)
def gl.j2(aa:VH):=gg (kds 22 [(0,.f .f32),(1,.f .f32),(10,.b)]) λfr=>gl.J2 aa (gF (ah fr 0)) (gF (ah fr 1)) (gB (ah fr 10))
def gl.S(a_0:Nat)(b_1:Nat)(aa:VH)(h:ab):=af ak 226 #[.float .f32 a_0] (λb a=> asB b λc=> BIF c (gl.J2 aa a_0 b_1 true a) (af ak 226 #[.float .f32 b_1] (λd e=> asB d λf=> gl.J2 aa a_0 b_1 f e) a)) h
theorem gl.call{a_0 b_1 aa h}(H:gl.S a_0 b_1 aa h):af ak 155 #[.float .f32 a_0,.float .f32 b_1] aa h:=qc (Λ:=aS [(2,gl.j2 aa)]) Tryz.func155 (qs qf (qs (qj (gl.j2 aa) qf qf) qf)) (qe H)
def yZ.S(a_0:Nat)(aa:VH)(h:ab):=af ak 215 #[.float .f32 a_0] (λa b=> asI .u32 a λc=> af ak 295 #[.int .u32 (tU .and .u32 c 2147483647)] (λd e=> asF .f32 d λf=> aa (.float .f32 f) e) b) h
theorem yZ.call{a_0 aa h}(H:yZ.S a_0 aa h):af ak 259 #[.float .f32 a_0] aa h:=qk Tryz.func259 H
def u9.S(a_0:Nat)(aa:VH)(h:ab):=FFC .f32 a_0 .f64 λa=> af ak 308 #[.float .f64 a] (λb c=> asF .f64 b λd=> FFC .f64 d .f32 λe=> aa (.float .f32 e) c) h
theorem u9.call{a_0 aa h}(H:u9.S a_0 aa h):af ak 290 #[.float .f32 a_0] aa h:=qk Tryz.func290 H
def uu.S(a_0:Nat)(aa:VH)(h:ab):=af ak 259 #[.float .f32 a_0] (λb c=> asF .f32 b λd=> af ak 295 #[.int .u32 8388608] (λe a=> asF .f32 e λf=> BIF (FloatKind.f32.format.order d f==some .lt) (aa (.float .f32 0) a) (aa (.float .f32 a_0) a)) c) h
theorem uu.call{a_0 aa h}(H:uu.S a_0 aa h):af ak 258 #[.float .f32 a_0] aa h:=qk Tryz.func258 H
def oz.S(a_0:Nat)(aa:VH)(h:ab):=af ak 290 #[.float .f32 a_0] (λb a=> asF .f32 b λc=> BIF (FloatKind.f32.format.order c 8388608==some .lt) (aa (.float .f32 0) a) (aa (.float .f32 a_0) a)) h
theorem oz.call{a_0 aa h}(H:oz.S a_0 aa h):af ak 288 #[.float .f32 a_0] aa h:=qk Tryz.func288 H
def wv.S(a_0:Nat)(aa:VH)(h:ab):=af ak 154 #[.float .f32 a_0] (λb a=> asB b λc=> BIF (!c) (aa (.float .f32 0) a) (af ak 258 #[.float .f32 a_0] (λd e=> asF .f32 d λf=> aa (.float .f32 f) e) a)) h
theorem wv.call{a_0 aa h}(H:wv.S a_0 aa h):af ak 188 #[.float .f32 a_0] aa h:=qk Tryz.func188 H
def Dr.S(a_0:Nat)(aa:VH)(h:ab):=af ak 144 #[.float .f32 a_0] (λb a=> asB b λc=> BIF (!c) (aa (.float .f32 0) a) (af ak 288 #[.float .f32 a_0] (λd e=> asF .f32 d λf=> aa (.float .f32 f) e) a)) h
theorem Dr.call{a_0 aa h}(H:Dr.S a_0 aa h):af ak 242 #[.float .f32 a_0] aa h:=qk Tryz.func242 H
def pC.S(a_0:Nat)(ko:Nat)(aa:VH)(h:ab):=BIF (FloatKind.f32.format.order a_0 ko==some .gt) (aa (.float .f32 ko) h) (BIF (FloatKind.f32.format.order a_0 (Op.negFloat .f32 ko)==some .lt) (aa (.float .f32 (Op.negFloat .f32 ko)) h) (aa (.float .f32 a_0) h))
theorem pC.call{a_0 ko aa h}(H:pC.S a_0 ko aa h):af ak 77 #[.float .f32 a_0,.float .f32 ko] aa h:=qk Tryz.func77 H
def lL.S(a_0:Nat)(ko:Nat)(aa:VH)(h:ab):=BIF (FloatKind.f32.format.order a_0 ko==some .gt) (aa (.float .f32 ko) h) (BIF (FloatKind.f32.format.order a_0 (Op.negFloat .f32 ko)==some .lt) (aa (.float .f32 (Op.negFloat .f32 ko)) h) (aa (.float .f32 a_0) h))
theorem lL.call{a_0 ko aa h}(H:lL.S a_0 ko aa h):af ak 116 #[.float .f32 a_0,.float .f32 ko] aa h:=qk Tryz.func116 H
def tK.S(a_0:Nat)(sK:Nat)(mu:Nat)(aa:VH)(h:ab):=BIF (FloatKind.f32.format.order a_0 sK==some .gt||FloatKind.f32.format.order a_0 sK==some .eq) (aa (.bool (FloatKind.f32.format.order a_0 mu==some .lt||FloatKind.f32.format.order a_0 mu==some .eq)) h) (aa (.bool false) h)
theorem tK.call{a_0 sK mu aa h}(H:tK.S a_0 sK mu aa h):af ak 159 #[.float .f32 a_0,.float .f32 sK,.float .f32 mu] aa h:=qk Tryz.func159 H
set_option maxHeartbeats 4000000
theorem pn(b:Nat):Ret ak 215 #[.float .f32 b] (.int .u32 b):=
 BU (e:=Extern.MathFloatBits.float32bits) AD (by kernel_rfl) (by kernel_rfl) (by kernel_rfl) (by kernel_rfl) λw=>rfl
theorem Ge(n:Int):Ret ak 295 #[.int .u32 n] (.float .f32 n.toNat):=
 BU (e:=Extern.MathFloatBits.float32frombits) vq (by kernel_rfl) (by kernel_rfl) (by kernel_rfl) (by kernel_rfl) λw=>rfl
theorem A4(b:Nat):Ret ak 321 #[.float .f64 b] (.int .u64 b):=
 BU (e:=Extern.MathFloatBits.float64bits) AE (by kernel_rfl) (by kernel_rfl) (by kernel_rfl) (by kernel_rfl) λw=>rfl
theorem C7(n:Int):Ret ak 320 #[.int .u64 n] (.float .f64 n.toNat):=
 BU (e:=Extern.MathFloatBits.float64frombits) vr (by kernel_rfl) (by kernel_rfl) (by kernel_rfl) (by kernel_rfl) λw=>rfl
end Go.Sx
namespace Go.Sx
open Go.Proofs Ieee
set_option maxRecDepth 100000
abbrev Fl(P:Program)(f:FuncId)(args:Array Value)(k:FloatKind)(a:Nat):Prop:=∀h,af P f args (λu h'=>(∃y,u = .float k y∧FW k y a)∧Ext h h') h
theorem Fl.go{P:Program}{f:FuncId}{args:Array Value}{k:FloatKind}{a:Nat}(c:Fl P f args k a){h:ab}{K:Value->ab->Prop}(H:∀h' y,Ext h h'->FW k y a->K (.float k y) h'):af P f args K h:=
 (c h).mono λu h' ⟨⟨y,e,hy⟩,x⟩=>by subst e;exact H h' y x hy
theorem kQ(n l r:Int):Ret ak 41 #[.int .i64 n,.int .i64 l,.int .i64 r] (.bool (inR n l r)):=λh=>by
 refine Bf.call (br (λhb=>?_) λhb=>?_) <;> exact⟨by simp[inR,hb],Ext.refl _⟩
theorem js(n l r:Int):Ret ak 46 #[.int .i64 n,.int .i64 l,.int .i64 r] (.bool (inR n l r)):=λh=>by
 refine yF.call (br (λhb=>?_) λhb=>?_) <;> exact⟨by simp[inR,hb],Ext.refl _⟩
theorem iK(b:Option Addr)(l c:Nat):Ret ak 161 #[.slice b l c] (.int .i64 l):=λh=>lV.call ⟨rfl,Ext.refl _⟩
theorem fw0:FW .f32 0 0:=eM (by decide) (by decide)
section
variable {x y a b:Nat}
theorem Cd(hx:FW .f32 x a):Ret ak 226 #[.float .f32 x] (.bool (nan .f32 a)):=λh=>z7.call ⟨by rw[ne_self,hx.nan],Ext.refl _⟩
theorem aat(hx:FW .f32 x a):(if nan .f32 a then qn .f32 else x)=a:=by
 split
 ·next h=>have:=hx.self;unfold cn at this;rw[if_pos h] at this;exact this
 ·next h=>exact hx.eq (by simpa using h)
theorem FK(hx:FW .f32 x a):Ret ak 142 #[.float .f32 x] (.int .u32 a):=λh=>by
 refine tJ.call ?_
 rw[tJ.S,ne_self,hx.nan]
 have:=aat hx
 refine br (λhb=>⟨by rw[← this,if_pos hb];rfl,Ext.refl _⟩) λhb=>?_
 refine(pn x).go λh2 x2=>cN ⟨by rw[← this,hb];rfl,x2⟩
theorem jm(hx:FW .f32 x a):Ret ak 154 #[.float .f32 x] (.bool (fin a)):=λh=>
 sR.call (fS hx hx λr hr=>⟨by rw[cw hr fw0];rfl,Ext.refl _⟩)
theorem mw(hx:FW .f32 x a):Ret ak 144 #[.float .f32 x] (.bool (fin a)):=λh=>
 uc.call (fS hx hx λr hr=>⟨by rw[cw hr fw0];rfl,Ext.refl _⟩)
theorem zu(hx:FW .f32 x a)(hy:FW .f32 y b):Ret ak 155 #[.float .f32 x,.float .f32 y] (.bool (a==b)):=λh=>by
 have key:∀h1,Ext h h1->∀t,t=(nan .f32 a||nan .f32 b)->gl.J2 (λu h'=>u = .bool (a==b)∧Ext h h') x y t h1:=by
  intro h1 x1 t ht
  subst ht
  unfold gl.J2
  refine br (λhb=>?_) λhb=>?_
  ·refine(Cd hx).go λh2 x2=>bt (br (λh3=>?_) λh3=>?_)
   ·refine(Cd hy).go λh4 x4=>bt ⟨?_,(x1.trans x2).trans x4⟩
    have ea:a=qn .f32:=by have:=hx.self;unfold cn at this;rw[if_pos h3] at this;exact this.symm
    subst ea
    congr 1
    rw[Bool.eq_iff_iff]
    constructor
    ·intro h5;have:=hy.self;unfold cn at this;rw[if_pos h5] at this;rw[← this];simp
    ·intro h5;have:=eq_of_beq h5;rw[← this];exact GF .f32
   ·rw[h3,Bool.false_or] at hb
    refine⟨?_,x1.trans x2⟩
    have:(a==b)=false:=by
     apply beq_false_of_ne
     intro e
     rw[e,hb] at h3
     cases h3
    rw[this]
  ·rw[Bool.or_eq_false_iff] at hb
   refine(pn x).go λh2 x2=>cN ((pn y).go λh4 x4=>cN ⟨?_,(x1.trans x2).trans x4⟩)
   rw[hx.eq hb.1,hy.eq hb.2]
   congr 1
   rw[Bool.eq_iff_iff,beq_iff_eq,beq_iff_eq]
   omega
 refine gl.call ((Cd hx).go λh1 x1=>bt (br (λhb=>key _ x1 _ (by rw[hb];rfl)) λhb=>?_))
 exact(Cd hy).go λh2 x2=>bt (key _ (x1.trans x2) _ (by rw[hb];rfl))
theorem aeX(hx:FW .f32 x a):FW .f32 (x % 2 ^ 31) (Nb a):=by
 refine⟨?_,Nat.lt_of_lt_of_le (Nat.mod_lt _ (by decide)) (show 2 ^ 31≤2 ^ 32 by decide)⟩
 have h1:nan .f32 (x % 2 ^ 31)=nan .f32 x:=w8 (Nat.mod_mod _ _)
 have h2:nan .f32 (a % 2 ^ 31)=nan .f32 a:=w8 (Nat.mod_mod _ _)
 unfold Nb cn
 rw[h1,h2,hx.nan]
 split
 ·rfl
 ·next h=>rw[hx.eq (by simpa using h)]
theorem Nw(hx:FW .f32 x a):Fl ak 259 #[.float .f32 x] .f32 (Nb a):=λh=>by
 refine yZ.call ((pn x).go λh1 x1=>cN ((Ge _).go λh2 x2=>cW ⟨⟨_,rfl,?_⟩,x1.trans x2⟩))
 have qR:x<4294967296:=hx.2
 have e:(tU .and .u32 (x:Int) 2147483647).toNat=x % 2 ^ 31:=by
  simp only[tU]
  have e2:(BitVec.ofInt IntKind.u32.bits (x:Int) &&& BitVec.ofInt IntKind.u32.bits 2147483647).toNat=x % 2 ^ 31:=by
   rw[show(2147483647:Int)=((2147483647:Nat):Int) from rfl,BitVec.toNat_and,BitVec.ofInt_natCast,BitVec.ofInt_natCast,BitVec.toNat_ofNat,BitVec.toNat_ofNat]
   rw[show(2:Nat) ^ IntKind.u32.bits=4294967296 by decide,Nat.mod_eq_of_lt qR,show(2147483647:Nat) % 4294967296=2 ^ 31-1 by decide,Nat.and_two_pow_sub_one_eq_mod]
  rw[e2]
  simp only[IntKind.wrap,IntKind.signed,Bool.false_and,Bool.false_eq_true,if_false]
  rw[show(2:Int) ^ IntKind.u32.bits=4294967296 by decide]
  have:=Nat.mod_lt x (show 2 ^ 31 > 0 by decide)
  omega
 rw[e]
 exact aeX hx
theorem Sm(hx:FW .f64 x a):Fl ak 308 #[.float .f64 x] .f64 (cn .f64 (a % 2 ^ 63)):=λh=>by
 refine GA.call ((A4 x).go λh1 x1=>cN ((C7 _).go λh2 x2=>cW ⟨⟨_,rfl,?_⟩,x1.trans x2⟩))
 have qR:x<18446744073709551616:=hx.2
 have e:(tU .andNot .u64 (x:Int) 9223372036854775808).toNat=x % 2 ^ 63:=by
  simp only[tU]
  have e2:(BitVec.ofInt IntKind.u64.bits (x:Int) &&& ~~~BitVec.ofInt IntKind.u64.bits 9223372036854775808).toNat=x % 2 ^ 63:=by
   have e3:(~~~BitVec.ofInt IntKind.u64.bits 9223372036854775808).toNat=2 ^ 63-1:=by decide
   rw[BitVec.toNat_and,e3,BitVec.ofInt_natCast,BitVec.toNat_ofNat]
   rw[show(2:Nat) ^ IntKind.u64.bits=18446744073709551616 by decide,Nat.mod_eq_of_lt qR,Nat.and_two_pow_sub_one_eq_mod]
  rw[e2]
  simp only[IntKind.wrap,IntKind.signed,Bool.false_and,Bool.false_eq_true,if_false]
  rw[show(2:Int) ^ IntKind.u64.bits=18446744073709551616 by decide]
  have:=Nat.mod_lt x (show 2 ^ 63 > 0 by decide)
  omega
 rw[e]
 refine⟨?_,Nat.lt_of_lt_of_le (Nat.mod_lt _ (by decide)) (show 2 ^ 63≤2 ^ 64 by decide)⟩
 have h1:nan .f64 (x % 2 ^ 63)=nan .f64 x:=w8 (Nat.mod_mod _ _)
 have h2:nan .f64 (a % 2 ^ 63)=nan .f64 a:=w8 (Nat.mod_mod _ _)
 unfold cn
 rw[h1,h2,hx.nan]
 split
 ·rfl
 ·next h=>rw[hx.eq (by simpa using h)]
theorem FH(hx:FW .f32 x a):Fl ak 290 #[.float .f32 x] .f32 (Nb a):=λh=>by
 refine u9.call (cg hx λr hr=>(Sm hr).go λh1 y x1 hy=>cW ?_)
 obtain⟨e1,e2⟩:=Wp a hx.self
 refine Fg hy e1 λr hr=>⟨⟨r,rfl,?_⟩,x1⟩
 rw[e2] at hr
 exact hr
theorem Qp(hx:FW .f32 x a):Fl ak 258 #[.float .f32 x] .f32 (flush a):=λh=>by
 refine uu.call ((Nw hx).go λh1 y x1 hy=>cW ((Ge _).go λh2 x2=>cW ?_))
 rw[show(8388608:Int).toNat=8388608 from rfl,cw hy (eM (c:=8388608) (by decide) (by decide))]
 exact br (λhb=>⟨⟨0,rfl,by rw[flush,flt,if_pos hb];exact fw0⟩,x1.trans x2⟩) λhb=>⟨⟨x,rfl,by rw[flush,flt,hb];exact hx⟩,x1.trans x2⟩
theorem HZ(hx:FW .f32 x a):Fl ak 288 #[.float .f32 x] .f32 (flush a):=λh=>by
 refine oz.call ((FH hx).go λh1 y x1 hy=>cW ?_)
 rw[cw hy (eM (c:=8388608) (by decide) (by decide))]
 exact br (λhb=>⟨⟨0,rfl,by rw[flush,flt,if_pos hb];exact fw0⟩,x1⟩) λhb=>⟨⟨x,rfl,by rw[flush,flt,hb];exact hx⟩,x1⟩
theorem ic(hx:FW .f32 x a):Fl ak 188 #[.float .f32 x] .f32 (kept a):=λh=>by
 refine wv.call ((jm hx).go λh1 x1=>bt (br (λhb=>?_) λhb=>?_))
 ·exact⟨⟨0,rfl,by rw[kept,if_neg (by simpa using hb)];exact fw0⟩,x1⟩
 ·exact(Qp hx).go λh2 y x2 hy=>cW ⟨⟨y,rfl,by rw[kept,if_pos (by simpa using hb)];exact hy⟩,x1.trans x2⟩
theorem mz(hx:FW .f32 x a):Fl ak 242 #[.float .f32 x] .f32 (kept a):=λh=>by
 refine Dr.call ((mw hx).go λh1 x1=>bt (br (λhb=>?_) λhb=>?_))
 ·exact⟨⟨0,rfl,by rw[kept,if_neg (by simpa using hb)];exact fw0⟩,x1⟩
 ·exact(HZ hx).go λh2 y x2 hy=>cW ⟨⟨y,rfl,by rw[kept,if_pos (by simpa using hb)];exact hy⟩,x1.trans x2⟩
def tg(a l:Nat):Nat:=if fgt .f32 a l then l else if flt .f32 a (Q8 .f32 l) then Q8 .f32 l else a
theorem Gn(hx:FW .f32 x a)(hy:FW .f32 y b):Fl ak 77 #[.float .f32 x,.float .f32 y] .f32 (tg a b):=λh=>by
 refine pC.call ?_
 rw[pC.S,cw hx hy,cw hx (kM hy)]
 refine br (λhb=>⟨⟨y,rfl,by rw[tg,fgt,if_pos hb];exact hy⟩,Ext.refl _⟩) λhb=>br (λhc=>⟨⟨_,rfl,?_⟩,Ext.refl _⟩) λhc=>⟨⟨x,rfl,?_⟩,Ext.refl _⟩
 ·rw[tg,fgt,hb,if_neg (by simp),flt,if_pos hc];exact kM hy
 ·rw[tg,fgt,hb,if_neg (by simp),flt,hc];exact hx
theorem A3(hx:FW .f32 x a)(hy:FW .f32 y b):Fl ak 116 #[.float .f32 x,.float .f32 y] .f32 (tg a b):=λh=>by
 refine lL.call ?_
 rw[lL.S,cw hx hy,cw hx (kM hy)]
 refine br (λhb=>⟨⟨y,rfl,by rw[tg,fgt,if_pos hb];exact hy⟩,Ext.refl _⟩) λhb=>br (λhc=>⟨⟨_,rfl,?_⟩,Ext.refl _⟩) λhc=>⟨⟨x,rfl,?_⟩,Ext.refl _⟩
 ·rw[tg,fgt,hb,if_neg (by simp),flt,if_pos hc];exact kM hy
 ·rw[tg,fgt,hb,if_neg (by simp),flt,hc];exact hx
end
end Go.Sx
