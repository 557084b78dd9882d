/- Lemmas. -/
import Derived.Test.YthhepeklpgefkaaGreatDoorTab
import Derived.Test.YthhepeklpgefkaaGreatDoorLg
import Derived.Test.YthhepeklpgefkaaGreatDoorLx1
import Derived.Test.YthhepeklpgefkaaGreatDoorLp3
import Derived.MapKept
set_option linter.unusedVariables false
set_option linter.unusedSimpArgs false
namespace Go.Sx
open Go.Proofs
theorem pd:Dj ai bI au 1 4:=⟨Tryz.underlying23,⟨Tryz.t22,_,by kernel_rfl,rfl,by kernel_rfl,by kernel_rfl,by kernel_rfl⟩⟩
theorem uV:Dj ai fx bk 5 40:=⟨Tryz.underlying32,⟨Tryz.t182,_,by kernel_rfl,rfl,by kernel_rfl,by kernel_rfl,by kernel_rfl⟩⟩
theorem CR:Dj ai iS bq 6 48:=⟨Tryz.underlying33,⟨Tryz.t69,_,by kernel_rfl,rfl,by kernel_rfl,by kernel_rfl,by kernel_rfl⟩⟩
theorem CS:Dj ai gy ao 45 360:=⟨Tryz.underlying36,⟨Tryz.t66,_,by kernel_rfl,rfl,by kernel_rfl,by kernel_rfl,by kernel_rfl⟩⟩
theorem rR:Dj ai bG aq 2 32:=⟨Tryz.underlying60,⟨Tryz.t53,_,by kernel_rfl,rfl,by kernel_rfl,by kernel_rfl,by kernel_rfl⟩⟩
theorem IP:Dj ai pf pU 1 8:=⟨Tryz.underlying332,⟨Tryz.t283,_,by kernel_rfl,rfl,by kernel_rfl,by kernel_rfl,by kernel_rfl⟩⟩
set_option maxRecDepth 100000
def H4.S(n_0:Int)(yk:Int)(ra:Int)(aa:VH)(h:ab):=
 BIF (decide (yk≤n_0)) (
 aa (.bool (decide (n_0≤ra))) h) (
 aa (.bool false) h)
theorem H4.call{n_0:Int}{yk:Int}{ra:Int}{aa:VH}{h:ab}(H:H4.S n_0 yk ra aa h):ae ai eO #[.int .i64 n_0,.int .i64 yk,.int .i64 ra] aa h:=
 qc (Λ:=an []) Tryz.func60
 qf
 (qe H)
def DV.S(n_0:Int)(yk:Int)(ra:Int)(aa:VH)(h:ab):=
 BIF (decide (yk≤n_0)) (
 aa (.bool (decide (n_0≤ra))) h) (
 aa (.bool false) h)
theorem DV.call{n_0:Int}{yk:Int}{ra:Int}{aa:VH}{h:ab}(H:DV.S n_0 yk ra aa h):ae ai dY #[.int .i64 n_0,.int .i64 yk,.int .i64 ra] aa h:=
 qc (Λ:=an []) Tryz.func86
 qf
 (qe H)
def pT.S(aF:Option Addr)(ax aN:Nat)(aa:VH)(h:ab):=
 aa (.int .i64 (ax:Int)) h
theorem pT.call{aF:Option Addr}{ax aN:Nat}{aa:VH}{h:ab}(H:pT.S aF ax aN aa h):ae ai dR #[.slice aF ax aN] aa h:=
 qc (Λ:=an []) Tryz.func200
 qf
 (qe H)
def Eo.S(a_0:Nat)(aa:VH)(h:ab):=
 aa (.bool (FloatKind.f32.format.order a_0 a_0 != some .eq)) h
theorem Eo.call{a_0:Nat}{aa:VH}{h:ab}(H:Eo.S a_0 aa h):ae ai nQ #[.float .f32 a_0] aa h:=
 qc (Λ:=an []) Tryz.func144
 qf
 (qe H)
def ML.S(x_0:Nat)(aa:VH)(h:ab):=
 ae ai mV #[.float .f64 x_0] (λa b=>
 asI .u64 a λc=>
 ae ai kL #[.int .u64 (zt .andNot .u64 c 9223372036854775808)] (λd e=>
 asF .f64 d λf=>
 aa (.float .f64 f) e) b) h
theorem ML.call{x_0:Nat}{aa:VH}{h:ab}(H:ML.S x_0 aa h):ae ai tS #[.float .f64 x_0] aa h:=
 qc (Λ:=an []) Tryz.func387
 qf
 (qe H)
def yu.S(a_0:Nat)(aa:VH)(h:ab):=
 FOP .f32 (wv a_0 a_0) λa=>
 aa (.bool (FloatKind.f32.format.order a 0==some .eq)) h
theorem yu.call{a_0:Nat}{aa:VH}{h:ab}(H:yu.S a_0 aa h):ae ai fk #[.float .f32 a_0] aa h:=
 qc (Λ:=an []) Tryz.func196
 qf
 (qe H)
def zV.S(a_0:Nat)(aa:VH)(h:ab):=
 FOP .f32 (wv a_0 a_0) λa=>
 aa (.bool (FloatKind.f32.format.order a 0==some .eq)) h
theorem zV.call{a_0:Nat}{aa:VH}{h:ab}(H:zV.S a_0 aa h):ae ai gC #[.float .f32 a_0] aa h:=
 qc (Λ:=an []) Tryz.func205
 qf
 (qe H)
def z7.S(a_0:Nat)(aa:VH)(h:ab):=
 BIF (FloatKind.f32.format.order a_0 a_0 != some .eq) (
 aa (.int .u32 2143289344) h) (
 ae ai jK #[.float .f32 a_0] (λa b=>
 asI .u32 a λc=>
 aa (.int .u32 c) b) h)
theorem z7.call{a_0:Nat}{aa:VH}{h:ab}(H:z7.S a_0 aa h):ae ai kU #[.float .f32 a_0] aa h:=
 qc (Λ:=an []) Tryz.func201
 qf
 (qe H)
def iV.J2(aa:VH)(a_0:Nat)(b_1:Nat)(b:Bool)(h:ab):=
 BIF b (
 ae ai nQ #[.float .f32 a_0] (λc a=>
 asB c λd=>
 BIF d (
 ae ai nQ #[.float .f32 b_1] (λAf kc=>
 asB Af λLe=>
 aa (.bool Le) kc) a) (
 aa (.bool false) a)) h) (
 ae ai jK #[.float .f32 a_0] (λyM ke=>
 asI .u32 yM λKh=>
 ae ai jK #[.float .f32 b_1] (λe oZ=>
 asI .u32 e λVb=>
 aa (.bool (Kh==Vb)) oZ) ke) h)
def iV.j2(aa:VH):=gg (kds 22 [(0,.f .f32),(1,.f .f32),(10,.b)]) λfr=>iV.J2 aa (gF (ah fr 0)) (gF (ah fr 1)) (gB (ah fr 10))
def iV.S(a_0:Nat)(b_1:Nat)(aa:VH)(h:ab):=
 ae ai nQ #[.float .f32 a_0] (λb a=>
 asB b λc=>
 BIF c (
 iV.J2 aa a_0 b_1 true a) (
 ae ai nQ #[.float .f32 b_1] (λd e=>
 asB d λf=>
 iV.J2 aa a_0 b_1 f e) a)) h
theorem iV.call{a_0:Nat}{b_1:Nat}{aa:VH}{h:ab}(H:iV.S a_0 b_1 aa h):ae ai eL #[.float .f32 a_0,.float .f32 b_1] aa h:=
 qc (Λ:=an [(2,iV.j2 aa)]) Tryz.func80
 (qs qf (qs (qj (iV.j2 aa) qf
 qf) qf))
 (qe H)
def vX.S(a_0:Nat)(b_1:Nat)(aa:VH)(h:ab):=
 ae ai kU #[.float .f32 a_0] (λa b=>
 asI .u32 a λc=>
 ae ai kU #[.float .f32 b_1] (λd e=>
 asI .u32 d λf=>
 aa (.bool (c==f)) e) b) h
theorem vX.call{a_0:Nat}{b_1:Nat}{aa:VH}{h:ab}(H:vX.S a_0 b_1 aa h):ae ai fy #[.float .f32 a_0,.float .f32 b_1] aa h:=
 qc (Λ:=an []) Tryz.func150
 qf
 (qe H)
def En.S(a_0:Nat)(aa:VH)(h:ab):=
 ae ai jK #[.float .f32 a_0] (λa b=>
 asI .u32 a λc=>
 ae ai kK #[.int .u32 (zt .and .u32 c 2147483647)] (λd e=>
 asF .f32 d λf=>
 aa (.float .f32 f) e) b) h
theorem En.call{a_0:Nat}{aa:VH}{h:ab}(H:En.S a_0 aa h):ae ai uL #[.float .f32 a_0] aa h:=
 qc (Λ:=an []) Tryz.func375
 qf
 (qe H)
def zS.S(a_0:Nat)(aa:VH)(h:ab):=
 FFC .f32 a_0 .f64 λa=>
 ae ai tS #[.float .f64 a] (λb c=>
 asF .f64 b λd=>
 FFC .f64 d .f32 λe=>
 aa (.float .f32 e) c) h
theorem zS.call{a_0:Nat}{aa:VH}{h:ab}(H:zS.S a_0 aa h):ae ai qu #[.float .f32 a_0] aa h:=
 qc (Λ:=an []) Tryz.func378
 qf
 (qe H)
def Ah.S(a_0:Nat)(aa:VH)(h:ab):=
 ae ai uL #[.float .f32 a_0] (λb c=>
 asF .f32 b λd=>
 ae ai kK #[.int .u32 8388608] (λe a=>
 asF .f32 e λf=>
 BIF (FloatKind.f32.format.order d f==some .lt) (
 aa (.float .f32 0) a) (
 aa (.float .f32 a_0) a)) c) h
theorem Ah.call{a_0:Nat}{aa:VH}{h:ab}(H:Ah.S a_0 aa h):ae ai vG #[.float .f32 a_0] aa h:=
 qc (Λ:=an []) Tryz.func374
 qf
 (qe H)
def u6.S(a_0:Nat)(aa:VH)(h:ab):=
 ae ai qu #[.float .f32 a_0] (λb a=>
 asF .f32 b λc=>
 BIF (FloatKind.f32.format.order c 8388608==some .lt) (
 aa (.float .f32 0) a) (
 aa (.float .f32 a_0) a)) h
theorem u6.call{a_0:Nat}{aa:VH}{h:ab}(H:u6.S a_0 aa h):ae ai qH #[.float .f32 a_0] aa h:=
 qc (Λ:=an []) Tryz.func376
 qf
 (qe H)
def CD.S(a_0:Nat)(aa:VH)(h:ab):=
 ae ai fk #[.float .f32 a_0] (λb a=>
 asB b λc=>
 BIF (!c) (
 aa (.float .f32 0) a) (
 ae ai vG #[.float .f32 a_0] (λd e=>
 asF .f32 d λf=>
 aa (.float .f32 f) e) a)) h
theorem CD.call{a_0:Nat}{aa:VH}{h:ab}(H:CD.S a_0 aa h):ae ai bM #[.float .f32 a_0] aa h:=
 qc (Λ:=an []) Tryz.func334
 qf
 (qe H)
def Jo.S(a_0:Nat)(aa:VH)(h:ab):=
 ae ai gC #[.float .f32 a_0] (λb a=>
 asB b λc=>
 BIF (!c) (
 aa (.float .f32 0) a) (
 ae ai qH #[.float .f32 a_0] (λd e=>
 asF .f32 d λf=>
 aa (.float .f32 f) e) a)) h
theorem Jo.call{a_0:Nat}{aa:VH}{h:ab}(H:Jo.S a_0 aa h):ae ai gj #[.float .f32 a_0] aa h:=
 qc (Λ:=an []) Tryz.func347
 qf
 (qe H)
def uT.S(a_0:Nat)(nj:Nat)(aa:VH)(h:ab):=
 BIF (FloatKind.f32.format.order a_0 nj==some .gt) (
 aa (.float .f32 nj) h) (
 BIF (FloatKind.f32.format.order a_0 (Op.negFloat .f32 nj)==some .lt) (
 aa (.float .f32 (Op.negFloat .f32 nj)) h) (
 aa (.float .f32 a_0) h))
theorem uT.call{a_0:Nat}{nj:Nat}{aa:VH}{h:ab}(H:uT.S a_0 nj aa h):ae ai qx #[.float .f32 a_0,.float .f32 nj] aa h:=
 qc (Λ:=an []) Tryz.func186
 qf
 (qe H)
def px.S(a_0:Nat)(nj:Nat)(aa:VH)(h:ab):=
 BIF (FloatKind.f32.format.order a_0 nj==some .gt) (
 aa (.float .f32 nj) h) (
 BIF (FloatKind.f32.format.order a_0 (Op.negFloat .f32 nj)==some .lt) (
 aa (.float .f32 (Op.negFloat .f32 nj)) h) (
 aa (.float .f32 a_0) h))
theorem px.call{a_0:Nat}{nj:Nat}{aa:VH}{h:ab}(H:px.S a_0 nj aa h):ae ai mN #[.float .f32 a_0,.float .f32 nj] aa h:=
 qc (Λ:=an []) Tryz.func192
 qf
 (qe H)
def z8.S(a_0:Nat)(yk:Nat)(ra:Nat)(aa:VH)(h:ab):=
 BIF (FloatKind.f32.format.order a_0 yk==some .gt||FloatKind.f32.format.order a_0 yk==some .eq) (
 aa (.bool (FloatKind.f32.format.order a_0 ra==some .lt||FloatKind.f32.format.order a_0 ra==some .eq)) h) (
 aa (.bool false) h)
theorem z8.call{a_0:Nat}{yk:Nat}{ra:Nat}{aa:VH}{h:ab}(H:z8.S a_0 yk ra aa h):ae ai eQ #[.float .f32 a_0,.float .f32 yk,.float .f32 ra] aa h:=
 qc (Λ:=an []) Tryz.func198
 qf
 (qe H)
set_option maxHeartbeats 4000000
theorem uI(b:Nat):Ret ai jK #[.float .f32 b] (.int .u32 b):=
 HC (e:=Extern.MathFloatBits.float32bits) Gp (by kernel_rfl) (by kernel_rfl) (by kernel_rfl) (by kernel_rfl) λw=>rfl
theorem Mh(n:Int):Ret ai kK #[.int .u32 n] (.float .f32 n.toNat):=
 HC (e:=Extern.MathFloatBits.float32frombits) By (by kernel_rfl) (by kernel_rfl) (by kernel_rfl) (by kernel_rfl) λw=>rfl
theorem FL(b:Nat):Ret ai mV #[.float .f64 b] (.int .u64 b):=
 HC (e:=Extern.MathFloatBits.float64bits) Gq (by kernel_rfl) (by kernel_rfl) (by kernel_rfl) (by kernel_rfl) λw=>rfl
theorem HM(n:Int):Ret ai kL #[.int .u64 n] (.float .f64 n.toNat):=
 HC (e:=Extern.MathFloatBits.float64frombits) Bz (by kernel_rfl) (by kernel_rfl) (by kernel_rfl) (by kernel_rfl) λw=>rfl
end Go.Sx
namespace Go.Sx
open Go.Proofs Ieee
set_option maxRecDepth 100000
abbrev Fl(P:Program)(f:FuncId)(args:Array Value)(k:FloatKind)(a:Nat):Prop:=∀h,ae P f args (λu h'=>(∃y,u = .float k y∧FW k y a)∧Ext h h') h
theorem Fl.go{P:Program}{f:FuncId}{args:Array Value}{k:FloatKind}{a:Nat}(c:Fl P f args k a){h:ab}{K:Value->ab->Prop}(H:∀h' y,Ext h h'->FW k y a->K (.float k y) h'):ae P f args K h:=
 (c h).mono λu h' ⟨⟨y,e,hy⟩,x⟩=>by subst e;exact H h' y x hy
theorem mg(n l r:Int):Ret ai eO #[.int .i64 n,.int .i64 l,.int .i64 r] (.bool (inR n l r)):=λh=>by
 refine H4.call (br (λhb=>?_) λhb=>?_) <;> exact ⟨by simp[inR,hb],Ext.refl _⟩
theorem kJ(n l r:Int):Ret ai dY #[.int .i64 n,.int .i64 l,.int .i64 r] (.bool (inR n l r)):=λh=>by
 refine DV.call (br (λhb=>?_) λhb=>?_) <;> exact ⟨by simp[inR,hb],Ext.refl _⟩
theorem kN(b:Option Addr)(l c:Nat):Ret ai dR #[.slice b l c] (.int .i64 l):=λh=>pT.call ⟨rfl,Ext.refl _⟩
theorem fw0:FW .f32 0 0:=fK (by decide) (by decide)
section
variable {x y a b:Nat}
theorem HU(hx:FW .f32 x a):Ret ai nQ #[.float .f32 x] (.bool (nan .f32 a)):=λh=>Eo.call ⟨by rw[ne_self,hx.nan],Ext.refl _⟩
theorem ah7(hx:FW .f32 x a):(if nan .f32 a then qn .f32 else x)=a:=by
 split
 ·next h=>have:=hx.self;unfold cn at this;rw[if_pos h] at this;exact this
 ·next h=>exact hx.eq (by simpa using h)
theorem AD(hx:FW .f32 x a):Ret ai kU #[.float .f32 x] (.int .u32 a):=λh=>by
 refine z7.call ?_
 rw[z7.S,ne_self,hx.nan]
 have:=ah7 hx
 refine br (λhb=>⟨by rw[← this,if_pos hb];rfl,Ext.refl _⟩) λhb=>?_
 refine (uI x).go λh2 x2=>cX ⟨by rw[← this,hb];rfl,x2⟩
theorem kX(hx:FW .f32 x a):Ret ai fk #[.float .f32 x] (.bool (fin a)):=λh=>
 yu.call (fS hx hx λr hr=>⟨by rw[cY hr fw0];rfl,Ext.refl _⟩)
theorem nh(hx:FW .f32 x a):Ret ai gC #[.float .f32 x] (.bool (fin a)):=λh=>
 zV.call (fS hx hx λr hr=>⟨by rw[cY hr fw0];rfl,Ext.refl _⟩)
theorem kq(hx:FW .f32 x a)(hy:FW .f32 y b):Ret ai eL #[.float .f32 x,.float .f32 y] (.bool (a==b)):=λh=>by
 have key:∀h1,Ext h h1->∀t,t=(nan .f32 a||nan .f32 b)->iV.J2 (λu h'=>u = .bool (a==b)∧Ext h h') x y t h1:=by
  intro h1 x1 t ht
  subst ht
  unfold iV.J2
  refine br (λhb=>?_) λhb=>?_
  ·refine (HU hx).go λh2 x2=>bd (br (λh3=>?_) λh3=>?_)
   ·refine (HU hy).go λh4 x4=>bd ⟨?_,(x1.trans x2).trans x4⟩
    have ea:a=qn .f32:=by have:=hx.self;unfold cn at this;rw[if_pos h3] at this;exact this.symm
    subst ea
    congr 1
    rw[Bool.eq_iff_iff]
    constructor
    ·intro h5;have:=hy.self;unfold cn at this;rw[if_pos h5] at this;rw[← this];simp
    ·intro h5;have:=eq_of_beq h5;rw[← this];exact MR .f32
   ·rw[h3,Bool.false_or] at hb
    refine ⟨?_,x1.trans x2⟩
    have:(a==b)=false:=by
     apply beq_false_of_ne
     intro e
     rw[e,hb] at h3
     cases h3
    rw[this]
  ·rw[Bool.or_eq_false_iff] at hb
   refine (uI x).go λh2 x2=>cX ((uI y).go λh4 x4=>cX ⟨?_,(x1.trans x2).trans x4⟩)
   rw[hx.eq hb.1,hy.eq hb.2]
   congr 1
   rw[Bool.eq_iff_iff,beq_iff_eq,beq_iff_eq]
   omega
 refine iV.call ((HU hx).go λh1 x1=>bd (br (λhb=>key _ x1 _ (by rw[hb];rfl)) λhb=>?_))
 exact (HU hy).go λh2 x2=>bd (key _ (x1.trans x2) _ (by rw[hb];rfl))
theorem aln(hx:FW .f32 x a):FW .f32 (x % 2 ^ 31) (Uk a):=by
 refine ⟨?_,Nat.lt_of_lt_of_le (Nat.mod_lt _ (by decide)) (show 2 ^ 31≤2 ^ 32 by decide)⟩
 have h1:nan .f32 (x % 2 ^ 31)=nan .f32 x:=Co (Nat.mod_mod _ _)
 have h2:nan .f32 (a % 2 ^ 31)=nan .f32 a:=Co (Nat.mod_mod _ _)
 unfold Uk cn
 rw[h1,h2,hx.nan]
 split
 ·rfl
 ·next h=>rw[hx.eq (by simpa using h)]
theorem UE(hx:FW .f32 x a):Fl ai uL #[.float .f32 x] .f32 (Uk a):=λh=>by
 refine En.call ((uI x).go λh1 x1=>cX ((Mh _).go λh2 x2=>dv ⟨⟨_,rfl,?_⟩,x1.trans x2⟩))
 have vR:x<4294967296:=hx.2
 have e:(zt .and .u32 (x:Int) 2147483647).toNat=x % 2 ^ 31:=by
  simp only[zt]
  have e2:(BitVec.ofInt IntKind.u32.bits (x:Int) &&& BitVec.ofInt IntKind.u32.bits 2147483647).toNat=x % 2 ^ 31:=by
   rw[show (2147483647:Int)=((2147483647:Nat):Int) from rfl,BitVec.toNat_and,BitVec.ofInt_natCast,BitVec.ofInt_natCast,BitVec.toNat_ofNat,BitVec.toNat_ofNat]
   rw[show (2:Nat) ^ IntKind.u32.bits=4294967296 by decide,Nat.mod_eq_of_lt vR,show (2147483647:Nat) % 4294967296=2 ^ 31-1 by decide,Nat.and_two_pow_sub_one_eq_mod]
  rw[e2]
  simp only[IntKind.wrap,IntKind.signed,Bool.false_and,Bool.false_eq_true,if_false]
  rw[show (2:Int) ^ IntKind.u32.bits=4294967296 by decide]
  have:=Nat.mod_lt x (show 2 ^ 31 > 0 by decide)
  omega
 rw[e]
 exact aln hx
theorem YM(hx:FW .f64 x a):Fl ai tS #[.float .f64 x] .f64 (cn .f64 (a % 2 ^ 63)):=λh=>by
 refine ML.call ((FL x).go λh1 x1=>cX ((HM _).go λh2 x2=>dv ⟨⟨_,rfl,?_⟩,x1.trans x2⟩))
 have vR:x<18446744073709551616:=hx.2
 have e:(zt .andNot .u64 (x:Int) 9223372036854775808).toNat=x % 2 ^ 63:=by
  simp only[zt]
  have e2:(BitVec.ofInt IntKind.u64.bits (x:Int) &&& ~~~BitVec.ofInt IntKind.u64.bits 9223372036854775808).toNat=x % 2 ^ 63:=by
   have e3:(~~~BitVec.ofInt IntKind.u64.bits 9223372036854775808).toNat=2 ^ 63-1:=by decide
   rw[BitVec.toNat_and,e3,BitVec.ofInt_natCast,BitVec.toNat_ofNat]
   rw[show (2:Nat) ^ IntKind.u64.bits=18446744073709551616 by decide,Nat.mod_eq_of_lt vR,Nat.and_two_pow_sub_one_eq_mod]
  rw[e2]
  simp only[IntKind.wrap,IntKind.signed,Bool.false_and,Bool.false_eq_true,if_false]
  rw[show (2:Int) ^ IntKind.u64.bits=18446744073709551616 by decide]
  have:=Nat.mod_lt x (show 2 ^ 63 > 0 by decide)
  omega
 rw[e]
 refine ⟨?_,Nat.lt_of_lt_of_le (Nat.mod_lt _ (by decide)) (show 2 ^ 63≤2 ^ 64 by decide)⟩
 have h1:nan .f64 (x % 2 ^ 63)=nan .f64 x:=Co (Nat.mod_mod _ _)
 have h2:nan .f64 (a % 2 ^ 63)=nan .f64 a:=Co (Nat.mod_mod _ _)
 unfold cn
 rw[h1,h2,hx.nan]
 split
 ·rfl
 ·next h=>rw[hx.eq (by simpa using h)]
theorem LH(hx:FW .f32 x a):Fl ai qu #[.float .f32 x] .f32 (Uk a):=λh=>by
 refine zS.call (cK hx λr hr=>(YM hr).go λh1 y x1 hy=>dv ?_)
 obtain⟨e1,e2⟩:=ada a hx.self
 refine Lj hy e1 λr hr=>⟨⟨r,rfl,?_⟩,x1⟩
 rw[e2] at hr
 exact hr
theorem Xi(hx:FW .f32 x a):Fl ai vG #[.float .f32 x] .f32 (flush a):=λh=>by
 refine Ah.call ((UE hx).go λh1 y x1 hy=>dv ((Mh _).go λh2 x2=>dv ?_))
 rw[show (8388608:Int).toNat=8388608 from rfl,cY hy (fK (c:=8388608) (by decide) (by decide))]
 exact br (λhb=>⟨⟨0,rfl,by rw[flush,flt,if_pos hb];exact fw0⟩,x1.trans x2⟩) λhb=>⟨⟨x,rfl,by rw[flush,flt,hb];exact hx⟩,x1.trans x2⟩
theorem Ow(hx:FW .f32 x a):Fl ai qH #[.float .f32 x] .f32 (flush a):=λh=>by
 refine u6.call ((LH hx).go λh1 y x1 hy=>dv ?_)
 rw[cY hy (fK (c:=8388608) (by decide) (by decide))]
 exact br (λhb=>⟨⟨0,rfl,by rw[flush,flt,if_pos hb];exact fw0⟩,x1⟩) λhb=>⟨⟨x,rfl,by rw[flush,flt,hb];exact hx⟩,x1⟩
theorem jO(hx:FW .f32 x a):Fl ai bM #[.float .f32 x] .f32 (kept a):=λh=>by
 refine CD.call ((kX hx).go λh1 x1=>bd (br (λhb=>?_) λhb=>?_))
 ·exact ⟨⟨0,rfl,by rw[kept,if_neg (by simpa using hb)];exact fw0⟩,x1⟩
 ·exact (Xi hx).go λh2 y x2 hy=>dv ⟨⟨y,rfl,by rw[kept,if_pos (by simpa using hb)];exact hy⟩,x1.trans x2⟩
theorem ri(hx:FW .f32 x a):Fl ai gj #[.float .f32 x] .f32 (kept a):=λh=>by
 refine Jo.call ((nh hx).go λh1 x1=>bd (br (λhb=>?_) λhb=>?_))
 ·exact ⟨⟨0,rfl,by rw[kept,if_neg (by simpa using hb)];exact fw0⟩,x1⟩
 ·exact (Ow hx).go λh2 y x2 hy=>dv ⟨⟨y,rfl,by rw[kept,if_pos (by simpa using hb)];exact hy⟩,x1.trans x2⟩
def yS(a l:Nat):Nat:=if fgt .f32 a l then l else if flt .f32 a (WN .f32 l) then WN .f32 l else a
theorem Mq(hx:FW .f32 x a)(hy:FW .f32 y b):Fl ai qx #[.float .f32 x,.float .f32 y] .f32 (yS a b):=λh=>by
 refine uT.call ?_
 rw[uT.S,cY hx hy,cY hx (o3 hy)]
 refine br (λhb=>⟨⟨y,rfl,by rw[yS,fgt,if_pos hb];exact hy⟩,Ext.refl _⟩) λhb=>br (λhc=>⟨⟨_,rfl,?_⟩,Ext.refl _⟩) λhc=>⟨⟨x,rfl,?_⟩,Ext.refl _⟩
 ·rw[yS,fgt,hb,if_neg (by simp),flt,if_pos hc];exact o3 hy
 ·rw[yS,fgt,hb,if_neg (by simp),flt,hc];exact hx
theorem FK(hx:FW .f32 x a)(hy:FW .f32 y b):Fl ai mN #[.float .f32 x,.float .f32 y] .f32 (yS a b):=λh=>by
 refine px.call ?_
 rw[px.S,cY hx hy,cY hx (o3 hy)]
 refine br (λhb=>⟨⟨y,rfl,by rw[yS,fgt,if_pos hb];exact hy⟩,Ext.refl _⟩) λhb=>br (λhc=>⟨⟨_,rfl,?_⟩,Ext.refl _⟩) λhc=>⟨⟨x,rfl,?_⟩,Ext.refl _⟩
 ·rw[yS,fgt,hb,if_neg (by simp),flt,if_pos hc];exact o3 hy
 ·rw[yS,fgt,hb,if_neg (by simp),flt,hc];exact hx
end
section
variable {x y a b:Nat}
theorem rU(hx:FW .f32 x a)(hy:FW .f32 y b):Ret ai fy #[.float .f32 x,.float .f32 y] (.bool (a==b)):=λh=>by
 refine vX.call ((AD hx).go λh1 x1=>cX ((AD hy).go λh2 x2=>cX ⟨?_,x1.trans x2⟩))
 congr 1
 rw[Bool.eq_iff_iff,beq_iff_eq,beq_iff_eq]
 omega
def inside(a l r:Nat):Bool:=fge .f32 a l&&fle .f32 a r
theorem lS{z c:Nat}(hx:FW .f32 x a)(hy:FW .f32 y b)(hz:FW .f32 z c):Ret ai eQ #[.float .f32 x,.float .f32 y,.float .f32 z] (.bool (inside a b c)):=λh=>by
 refine z8.call ?_
 rw[z8.S,cY hx hy,cY hx hz]
 exact br (λhb=>⟨by rw[inside,fge,hb];rfl,Ext.refl _⟩) λhb=>⟨by rw[inside,fge,hb];rfl,Ext.refl _⟩
end
end Go.Sx
namespace Go.Sx
def tB:Nat:=1065353216
def CX:Nat:=3212836864
def cF.n(x:cF):Nat:=x.aY.length
def cF.d(x:cF)(b:Nat):Nat:=jC .f32 x.Left[0]!.old b
def cF.t(x:cF)(i:Nat):Nat:=fP .f32 x.aG[i]! (jC .f32 x.aY[i]!.old x.Left[i+1]!.old)
def cF.e(x:cF):cN×Nat:=x.End.step x.aY[x.n-1]!.old
def cF.back(x:cF):Nat:=let b:=fP .f32 x.fi x.e.2;if x.Open then WN .f32 b else b
def cF.asC(x:cF)(d:Nat):Nat:=yS (mF .f32 x.Rest (fP .f32 x.fG d)) tB
def cF.rt(x:cF)(b:Nat)(i:Nat):bc:=x.aY[i]!.push (kept (if i=0 then mF .f32 b (fP .f32 (x.d b) (x.asC (x.d b))) else mF .f32 x.aY[i-1]!.old (x.t (i-1))))
def cF.lf(x:cF)(i:Nat):bc:=x.Left[i]!.push (kept (if i=x.n-1 then x.back else mF .f32 x.Left[i+1]!.old (x.t i)))
def cF.step(x:cF)(b:Nat):cF×Nat:=({ x with aY:=(List.range x.n).map (x.rt b),Left:=(List.range x.n).map x.lf,End:=x.e.1 },x.e.2)
def cF.ok(x:cF):Bool:=
 inR x.n 1 3&&decide (x.Left.length=x.n)&&decide (x.aG.length+1=x.n)&&x.aY.all bc.okf&&x.Left.all bc.okf&&((List.range x.n).all λi=>x.aY[i]!.af.length==x.Left[i]!.af.length) &&
  (x.aG.all λk=>inside k CX tB)&&x.End.ok&&(x.End.Kind==1)&&fin x.fi&&fin x.Rest&&fin x.fG
end Go.Sx
namespace Go.Sx
open Go.MapKept
def WH(p:Int×Value):Value×Value:=(.int .i64 p.1,p.2)
def Nb(e:MapEntry):Value×Value:=(e.key,e.val)
def Aw(h:ab)(g:Nat)(m:List (Int×Value)):Prop:=∃(es:Array MapEntry) (clock:Nat),h[g]? = some (.map es clock)∧es.toList.map Nb=m.map WH
def yY:List (Int×Value)->Int->Option (Nat×Value)
 | [],_=>none
 | (k,u) :: m,n=>if n=k then some (0,u) else (yY m n).map λp=>(p.1+1,p.2)
def jr(m:List (Int×Value))(n:Int):Option Value:=(yY m n).map (·.2)
def FG:List (Int×Value)->Int->Value->List (Int×Value)
 | [],n,v=>[(n,v)]
 | (k,u) :: m,n,v=>if n=k then (n,v) :: m else (k,u) :: FG m n v
theorem uo(k n:Int)(u:Value)(m:List (Int×Value)):jr ((k,u) :: m) n=if n=k then some u else jr m n:=by
 unfold jr
 rw[yY]
 split
 ·rfl
 ·rw[Option.map_map];rfl
theorem GS(m:List (Int×Value))(k n:Int)(v:Value):jr (FG m k v) n=if n=k then some v else jr m n:=by
 induction m with
 | nil=>rw[FG,uo]
 | cons p m ih=>
  obtain⟨a,u⟩:=p
  rw[FG]
  split
  ·next e=>
   subst e
   rw[uo,uo]
   split
   ·rfl
   ·rfl
  ·next e=>
   rw[uo,uo,ih]
   by_cases h1:n=a
   ·subst h1
    rw[if_pos rfl,if_pos rfl]
    rw[if_neg (λh=>e h.symm)]
   ·rw[if_neg h1,if_neg h1]
theorem af7(m:List (Int×Value))(k:Int)(v:Value):(FG m k v).length=if (jr m k).isSome then m.length else m.length+1:=by
 induction m with
 | nil=>rfl
 | cons p m ih=>
  obtain⟨a,u⟩:=p
  rw[FG,uo]
  split
  ·rfl
  ·rw[List.length_cons,ih]
   split <;> simp
section
variable {P:Program}{h hb:ab}{g:Nat}{m:List (Int×Value)}{t k e:TypeId}{K:Value->ab->Prop}
theorem yW(n:Int):∀{L:List MapEntry}{m:List (Int×Value)}(i:Nat),L.map Nb=m.map WH->Instr.findNow (.int .i64) (.int .i64 n) L i=some ((yY m n).map λp=>(i+p.1,p.2))
 | [],[],i,_=>rfl
 | [],_ :: _,i,h=>by cases h
 | _ :: _,[],i,h=>by cases h
 | x :: L,(a,u) :: m,i,h=>by
  simp only[List.map_cons,List.cons.injEq] at h
  obtain⟨h1,h2⟩:=h
  have hk:x.key = .int .i64 a:=congrArg Prod.fst h1
  have hv:x.val=u:=congrArg Prod.snd h1
  have ih:=yW n (i+1) h2
  unfold Instr.findNow
  rw[hk]
  simp only[Instr.sameNow,if_pos]
  by_cases e:n=a
  ·subst e
   rw[show (n==n)=true by simp]
   simp[yY,hv]
  ·rw[show (n==a)=false by simpa using e]
   simp only[]
   rw[ih]
   simp only[yY,if_neg e,Option.map_map]
   congr 1
   congr 1
   funext p
   simp only[Function.comp_apply,Prod.mk.injEq,and_true]
   omega
theorem Aw.ext{h':ab}(M:Aw h g m)(x:Ext h h'):Aw h' g m:=by
 obtain⟨es,c,e1,e2⟩:=M
 have vR:g<h.size:=(Array.getElem?_eq_some_iff.1 e1).1
 exact ⟨es,c,by rw[x.2 g vR];exact e1,e2⟩
theorem MH{t:TypeId}(H:∀g h',Ext h h'->g=h.size->Aw h' g []->K (.map (some g)) h'):iA P (Instr.makeMap t none) K h:=by
 refine Yo λw hw=>⟨.map (some w.heap.size),w.alloc (.map #[] 0),by simp[Instr.makeMap,newObj,Sem.run],⟨rfl,rfl,rfl⟩,?_⟩
 have e:(w.alloc (.map #[] 0)).heap=w.heap.push (.map #[] 0):=rfl
 rw[e,hw]
 exact H _ _ (Ext.push _ _) rfl ⟨#[],0,by simp,rfl⟩
theorem ME{z:Value}(M:Aw h g m)(ht:P.underlying t=some (.map k e))(hk:P.underlying k=some (.int .i64))(hz:∀w:World,(zeroValue e).run P w = .ok z w)(n:Int)(H:K (.tuple #[(jr m n).getD z,.bool (jr m n).isSome]) h):iA P (Instr.lookup t (.map (some g)) (.int .i64 n) true) K h:=by
 obtain⟨es,c,e1,e2⟩:=M
 refine Yo λw hw=>⟨.tuple #[(jr m n).getD z,.bool (jr m n).isSome],w,?_,jH.refl _,by rw[hw];exact H⟩
 have hb:w.heap[g]? = some (.map es c):=by rw[hw];exact e1
 have hf:=yW n 0 e2
 have hc:=MapKept.run_checkKey (P:=P) (w:=w) (k:=.int .i64 n) hk (by exact rfl) es.isEmpty 9999
 simp only[Instr.lookup,Sem.run_bind,run_underlying ht,Result.andThen_ok,MapKept.run_getObj_map hb,Sem.run_pure]
 rw[show (10000:Nat)=9999+1 from rfl,hc]
 simp only[Result.andThen_ok]
 rw[MapKept.run_findKey hk hf]
 unfold jr
 cases yY m n with
 | none=>simp[hz w,Result.andThen]
 | some p=>simp[Result.andThen]
theorem Qr{z:Value}(M:Aw h g m)(ht:P.underlying t=some (.map k e))(hk:P.underlying k=some (.int .i64))(hz:∀w:World,(zeroValue e).run P w = .ok z w)(n:Int)(H:K ((jr m n).getD z) h):iA P (Instr.lookup t (.map (some g)) (.int .i64 n) false) K h:=by
 obtain⟨es,c,e1,e2⟩:=M
 refine Yo λw hw=>⟨(jr m n).getD z,w,?_,jH.refl _,by rw[hw];exact H⟩
 have hb:w.heap[g]? = some (.map es c):=by rw[hw];exact e1
 have hf:=yW n 0 e2
 have hc:=MapKept.run_checkKey (P:=P) (w:=w) (k:=.int .i64 n) hk (by exact rfl) es.isEmpty 9999
 simp only[Instr.lookup,Sem.run_bind,run_underlying ht,Result.andThen_ok,MapKept.run_getObj_map hb,Sem.run_pure]
 rw[show (10000:Nat)=9999+1 from rfl,hc]
 simp only[Result.andThen_ok]
 rw[MapKept.run_findKey hk hf]
 unfold jr
 cases yY m n with
 | none=>simp[hz w,Result.andThen]
 | some p=>simp[Result.andThen]
theorem V9{L:List MapEntry}{n:Int}{v:Value}:∀{m:List (Int×Value)}{j:Nat}{u:Value},L.map Nb=m.map WH->yY m n=some (j,u) ->
  ((L.modify j λx=>{ x with key:=.int .i64 n,val:=v }).map Nb=(FG m n v).map WH∧L[j]?.map (·.key)=some (.int .i64 n)):=by
 induction L with
 | nil=>
  intro m j u h1 h2
  cases m with
  | nil=>cases h2
  | cons _ _=>cases h1
 | cons x L ih=>
  intro m j u h1 h2
  cases m with
  | nil=>cases h1
  | cons p m=>
   obtain⟨a,b⟩:=p
   simp only[List.map_cons,List.cons.injEq] at h1
   obtain⟨h3,h4⟩:=h1
   rw[yY] at h2
   rw[FG]
   split at h2
   ·next e=>
    subst e
    obtain⟨rfl,rfl⟩:j=0∧u=b:=by simpa [eq_comm] using h2
    rw[if_pos rfl]
    refine ⟨?_,?_⟩
    ·simp only[List.modify_zero_cons,List.map_cons,h4]
     rfl
    ·have:x.key = .int .i64 n:=congrArg Prod.fst h3
     simp[this]
   ·next e=>
    rw[if_neg e]
    cases hf:yY m n with
    | none=>rw[hf] at h2;cases h2
    | some q=>
     obtain⟨j',u'⟩:=q
     rw[hf] at h2
     obtain⟨rfl,rfl⟩:j'+1=j∧u'=u:=by simpa using h2
     obtain⟨k1,k2⟩:=ih h4 hf
     exact ⟨by simp only[List.modify_succ_cons,List.map_cons,k1,h3],by simpa using k2⟩
theorem abI{L:List MapEntry}{n:Int}{v:Value}{x:MapEntry}(hx:Nb x=WH (n,v)){m:List (Int×Value)}(h1:L.map Nb=m.map WH)(h2:yY m n=none):(L++[x]).map Nb=(FG m n v).map WH:=by
 have:FG m n v=m++[(n,v)]:=by
  clear h1
  induction m with
  | nil=>rfl
  | cons p m ih=>
   obtain⟨a,b⟩:=p
   rw[yY] at h2
   split at h2
   ·cases h2
   ·next e=>
    rw[FG,if_neg e,ih (by simpa using h2)]
    rfl
 rw[this,List.map_append,List.map_append,h1]
 simp[hx]
theorem Th(M:Aw h g m)(X:Ext hb h)(hg:hb.size≤g)(ht:P.underlying t=some (.map k e))(hk:P.underlying k=some (.int .i64))(n:Int)(v:Value)(H:∀q h',Ext hb h'->Aw h' g (FG m n v)->(∀i,i≠g->h'[i]? = h[i]?)->K q h'):lK P (do Instr.mapUpdate t (.map (some g)) (.int .i64 n) v;pure .skip) K h:=by
 obtain⟨es,c,e1,e2⟩:=M
 have vR:g<h.size:=(Array.getElem?_eq_some_iff.1 e1).1
 refine JK λw hw=>?_
 have hbb:w.heap[g]? = some (.map es c):=by rw[hw];exact e1
 have hf:=yW n 0 e2
 have hc:=MapKept.run_checkKey (P:=P) (w:=w) (k:=.int .i64 n) hk (by exact rfl) false 9999
 have key:∀o:Obj,Ext hb (h.setIfInBounds g o):=λo=>⟨by rw[Array.size_setIfInBounds];exact X.1,λi hi=>by rw[Array.getElem?_setIfInBounds,if_neg (by omega)];exact X.2 i hi⟩
 have other:∀(o:Obj) i,i≠g->(h.setIfInBounds g o)[i]? = h[i]?:=λo i hi=>by rw[Array.getElem?_setIfInBounds,if_neg (λe=>hi e.symm)]
 have self:∀o:Obj,(h.setIfInBounds g o)[g]? = some o:=λo=>by rw[Array.getElem?_setIfInBounds,if_pos rfl,if_pos vR]
 cases hi:yY m n with
 | none=>
  refine ⟨{ w with heap:=w.heap.setIfInBounds g (.map (es.push { key:=.int .i64 n,val:=v,born:=c }) (c+1)) },?_,⟨rfl,rfl,rfl⟩,?_⟩
  ·rw[hi] at hf
   simp only[Instr.mapUpdate,Sem.run_bind,run_underlying ht,Result.andThen_ok,MapKept.run_getObj_map hbb,Sem.run_pure]
   rw[show (10000:Nat)=9999+1 from rfl,hc]
   simp only[Result.andThen_ok]
   rw[MapKept.run_findKey hk hf]
   simp[MapKept.run_setObj_map _ hbb,Result.andThen]
  ·simp only[hw]
   exact H _ _ (key _) ⟨_,_,self _,by rw[Array.toList_push];exact abI rfl e2 hi⟩ (other _)
 | some p=>
  obtain⟨j,u⟩:=p
  obtain⟨k1,k2⟩:=V9 (v:=v) e2 hi
  refine ⟨{ w with heap:=w.heap.setIfInBounds g (.map (es.modify j λx=>{ x with key:=.int .i64 n,val:=v }) c) },?_,⟨rfl,rfl,rfl⟩,?_⟩
  ·rw[hi] at hf
   simp only[Instr.mapUpdate,Sem.run_bind,run_underlying ht,Result.andThen_ok,MapKept.run_getObj_map hbb,Sem.run_pure]
   rw[show (10000:Nat)=9999+1 from rfl,hc]
   simp only[Result.andThen_ok]
   rw[MapKept.run_findKey hk hf]
   have hj:(es[j]?.map (·.key)).getD (.int .i64 n) = .int .i64 n:=by
    rw[Array.getElem?_toList] at k2
    rw[k2];rfl
   simp only[Option.map_some,Nat.zero_add,Sem.run_bind,Result.andThen_ok]
   rw[hj,MapKept.run_keyThatStays (d:=.int .i64) (k:=.int .i64 n) (show IsKey (.int .i64) (.int .i64 n) from rfl)]
   simp[MapKept.run_setObj_map _ hbb,Result.andThen]
  ·simp only[hw]
   exact H _ _ (key _) ⟨_,_,self _,by rw[Array.toList_modify];exact k1⟩ (other _)
theorem Zq{ty:TypeId}(M:Aw h g m)(ht:P.underlying t=some (.map k e))(H:K (.int .i64 (m.length:Int)) h):iA P (Builtin.len_ #[t] ty #[.map (some g)]) K h:=by
 obtain⟨es,c,e1,e2⟩:=M
 have hl:es.size=m.length:=by have:=congrArg List.length e2;simpa using this
 refine Yo λw hw=>⟨.int .i64 (m.length:Int),w,?_,jH.refl _,by rw[hw];exact H⟩
 have hbb:w.heap[g]? = some (.map es c):=by rw[hw];exact e1
 simp[Builtin.len_,run_underlying ht,MapKept.run_getObj_map hbb,Result.andThen,goInt,hl]
end
end Go.Sx
