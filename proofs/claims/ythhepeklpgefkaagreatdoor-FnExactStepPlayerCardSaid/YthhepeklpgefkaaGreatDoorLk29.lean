/- Lemmas. -/
import Derived.Test.YthhepeklpgefkaaGreatDoorLk26
import Derived.Test.YthhepeklpgefkaaGreatDoorTab
import Derived.Test.YthhepeklpgefkaaGreatDoorLr7
import Derived.Test.YthhepeklpgefkaaGreatDoorK8
import Derived.Test.YthhepeklpgefkaaGreatDoorLg
import Derived.Test.YthhepeklpgefkaaGreatDoorLp4
import Derived.Test.YthhepeklpgefkaaGreatDoorTabE
import Derived.Test.YthhepeklpgefkaaGreatDoorLk24
set_option linter.unusedVariables false
set_option linter.unusedSimpArgs false
namespace Go.Sx
open Go.Proofs
set_option maxRecDepth 100000
set_option maxHeartbeats 1000000
section
variable {h:ab}
theorem Dx{es:List bf}{i:Nat}(hi:i<es.length){p:bf->Bool}(h1:∀k,qG p es i k≤1)(h2:p es[i]! = true->qG p es i es[i]!.aT=0)(k:Int):qG p es (i+1) k≤1:=by
 rw[AF p hi]
 split
 ·next e=>
  rw[Bool.and_eq_true,beq_iff_eq] at e
  rw[← e.2,h2 e.1];decide
 ·have:=h1 k;omega
theorem mkS{es:List bf}{ni:Int}{i:Nat}(hi:i<es.length)(hp:mj ni es[i]! = true)(hn:0≤es[i]!.aT∧es[i]!.aT<(es.length / 2:Nat))(A:fL es[i]! = true->qG jq es i es[i]!.aT=0)(B:jq es[i]! = true->0<qG fL es i es[i]!.aT)(e1:qG fL es (i+1) es[i]!.aT≤1)(e2:qG jq es (i+1) es[i]!.aT≤1):TV es ni i:=by
 refine ⟨hp,hn,λh=>⟨A h,?_⟩,λh=>⟨B h,?_⟩⟩
 ·rw[AF fL hi,h,if_pos (by simp)] at e1;omega
 ·rw[AF jq hi,h,if_pos (by simp)] at e2;omega
theorem ajq{N:(Option Addr×Nat×Nat×Int×Int×Option Addr×Nat×Nat×Option Addr×Nat×Nat×Int)->ab->Prop}{aa:Value->ab->Prop}{h0 hx:ab}{b:Option Addr}{l c m g5 g7 j:Nat}{ni i:Int}{a:Addr}{e:bf}{es:List bf}(M:Mem h0 hx [(g7,cp,me (BD jq es j m)),(g5,cp,me (BD fL es j m))])(R:RdP bD hx a e)(h1:0≤e.aT)(h2:e.aT<m)(no:(1<qG fL es j e.aT∨1<qG jq es j e.aT)->aa (.bool false) hx)(yes:qG fL es j e.aT≤1->qG jq es j e.aT≤1->N (b,l,c,ni,(m:Int),some ⟨g5,0,none⟩,m,m,some ⟨g7,0,none⟩,m,m,IntKind.i64.wrap (i+1)) hx):
  aA.J22 N aa b l c ni (m:Int) (some ⟨g5,0,none⟩) m m (some ⟨g7,0,none⟩) m m i a hx:=by
 unfold aA.J22
 refine R.oI (PW M (.there .here) h1 h2 (nA _ _ _ _) ?_)
 rw[Lg h1 h2]
 refine brd (λk=>no (.inl (by omega))) λk1=>R.oI (PW M .here h1 h2 (nA _ _ _ _) ?_)
 rw[Lg h1 h2]
 exact brd (λk=>no (.inr (by omega))) λk2=>yes (by omega) (by omega)
theorem UI{b:Option Addr}{l c:Nat}{es:List bf}(S:SlR bD h b l c es){ni:Int}(hni:0≤ni∧ni≤9):ae ai tY #[.slice b l c,.int .i64 ni] (λu h'=>u = .bool (Sg es ni)∧Ext h h') h:=by
 have K7:=S.2.2.1
 have Ze:=S.2.1
 have:=bW
 have hl:=S.len
 obtain⟨m,hm⟩:∃m:Nat,m=l / 2:=⟨_,rfl⟩
 have e1:IntKind.i64.wrap (Int.tdiv (l:Int) 2)=(m:Int):=by
  rw[show Int.tdiv (l:Int) 2=((l / 2:Nat):Int) from by rw[Int.ofNat_tdiv];rfl,wrap64 (by omega) (by omega),hm]
 refine aA.call ?_
 rw[aA.S,e1,wrap64 (n:=2*(m:Int)) (by omega) (by omega)]
 refine nz (by decide) (br (λhb=>⟨?_,Ext.refl _⟩) λhb=>brd (λh64=>⟨?_,Ext.refl _⟩) λh64=>?_)
 ·rw[yV λG=>?_]
  have:=G.even
  simp only[bne_iff_ne,ne_eq] at hb
  omega
 ·rw[yV λG=>?_]
  have:=G.MP
  omega
 simp only[bne_eq_false_iff_eq] at hb
 have hlen:l=2*m:=by omega
 have hlm:es.length / 2=m:=by omega
 unfold aA.J4
 refine wV (r:=rI .i64) (z:=0) (zc:=RD) ⟨rfl,rfl⟩ rfl rfl (by decide) (Mem.start h) (by show 8*m≤2 ^ 48;omega) (by omega) λg5 h1 x1 M _=>?_
 refine wV (r:=rI .i64) (z:=0) (zc:=RD) ⟨rfl,rfl⟩ rfl rfl (by decide) M (by show 8*m≤2 ^ 48;omega) (by omega) λg7 h2 x2 M _=>?_
 have hz:=Q3 fL es m
 have KW:=Q3 jq es m
 rw[Int.toNat_natCast]
 refine loop (λx hh=>∃i:Nat,x=(b,l,c,ni,(m:Int),some ⟨g5,0,none⟩,m,m,some ⟨g7,0,none⟩,m,m,(i:Int))∧i≤l∧Mem h hh [(g7,cp,me (BD jq es i m)),(g5,cp,me (BD fL es i m))]∧(∀j,j<i->TV es ni j)∧(∀k,qG fL es i k≤1)∧∀k,qG jq es i k≤1) (λx=>(l-x.2.2.2.2.2.2.2.2.2.2.2).toNat)
  ⟨0,rfl,by omega,by rw[← hz,← KW];exact M,λi hi=>by omega,λk=>by rw[Jb];omega,λk=>by rw[Jb];omega⟩ ?_
 rintro x hh ⟨i,rfl,hi,M,hS,c1,c2⟩
 have X:=M.ext
 refine brd (λhc=>?_) λhc=>?_
 ·have Oj:i<es.length:=by omega
  have no:∀{h':ab},Ext h h'->¬TV es ni i->(Value.bool false = .bool (Sg es ni)∧Ext h h'):=λe hn=>⟨by rw[yV λG=>hn (G.mJ Oj)],e⟩
  refine S.idn ru (by omega) λa Ra=>?_
  have R:∀{hx:ab},Ext h hx->RdP bD hx _ es[i]!:=λe=>Ra.ext e
  refine (R X).oI1 (goM M (mg _ _ _ _) λh3 M=>bd (brN (λe=>no M.ext λs=>?_) λha=>?_))
  ·have:=s.part
   rw[mj,e] at this;cases this
  refine (R M.ext).oI (goM M (mg _ _ _ _) λh4 M=>bd (brN (λe=>no M.ext λs=>?_) λhn=>?_))
  ·have:=s.note
   rw[wrap64 (by omega) (by omega),inR] at e
   rw[hlm] at this
   simp only[Bool.and_eq_false_iff,decide_eq_false_iff_not] at e
   omega
  have hn:0≤es[i]!.aT∧es[i]!.aT<(m:Int):=by
   rw[wrap64 (by omega) (by omega),inR] at hn
   simp only[Bool.and_eq_true,decide_eq_true_eq] at hn
   omega
  have hst:=Lg (p:=fL) (es:=es) (i:=i) hn.1 hn.2
  have hsp:=Lg (p:=jq) (es:=es) (i:=i) hn.1 hn.2
  have k1:=c1 es[i]!.aT
  have k2:=c2 es[i]!.aT
  unfold aA.J12
  refine (R M.ext).oI (br (λkk=>?_) λkk=>br (λkp=>?_) λkp=>no M.ext λs=>?_)
  ·have his:fL es[i]! = true:=kk
   have hk:es[i]!.Kind=2:=by simpa using kk
   have TL:jq es[i]! = false:=by unfold jq;rw[hk];rfl
   have pt:∀r:Bool,(inR es[i]!.ar 0 (ni-1)&&inR es[i]!.Key (-100) 100&&fin es[i]!.iK)=r->mj ni es[i]! = r:=λr e=>by
    rw[mj,ha,if_neg (by omega),hk,← e];simp[Bool.and_assoc]
   refine (R M.ext).oI (PW M (.there .here) hn.1 hn.2 (nA _ _ _ _) ?_)
   rw[hst,wrap64 (n:=(qG fL es i es[i]!.aT:Int)+1) (by omega) (by omega)]
   refine ajz M (.there .here) hn.1 hn.2 (nA _ _ _ _) (.there .here) λh5 M=>?_
   rw[Ub Oj his hn.1 hn.2,← EO Oj TL] at M
   refine (R M.ext).oI (PW M .here hn.1 hn.2 (nA _ _ _ _) ?_)
   rw[EO Oj TL,hsp]
   refine brd (λe=>no M.ext λs=>?_) λe0=>?_
   ·have:=(s.st his).1;omega
   refine (R M.ext).oI (goM M (mg _ _ _ _) λh6 M=>?_)
   rw[wrap64 (n:=ni-1) (by omega) (by omega)]
   refine bd (brN (λe=>no M.ext λs=>?_) λq1=>?_)
   ·have:=s.part;rw[pt false (by rw[show inR es[i]!.ar 0 (ni-1)=false from e];rfl)] at this;cases this
   refine (R M.ext).oI (goM M (mg _ _ _ _) λh7 M=>bd (brN (λe=>no M.ext λs=>?_) λq2=>?_))
   ·have:=s.part;rw[pt false (by rw[show inR es[i]!.Key (-100) 100=false from e];simp)] at this;cases this
   refine (R M.ext).oF λy hy=>goM M (kX hy _) λh8 M=>bd (brN (λe=>no M.ext λs=>?_) λq3=>?_)
   ·have:=s.part;rw[pt false (by rw[show fin es[i]!.iK=false from e];simp)] at this;cases this
   have Qi:=pt true (by rw[show inR es[i]!.ar 0 (ni-1)=true from q1,show inR es[i]!.Key (-100) 100=true from q2,show fin es[i]!.iK=true from q3];rfl)
   have z0:qG jq es i es[i]!.aT=0:=by omega
   refine ajq M (R M.ext) hn.1 hn.2 (λe=>no M.ext λs=>?_) λe1 e2=>?_
   ·have:=Dx Oj c1 (λ_=>(s.st his).2) es[i]!.aT
    have:=Dx Oj c2 (λh=>by rw[TL] at h;cases h) es[i]!.aT
    omega
   have hs:=mkS (ni:=ni) Oj Qi (by rw[hlm];exact hn) (λ_=>z0) (λh=>by rw[TL] at h;cases h) e1 e2
   refine ⟨⟨i+1,by rw[ag (by omega)],by omega,M,λj hj=>?_,Dx Oj c1 (λ_=>(hs.st his).2),Dx Oj c2 (λh=>by rw[TL] at h;cases h)⟩,by rw[ag (by omega)];show _<_;simp;omega⟩
   by_cases e:j=i
   ·subst e;exact hs
   ·exact hS j (by omega)
  ·have TL:jq es[i]! = true:=kp
   have hk:es[i]!.Kind=1:=by simpa using kp
   have his:fL es[i]! = false:=by unfold fL;rw[hk];rfl
   have pt:∀r:Bool,((es[i]!.ar==0)&&(es[i]!.Key==0)&&(es[i]!.iK==0))=r->mj ni es[i]! = r:=λr e=>by
    rw[mj,ha,if_pos hk,← e];simp
   refine (R M.ext).oI (PW M .here hn.1 hn.2 (nA _ _ _ _) ?_)
   rw[hsp,wrap64 (n:=(qG jq es i es[i]!.aT:Int)+1) (by omega) (by omega)]
   refine ajz M .here hn.1 hn.2 (nA _ _ _ _) .here λh5 M=>?_
   rw[Ub Oj TL hn.1 hn.2,← EO Oj his] at M
   refine (R M.ext).oI (PW M (.there .here) hn.1 hn.2 (nA _ _ _ _) ?_)
   rw[EO Oj his,hst]
   refine br (λe=>no M.ext λs=>?_) λe0=>?_
   ·have:=(s.sp TL).1
    rw[beq_iff_eq] at e
    omega
   rw[beq_eq_false_iff_ne] at e0
   refine (R M.ext).oI (br (λe=>no M.ext λs=>?_) λq1=>?_)
   ·have:=s.part;rw[pt false (by rw[show (es[i]!.ar==0)=false from by simpa using e];rfl)] at this;cases this
   refine (R M.ext).oI (br (λe=>no M.ext λs=>?_) λq2=>?_)
   ·have:=s.part;rw[pt false (by rw[show (es[i]!.Key==0)=false from by simpa using e];simp)] at this;cases this
   refine (R M.ext).oF λy hy=>goM M (kq hy fw0 _) λh8 M=>bd (brN (λe=>no M.ext λs=>?_) λq3=>?_)
   ·have:=s.part;rw[pt false (by rw[show (es[i]!.iK==0)=false from e];simp)] at this;cases this
   have Qi:=pt true (by rw[show (es[i]!.ar==0)=true from by simpa using q1,show (es[i]!.Key==0)=true from by simpa using q2,show (es[i]!.iK==0)=true from q3];rfl)
   refine ajq M (R M.ext) hn.1 hn.2 (λe=>no M.ext λs=>?_) λe1 e2=>?_
   ·have:=Dx Oj c2 (λ_=>(s.sp TL).2) es[i]!.aT
    have:=Dx Oj c1 (λh=>by rw[his] at h;cases h) es[i]!.aT
    omega
   have hs:=mkS (ni:=ni) Oj Qi (by rw[hlm];exact hn) (λh=>by rw[his] at h;cases h) (λ_=>by omega) e1 e2
   refine ⟨⟨i+1,by rw[ag (by omega)],by omega,M,λj hj=>?_,Dx Oj c1 (λh=>by rw[his] at h;cases h),Dx Oj c2 λ_=>(hs.sp TL).2⟩,by rw[ag (by omega)];show _<_;simp;omega⟩
   by_cases e:j=i
   ·subst e;exact hs
   ·exact hS j (by omega)
  ·rcases SH s.part with ⟨h1,_⟩ | ⟨h1,_⟩
   ·rw[show jq es[i]! = false from kp] at h1;cases h1
   ·rw[show fL es[i]! = false from kk] at h1;cases h1
 ·refine aoR (S.ext X) (λh' j x e1 e2=>⟨by rw[yV λG=>by rw[G.ord j (by omega)] at e2;cases e2],X.trans x⟩) λh' x ho=>⟨?_,X.trans x⟩
  ·rw[HA.2 (aaE (by omega) (by omega) (λj hj=>hS j (by omega)) λj hj=>ho j (by omega))]
end
def bT.J11(a:(Addr×Int×Value×Value×Value×Option Addr×Nat×Nat×Int×Int)->ab->Prop)(aa:VH)(s_1:Addr)(zd:Int)(MZ:Value)(zi:Value)(xk:Value)(e_8:Addr)(b:Option Addr)(c:Nat)(d:Nat)(e:Int)(f:Int)(h:ab):=
 oI .i64 (cell h (e_8.add 1)) λg=>
 BIF (g==1) (
 oI .i64 (cell h (e_8.add 2)) λi=>
 iA ai (Instr.lookup jk MZ (.int .i64 i) true) (λj yH=>
 iF j λk l=>
 asI .i64 k λm=>
 asB l λn=>
 BIF (!n) (
 aa (.bool false) yH) (
 oI .i64 (cell yH e_8) λo=>
 BIF (decide (o<m)) (
 aa (.bool false) yH) (
 oI .i64 (cell yH (e_8.add 2)) λp=>
 iA ai (Instr.lookup jb zi (.int .i64 p) false) (λq KU=>
 asB q λr=>
 BIF r (
 aa (.bool false) KU) (
 oI .i64 (cell KU (e_8.add 2)) λs=>
 lK ai (do Instr.mapUpdate jb zi (.int .i64 s) (.bool true);pure .skip) (λu t=>
 a (s_1,zd,MZ,zi,xk,b,c,d,e,((IntKind.i64.wrap (f+1)))) t) KU)) yH))) h) (
 a (s_1,zd,MZ,zi,xk,b,c,d,e,((IntKind.i64.wrap (f+1)))) h)
def bT.j11(a:(Addr×Int×Value×Value×Value×Option Addr×Nat×Nat×Int×Int)->ab->Prop)(aa:VH):=gg (kds 126 [(1,.p),(3,.i .i64),(4,.v),(5,.v),(6,.v),(8,.p),(51,.l),(52,.i .i64),(53,.i .i64)]) λfr=>bT.J11 a aa (gP (ah fr 1)) (gI (ah fr 3)) (ah fr 4) (ah fr 5) (ah fr 6) (gP (ah fr 8)) (gLb (ah fr 51)) (gLl (ah fr 51)) (gLc (ah fr 51)) (gI (ah fr 52)) (gI (ah fr 53))
def bT.B7(aa:VH)(f:(Addr×Int×Value×Value×Value×Option Addr×Nat×Nat×Int×Int)->ab->Prop):Addr×Int×Value×Value×Value×Option Addr×Nat×Nat×Int×Int->ab->Prop
 | (s_1,zd,MZ,zi,xk,c,d,g,e,a),h=>
 BIF (decide (a<e)) (
 bg c a d λj=>
 LDA 6 h ((Addr.add j (a.toNat*6))) λk=>
 ALC ⟨gX⟩ bq (λb Jl=>
 STA 6 Jl ⟨b,0,none⟩ k λDM=>
 LDA 6 DM ⟨b,0,none⟩ λl=>
 oL (cell DM (s_1.add 4)) λaev aew aik=>
 ae ai jY #[.slice aev aew aik] (λm GF=>
 asI .i64 m λn=>
 PIN DM ⟨b,0,none⟩ 6 GF <|
 ae ai xB #[.agg l,.int .i64 n] (λo Sv=>
 asB o λp=>
 BIF (!p) (
 aa (.bool false) Sv) (
 oI .i64 (cell Sv ⟨b,2,none⟩) λq=>
 ae ai dY #[.int .i64 q,.int .i64 0,.int .i64 ((IntKind.i64.wrap (zd-1)))] (λr Qg=>
 asB r λs=>
 BIF (!s) (
 aa (.bool false) Qg) (
 BIF ((decide (0<a))) (
 oL (cell Qg (s_1.add 5)) λaxu axv aEt=>
 bg axu ((IntKind.i64.wrap (a-1))) axv λt=>
 LDA 6 Qg ((Addr.add t ((Int.toNat ((IntKind.i64.wrap (a-1))))*6))) λu=>
 LDA 6 Qg ⟨b,0,none⟩ λv=>
 oc ai xk #[.agg u,.agg v] (λw Ut=>
 asI .i64 w λx=>
 BIF ((decide (0≤x))) (
 aa (.bool false) Ut) (
 bT.J11 f aa s_1 zd MZ zi xk ⟨b,0,none⟩ c d g e a Ut)) Qg) (
 bT.J11 f aa s_1 zd MZ zi xk ⟨b,0,none⟩ c d g e a Qg))) Sv)) GF) DM) h) (
 iA ai (Builtin.len_ #[jk] aju #[MZ]) (λy i=>
 asI .i64 y λz=>
 BIF (z==zd) (
 iA ai (Builtin.len_ #[jb] aju #[zi]) (λA Pe=>
 asI .i64 A λB=>
 aa (.bool (B==zd)) Pe) i) (
 aa (.bool false) i)) h)
def bT.g7(fr:Frame):Addr×Int×Value×Value×Value×Option Addr×Nat×Nat×Int×Int:=((gP (ah fr 1)),(gI (ah fr 3)),(ah fr 4),(ah fr 5),(ah fr 6),(gLb (ah fr 51)),(gLl (ah fr 51)),(gLc (ah fr 51)),(gI (ah fr 52)),(gI (ah fr 53)))
def bT.l7(aa:VH):=gg (kds 126 [(1,.p),(3,.i .i64),(4,.v),(5,.v),(6,.v),(51,.l),(52,.i .i64),(53,.i .i64)]) λfr=>bh (bT.B7 aa) (bT.g7 fr)
def bT.J3(aa:VH)(s_1:Addr)(h:ab):=
 oL (cell h (s_1.add 5)) λabd Xw abe=>
 ae ai iM #[.slice abd Xw abe] (λGW mZ=>
 asI .i64 GW λb=>
 NZ 2 <|
 oL (cell mZ (s_1.add 5)) λXA Pw aem=>
 ae ai zF #[.slice XA Pw aem] (λa wP=>
 iA ai (Instr.makeMap jb none) (λc ry=>
 ae ai ov #[a] (λVq DL=>
 oL (cell DL (s_1.add 5)) λalU aii aqY=>
 bh (bT.B7 aa) (s_1,((IntKind.i64.wrap (Int.tdiv b 2))),a,c,Vq,alU,aii,aqY,(aii:Int),0) DL) ry) wP) mZ) h
def bT.j3(aa:VH):=gg (kds 126 [(1,.p)]) λfr=>bT.J3 aa (gP (ah fr 1))
def bT.S(s_0:Array Value)(aa:VH)(h:ab):=
 ALC s_0 bt (λa d=>
 oF .f32 (cell d ⟨a,0,none⟩) λe=>
 ae ai zC #[.float .f32 e] (λf b=>
 asB f λg=>
 BIF (!g) (
 aa (.bool false) b) (
 LDA 3 b ⟨a,1,none⟩ λi=>
 ae ai mR #[.agg i] (λj c=>
 asB j λHw=>
 BIF (!Hw) (
 aa (.bool false) c) (
 oL (cell c ⟨a,4,none⟩) λrN qd ui=>
 ae ai nX #[.slice rN qd ui] (λuu gf=>
 asB uu λFv=>
 BIF (!Fv) (
 aa (.bool false) gf) (
 oL (cell gf ⟨a,5,none⟩) λFD k HX=>
 NZ 2 <|
 BIF (((Int.tmod (k:Int) 2) != 0)) (
 aa (.bool false) gf) (
 oL (cell gf ⟨a,5,none⟩) λSM Mx Xt=>
 BIF ((decide (128<(Mx:Int)))) (
 aa (.bool false) gf) (
 bT.J3 aa ⟨a,0,none⟩ gf)))) c)) b)) d) h
theorem bT.call{s_0:Array Value}{aa:VH}{h:ab}(H:bT.S s_0 aa h):ae ai sh #[.agg s_0] aa h:=
 qc (Λ:=an [(3,bT.j3 aa),(1000007,bT.l7 aa)]) Tryz.func66
 (qs qf (qj (bT.j3 aa) qf
 (qs qf (qs qf (qs qf (qs (qs qf (Rq.block (ql (bT.l7 aa) (qg (g:=bT.g7) (Λ:=λa=>an [(11,bT.j11 a aa)]) (λ_ _ _=>by kernel_rfl) (λa=>(qs qf (qs qf (qs (Rq.block (qs qf (qj (bT.j11 a aa) qf
 qf))) qf)))))))) qf))))))
 (qe H)
set_option maxHeartbeats 2000000
noncomputable def cA.ok(s:cA):Bool:=inside s.yI 1065353216 1232348160&&s.er.ok&&(decide (s.aI.length≤6)&&BZ s.aI)&&Sg s.aU s.aI.length
section
variable {h:ab}
theorem yj(b:Option Addr)(l c:Nat):Ret ai iM #[.slice b l c] (.int .i64 l):=λh=>nd.call ⟨rfl,Ext.refl _⟩
theorem FF(b:Option Addr)(l c:Nat):Ret ai jY #[.slice b l c] (.int .i64 l):=λh=>kM.call ⟨rfl,Ext.refl _⟩
theorem Zm(k:Int):Ret ai wL #[.int .i64 k] (.bool (inR k (-100) 100)):=λh=>GJ.call ((kJ _ _ _).go λh1 x1=>bd ⟨rfl,x1⟩)
theorem aaU{cs:Array Value}{e:bf}{ni:Int}(R0:bD.rd h cs.toList e)(hni:0≤ni∧ni≤9):ae ai xB #[.agg cs,.int .i64 ni] (λu h'=>u = .bool (mj ni e)∧Ext h h') h:=by
 refine BX.call (fj R0 λg h0 x0 R=>R.oI2 (goE (Ext.refl h0) (kJ _ _ _ _) λh1 x1=>bd (brN (λha=>⟨by rw[mj,ha];rfl,x0.trans x1⟩) λha=>?_)))
 have R1:=R.ext x1
 refine R1.oI2 (br (λk1=>?_) λk1=>?_)
 ·have hk:e.Kind=1:=by simpa using k1
  have ev:mj ni e=((e.ar==0)&&(e.Key==0)&&(e.iK==0)):=by rw[mj,ha,if_pos hk];simp
  refine R1.oI2 (br (λk2=>?_) λk2=>⟨by rw[ev,k2];rfl,x0.trans x1⟩)
  refine R1.oI2 (br (λk3=>?_) λk3=>⟨by rw[ev,k3];simp,x0.trans x1⟩)
  refine R1.oF2 λy hy=>goE x1 (AD hy _) λh2 x2=>cX ⟨?_,x0.trans x2⟩
  rw[ev,k2,k3,Bool.true_and,Bool.true_and]
  congr 1
  rw[Bool.eq_iff_iff,beq_iff_eq,beq_iff_eq]
  omega
 ·have hk:¬e.Kind=1:=by simpa using k1
  have ev:mj ni e=(e.Kind==2&&inR e.ar 0 (ni-1)&&inR e.Key (-100) 100&&fin e.iK):=by rw[mj,ha,if_neg hk];simp
  refine R1.oI2 (br (λk2=>?_) λk2=>⟨by rw[ev,k2];rfl,x0.trans x1⟩)
  refine R1.oI2 (goE x1 (kJ _ _ _ _) λh2 x2=>?_)
  rw[wrap64 (n:=ni-1) (by omega) (by omega)]
  refine bd (br (λk3=>?_) λk3=>⟨by rw[ev,k3];simp,x0.trans x2⟩)
  refine (R.ext x2).oI2 (goE x2 (Zm _ _) λh3 x3=>bd (br (λk4=>?_) λk4=>⟨by rw[ev,k4];simp,x0.trans x3⟩))
  exact (R.ext x3).oF2 λy hy=>goE x3 (nh hy _) λh4 x4=>bd ⟨by rw[ev,k2,k3,k4];rfl,x0.trans x4⟩
theorem OL{h0:ab}{g1:Nat}{s:cA}(R:RdP da h ⟨g1,0,none⟩ s)(X0:Ext h0 h)(k:s.ok=Sg s.aU s.aI.length)(hi:s.aI.length≤6)(he:s.aU.length=2*(s.aU.length / 2))(hm:s.aU.length / 2≤64):
  bT.J3 (λu h'=>u = .bool s.ok∧Ext h0 h') ⟨g1,0,none⟩ h:=by
 unfold bT.J3
 obtain⟨es,hes⟩:∃es,es=s.aU:=⟨_,rfl⟩
 obtain⟨ni,hni⟩:∃ni,ni=s.aI.length:=⟨_,rfl⟩
 obtain⟨m,hmm⟩:∃m,m=es.length / 2:=⟨_,rfl⟩
 refine R.oL λb1 l1 c1 S1=>goX (yj _ _ _ _) λh1 x1=>cX (nz (by decide) ((R.ext x1).oL λb2 l2 c2 S2=>?_))
 have e1:=S1.len
 rw[show IntKind.i64.wrap (Int.tdiv (l1:Int) 2)=(m:Int) from by
  rw[show Int.tdiv (l1:Int) 2=((l1 / 2:Nat):Int) from by rw[Int.ofNat_tdiv];rfl,wrap64 (by omega) (by omega),hmm,hes,e1]]
 refine (afQ S2).mono ?_
 rintro _ hb ⟨go,rfl,hgo,MO,xb⟩
 refine MH λgs h3 x3 hgs MS=>?_
 refine (KJ go).mono ?_
 rintro _ h4 ⟨gc,rfl,hgc,Zc,x4⟩
 have hsc:gs≠gc:=by
  obtain⟨_,_,e,_⟩:=MS
  have:=(Array.getElem?_eq_some_iff.1 e).1
  omega
 have Rb:=(R.ext x1).ext xb
 have hq:oL (cell hb ((⟨g1,0,none⟩:Addr).add 5)) (λb l c=>SlR bD hb b l c s.aU):=Rb.oL λb l c S=>S
 obtain⟨b,l,c,hc0,S⟩:=MW hq
 rw[AE hc0 (x3.trans x4)]
 show bh _ _ _
 rw[← hes] at S MO k he hm
 rw[← hni] at k hi
 have hl:=S.len
 have K7:=S.2.2.1
 have Ze:=S.2.1
 have:=bW
 have X1:Ext h0 hb:=(X0.trans x1).trans xb
 refine loop (λx hh=>∃i:Nat,x=(⟨g1,0,none⟩,(m:Int),.map (some go),.map (some gs),.func (.func eu) #[] #[.pointer (some ⟨gc,0,none⟩)],b,l,c,(l:Int),(i:Int))∧i≤l∧Ext hb hh∧Aw hh gs (tk (es.take i))∧cell hh ⟨gc,0,none⟩=some (.map (some go))∧∀j,j<i->Lz es ni j) (λx=>(l-x.2.2.2.2.2.2.2.2.2).toNat)
  ⟨0,rfl,by omega,x3.trans x4,by rw[List.take_zero];exact MS.ext x4,Zc,λj hj=>by omega⟩ ?_
 rintro x hh ⟨i,rfl,hi,X,MS,Zc,hS⟩
 clear hc0 x3 x4
 refine brd (λhc=>?_) λhc=>?_
 ·have Oj:i<es.length:=by omega
  have no:∀{h':ab},Ext h0 h'->¬Lz es ni i->(Value.bool false = .bool s.ok∧Ext h0 h'):=λe hn=>⟨by rw[k,yV λG=>hn (G.Ix Oj)],e⟩
  have X2:Ext h0 hh:=X1.trans X
  refine (S.ext X).idn ru (by omega) λa Ra=>Ra.gi rfl λcs Rc=>Jx Rc rfl rfl λg37 h5 x5 RE=>RE.gi rfl λce Re=>?_
  refine (Rb.ext (X.trans x5)).oL λb6 l6 c6 S6=>?_
  have e6:l6=ni:=by rw[← S6.len,hni]
  refine goE (Ext.refl h5) (FF _ _ _ _) λh6 x6=>cX (RE.Da (by decide) x6 (goE x6 (aaU (bD.ext x6 Re) (by omega)) λh7 x7=>bd (brN (λe=>no (X2.trans (x5.trans x7)) λt=>?_) λe=>?_)))
  ·rw[e6] at e
   rw[t.part] at e;cases e
  have Qi:mj ni es[i]! = true:=by rw[e6] at e;exact e
  refine (RE.ext x7).oI2 (goE x7 (kJ _ _ _ _) λh8 x8=>bd (brN (λe=>no (X2.trans (x5.trans x8)) λt=>?_) λe=>?_))
  ·have:=t.note
   rw[wrap64 (by omega) (by omega),inR] at e
   rw[← hmm] at this
   simp only[Bool.and_eq_false_iff,decide_eq_false_iff_not] at e
   omega
  have hn:0≤es[i]!.aT∧es[i]!.aT<(m:Int):=by
   rw[wrap64 (by omega) (by omega),inR] at e
   simp only[Bool.and_eq_true,decide_eq_true_eq] at e
   omega
  have fin:∀{h9:ab},Ext h5 h9->(0<i->lt4 (w7 es es[i-1]!) (w7 es es[i]!)=true)->bT.J11 (λx' h'=>(∃i:Nat,x'=(⟨g1,0,none⟩,(m:Int),.map (some go),.map (some gs),.func (.func eu) #[] #[.pointer (some ⟨gc,0,none⟩)],b,l,c,(l:Int),(i:Int))∧i≤l∧Ext hb h'∧Aw h' gs (tk (es.take i))∧cell h' ⟨gc,0,none⟩=some (.map (some go))∧∀j,j<i->Lz es ni j)∧((l:Int)-x'.2.2.2.2.2.2.2.2.2).toNat<((l:Int)-i).toNat) (λu h'=>u = .bool s.ok∧Ext h0 h') ⟨g1,0,none⟩ (m:Int) (.map (some go)) (.map (some gs)) (.func (.func eu) #[] #[.pointer (some ⟨gc,0,none⟩)]) ⟨g37,0,none⟩ b l c (l:Int) (i:Int) h9:=λ{h9} x9 ho=>by
   have R9:=RE.ext x9
   have X9:=X2.trans (x5.trans x9)
   have MS9:=MS.ext (x5.trans x9)
   have MO9:=MO.ext (X.trans (x5.trans x9))
   have hc9:=AE Zc (x5.trans x9)
   have Zi:=Yv Oj
   have step:∀{h':ab},Ext hb h'->Aw h' gs (tk (es.take (i+1)))->cell h' ⟨gc,0,none⟩=some (.map (some go))->Lz es ni i->((∃i':Nat,((⟨g1,0,none⟩:Addr),(m:Int),Value.map (some go),Value.map (some gs),Value.func (.func eu) #[] #[.pointer (some ⟨gc,0,none⟩)],b,l,c,(l:Int),IntKind.i64.wrap ((i:Int)+1))=(⟨g1,0,none⟩,(m:Int),.map (some go),.map (some gs),.func (.func eu) #[] #[.pointer (some ⟨gc,0,none⟩)],b,l,c,(l:Int),(i':Int))∧i'≤l∧Ext hb h'∧Aw h' gs (tk (es.take i'))∧cell h' ⟨gc,0,none⟩=some (.map (some go))∧∀j,j<i'->Lz es ni j)∧((l:Int)-IntKind.i64.wrap ((i:Int)+1)).toNat<((l:Int)-i).toNat):=λy my cy sy=>
    ⟨⟨i+1,by rw[ag (by omega)],by omega,y,my,cy,λj hj=>by
     by_cases e:j=i
     ·subst e;exact sy
     ·exact hS j (by omega)⟩,by rw[ag (by omega)];omega⟩
   unfold bT.J11
   refine R9.oI (br (λkp=>?_) λkp=>?_)
   ·have TL:jq es[i]! = true:=kp
    rw[if_pos TL] at Zi
    have hf:=QE es es[i]!.aT
    refine R9.oI (ME MO9 TX jE Ha _ ?_)
    cases hoA:L7 es es[i]!.aT with
    | none=>
     rw[hoA] at hf
     rw[show jr (AV es) es[i]!.aT=none from hf]
     refine nq (cX (bd (BB rfl (no X9 λt=>?_))))
     obtain⟨a,ha,_⟩:=t.sp TL
     rw[hoA] at ha;cases ha
    | some a=>
     rw[hoA] at hf
     rw[show jr (AV es) es[i]!.aT=some (.int .i64 a) from hf]
     refine nq (cX (bd (dp rfl (R9.oI1 (brd (λkl=>no X9 λt=>?_) λkl=>R9.oI (Qr MS9 TW jE Rd _ ?_))))))
     ·obtain⟨a',ha,hle,_⟩:=t.sp TL
      rw[hoA] at ha
      cases ha
      omega
     have aqn:=ac0 (es:=es) (i:=i) (n:=es[i]!.aT) (by omega)
     have hval:=ac1 (es.take i) es[i]!.aT
     have hB:(jr (tk (es.take i)) es[i]!.aT).getD (.bool false) = .bool (jr (tk (es.take i)) es[i]!.aT).isSome:=by
      rcases hval with e | e <;> rw[e] <;> rfl
     rw[hB]
     refine bd (br (λkh=>no X9 λt=>?_) λkh=>R9.oI (Th MS9 (X.trans (x5.trans x9)) (by omega) TW jE _ _ λq gd x10 M10 ax5=>step x10 (by rw[Zi];exact M10) ?_ ⟨Qi,by rw[← hmm];exact hn,ho,λ_=>⟨a,hoA,by omega,λj hj hsp GH=>?_⟩⟩))
     ·obtain⟨j,hj,h1,h2⟩:=aqn.1 kh
      obtain⟨_,_,_,hno⟩:=t.sp TL
      exact hno j hj h1 h2
     ·rw[← hc9]
      unfold cell
      rw[ax5 gc (λe=>hsc e.symm)]
     ·have:=aqn.2 ⟨j,hj,hsp,GH⟩
      rw[kh] at this;cases this
   ·have TL:jq es[i]! = false:=kp
    rw[if_neg (by rw[TL];decide)] at Zi
    exact step (X.trans (x5.trans x9)) (by rw[Zi];exact MS9) hc9 ⟨Qi,by rw[← hmm];exact hn,ho,λh=>by rw[TL] at h;cases h⟩
  refine brd (λh0i=>?_) λh0i=>fin x8 λh=>by omega
  rw[Fm (by omega) (by omega)]
  refine (Rb.ext (X.trans (x5.trans x8))).oL λb9 l9 c9 S9=>?_
  have e9:=S9.len
  rw[← hes] at S9 e9
  refine S9.idn ru (by omega) λa9 Ra9=>Ra9.gi rfl λc9 Rc9=>(RE.ext x8).gi rfl λc10 au5=>?_
  show ae ai eu #[.agg c9,.agg c10,.pointer (some ⟨gc,0,none⟩)] _ _
  refine goE x8 (Sf (es:=es) (AE Zc (x5.trans x8)) (MO.ext (X.trans (x5.trans x8))) Rc9 au5) λh9 x9=>cX ?_
  rw[ah6]
  exact brN (λe=>no (X2.trans (x5.trans x9)) λt=>by have:=t.ord (by omega);rw[e] at this;cases this) λe=>fin x9 λ_=>e
 ·rw[show es.take i=es from List.take_of_length_le (by omega)] at MS
  refine Zq (MO.ext X) TX (cX (br (λk1=>Zq MS TW (cX ⟨?_,X1.trans X⟩)) λk1=>⟨?_,X1.trans X⟩))
  ·rw[k]
   congr 1
   rw[Bool.eq_iff_iff,beq_iff_eq,HA]
   have k1:((AV es).length:Int)=m:=by simpa using k1
   constructor
   ·intro k2
    exact aaD he hm (λj hj=>hS j (by omega)) (by omega) (by omega)
   ·intro G
    have:=G.lens.2
    omega
  ·rw[k,yV λG=>?_]
   have:=G.lens.1
   have k1:¬((AV es).length:Int)=m:=by simpa using k1
   omega
theorem Rn{cs:Array Value}{s:cA}(R0:da.rd h cs.toList s):ae ai sh #[.agg cs] (λu h'=>u = .bool s.ok∧Ext h h') h:=by
 refine bT.call (fj R0 λg h0 x0 R=>R.oF2 λy hy=>goE (Ext.refl h0) (aea hy _) λh1 x1=>bd (brN (λe=>⟨by rw[cA.ok,e];rfl,x0.trans x1⟩) λea=>?_))
 refine (R.ext x1).fc fl rfl λct Rt=>goE x1 (FO Rt) λh2 x2=>bd (brN (λe=>⟨by rw[cA.ok,e];simp,x0.trans x2⟩) λeb=>?_)
 refine (R.ext x2).oL2 λb l c S=>goE x2 (J0 S) λh3 x3=>bd (brN (λe=>⟨by rw[cA.ok,e];simp,x0.trans x3⟩) λec=>?_)
 have k:s.ok=Sg s.aU s.aI.length:=by rw[cA.ok,ea,eb,ec];rfl
 have hi:s.aI.length≤6:=by
  rw[Bool.and_eq_true,decide_eq_true_eq] at ec
  exact ec.1
 refine (R.ext x3).oL2 λb1 l1 c1 S1=>nz (by decide) ?_
 have e1:=S1.len
 have ht:Int.tmod (l1:Int) 2=((l1 % 2:Nat):Int):=by rw[Int.ofNat_tmod];rfl
 rw[ht]
 refine br (λe=>⟨?_,x0.trans x3⟩) λe=>(R.ext x3).oL2 λb2 l2 c2 S2=>?_
 ·rw[k,yV λG=>?_]
  have:=G.even
  rw[bne_iff_ne] at e
  omega
 have e2:=S2.len
 have e:l1 % 2=0:=by rw[bne_eq_false_iff_eq] at e;omega
 refine brd (λe3=>⟨?_,x0.trans x3⟩) λe3=>OL (R.ext x3) (x0.trans x3) k hi (by omega) (by omega)
 rw[k,yV λG=>?_]
 have:=G.MP
 omega
theorem aie{q:Addr}{s:cA}(R:RdP da h q s):ae ai BM #[.pointer (some q)] (λu h'=>u = .bool s.ok∧Ext h h') h:=by
 have hm:=bW
 refine dM.call (R.oF1 λy hy=>?_)
 rw[cY hy c1]
 refine br (λk1=>R.oF1 λz hz=>?_) λk1=>⟨by rw[cA.ok,inside,fge,k1];rfl,Ext.refl _⟩
 rw[cY hz cR]
 refine brN (λk2=>⟨by rw[cA.ok,inside,fle,k2];simp,Ext.refl _⟩) λk2=>R.lda fl rfl λct Rt=>goX (H3 Rt) λh1 x1=>bd (brN (λe=>⟨by rw[cA.ok,e];simp,x1⟩) λeb=>?_)
 have ea:inside s.yI 1065353216 1232348160=true:=by rw[inside,fge,fle,k1,k2];rfl
 refine (R.ext x1).oL λb l c S=>?_
 have hl:=S.len
 have s1:=S.2.1
 have s2:=S.2.2.1
 refine brd (λe=>⟨by rw[cA.ok,decide_eq_false (p:=s.aI.length≤6) (by omega)];simp,x1⟩) λe6=>?_
 obtain⟨xs,hxs⟩:∃xs,xs=s.aI:=⟨_,rfl⟩
 have k:s.ok=(BZ xs&&Sg s.aU xs.length):=by rw[cA.ok,ea,eb,decide_eq_true (p:=s.aI.length≤6) (by omega),hxs];rfl
 unfold dM.J3
 refine loop (λx hh=>∃i:Nat,x=(q,(i:Int))∧i≤l∧Ext h hh∧∀j,j<i->sU xs j=true) (λx=>((l:Int)-x.2).toNat) ⟨0,rfl,by omega,x1,λj hj=>by omega⟩ ?_
 rintro x hh ⟨i,rfl,hi,X,hd⟩
 refine (R.ext X).oL λb2 l2 c2 S2=>?_
 have e2:=S2.len
 rw[← hxs] at S2 e2 hl
 have no:∀{h':ab},i<l->sU xs i=false->Ext h h'->(Value.bool false = .bool s.ok∧Ext h h'):=λe hf x=>⟨by rw[k,BZ,all_false (f:=sU xs) (by omega) hf,Bool.false_and],x⟩
 refine brd (λhc=>?_) λhc=>?_
 ·refine (R.ext X).oL λb3 l3 c3 S3=>?_
  have e3:=S3.len
  rw[← hxs] at S3 e3
  refine S3.idn (by decide) (by omega) λa Ra=>goE X (KX Ra) λh4 x4=>bd (brN (λe=>no (by omega) (by rw[sU,e,Bool.false_and]) x4) λei=>?_)
  refine loop (λx hh=>∃n:Nat,x=(q,(i:Int),(n:Int))∧n≤i∧Ext h hh∧∀j,j<n->¬xs[j]!.Name=xs[i]!.Name) (λx=>((i:Int)-x.2.2).toNat) ⟨0,rfl,by omega,x4,λj hj=>by omega⟩ ?_
  rintro x h5 ⟨n,rfl,hn,Y,Fz⟩
  refine brd (λXb=>?_) λXb=>?_
  ·refine (R.ext Y).oL λb4 l4 c4 S4=>?_
   have e4:=S4.len
   rw[← hxs] at S4 e4
   refine S4.idn (by decide) (by omega) λa4 Ra4=>Ra4.oS1 λ_=>(R.ext Y).oL λb5 l5 c5 S5=>?_
   have e5:=S5.len
   rw[← hxs] at S5 e5
   refine S5.idn (by decide) (by omega) λa5 Ra5=>Ra5.oS1 λ_=>?_
   rw[NK]
   refine brd (λe=>no (by omega) ?_ Y) λe=>⟨⟨n+1,by rw[ag (by omega)],by omega,Y,λj hj=>?_⟩,by rw[ag (by omega)];show _<_;simp;omega⟩
   ·rw[sU,all_false (f:=λk=>!decide (xs[k]!.Name=xs[i]!.Name)) (i:=n) (by omega) (by rw[decide_eq_true e];rfl),Bool.and_false]
   ·by_cases ej:j=n
    ·subst ej;exact e
    ·exact Fz j (by omega)
  ·refine ⟨⟨i+1,by rw[ag (by omega)],by omega,Y,λj hj=>?_⟩,by rw[ag (by omega)];show _<_;simp;omega⟩
   by_cases ej:j=i
   ·subst ej
    rw[sU,ei,all_true λk hk=>by rw[decide_eq_false (Fz k (by omega))];rfl];rfl
   ·exact hd j (by omega)
 ·refine (R.ext X).oL λb3 l3 c3 S3=>(R.ext X).oL λb4 l4 c4 S4=>?_
  have e4:=S4.len
  rw[← hxs] at S4 e4
  refine goE X (UI S3 (by omega)) λh4 x4=>bd ⟨?_,x4⟩
  rw[k,BZ,all_true λj hj=>hd j (by omega),e4];rfl
end
end Go.Sx
namespace Go.Sx
open Go.Proofs Ieee
set_option maxRecDepth 100000
set_option maxHeartbeats 1000000
def bR.YE(t:bR)(key:Int):Nat:=fdiv .f32 (t.EM key) 1150681088
def bR.hz(t:bR)(key:Int):Nat:=fP .f32 t.Di (NX (t.YE key))
def bR.asked(t:bR)(key:Int):Nat×Int:=if t.ok then if inR key (-100) 100 then if nD (t.YE key) then (t.hz key,0) else (0,2) else (0,2) else (0,1)
def bR.period(t:bR)(key:Int)(Nr:Nat):Nat×Int:=if (t.asked key).2=0 then if inside Nr 1065353216 1232348160 then (fdiv .f32 Nr (t.asked key).1,0) else (0,2) else (0,(t.asked key).2)
def FI(u:Value)(f:Nat)(n:Int):Prop:=∃y,u = .tuple ⟨[.float .f32 y,.int .i64 n]⟩∧FW .f32 y f
theorem goF{P:Program}{f:FuncId}{args:Array Value}{a:Nat}{h:ab}{K:Value->ab->Prop}(c:ae P f args (λu h'=>(∃y,u = .float .f32 y∧FW .f32 y a)∧Ext h h') h)(H:∀h' y,Ext h h'->FW .f32 y a->K (.float .f32 y) h'):ae P f args K h:=
 c.mono λu h' ⟨⟨y,e,hy⟩,x⟩=>by subst e;exact H h' y x hy
theorem ahk{P:Program}{f:FuncId}{args:Array Value}{a:Nat}{n:Int}{h:ab}{K:Value->ab->Prop}(c:ae P f args (λu h'=>FI u a n∧Ext h h') h)(H:∀h' y,Ext h h'->FW .f32 y a->K (.tuple ⟨[.float .f32 y,.int .i64 n]⟩) h'):ae P f args K h:=
 c.mono λu h' ⟨⟨y,e,hy⟩,x⟩=>by subst e;exact H h' y x hy
theorem ajA:FW .f32 1150681088 1150681088:=fK (by decide) (by decide)
theorem YZ{t:bR}(h:t.ok=true):1≤t.bU.length∧t.bU.length≤31:=by
 unfold bR.ok at h
 simp only[Bool.and_eq_true,inR,decide_eq_true_eq] at h
 omega
theorem aed{k:Int}(h:inR k (-100) 100=true):-100≤k∧k≤100:=by
 simpa only[inR,Bool.and_eq_true,decide_eq_true_eq] using h
theorem div_mul{k n:Int}:k-k / n*n=k % n:=by
 have:=Int.emod_add_mul_ediv k n
 rw[Int.mul_comm n] at this
 omega
section
variable {h:ab}{x a:Nat}
theorem Po{q:Addr}{t:bR}{key:Int}(R:RdP eJ h q t)(KV:t.ok=true)(hk:inR key (-100) 100=true):ae ai qX #[.pointer (some q),.int .i64 key] (λu h'=>(∃y,u = .float .f32 y∧FW .f32 y (t.EM key))∧Ext h h') h:=by
 obtain⟨n1,n2⟩:=YZ KV
 obtain⟨k1,k2⟩:=aed hk
 have hn:(0:Int)<t.bU.length:=by omega
 obtain⟨d1,d2,d3,d4,d5⟩:=Jf (k:=key) hn
 obtain⟨b1,b2⟩:=LQ hn k1 k2
 have m1:=Int.emod_nonneg key (show (t.bU.length:Int)≠0 by omega)
 have m2:=Int.emod_lt_of_pos key hn
 have dm:=div_mul (k:=key) (n:=(t.bU.length:Int))
 have aqK:fu.J5 (λu h'=>(∃y,u = .float .f32 y∧FW .f32 y (t.EM key))∧Ext h h') q key (t.bU.length:Int) (key / (t.bU.length:Int)) h:=by
  unfold fu.J5
  refine R.oF λr4 h4=>R.oL λb l c S=>?_
  have hl:=S.len
  rw[wrap64 (n:=key / (t.bU.length:Int)*(t.bU.length:Int)) (by omega) (by omega),dm,wrap64 (n:=key % (t.bU.length:Int)) (by omega) (by omega)]
  refine S.idx (by decide) m1 (by omega) λp Rp=>Rp.oF1 λr7 h7=>fM h4 (dr .f32 _) λr8 h8=>dS (dS (fA h8 h7 λr9 h9=>⟨⟨r9,rfl,h9⟩,Ext.refl _⟩))
 refine fu.call (R.oL λb l c S=>?_)
 have hl:=S.len
 rw[← hl]
 refine nz (by omega) (nz (by omega) (brd (λhc=>?_) λhc=>?_))
 ·rw[wrap64 (n:=Int.tdiv key (t.bU.length:Int)) (by have:=d1 hc;omega) (by have:=d1 hc;omega),d1 hc,wrap64 (n:=key / (t.bU.length:Int)) (by omega) (by omega)]
  exact aqK
 ·rw[d2 hc,wrap64 (n:=key / (t.bU.length:Int)) (by omega) (by omega)]
  exact aqK
theorem ah5{cs:Array Value}{t:bR}{key:Int}(R0:eJ.rd h cs.toList t)(KV:t.ok=true)(hk:inR key (-100) 100=true):ae ai pE #[.agg cs,.int .i64 key] (λu h'=>(∃y,u = .float .f32 y∧FW .f32 y (t.EM key))∧Ext h h') h:=by
 obtain⟨n1,n2⟩:=YZ KV
 obtain⟨k1,k2⟩:=aed hk
 have hn:(0:Int)<t.bU.length:=by omega
 obtain⟨d1,d2,d3,d4,d5⟩:=Jf (k:=key) hn
 obtain⟨b1,b2⟩:=LQ hn k1 k2
 have m1:=Int.emod_nonneg key (show (t.bU.length:Int)≠0 by omega)
 have m2:=Int.emod_lt_of_pos key hn
 refine sO.call (fj R0 λg1 h1 x1 R=>R.oL2 λb l c S=>goX (kN b l c h1) λh2 x2=>cX ?_)
 have R2:=R.ext x2
 have hl:=S.len
 rw[← hl]
 have X:=x1.trans x2
 refine nz (by omega) (nz (by omega) (R2.oF2 λr7 h7=>nz (by omega) (R2.oL2 λb2 l2 c2 S2=>?_)))
 have hl2:=S2.len
 rw[wrap64 (n:=Int.tmod key (t.bU.length:Int)+(t.bU.length:Int)) (by omega) (by omega),afZ hn,wrap64 (n:=key-key % (t.bU.length:Int)) (by omega) (by omega),afW hn,wrap64 (n:=key / (t.bU.length:Int)) (by omega) (by omega)]
 refine S2.idx (by decide) m1 (by omega) λp Rp=>Rp.oF1 λAg gd=>fM h7 (dr .f32 _) λDg kc=>dS (dS (fA kc gd λwX iG=>⟨⟨wX,rfl,iG⟩,X⟩))
theorem Xk{q:Addr}{t:bR}{key:Int}(R:RdP eJ h q t)(KV:t.ok=true)(hk:inR key (-100) 100=true):ae ai vI #[.pointer (some q),.int .i64 key] (λu h'=>(∃y,u = .tuple ⟨[.float .f32 y,.bool (nD (t.YE key))]⟩∧(nD (t.YE key)=true->FW .f32 y (t.hz key)))∧Ext h h') h:=by
 refine Ak.call (goF (Po R KV hk) λh1 y x1 hy=>dv (fD hy ajA λr4 h4=>?_))
 refine (aeh h4).mono ?_
 rintro _ h2 ⟨⟨z,rfl,hz⟩,x2⟩
 refine nq (dv (bd ((R.ext (x1.trans x2)).oF1 λDg kc=>fM kc hz λwX iG=>?_)))
 refine ⟨⟨wX,rfl,λK6=>?_⟩,x1.trans x2⟩
 have K6:nD (fdiv .f32 (t.EM key) 1150681088)=true:=K6
 rw[K6,if_pos rfl] at iG
 exact iG
theorem ai5{cs:Array Value}{t:bR}{key:Int}(R0:eJ.rd h cs.toList t)(KV:t.ok=true)(hk:inR key (-100) 100=true):ae ai pF #[.agg cs,.int .i64 key] (λu h'=>(∃y,u = .tuple ⟨[.float .f32 y,.int .i64 (if nD (t.YE key) then 0 else 2)]⟩∧(nD (t.YE key)=true->FW .f32 y (t.hz key)))∧Ext h h') h:=by
 refine sP.call (fj R0 λg1 h1 x1 R=>R.gi rfl λc3 R3=>goF (ah5 R3 KV hk) λh2 y x2 hy=>dv (fD hy ajA λr7 h7=>?_))
 refine (agN h7).mono ?_
 rintro _ h3 ⟨⟨z,rfl,hz⟩,x3⟩
 refine nq (dv (cX ((R.ext (x2.trans x3)).oF1 λFJ ke=>fM ke hz λuQ kB=>?_)))
 refine ⟨⟨uQ,rfl,λK6=>?_⟩,x1.trans (x2.trans x3)⟩
 have K6:nD (fdiv .f32 (t.EM key) 1150681088)=true:=K6
 rw[K6,if_pos rfl] at kB
 exact kB
theorem AB{t:bR}{key k:Int}(e:t.asked key=(0,k)):FI (.tuple ⟨[.float .f32 0,.int .i64 k]⟩) (t.asked key).1 (t.asked key).2:=by rw[e];exact ⟨0,rfl,fw0⟩
theorem Xj{q:Addr}{t:bR}{key:Int}(R:RdP eJ h q t):ae ai vH #[.pointer (some q),.int .i64 key] (λu h'=>FI u (t.asked key).1 (t.asked key).2∧Ext h h') h:=by
 refine Aj.call (goX (Zo R) λh1 x1=>bd (brN (λe=>⟨AB (by rw[bR.asked,e];rfl),x1⟩) λKV=>?_))
 refine Es.call (goE x1 (mg _ _ _ _) λh2 x2=>bd (bd (brN (λe=>⟨AB (by rw[bR.asked,KV,e];rfl),x2⟩) λhk=>?_)))
 refine (Xk (R.ext x2) KV hk).mono ?_
 rintro _ h3 ⟨⟨y,rfl,hy⟩,x3⟩
 refine nq (dv (bd (brN (λe=>⟨AB (by rw[bR.asked,KV,hk,e];rfl),x2.trans x3⟩) λe=>⟨?_,x2.trans x3⟩)))
 have:t.asked key=(t.hz key,0):=by rw[bR.asked,KV,hk,e];rfl
 rw[this];exact ⟨y,rfl,hy e⟩
theorem Wk{cs:Array Value}{t:bR}{key:Int}(R0:eJ.rd h cs.toList t):ae ai vo #[.agg cs,.int .i64 key] (λu h'=>FI u (t.asked key).1 (t.asked key).2∧Ext h h') h:=by
 refine zP.call (fj R0 λg1 h1 x1 R=>R.gi rfl λc3 R3=>goX (FO R3) λh2 x2=>bd (brN (λe=>⟨AB (by rw[bR.asked,e];rfl),x1.trans x2⟩) λKV=>?_))
 refine goX (Zm _ _) λh3 x3=>bd (brN (λe=>⟨AB (by rw[bR.asked,KV,e];rfl),x1.trans (x2.trans x3)⟩) λhk=>?_)
 refine (R.ext (x2.trans x3)).gi rfl λc4 R4=>(ai5 R4 KV hk).mono ?_
 rintro _ h4 ⟨⟨y,rfl,hy⟩,x4⟩
 have X:=x1.trans (x2.trans (x3.trans x4))
 refine nq (dv (cX ?_))
 cases K6:nD (t.YE key) with
 | false=>exact BB rfl ⟨AB (by rw[bR.asked,KV,hk,K6];rfl),X⟩
 | true=>
  refine dp rfl ⟨?_,X⟩
  have:t.asked key=(t.hz key,0):=by rw[bR.asked,KV,hk,K6];rfl
  rw[this];exact ⟨y,rfl,hy K6⟩
theorem Nd{t:bR}{key k:Int}{Nr:Nat}(e:t.period key Nr=(0,k)):FI (.tuple ⟨[.float .f32 0,.int .i64 k]⟩) (t.period key Nr).1 (t.period key Nr).2:=by rw[e];exact ⟨0,rfl,fw0⟩
theorem H0{cs:Array Value}{t:bR}{key:Int}(R0:eJ.rd h cs.toList t)(hx:FW .f32 x a):ae ai qU #[.agg cs,.int .i64 key,.float .f32 x] (λu h'=>FI u (t.period key a).1 (t.period key a).2∧Ext h h') h:=by
 refine uy.call (fj R0 λg1 h1 x1 R=>ahk (Xj R) λh2 y x2 hy=>nq (dv (cX (br (λe=>?_) λe=>?_))))
 ·have e:¬(t.asked key).2=0:=by simpa using e
  exact ⟨Nd (by rw[bR.period,if_neg e]),x1.trans x2⟩
 have e:(t.asked key).2=0:=by simpa using e
 rw[cY hx c1,cY hx cR]
 have X:=x1.trans x2
 refine br (λk1=>brN (λk2=>⟨Nd (by rw[bR.period,if_pos e,inside,fge,fle,k1,k2];rfl),X⟩) λk2=>?_) λk1=>⟨Nd (by rw[bR.period,if_pos e,inside,fge,k1];rfl),X⟩
 refine fD hx hy λr9 h9=>⟨?_,X⟩
 have:t.period key a=(fdiv .f32 a (t.asked key).1,0):=by rw[bR.period,if_pos e,inside,fge,fle,k1,k2];rfl
 rw[this];exact ⟨r9,rfl,h9⟩
theorem aeb(hx:FW .f32 x a):Ret ai zD #[.float .f32 x] (.bool (inside a 1065353216 1232348160)):=λh=>
 DT.call ((lS hx c1 cR).go λh1 x1=>bd ⟨rfl,x1⟩)
theorem OB{cs:Array Value}{t:bR}{key:Int}(R0:eJ.rd h cs.toList t)(hx:FW .f32 x a):ae ai qI #[.agg cs,.int .i64 key,.float .f32 x] (λu h'=>FI u (t.period key a).1 (t.period key a).2∧Ext h h') h:=by
 refine u7.call (fj R0 λg1 h1 x1 R=>R.gi rfl λc3 R3=>ahk (Wk R3) λh2 y x2 hy=>nq (dv (cX (br (λe=>?_) λe=>?_))))
 ·have e:¬(t.asked key).2=0:=by simpa using e
  exact ⟨Nd (by rw[bR.period,if_neg e]),x1.trans x2⟩
 have e:(t.asked key).2=0:=by simpa using e
 refine goX (aeb hx _) λh3 x3=>bd (brN (λk=>⟨Nd (by rw[bR.period,if_pos e,k];rfl),x1.trans (x2.trans x3)⟩) λk=>?_)
 refine fD hx hy λr9 h9=>⟨?_,x1.trans (x2.trans x3)⟩
 have:t.period key a=(fdiv .f32 a (t.asked key).1,0):=by rw[bR.period,if_pos e,k];rfl
 rw[this];exact ⟨r9,rfl,h9⟩
end
end Go.Sx
namespace Go.Sx
open Go.Proofs
set_option maxRecDepth 100000
def ed.B5(a:(Option Addr×Nat×Nat×Int)->ab->Prop)(aa:VH)(b:(Option Addr×Nat×Nat×Int×Int)->ab->Prop):Option Addr×Nat×Nat×Int×Int->ab->Prop
 | (aF,ax,aN,i_3,k_4),h=>
 bg aF i_3 ax λc=>
 oL (cell h ((Addr.add c (i_3.toNat*2)))) λPy d TN=>
 BIF ((decide (k_4<(d:Int)))) (
 bg aF i_3 ax λe=>
 oL (cell h ((Addr.add e (i_3.toNat*2)))) λf g j=>
 bg f k_4 g λi=>
 oF .f32 (cell h ((Addr.add i (k_4.toNat*1)))) λAg=>
 BIF (FloatKind.f32.format.order Ag 0 != some .eq) (
 aa (.bool false) h) (
 b (aF,ax,aN,i_3,((IntKind.i64.wrap (k_4+1)))) h)) (
 a (aF,ax,aN,((IntKind.i64.wrap (i_3+1)))) h)
def ed.g5(fr:Frame):Option Addr×Nat×Nat×Int×Int:=((gLb (ah fr 0)),(gLl (ah fr 0)),(gLc (ah fr 0)),(gI (ah fr 3)),(gI (ah fr 4)))
def ed.l5(a:(Option Addr×Nat×Nat×Int)->ab->Prop)(aa:VH):=gg (kds 30 [(0,.l),(3,.i .i64),(4,.i .i64)]) λfr=>bh (ed.B5 a aa) (ed.g5 fr)
def ed.B2(aa:VH)(a:(Option Addr×Nat×Nat×Int)->ab->Prop):Option Addr×Nat×Nat×Int->ab->Prop
 | (aF,ax,aN,i_3),h=>
 BIF ((decide (i_3<(ax:Int)))) (
 bh (ed.B5 a aa) (aF,ax,aN,i_3,0) h) (
 aa (.bool true) h)
def ed.g2(fr:Frame):Option Addr×Nat×Nat×Int:=((gLb (ah fr 0)),(gLl (ah fr 0)),(gLc (ah fr 0)),(gI (ah fr 3)))
def ed.l2(aa:VH):=gg (kds 30 [(0,.l),(3,.i .i64)]) λfr=>bh (ed.B2 aa) (ed.g2 fr)
def ed.S(aF:Option Addr)(ax aN:Nat)(aa:VH)(h:ab):=
 bh (ed.B2 aa) (aF,ax,aN,0) h
theorem ed.call{aF:Option Addr}{ax aN:Nat}{aa:VH}{h:ab}(H:ed.S aF ax aN aa h):ae ai oD #[.slice aF ax aN] aa h:=
 qc (Λ:=an [(1000002,ed.l2 aa)]) Tryz.func340
 (qs qf (qs (qs qf (Rq.block (ql (ed.l2 aa) (qg (g:=ed.g2) (Λ:=λa=>an [(1000005,ed.l5 a aa)]) (λ_ _ _=>by kernel_rfl) (λa=>(qs qf (qs (Rq.block (qs qf (Rq.block (ql (ed.l5 a aa) (qg (g:=ed.g5) (Λ:=λb=>an []) (λ_ _ _=>by kernel_rfl) (λb=>qf)))))) qf))))))) qf))
 (qe H)
def BT.S(n_0:Int)(aa:VH)(h:ab):=
 ALC ⟨fO⟩ aq (λa d=>
 ae ai dY #[.int .i64 n_0,.int .i64 1,.int .i64 1024] (λe b=>
 asB e λf=>
 BIF (!f) (
 STA 2 b ⟨a,0,none⟩ ⟨[.slice none 0 0,.int .i64 0]⟩ λc=>
 LDA 2 c ⟨a,0,none⟩ λg=>
 aa (.tuple ⟨[.agg g,.int .i64 2]⟩) c) (
 MKS fh au n_0 n_0 (λi j=>
 STA 2 j ⟨a,0,none⟩ ⟨[.slice (some ⟨i,0,none⟩) n_0.toNat n_0.toNat,.int .i64 0]⟩ λgd=>
 LDA 2 gd ⟨a,0,none⟩ λtq=>
 aa (.tuple ⟨[.agg tq,.int .i64 0]⟩) gd) b)) d) h
theorem BT.call{n_0:Int}{aa:VH}{h:ab}(H:BT.S n_0 aa h):ae ai jX #[.int .i64 n_0] aa h:=
 qc (Λ:=an []) Tryz.func232
 qf
 (qe H)
def fR.B3(aa:VH)(b:(Addr×Int×Int)->ab->Prop):Addr×Int×Int->ab->Prop
 | (r_1,n_3,k_4),h=>
 BIF (decide (k_4≤n_3)) (
 LDA 2 h r_1 λc=>
 ae ai pg #[.agg c,.int .i64 k_4] (λd a=>
 asF .f32 d λAg=>
 BIF (FloatKind.f32.format.order Ag 0 != some .eq) (
 aa (.int .i64 ((IntKind.i64.wrap (k_4-1)))) a) (
 b (r_1,n_3,((IntKind.i64.wrap (k_4+1)))) a)) h) (
 aa (.int .i64 n_3) h)
def fR.g3(fr:Frame):Addr×Int×Int:=((gP (ah fr 1)),(gI (ah fr 3)),(gI (ah fr 4)))
def fR.l3(aa:VH):=gg (kds 20 [(1,.p),(3,.i .i64),(4,.i .i64)]) λfr=>bh (fR.B3 aa) (fR.g3 fr)
def fR.S(r_0:Array Value)(aa:VH)(h:ab):=
 ALC r_0 aq (λa b=>
 oL (cell b ⟨a,0,none⟩) λKa Hd c=>
 ae ai dR #[.slice Ka Hd c] (λd e=>
 asI .i64 d λf=>
 bh (fR.B3 aa) (⟨a,0,none⟩,f,1) e) b) h
theorem fR.call{r_0:Array Value}{aa:VH}{h:ab}(H:fR.S r_0 aa h):ae ai sf #[.agg r_0] aa h:=
 qc (Λ:=an [(1000003,fR.l3 aa)]) Tryz.func354
 (qs qf (qs qf (qs (qs qf (Rq.block (ql (fR.l3 aa) (qg (g:=fR.g3) (Λ:=λa=>an []) (λ_ _ _=>by kernel_rfl) (λa=>qf))))) qf)))
 (qe H)
def sM.S(r_0:Array Value)(aa:VH)(h:ab):=
 ALC r_0 aq (λb a=>
 LDA 2 a ⟨b,0,none⟩ λd=>
 oL (cell a ⟨b,0,none⟩) λPy e TN=>
 ae ai sf #[.agg d] (λf c=>
 asI .i64 f λg=>
 PIN a ⟨b,0,none⟩ 1 c <|
 ae ai dR #[.slice Py e TN] (λi j=>
 asI .i64 i λrD=>
 aa (.bool (g==rD)) j) c) a) h
theorem sM.call{r_0:Array Value}{aa:VH}{h:ab}(H:sM.S r_0 aa h):ae ai jw #[.agg r_0] aa h:=
 qc (Λ:=an []) Tryz.func291
 qf
 (qe H)
section
variable {h:ab}{q:Addr}
theorem PU(n:Int)(h:ab):ae ai jX #[.int .i64 n] (λu h'=>∃cs B,u = .tuple ⟨[.agg cs,.int .i64 (if inR n 1 1024 then 0 else 2)]⟩∧bo.ow B cs.toList (if inR n 1 1024 then ZU n else oY)∧Mem h h' B) h:=by
 refine BT.call ((Mem.start h).alc λg1 h1 x1 M=>goM M (kJ _ _ _ _) λh2 M=>bd (br (λhb=>?_) λhb=>?_))
 ·have hb:=nt hb
  rw[hb]
  exact M.dy .here rfl (eG rfl) rfl .here λh3 M=>M.cM .here rfl ⟨_,[],rfl,qt,M.drop⟩
 ·have hn:=nf hb
  rw[hn]
  have hr:1≤n∧n≤1024:=by unfold inR at hn;simp only[Bool.and_eq_true,decide_eq_true_eq] at hn;exact hn
  obtain⟨m,rfl⟩:=Int.eq_ofNat_of_zero_le (show 0≤n by omega)
  refine Kb M (by omega) λg2 h2 x2 M O=>?_
  have M:=M.perm (.swap _ _ _)
  refine M.dy .here rfl (eG rfl) rfl .here λh3 M=>M.cM .here rfl ?_
  exact ⟨_,_,rfl,Tb (r:=ZU m) O,M.drop⟩
end
end Go.Sx
