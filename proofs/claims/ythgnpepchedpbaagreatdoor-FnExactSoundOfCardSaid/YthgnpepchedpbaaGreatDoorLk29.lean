/- Lemmas. -/
import Derived.Test.YthgnpepchedpbaaGreatDoorLk27
import Derived.Test.YthgnpepchedpbaaGreatDoorTab
import Derived.Test.YthgnpepchedpbaaGreatDoorLr7
import Derived.Test.YthgnpepchedpbaaGreatDoorLk17
import Derived.Test.YthgnpepchedpbaaGreatDoorLk0b
set_option linter.unusedVariables false
set_option linter.unusedSimpArgs false
namespace Go.Sx
open Go.Proofs
set_option maxRecDepth 100000
set_option maxHeartbeats 1000000
section
variable {h:ab}
theorem xV{es:List aZ}{i:Nat}(hi:i<es.length){p:aZ->Bool}(h1:∀k,ml p es i k≤1)(h2:p es[i]! = true->ml p es i es[i]!.aT=0)(k:Int):ml p es (i+1) k≤1:=by
 rw[uH p hi]
 split
 ·next e=>
  rw[Bool.and_eq_true,beq_iff_eq] at e
  rw[← e.2,h2 e.1];decide
 ·have:=h1 k;omega
theorem mkS{es:List aZ}{ni:Int}{i:Nat}(hi:i<es.length)(hp:jM ni es[i]! = true)(hn:0≤es[i]!.aT∧es[i]!.aT<(es.length / 2:Nat))(A:fF es[i]! = true->ml gL es i es[i]!.aT=0)(B:gL es[i]! = true->0<ml fF es i es[i]!.aT)(e1:ml fF es (i+1) es[i]!.aT≤1)(e2:ml gL es (i+1) es[i]!.aT≤1):Mz es ni i:=by
 refine⟨hp,hn,λh=>⟨A h,?_⟩,λh=>⟨B h,?_⟩⟩
 ·rw[uH fF hi,h,if_pos (by simp)] at e1;omega
 ·rw[uH gL hi,h,if_pos (by simp)] at e2;omega
theorem acN{N:(Option Addr×Nat×Nat×Int×Int×Option Addr×Nat×Nat×Option Addr×Nat×Nat×Int)->ab->Prop}{aa:Value->ab->Prop}{h0 hx:ab}{b:Option Addr}{l c m g5 g7 j:Nat}{ni i:Int}{a:Addr}{e:aZ}{es:List aZ}(M:Mem h0 hx [(g7,2,jG (vw gL es j m)),(g5,2,jG (vw fF es j m))])(R:RdP bF hx a e)(h1:0≤e.aT)(h2:e.aT<m)(no:(1<ml fF es j e.aT∨1<ml gL es j e.aT)->aa (.bool false) hx)(yes:ml fF es j e.aT≤1->ml gL es j e.aT≤1->N (b,l,c,ni,(m:Int),some ⟨g5,0,none⟩,m,m,some ⟨g7,0,none⟩,m,m,IntKind.i64.wrap (i+1)) hx):
  av.J22 N aa b l c ni (m:Int) (some ⟨g5,0,none⟩) m m (some ⟨g7,0,none⟩) m m i a hx:=by
 unfold av.J22
 refine R.oI (Jr M (.there .here) h1 h2 (ku _ _ _ _) ?_)
 rw[Fa h1 h2]
 refine brd (λk=>no (.inl (by omega))) λk1=>R.oI (Jr M .here h1 h2 (ku _ _ _ _) ?_)
 rw[Fa h1 h2]
 exact brd (λk=>no (.inr (by omega))) λk2=>yes (by omega) (by omega)
theorem NA{b:Option Addr}{l c:Nat}{es:List aZ}(S:SlR bF h b l c es){ni:Int}(hni:0≤ni∧ni≤9):af ak 102 #[.slice b l c,.int .i64 ni] (λu h'=>u = .bool (KW es ni)∧Ext h h') h:=by
 have Fi:=S.2.2.1
 have VF:=S.2.1
 have:=cu
 have hl:=S.len
 obtain⟨m,hm⟩:∃m:Nat,m=l / 2:=⟨_,rfl⟩
 have e1:IntKind.i64.wrap (Int.tdiv (l:Int) 2)=(m:Int):=by
  rw[show Int.tdiv (l:Int) 2=((l / 2:Nat):Int) from by rw[Int.ofNat_tdiv];rfl,wrap64 (by omega) (by omega),hm]
 refine av.call ?_
 rw[av.S,e1,wrap64 (n:=2*(m:Int)) (by omega) (by omega)]
 refine nz (by decide) (br (λhb=>⟨?_,Ext.refl _⟩) λhb=>brd (λVD=>⟨?_,Ext.refl _⟩) λVD=>?_)
 ·rw[tj λG=>?_]
  have:=G.even
  simp only[bne_iff_ne,ne_eq] at hb
  omega
 ·rw[tj λG=>?_]
  have:=G.UQ
  omega
 simp only[bne_eq_false_iff_eq] at hb
 have hlen:l=2*m:=by omega
 have hlm:es.length / 2=m:=by omega
 unfold av.J4
 refine vW (r:=rI .i64) (z:=0) (zc:=Kz) ⟨rfl,rfl⟩ rfl rfl (by decide) (Mem.start h) (by show 8*m≤2 ^ 48;omega) (by omega) λg5 h1 x1 M _=>?_
 refine vW (r:=rI .i64) (z:=0) (zc:=Kz) ⟨rfl,rfl⟩ rfl rfl (by decide) M (by show 8*m≤2 ^ 48;omega) (by omega) λg7 h2 x2 M _=>?_
 have hz:=Jv fF es m
 have HQ:=Jv gL es m
 rw[Int.toNat_natCast]
 refine loop (λx hh=>∃i:Nat,x=(b,l,c,ni,(m:Int),some ⟨g5,0,none⟩,m,m,some ⟨g7,0,none⟩,m,m,(i:Int))∧i≤l∧Mem h hh [(g7,2,jG (vw gL es i m)),(g5,2,jG (vw fF es i m))]∧(∀j,j<i->Mz es ni j)∧(∀k,ml fF es i k≤1)∧∀k,ml gL es i k≤1) (λx=>(l-x.2.2.2.2.2.2.2.2.2.2.2).toNat)
  ⟨0,rfl,by omega,by rw[← hz,← HQ];exact M,λi hi=>by omega,λk=>by rw[Da];omega,λk=>by rw[Da];omega⟩ ?_
 rintro x hh ⟨i,rfl,hi,M,hS,c1,c2⟩
 have X:=M.ext
 refine brd (λhc=>?_) λhc=>?_
 ·have HP:i<es.length:=by omega
  have no:∀{h':ab},Ext h h'->¬Mz es ni i->(Value.bool false = .bool (KW es ni)∧Ext h h'):=λe hn=>⟨by rw[tj λG=>hn (G.ka HP)],e⟩
  refine S.idn tk (by omega) λa Ra=>?_
  have R:∀{hx:ab},Ext h hx->RdP bF hx _ es[i]!:=λe=>Ra.ext e
  refine(R X).oI1 (goM M (kQ _ _ _ _) λh3 M=>bt (brN (λe=>no M.ext λs=>?_) λha=>?_))
  ·have:=s.part
   rw[jM,e] at this;cases this
  refine(R M.ext).oI (goM M (kQ _ _ _ _) λh4 M=>bt (brN (λe=>no M.ext λs=>?_) λhn=>?_))
  ·have:=s.note
   rw[wrap64 (by omega) (by omega),inR] at e
   rw[hlm] at this
   simp only[Bool.and_eq_false_iff,decide_eq_false_iff_not] at e
   omega
  have hn:0≤es[i]!.aT∧es[i]!.aT<(m:Int):=by
   rw[wrap64 (by omega) (by omega),inR] at hn
   simp only[Bool.and_eq_true,decide_eq_true_eq] at hn
   omega
  have hst:=Fa (p:=fF) (es:=es) (i:=i) hn.1 hn.2
  have ZR:=Fa (p:=gL) (es:=es) (i:=i) hn.1 hn.2
  have k1:=c1 es[i]!.aT
  have k2:=c2 es[i]!.aT
  unfold av.J12
  refine(R M.ext).oI (br (λkk=>?_) λkk=>br (λkp=>?_) λkp=>no M.ext λs=>?_)
  ·have ZP:fF es[i]! = true:=kk
   have hk:es[i]!.Kind=2:=by simpa using kk
   have Mp:gL es[i]! = false:=by unfold gL;rw[hk];rfl
   have pt:∀r:Bool,(inR es[i]!.aq 0 (ni-1)&&inR es[i]!.Key (-100) 100&&fin es[i]!.gd)=r->jM ni es[i]! = r:=λr e=>by
    rw[jM,ha,if_neg (by omega),hk,← e];simp[Bool.and_assoc]
   refine(R M.ext).oI (Jr M (.there .here) hn.1 hn.2 (ku _ _ _ _) ?_)
   rw[hst,wrap64 (n:=(ml fF es i es[i]!.aT:Int)+1) (by omega) (by omega)]
   refine ad0 M (.there .here) hn.1 hn.2 (ku _ _ _ _) (.there .here) λh5 M=>?_
   rw[MR HP ZP hn.1 hn.2,← zn HP Mp] at M
   refine(R M.ext).oI (Jr M .here hn.1 hn.2 (ku _ _ _ _) ?_)
   rw[zn HP Mp,ZR]
   refine brd (λe=>no M.ext λs=>?_) λe0=>?_
   ·have:=(s.st ZP).1;omega
   refine(R M.ext).oI (goM M (kQ _ _ _ _) λh6 M=>?_)
   rw[wrap64 (n:=ni-1) (by omega) (by omega)]
   refine bt (brN (λe=>no M.ext λs=>?_) λq1=>?_)
   ·have:=s.part;rw[pt false (by rw[show inR es[i]!.aq 0 (ni-1)=false from e];rfl)] at this;cases this
   refine(R M.ext).oI (goM M (kQ _ _ _ _) λh7 M=>bt (brN (λe=>no M.ext λs=>?_) λq2=>?_))
   ·have:=s.part;rw[pt false (by rw[show inR es[i]!.Key (-100) 100=false from e];simp)] at this;cases this
   refine(R M.ext).oF λy hy=>goM M (jm hy _) λh8 M=>bt (brN (λe=>no M.ext λs=>?_) λq3=>?_)
   ·have:=s.part;rw[pt false (by rw[show fin es[i]!.gd=false from e];simp)] at this;cases this
   have JK:=pt true (by rw[show inR es[i]!.aq 0 (ni-1)=true from q1,show inR es[i]!.Key (-100) 100=true from q2,show fin es[i]!.gd=true from q3];rfl)
   have z0:ml gL es i es[i]!.aT=0:=by omega
   refine acN M (R M.ext) hn.1 hn.2 (λe=>no M.ext λs=>?_) λe1 e2=>?_
   ·have:=xV HP c1 (λ_=>(s.st ZP).2) es[i]!.aT
    have:=xV HP c2 (λh=>by rw[Mp] at h;cases h) es[i]!.aT
    omega
   have hs:=mkS (ni:=ni) HP JK (by rw[hlm];exact hn) (λ_=>z0) (λh=>by rw[Mp] at h;cases h) e1 e2
   refine⟨⟨i+1,by rw[ag (by omega)],by omega,M,λj hj=>?_,xV HP c1 (λ_=>(hs.st ZP).2),xV HP c2 (λh=>by rw[Mp] at h;cases h)⟩,by rw[ag (by omega)];show _<_;simp;omega⟩
   by_cases e:j=i
   ·subst e;exact hs
   ·exact hS j (by omega)
  ·have Mp:gL es[i]! = true:=kp
   have hk:es[i]!.Kind=1:=by simpa using kp
   have ZP:fF es[i]! = false:=by unfold fF;rw[hk];rfl
   have pt:∀r:Bool,((es[i]!.aq==0)&&(es[i]!.Key==0)&&(es[i]!.gd==0))=r->jM ni es[i]! = r:=λr e=>by
    rw[jM,ha,if_pos hk,← e];simp
   refine(R M.ext).oI (Jr M .here hn.1 hn.2 (ku _ _ _ _) ?_)
   rw[ZR,wrap64 (n:=(ml gL es i es[i]!.aT:Int)+1) (by omega) (by omega)]
   refine ad0 M .here hn.1 hn.2 (ku _ _ _ _) .here λh5 M=>?_
   rw[MR HP Mp hn.1 hn.2,← zn HP ZP] at M
   refine(R M.ext).oI (Jr M (.there .here) hn.1 hn.2 (ku _ _ _ _) ?_)
   rw[zn HP ZP,hst]
   refine br (λe=>no M.ext λs=>?_) λe0=>?_
   ·have:=(s.sp Mp).1
    rw[beq_iff_eq] at e
    omega
   rw[beq_eq_false_iff_ne] at e0
   refine(R M.ext).oI (br (λe=>no M.ext λs=>?_) λq1=>?_)
   ·have:=s.part;rw[pt false (by rw[show(es[i]!.aq==0)=false from by simpa using e];rfl)] at this;cases this
   refine(R M.ext).oI (br (λe=>no M.ext λs=>?_) λq2=>?_)
   ·have:=s.part;rw[pt false (by rw[show(es[i]!.Key==0)=false from by simpa using e];simp)] at this;cases this
   refine(R M.ext).oF λy hy=>goM M (zu hy fw0 _) λh8 M=>bt (brN (λe=>no M.ext λs=>?_) λq3=>?_)
   ·have:=s.part;rw[pt false (by rw[show(es[i]!.gd==0)=false from e];simp)] at this;cases this
   have JK:=pt true (by rw[show(es[i]!.aq==0)=true from by simpa using q1,show(es[i]!.Key==0)=true from by simpa using q2,show(es[i]!.gd==0)=true from q3];rfl)
   refine acN M (R M.ext) hn.1 hn.2 (λe=>no M.ext λs=>?_) λe1 e2=>?_
   ·have:=xV HP c2 (λ_=>(s.sp Mp).2) es[i]!.aT
    have:=xV HP c1 (λh=>by rw[ZP] at h;cases h) es[i]!.aT
    omega
   have hs:=mkS (ni:=ni) HP JK (by rw[hlm];exact hn) (λh=>by rw[ZP] at h;cases h) (λ_=>by omega) e1 e2
   refine⟨⟨i+1,by rw[ag (by omega)],by omega,M,λj hj=>?_,xV HP c1 (λh=>by rw[ZP] at h;cases h),xV HP c2 λ_=>(hs.sp Mp).2⟩,by rw[ag (by omega)];show _<_;simp;omega⟩
   by_cases e:j=i
   ·subst e;exact hs
   ·exact hS j (by omega)
  ·rcases Ls s.part with⟨h1,_⟩ | ⟨h1,_⟩
   ·rw[show gL es[i]! = false from kp] at h1;cases h1
   ·rw[show fF es[i]! = false from kk] at h1;cases h1
 ·refine ahN (S.ext X) (λh' j x e1 e2=>⟨by rw[tj λG=>by rw[G.ord j (by omega)] at e2;cases e2],X.trans x⟩) λh' x ho=>⟨?_,X.trans x⟩
  ·rw[BS.2 (U2 (by omega) (by omega) (λj hj=>hS j (by omega)) λj hj=>ho j (by omega))]
end
def bE.J11(a:(Addr×Int×Value×Value×Value×Option Addr×Nat×Nat×Int×Int)->ab->Prop)(aa:VH)(s_1:Addr)(tN:Int)(GM:Value)(tT:Value)(rE:Value)(e_8:Addr)(b:Option Addr)(c:Nat)(d:Nat)(e:Int)(f:Int)(h:ab):=oI .i64 (cell h (e_8.add 1)) λg=> BIF (g==1) (oI .i64 (cell h (e_8.add 2)) λUU=> gC ak (Instr.lookup 176 GM (.int .i64 UU) true) (λi sX=> fV i λj k=> asI .i64 j λl=> asB k λm=> BIF (!m) (aa (.bool false) sX) (oI .i64 (cell sX e_8) λn=> BIF (decide (n<l)) (aa (.bool false) sX) (oI .i64 (cell sX (e_8.add 2)) λVT=> gC ak (Instr.lookup 165 tT (.int .i64 VT) false) (λo ER=> asB o λp=> BIF p (aa (.bool false) ER) (oI .i64 (cell ER (e_8.add 2)) λq=> jt ak (do Instr.mapUpdate 165 tT (.int .i64 q) (.bool true);pure .skip) (λr ZO=> a (s_1,tN,GM,tT,rE,b,c,d,e,((IntKind.i64.wrap (f+1)))) ZO) ER)) sX))) h) (a (s_1,tN,GM,tT,rE,b,c,d,e,((IntKind.i64.wrap (f+1)))) h)
def bE.j11(a:(Addr×Int×Value×Value×Value×Option Addr×Nat×Nat×Int×Int)->ab->Prop)(aa:VH):=gg (kds 126 [(1,.p),(3,.i .i64),(4,.v),(5,.v),(6,.v),(8,.p),(51,.l),(52,.i .i64),(53,.i .i64)]) λfr=>bE.J11 a aa (gP (ah fr 1)) (gI (ah fr 3)) (ah fr 4) (ah fr 5) (ah fr 6) (gP (ah fr 8)) (gLb (ah fr 51)) (gLl (ah fr 51)) (gLc (ah fr 51)) (gI (ah fr 52)) (gI (ah fr 53))
def bE.B7(aa:VH)(b:(Addr×Int×Value×Value×Value×Option Addr×Nat×Nat×Int×Int)->ab->Prop):Addr×Int×Value×Value×Value×Option Addr×Nat×Nat×Int×Int->ab->Prop |(s_1,tN,GM,tT,rE,t51b,t51l,t51c,t52,t53),h=> BIF (decide (t53<t52)) (bd t51b t53 t51l λd=> LDA 6 h ((Addr.add d (t53.toNat*6))) λe=> ALC ⟨jg⟩ 131 (λa Dn=> STA 6 Dn ⟨a,0,none⟩ e λzR=> LDA 6 zR ⟨a,0,none⟩ λf=> oL (cell zR (s_1.add 4)) λafE afF ajZ=> af ak 110 #[.slice afE afF ajZ] (λg Nh=> asI .i64 g λi=> PIN zR ⟨a,0,none⟩ 6 Nh <|af ak 109 #[.agg f,.int .i64 i] (λj Lh=> asB j λk=> BIF (!k) (aa (.bool false) Lh) (oI .i64 (cell Lh ⟨a,2,none⟩) λZV=> af ak 46 #[.int .i64 ZV,.int .i64 0,.int .i64 ((IntKind.i64.wrap (tN-1)))] (λl Pw=> asB l λm=> BIF (!m) (aa (.bool false) Pw) (BIF ((decide (0<t53))) (oL (cell Pw (s_1.add 5)) λapq apr aww=> bd apq ((IntKind.i64.wrap (t53-1))) apr λn=> LDA 6 Pw ((Addr.add n ((Int.toNat ((IntKind.i64.wrap (t53-1))))*6))) λo=> LDA 6 Pw ⟨a,0,none⟩ λp=> pE ak rE #[.agg o,.agg p] (λq Nj=> asI .i64 q λr=> BIF ((decide (0≤r))) (aa (.bool false) Nj) (bE.J11 b aa s_1 tN GM tT rE ⟨a,0,none⟩ t51b t51l t51c t52 t53 Nj)) Pw) (bE.J11 b aa s_1 tN GM tT rE ⟨a,0,none⟩ t51b t51l t51c t52 t53 Pw))) Lh)) Nh) zR) h) (gC ak (Builtin.len_ #[176] 3 #[GM]) (λs c=> asI .i64 s λt=> BIF (t==tN) (gC ak (Builtin.len_ #[165] 3 #[tT]) (λu Iz=> asI .i64 u λv=> aa (.bool (v==tN)) Iz) c) (aa (.bool false) c)) h)
def bE.g7(fr:Frame):Addr×Int×Value×Value×Value×Option Addr×Nat×Nat×Int×Int:=((gP (ah fr 1)),(gI (ah fr 3)),(ah fr 4),(ah fr 5),(ah fr 6),(gLb (ah fr 51)),(gLl (ah fr 51)),(gLc (ah fr 51)),(gI (ah fr 52)),(gI (ah fr 53)))
def bE.l7(aa:VH):=gg (kds 126 [(1,.p),(3,.i .i64),(4,.v),(5,.v),(6,.v),(51,.l),(52,.i .i64),(53,.i .i64)]) λfr=>bk (bE.B7 aa) (bE.g7 fr)
def bE.J3(aa:VH)(s_1:Addr)(h:ab):=oL (cell h (s_1.add 5)) λabC XR abD=> af ak 106 #[.slice abC XR abD] (λGZ nR=> asI .i64 GZ λa=> NZ 2 <|oL (cell nR (s_1.add 5)) λUE NG abF=> af ak 107 #[.slice UE NG abF] (λZY Ec=> gC ak (Instr.makeMap 165 none) (λb re=> af ak 108 #[ZY] (λRD Dm=> oL (cell Dm (s_1.add 5)) λafz abG ajX=> bk (bE.B7 aa) (s_1,((IntKind.i64.wrap (Int.tdiv a 2))),ZY,b,RD,afz,abG,ajX,(abG:Int),0) Dm) re) Ec) nR) h
def bE.j3(aa:VH):=gg (kds 126 [(1,.p)]) λfr=>bE.J3 aa (gP (ah fr 1))
def bE.S(s_0:Array Value)(aa:VH)(h:ab):=ALC s_0 39 (λa d=> oF .f32 (cell d ⟨a,0,none⟩) λe=> af ak 103 #[.float .f32 e] (λf b=> asB f λg=> BIF (!g) (aa (.bool false) b) (LDA 3 b ⟨a,1,none⟩ λi=> af ak 104 #[.agg i] (λj c=> asB j λEF=> BIF (!EF) (aa (.bool false) c) (oL (cell c ⟨a,4,none⟩) λpQ nT sH=> af ak 105 #[.slice pQ nT sH] (λyQ hP=> asB yQ λMH=> BIF (!MH) (aa (.bool false) hP) (oL (cell hP ⟨a,5,none⟩) λNC Lv UA=> NZ 2 <|BIF (((Int.tmod (Lv:Int) 2) !=0)) (aa (.bool false) hP) (oL (cell hP ⟨a,5,none⟩) λUC Qy XQ=> BIF ((decide (128<(Qy:Int)))) (aa (.bool false) hP) (bE.J3 aa ⟨a,0,none⟩ hP)))) c)) b)) d) h
theorem bE.call{s_0 aa h}(H:bE.S s_0 aa h):af ak 67 #[.agg s_0] aa h:=qc (Λ:=aS [(3,bE.j3 aa),(1000007,bE.l7 aa)]) Tryz.func67 (qs qf (qj (bE.j3 aa) qf (qs qf (qs qf (qs qf (qs (qs qf (Rq.block (ql (bE.l7 aa) (qg (g:=bE.g7) (Λ:=λa=>aS [(11,bE.j11 a aa)]) (λ_ _ _=>by kernel_rfl) (λa=>(qs qf (qs qf (qs (Rq.block (qs qf (qj (bE.j11 a aa) qf qf))) qf)))))))) qf)))))) (qe H)
set_option maxHeartbeats 2000000
noncomputable def bI.ok(s:bI):Bool:=inside s.sY 1065353216 1232348160&&s.dv.ok&&(decide (s.az.length≤6)&&vJ s.az)&&KW s.bo s.az.length
section
variable {h:ab}
theorem yJ(b:Option Addr)(l c:Nat):Ret ak 106 #[.slice b l c] (.int .i64 l):=λh=>kn.call ⟨rfl,Ext.refl _⟩
theorem zV(b:Option Addr)(l c:Nat):Ret ak 110 #[.slice b l c] (.int .i64 l):=λh=>iJ.call ⟨rfl,Ext.refl _⟩
theorem SQ(k:Int):Ret ak 167 #[.int .i64 k] (.bool (inR k (-100) 100)):=λh=>AR.call ((js _ _ _).go λh1 x1=>bt ⟨rfl,x1⟩)
theorem Ui{cs:Array Value}{e:aZ}{ni:Int}(R0:bF.rd h cs.toList e)(hni:0≤ni∧ni≤9):af ak 109 #[.agg cs,.int .i64 ni] (λu h'=>u = .bool (jM ni e)∧Ext h h') h:=by
 refine vI.call (gD R0 λg h0 x0 R=>R.oI2 (goE (Ext.refl h0) (js _ _ _ _) λh1 x1=>bt (brN (λha=>⟨by rw[jM,ha];rfl,x0.trans x1⟩) λha=>?_)))
 have R1:=R.ext x1
 refine R1.oI2 (br (λk1=>?_) λk1=>?_)
 ·have hk:e.Kind=1:=by simpa using k1
  have ev:jM ni e=((e.aq==0)&&(e.Key==0)&&(e.gd==0)):=by rw[jM,ha,if_pos hk];simp
  refine R1.oI2 (br (λk2=>?_) λk2=>⟨by rw[ev,k2];rfl,x0.trans x1⟩)
  refine R1.oI2 (br (λk3=>?_) λk3=>⟨by rw[ev,k3];simp,x0.trans x1⟩)
  refine R1.oF2 λy hy=>goE x1 (FK hy _) λh2 x2=>cN ⟨?_,x0.trans x2⟩
  rw[ev,k2,k3,Bool.true_and,Bool.true_and]
  congr 1
  rw[Bool.eq_iff_iff,beq_iff_eq,beq_iff_eq]
  omega
 ·have hk:¬e.Kind=1:=by simpa using k1
  have ev:jM ni e=(e.Kind==2&&inR e.aq 0 (ni-1)&&inR e.Key (-100) 100&&fin e.gd):=by rw[jM,ha,if_neg hk];simp
  refine R1.oI2 (br (λk2=>?_) λk2=>⟨by rw[ev,k2];rfl,x0.trans x1⟩)
  refine R1.oI2 (goE x1 (js _ _ _ _) λh2 x2=>?_)
  rw[wrap64 (n:=ni-1) (by omega) (by omega)]
  refine bt (br (λk3=>?_) λk3=>⟨by rw[ev,k3];simp,x0.trans x2⟩)
  refine(R.ext x2).oI2 (goE x2 (SQ _ _) λh3 x3=>bt (br (λk4=>?_) λk4=>⟨by rw[ev,k4];simp,x0.trans x3⟩))
  exact(R.ext x3).oF2 λy hy=>goE x3 (mw hy _) λh4 x4=>bt ⟨by rw[ev,k2,k3,k4];rfl,x0.trans x4⟩
theorem Ic{h0:ab}{g1:Nat}{s:bI}(R:RdP bU h ⟨g1,0,none⟩ s)(X0:Ext h0 h)(k:s.ok=KW s.bo s.az.length)(hi:s.az.length≤6)(he:s.bo.length=2*(s.bo.length / 2))(hm:s.bo.length / 2≤64):
  bE.J3 (λu h'=>u = .bool s.ok∧Ext h0 h') ⟨g1,0,none⟩ h:=by
 unfold bE.J3
 obtain⟨es,hes⟩:∃es,es=s.bo:=⟨_,rfl⟩
 obtain⟨ni,hni⟩:∃ni,ni=s.az.length:=⟨_,rfl⟩
 obtain⟨m,hmm⟩:∃m,m=es.length / 2:=⟨_,rfl⟩
 refine R.oL λb1 l1 c1 S1=>goX (yJ _ _ _ _) λh1 x1=>cN (nz (by decide) ((R.ext x1).oL λb2 l2 c2 S2=>?_))
 have e1:=S1.len
 rw[show IntKind.i64.wrap (Int.tdiv (l1:Int) 2)=(m:Int) from by
  rw[show Int.tdiv (l1:Int) 2=((l1 / 2:Nat):Int) from by rw[Int.ofNat_tdiv];rfl,wrap64 (by omega) (by omega),hmm,hes,e1]]
 refine(Zg S2).mono ?_
 rintro _ hb ⟨go,rfl,hgo,MO,xb⟩
 refine NV λgs h3 x3 hgs MS=>?_
 refine(EH go).mono ?_
 rintro _ h4 ⟨gc,rfl,hgc,SK,x4⟩
 have hsc:gs≠gc:=by
  obtain⟨_,_,e,_⟩:=MS
  have:=(Array.getElem?_eq_some_iff.1 e).1
  omega
 have Rb:=(R.ext x1).ext xb
 have hq:oL (cell hb ((⟨g1,0,none⟩:Addr).add 5)) (λb l c=>SlR bF hb b l c s.bo):=Rb.oL λb l c S=>S
 obtain⟨b,l,c,hc0,S⟩:=LL hq
 rw[xT hc0 (x3.trans x4)]
 show bk _ _ _
 rw[← hes] at S MO k he hm
 rw[← hni] at k hi
 have hl:=S.len
 have Fi:=S.2.2.1
 have VF:=S.2.1
 have:=cu
 have X1:Ext h0 hb:=(X0.trans x1).trans xb
 refine loop (λx hh=>∃i:Nat,x=(⟨g1,0,none⟩,(m:Int),.map (some go),.map (some gs),.func (.func 164) #[] #[.pointer (some ⟨gc,0,none⟩)],b,l,c,(l:Int),(i:Int))∧i≤l∧Ext hb hh∧xL hh gs (nN (es.take i))∧cell hh ⟨gc,0,none⟩=some (.map (some go))∧∀j,j<i->Fz es ni j) (λx=>(l-x.2.2.2.2.2.2.2.2.2).toNat)
  ⟨0,rfl,by omega,x3.trans x4,by rw[List.take_zero];exact MS.ext x4,SK,λj hj=>by omega⟩ ?_
 rintro x hh ⟨i,rfl,hi,X,MS,SK,hS⟩
 clear hc0 x3 x4
 refine brd (λhc=>?_) λhc=>?_
 ·have HP:i<es.length:=by omega
  have no:∀{h':ab},Ext h0 h'->¬Fz es ni i->(Value.bool false = .bool s.ok∧Ext h0 h'):=λe hn=>⟨by rw[k,tj λG=>hn (G.CK HP)],e⟩
  have X2:Ext h0 hh:=X1.trans X
  refine(S.ext X).idn tk (by omega) λa Ra=>Ra.jc rfl λcs Rc=>QU Rc rfl rfl λg37 h5 x5 RE=>RE.jc rfl λce Re=>?_
  refine(Rb.ext (X.trans x5)).oL λb6 l6 c6 S6=>?_
  have e6:l6=ni:=by rw[← S6.len,hni]
  refine goE (Ext.refl h5) (zV _ _ _ _) λh6 x6=>cN (RE.xy (by decide) x6 (goE x6 (Ui (bF.ext x6 Re) (by omega)) λh7 x7=>bt (brN (λe=>no (X2.trans (x5.trans x7)) λt=>?_) λe=>?_)))
  ·rw[e6] at e
   rw[t.part] at e;cases e
  have JK:jM ni es[i]! = true:=by rw[e6] at e;exact e
  refine(RE.ext x7).oI2 (goE x7 (js _ _ _ _) λh8 x8=>bt (brN (λe=>no (X2.trans (x5.trans x8)) λt=>?_) λe=>?_))
  ·have:=t.note
   rw[wrap64 (by omega) (by omega),inR] at e
   rw[← hmm] at this
   simp only[Bool.and_eq_false_iff,decide_eq_false_iff_not] at e
   omega
  have hn:0≤es[i]!.aT∧es[i]!.aT<(m:Int):=by
   rw[wrap64 (by omega) (by omega),inR] at e
   simp only[Bool.and_eq_true,decide_eq_true_eq] at e
   omega
  have fin:∀{h9:ab},Ext h5 h9->(0<i->lt4 (qq es es[i-1]!) (qq es es[i]!)=true)->bE.J11 (λx' h'=>(∃i:Nat,x'=(⟨g1,0,none⟩,(m:Int),.map (some go),.map (some gs),.func (.func 164) #[] #[.pointer (some ⟨gc,0,none⟩)],b,l,c,(l:Int),(i:Int))∧i≤l∧Ext hb h'∧xL h' gs (nN (es.take i))∧cell h' ⟨gc,0,none⟩=some (.map (some go))∧∀j,j<i->Fz es ni j)∧((l:Int)-x'.2.2.2.2.2.2.2.2.2).toNat<((l:Int)-i).toNat) (λu h'=>u = .bool s.ok∧Ext h0 h') ⟨g1,0,none⟩ (m:Int) (.map (some go)) (.map (some gs)) (.func (.func 164) #[] #[.pointer (some ⟨gc,0,none⟩)]) ⟨g37,0,none⟩ b l c (l:Int) (i:Int) h9:=λ{h9} x9 ho=>by
   have R9:=RE.ext x9
   have X9:=X2.trans (x5.trans x9)
   have MS9:=MS.ext (x5.trans x9)
   have MO9:=MO.ext (X.trans (x5.trans x9))
   have hc9:=xT SK (x5.trans x9)
   have SN:=RW HP
   have step:∀{h':ab},Ext hb h'->xL h' gs (nN (es.take (i+1)))->cell h' ⟨gc,0,none⟩=some (.map (some go))->Fz es ni i->((∃i':Nat,((⟨g1,0,none⟩:Addr),(m:Int),Value.map (some go),Value.map (some gs),Value.func (.func 164) #[] #[.pointer (some ⟨gc,0,none⟩)],b,l,c,(l:Int),IntKind.i64.wrap ((i:Int)+1))=(⟨g1,0,none⟩,(m:Int),.map (some go),.map (some gs),.func (.func 164) #[] #[.pointer (some ⟨gc,0,none⟩)],b,l,c,(l:Int),(i':Int))∧i'≤l∧Ext hb h'∧xL h' gs (nN (es.take i'))∧cell h' ⟨gc,0,none⟩=some (.map (some go))∧∀j,j<i'->Fz es ni j)∧((l:Int)-IntKind.i64.wrap ((i:Int)+1)).toNat<((l:Int)-i).toNat):=λy my cy sy=>
    ⟨⟨i+1,by rw[ag (by omega)],by omega,y,my,cy,λj hj=>by
     by_cases e:j=i
     ·subst e;exact sy
     ·exact hS j (by omega)⟩,by rw[ag (by omega)];omega⟩
   unfold bE.J11
   refine R9.oI (br (λkp=>?_) λkp=>?_)
   ·have Mp:gL es[i]! = true:=kp
    rw[if_pos Mp] at SN
    have hf:=K3 es es[i]!.aT
    refine R9.oI (Gu MO9 MA m8 Bw _ ?_)
    cases hoA:EW es es[i]!.aT with
    | none=>
     rw[hoA] at hf
     rw[show jE (vb es) es[i]!.aT=none from hf]
     refine jJ (cN (bt (vu rfl (no X9 λt=>?_))))
     obtain⟨a,ha,_⟩:=t.sp Mp
     rw[hoA] at ha;cases ha
    | some a=>
     rw[hoA] at hf
     rw[show jE (vb es) es[i]!.aT=some (.int .i64 a) from hf]
     refine jJ (cN (bt (cM rfl (R9.oI1 (brd (λkl=>no X9 λt=>?_) λkl=>R9.oI (UO MS9 Wf m8 Vz _ ?_))))))
     ·obtain⟨a',ha,hle,_⟩:=t.sp Mp
      rw[hoA] at ha
      cases ha
      omega
     have ajh:=Vl (es:=es) (i:=i) (n:=es[i]!.aT) (by omega)
     have hval:=Vm (es.take i) es[i]!.aT
     have hB:(jE (nN (es.take i)) es[i]!.aT).getD (.bool false) = .bool (jE (nN (es.take i)) es[i]!.aT).isSome:=by
      rcases hval with e | e <;> rw[e] <;> rfl
     rw[hB]
     refine bt (br (λkh=>no X9 λt=>?_) λkh=>R9.oI (T9 MS9 (X.trans (x5.trans x9)) (by omega) Wf m8 _ _ λq gv Tw M10 ap3=>step Tw (by rw[SN];exact M10) ?_ ⟨JK,by rw[← hmm];exact hn,ho,λ_=>⟨a,hoA,by omega,λj hj ZR CY=>?_⟩⟩))
     ·obtain⟨j,hj,h1,h2⟩:=ajh.1 kh
      obtain⟨_,_,_,hno⟩:=t.sp Mp
      exact hno j hj h1 h2
     ·rw[← hc9]
      unfold cell
      rw[ap3 gc (λe=>hsc e.symm)]
     ·have:=ajh.2 ⟨j,hj,ZR,CY⟩
      rw[kh] at this;cases this
   ·have Mp:gL es[i]! = false:=kp
    rw[if_neg (by rw[Mp];decide)] at SN
    exact step (X.trans (x5.trans x9)) (by rw[SN];exact MS9) hc9 ⟨JK,by rw[← hmm];exact hn,ho,λh=>by rw[Mp] at h;cases h⟩
  refine brd (λh0i=>?_) λh0i=>fin x8 λh=>by omega
  rw[zK (by omega) (by omega)]
  refine(Rb.ext (X.trans (x5.trans x8))).oL λb9 l9 c9 S9=>?_
  have e9:=S9.len
  rw[← hes] at S9 e9
  refine S9.idn tk (by omega) λa9 Ra9=>Ra9.jc rfl λc9 Rc9=>(RE.ext x8).jc rfl λZH am6=>?_
  show af ak 164 #[.agg c9,.agg ZH,.pointer (some ⟨gc,0,none⟩)] _ _
  refine goE x8 (KV (es:=es) (xT SK (x5.trans x8)) (MO.ext (X.trans (x5.trans x8))) Rc9 am6) λh9 x9=>cN ?_
  rw[aas]
  exact brN (λe=>no (X2.trans (x5.trans x9)) λt=>by have:=t.ord (by omega);rw[e] at this;cases this) λe=>fin x9 λ_=>e
 ·rw[show es.take i=es from List.take_of_length_le (by omega)] at MS
  refine SU (MO.ext X) MA (cN (br (λk1=>SU MS Wf (cN ⟨?_,X1.trans X⟩)) λk1=>⟨?_,X1.trans X⟩))
  ·rw[k]
   congr 1
   rw[Bool.eq_iff_iff,beq_iff_eq,BS]
   have k1:((vb es).length:Int)=m:=by simpa using k1
   constructor
   ·intro k2
    exact U1 he hm (λj hj=>hS j (by omega)) (by omega) (by omega)
   ·intro G
    have:=G.lens.2
    omega
  ·rw[k,tj λG=>?_]
   have:=G.lens.1
   have k1:¬((vb es).length:Int)=m:=by simpa using k1
   omega
theorem Ku{cs:Array Value}{s:bI}(R0:bU.rd h cs.toList s):af ak 67 #[.agg cs] (λu h'=>u = .bool s.ok∧Ext h h') h:=by
 refine bE.call (gD R0 λg h0 x0 R=>R.oF2 λy hy=>goE (Ext.refl h0) (XA hy _) λh1 x1=>bt (brN (λe=>⟨by rw[bI.ok,e];rfl,x0.trans x1⟩) λea=>?_))
 refine(R.ext x1).jH ed rfl λct Rt=>goE x1 (A6 Rt) λh2 x2=>bt (brN (λe=>⟨by rw[bI.ok,e];simp,x0.trans x2⟩) λeb=>?_)
 refine(R.ext x2).oL2 λb l c S=>goE x2 (D6 S) λh3 x3=>bt (brN (λe=>⟨by rw[bI.ok,e];simp,x0.trans x3⟩) λec=>?_)
 have k:s.ok=KW s.bo s.az.length:=by rw[bI.ok,ea,eb,ec];rfl
 have hi:s.az.length≤6:=by
  rw[Bool.and_eq_true,decide_eq_true_eq] at ec
  exact ec.1
 refine(R.ext x3).oL2 λb1 l1 c1 S1=>nz (by decide) ?_
 have e1:=S1.len
 have ht:Int.tmod (l1:Int) 2=((l1 % 2:Nat):Int):=by rw[Int.ofNat_tmod];rfl
 rw[ht]
 refine br (λe=>⟨?_,x0.trans x3⟩) λe=>(R.ext x3).oL2 λb2 l2 c2 S2=>?_
 ·rw[k,tj λG=>?_]
  have:=G.even
  rw[bne_iff_ne] at e
  omega
 have e2:=S2.len
 have e:l1 % 2=0:=by rw[bne_eq_false_iff_eq] at e;omega
 refine brd (λe3=>⟨?_,x0.trans x3⟩) λe3=>Ic (R.ext x3) (x0.trans x3) k hi (by omega) (by omega)
 rw[k,tj λG=>?_]
 have:=G.UQ
 omega
theorem abB{q:Addr}{s:bI}(R:RdP bU h q s):af ak 64 #[.pointer (some q)] (λu h'=>u = .bool s.ok∧Ext h h') h:=by
 have hm:=cu
 refine dc.call (R.oF1 λy hy=>?_)
 rw[cw hy c1]
 refine br (λk1=>R.oF1 λz hz=>?_) λk1=>⟨by rw[bI.ok,inside,fge,k1];rfl,Ext.refl _⟩
 rw[cw hz cR]
 refine brN (λk2=>⟨by rw[bI.ok,inside,fle,k2];simp,Ext.refl _⟩) λk2=>R.lda ed rfl λct Rt=>goX (Be Rt) λh1 x1=>bt (brN (λe=>⟨by rw[bI.ok,e];simp,x1⟩) λeb=>?_)
 have ea:inside s.sY 1065353216 1232348160=true:=by rw[inside,fge,fle,k1,k2];rfl
 refine(R.ext x1).oL λb l c S=>?_
 have hl:=S.len
 have s1:=S.2.1
 have s2:=S.2.2.1
 refine brd (λe=>⟨by rw[bI.ok,decide_eq_false (p:=s.az.length≤6) (by omega)];simp,x1⟩) λe6=>?_
 obtain⟨xs,hxs⟩:∃xs,xs=s.az:=⟨_,rfl⟩
 have k:s.ok=(vJ xs&&KW s.bo xs.length):=by rw[bI.ok,ea,eb,decide_eq_true (p:=s.az.length≤6) (by omega),hxs];rfl
 unfold dc.J3
 refine loop (λx hh=>∃i:Nat,x=(q,(i:Int))∧i≤l∧Ext h hh∧∀j,j<i->nv xs j=true) (λx=>((l:Int)-x.2).toNat) ⟨0,rfl,by omega,x1,λj hj=>by omega⟩ ?_
 rintro x hh ⟨i,rfl,hi,X,hd⟩
 refine(R.ext X).oL λb2 l2 c2 S2=>?_
 have e2:=S2.len
 rw[← hxs] at S2 e2 hl
 have no:∀{h':ab},i<l->nv xs i=false->Ext h h'->(Value.bool false = .bool s.ok∧Ext h h'):=λe hf x=>⟨by rw[k,vJ,all_false (f:=nv xs) (by omega) hf,Bool.false_and],x⟩
 refine brd (λhc=>?_) λhc=>?_
 ·refine(R.ext X).oL λb3 l3 c3 S3=>?_
  have e3:=S3.len
  rw[← hxs] at S3 e3
  refine S3.idn (by decide) (by omega) λa Ra=>goE X (EU Ra) λh4 x4=>bt (brN (λe=>no (by omega) (by rw[nv,e,Bool.false_and]) x4) λei=>?_)
  refine loop (λx hh=>∃n:Nat,x=(q,(i:Int),(n:Int))∧n≤i∧Ext h hh∧∀j,j<n->¬xs[j]!.Name=xs[i]!.Name) (λx=>((i:Int)-x.2.2).toNat) ⟨0,rfl,by omega,x4,λj hj=>by omega⟩ ?_
  rintro x h5 ⟨n,rfl,hn,Y,By⟩
  refine brd (λhc2=>?_) λhc2=>?_
  ·refine(R.ext Y).oL λb4 l4 c4 S4=>?_
   have e4:=S4.len
   rw[← hxs] at S4 e4
   refine S4.idn (by decide) (by omega) λa4 Ra4=>Ra4.oS1 λ_=>(R.ext Y).oL λb5 l5 c5 S5=>?_
   have e5:=S5.len
   rw[← hxs] at S5 e5
   refine S5.idn (by decide) (by omega) λa5 Ra5=>Ra5.oS1 λ_=>?_
   rw[Hl]
   refine brd (λe=>no (by omega) ?_ Y) λe=>⟨⟨n+1,by rw[ag (by omega)],by omega,Y,λj hj=>?_⟩,by rw[ag (by omega)];show _<_;simp;omega⟩
   ·rw[nv,all_false (f:=λk=>!decide (xs[k]!.Name=xs[i]!.Name)) (i:=n) (by omega) (by rw[decide_eq_true e];rfl),Bool.and_false]
   ·by_cases ej:j=n
    ·subst ej;exact e
    ·exact By j (by omega)
  ·refine⟨⟨i+1,by rw[ag (by omega)],by omega,Y,λj hj=>?_⟩,by rw[ag (by omega)];show _<_;simp;omega⟩
   by_cases ej:j=i
   ·subst ej
    rw[nv,ei,all_true λk hk=>by rw[decide_eq_false (By k (by omega))];rfl];rfl
   ·exact hd j (by omega)
 ·refine(R.ext X).oL λb3 l3 c3 S3=>(R.ext X).oL λb4 l4 c4 S4=>?_
  have e4:=S4.len
  rw[← hxs] at S4 e4
  refine goE X (NA S3 (by omega)) λh4 x4=>bt ⟨?_,x4⟩
  rw[k,vJ,all_true λj hj=>hd j (by omega),e4];rfl
end
def aci.B4(aa:VH)(b:(Addr×Addr×Int)->ab->Prop):Addr×Addr×Int->ab->Prop |(f_0,g_1,i_5),h=> BIF ((decide (i_5<3))) (IDX i_5 3 <|oF .f32 (cell h ((Addr.add (f_0.add 1) (i_5.toNat*1)))) λc=> IDX i_5 3 <|oF .f32 (cell h ((Addr.add (g_1.add 1) (i_5.toNat*1)))) λd=> af ak 155 #[.float .f32 c,.float .f32 d] (λe a=> asB e λf=> BIF (!f) (aa (.bool false) a) (b (f_0,g_1,((IntKind.i64.wrap (i_5+1)))) a)) h) (IDX 0 2 <|oF .f32 (cell h (f_0.add 4)) λg=> IDX 0 2 <|oF .f32 (cell h (g_1.add 4)) λi=> af ak 155 #[.float .f32 g,.float .f32 i] (λCx me=> asB Cx λKK=> BIF KK (IDX 1 2 <|oF .f32 (cell me (f_0.add 5)) λxB=> IDX 1 2 <|oF .f32 (cell me (g_1.add 5)) λDK=> af ak 155 #[.float .f32 xB,.float .f32 DK] (λIV kT=> asB IV λj=> aa (.bool j) kT) me) (aa (.bool false) me)) h)
def aci.g4(fr:Frame):Addr×Addr×Int:=((gP (ah fr 0)),(gP (ah fr 1)),(gI (ah fr 5)))
def aci.l4(aa:VH):=gg (kds 57 [(0,.p),(1,.p),(5,.i .i64)]) λfr=>bk (aci.B4 aa) (aci.g4 fr)
def aci.S(f_0:Addr)(g_1:Addr)(aa:VH)(h:ab):=oI .i64 (cell h f_0) λa=> oI .i64 (cell h g_1) λb=> BIF (a !=b) (aa (.bool false) h) (bk (aci.B4 aa) (f_0,g_1,0) h)
theorem aci.call{f_0 g_1 aa h}(H:aci.S f_0 g_1 aa h):af ak 265 #[.pointer (some f_0),.pointer (some g_1)] aa h:=qc (Λ:=aS [(1000004,aci.l4 aa)]) Tryz.func265 (qs qf (qs qf (qs (qs qf (Rq.block (ql (aci.l4 aa) (qg (g:=aci.g4) (Λ:=λa=>aS []) (λ_ _ _=>by kernel_rfl) (λa=>qf))))) qf))) (qe H)
set_option maxHeartbeats 1000000
section
variable {h:ab}
theorem aiI{p q:Addr}{x y:cz}(A0:RdP cx h p x)(B0:RdP cx h q y):af ak 265 #[.pointer (some p),.pointer (some q)] (λu h'=>u = .bool (same x y)∧Ext h h') h:=by
 have hC:=(A0.foc dU).len
 have hC':=(B0.foc dU).len
 have hS:=auh (A0.foc dx).len (B0.foc dx).len
 refine aci.call (A0.oI1 (B0.oI1 (br (λhb=>⟨by rw[aew,show(x.Kind==y.Kind)=false from nt hb];rfl,Ext.refl _⟩) λhk=>?_)))
 have hk:(x.Kind==y.Kind)=true:=nf hk
 refine loop (λz hh=>∃n:Nat,z=(p,q,(n:Int))∧n≤3∧Ext h hh∧∀i,i<n->same x.C[i]! y.C[i]! = true) (λz=>(3-z.2.2).toNat) ⟨0,rfl,by omega,Ext.refl _,λi hi=>by omega⟩ ?_
 rintro z hh ⟨n,rfl,hn,X,hs⟩
 refine brd (λhc=>?_) λhc=>?_
 ·refine idx (by omega) (by omega) ((((A0.ext X).foc dU).elem (i:=n) (by omega)).oF1 λa ha=>idx (by omega) (by omega) ((((B0.ext X).foc dU).elem (i:=n) (by omega)).oF1 λb hb=>goE X (zu ha hb _) λh8 x8=>bt (br (λhb=>⟨?_,x8⟩) λhb=>?_)))
  ·have hb:=nt hb
   rw[ak6] at hb
   rw[aew,alD hb,Bool.and_false,Bool.false_and]
  ·have hb:=nf hb
   rw[ak6] at hb
   refine⟨⟨n+1,by rw[ag (by omega)],by omega,x8,λi hi=>?_⟩,by rw[ag (by omega)];show _<_;simp;omega⟩
   by_cases e:i=n
   ·subst e;exact hb
   ·exact hs i (by omega)
 ·have hCC:same x.C y.C=true:=akA (by omega) λi hi=>hs i (by omega)
  refine idx (by omega) (by omega) ((A0.ext X).oF λa ha=>idx (by omega) (by omega) ((B0.ext X).oF λb hb=>goE X (zu ha hb _) λh8 x8=>bt (br (λhz=>?_) λhz=>⟨?_,x8⟩)))
  ·refine idx (by omega) (by omega) ((A0.ext x8).oF λa ha=>idx (by omega) (by omega) ((B0.ext x8).oF λb hb=>goE x8 (zu ha hb _) λh9 x9=>bt ⟨?_,x9⟩))
   rw[aew,hk,hCC,hS,hz];rfl
  ·rw[aew,hk,hCC,hS,hz];rfl
end
end Go.Sx
namespace Go.Sx
def Eo:Nat:=1065353216
def akf:Nat:=3212836864
def cp.n(x:cp):Nat:=x.aW.length
def cp.d(x:cp)(b:Nat):Nat:=hH .f32 x.Left[0]!.old b
def cp.t(x:cp)(i:Nat):Nat:=eG .f32 x.aL[i]! (hH .f32 x.aW[i]!.old x.Left[i+1]!.old)
def cp.e(x:cp):cz×Nat:=x.End.step x.aW[x.n-1]!.old
def cp.back(x:cp):Nat:=let b:=eG .f32 x.fT x.e.2;if x.Open then Q8 .f32 b else b
def cp.akS(x:cp)(d:Nat):Nat:=tg (jW .f32 x.Rest (eG .f32 x.fX d)) Eo
def cp.rt(x:cp)(b:Nat)(i:Nat):aY:=x.aW[i]!.push (kept (if i=0 then jW .f32 b (eG .f32 (x.d b) (x.akS (x.d b))) else jW .f32 x.aW[i-1]!.old (x.t (i-1))))
def cp.lf(x:cp)(i:Nat):aY:=x.Left[i]!.push (kept (if i=x.n-1 then x.back else jW .f32 x.Left[i+1]!.old (x.t i)))
def cp.step(x:cp)(b:Nat):cp×Nat:=({ x with aW:=(List.range x.n).map (x.rt b),Left:=(List.range x.n).map x.lf,End:=x.e.1 },x.e.2)
def cp.ok(x:cp):Bool:=
 inR x.n 1 3&&decide (x.Left.length=x.n)&&decide (x.aL.length+1=x.n)&&x.aW.all aY.okf&&x.Left.all aY.okf&&((List.range x.n).all λi=>x.aW[i]!.ae.length==x.Left[i]!.ae.length) &&
  (x.aL.all λk=>inside k akf Eo)&&x.End.ok&&(x.End.Kind==1)&&fin x.fT&&fin x.Rest&&fin x.fX
end Go.Sx
