/- Lemmas. -/
import Derived.Test.YthgnpepchedpbaaGreatDoorLg
import Derived.Test.YthgnpepchedpbaaGreatDoorLk0b
import Derived.Test.YthgnpepchedpbaaGreatDoorTabE
import Derived.Test.YthgnpepchedpbaaGreatDoorLr3
import Derived.Test.YthgnpepchedpbaaGreatDoorTab
import Derived.Test.YthgnpepchedpbaaGreatDoorLh4
import Derived.Test.YthgnpepchedpbaaGreatDoorLk29
import Derived.Test.YthgnpepchedpbaaGreatDoorLh0
import Derived.Test.YthgnpepchedpbaaGreatDoorLk10
import Derived.Test.YthgnpepchedpbaaGreatDoorLk64
set_option linter.unusedVariables false
set_option linter.unusedSimpArgs false
namespace Go.Sx
open Go.Proofs
def s0:Rep Hs:=(Rep.seq bU (Rep.seq (rI .i64) (Rep.seq (rI .i64) ((rI .i64))))).via λa=>(a.Score,a.al,a.K1,a.Nn)
theorem Hn:Foc s0 bU 0 (λa=>a.Score) (λa b=>{ a with Score:=b }):=(Foc.via (f:=λa:Hs=>(a.Score,a.al,a.K1,a.Nn)) (get':=λa=>a.Score) (ig:=λa b=>{ a with Score:=b }) (Foc.fst (Foc.here bU)) (λ_=>rfl) (λ_ _=>rfl)).at rfl
theorem ar1:Foc s0 (rI .i64) 6 (λa=>a.al) (λa b=>{ a with al:=b }):=(Foc.via (f:=λa:Hs=>(a.Score,a.al,a.K1,a.Nn)) (get':=λa=>a.al) (ig:=λa b=>{ a with al:=b }) (Foc.snd (Foc.fst (Foc.here (rI .i64)))) (λ_=>rfl) (λ_ _=>rfl)).at rfl
theorem aqY:Foc s0 (rI .i64) 7 (λa=>a.K1) (λa b=>{ a with K1:=b }):=(Foc.via (f:=λa:Hs=>(a.Score,a.al,a.K1,a.Nn)) (get':=λa=>a.K1) (ig:=λa b=>{ a with K1:=b }) (Foc.snd (Foc.snd (Foc.fst (Foc.here (rI .i64))))) (λ_=>rfl) (λ_ _=>rfl)).at rfl
theorem aqT:Foc s0 (rI .i64) 8 (λa=>a.Nn) (λa b=>{ a with Nn:=b }):=(Foc.via (f:=λa:Hs=>(a.Score,a.al,a.K1,a.Nn)) (get':=λa=>a.Nn) (ig:=λa b=>{ a with Nn:=b }) (Foc.snd (Foc.snd (Foc.snd (Foc.here (rI .i64))))) (λ_=>rfl) (λ_ _=>rfl)).at rfl
def atH:Hs:=⟨Mj,0,0,0⟩
theorem atL:s0.ow [] [.float .f32 0,.float .f32 0,.float .f32 0,.slice none 0 0,.slice none 0 0,.slice none 0 0,.int .i64 0,.int .i64 0,.int .i64 0] atH:=⟨[],[],[.float .f32 0,.float .f32 0,.float .f32 0,.slice none 0 0,.slice none 0 0,.slice none 0 0],_,rfl,rfl,Kn,⟨[],[],[.int .i64 0],_,rfl,rfl,⟨rfl,rfl⟩,⟨[],[],[.int .i64 0],_,rfl,rfl,⟨rfl,rfl⟩,⟨rfl,rfl⟩⟩⟩⟩
instance avS:cJ s0 6 (rI .i64) (λa=>a.al) (λa b=>{ a with al:=b }):=⟨Foc.at ar1 rfl⟩
instance avT:cJ s0 7 (rI .i64) (λa=>a.K1) (λa b=>{ a with K1:=b }):=⟨Foc.at aqY rfl⟩
instance avV:cJ s0 8 (rI .i64) (λa=>a.Nn) (λa b=>{ a with Nn:=b }):=⟨Foc.at aqT rfl⟩
set_option maxRecDepth 100000
def apd.S(s_0:Addr)(aa:VH)(h:ab):=af ak 64 #[.pointer (some s_0)] (λc a=> asB c λd=> BIF d (oI .i64 (cell a (s_0.add 6)) λe=> af ak 41 #[.int .i64 e,.int .i64 1,.int .i64 6] (λf b=> asB f λg=> BIF g (oI .i64 (cell b (s_0.add 7)) λi=> af ak 41 #[.int .i64 i,.int .i64 1,.int .i64 12] (λj gv=> asB j λPU=> BIF PU (oI .i64 (cell gv (s_0.add 8)) λUS=> af ak 41 #[.int .i64 US,.int .i64 1,.int .i64 3] (λxz k=> asB xz λEG=> aa (.bool EG) k) gv) (aa (.bool false) gv)) b) (aa (.bool false) b)) a) (aa (.bool false) a)) h
theorem apd.call{s_0 aa h}(H:apd.S s_0 aa h):af ak 32 #[.pointer (some s_0)] aa h:=qk Tryz.func32 H
def aoG.S(s_0:Array Value)(aa:VH)(h:ab):=ALC s_0 41 (λa d=> LDA 6 d ⟨a,0,none⟩ λe=> af ak 67 #[.agg e] (λf b=> asB f λg=> BIF g (oI .i64 (cell b ⟨a,6,none⟩) λi=> af ak 68 #[.int .i64 i] (λj c=> asB j λEF=> BIF EF (oI .i64 (cell c ⟨a,7,none⟩) λk=> af ak 46 #[.int .i64 k,.int .i64 1,.int .i64 12] (λyQ hP=> asB yQ λMH=> BIF MH (oI .i64 (cell hP ⟨a,8,none⟩) λEn=> af ak 46 #[.int .i64 En,.int .i64 1,.int .i64 3] (λLV qQ=> asB LV λWr=> aa (.bool Wr) qQ) hP) (aa (.bool false) hP)) c) (aa (.bool false) c)) b) (aa (.bool false) b)) d) h
theorem aoG.call{s_0 aa h}(H:aoG.S s_0 aa h):af ak 34 #[.agg s_0] aa h:=qk Tryz.func34 H
def aqD.S(a_0:Array Value)(fy:Int)(aa:VH)(h:ab):=ALC a_0 31 (λd a=> LDA 6 a ⟨d,0,none⟩ λe=> af ak 16 #[.agg e,.int .i64 fy] (λf b=> asI .i64 f λc=> BIF ((decide (c<0))) (aa (.int .i64 (-1)) b) (aa (.int .i64 c) b)) a) h
theorem aqD.call{a_0 fy aa h}(H:aqD.S a_0 fy aa h):af ak 7 #[.agg a_0,.int .i64 fy] aa h:=qk Tryz.func7 H
def aqF.S(a_0:Array Value)(aa:VH)(h:ab):=ALC a_0 31 (λb e=> ALC ⟨Ky⟩ 41 (λc f=> ALC ⟨Ky⟩ 41 (λa d=> LDA 6 d ⟨b,0,none⟩ λg=> af ak 18 #[.agg g] (λi j=> asA i λzO=> STA 6 j ⟨a,0,none⟩ zO λme=> oI .i64 (cell me ⟨b,6,none⟩) λUS=> ST1 me ⟨a,6,none⟩ (.int .i64 US) λhP=> oI .i64 (cell hP ⟨b,7,none⟩) λHU=> ST1 hP ⟨a,7,none⟩ (.int .i64 HU) λkB=> oI .i64 (cell kB ⟨b,8,none⟩) λMt=> ST1 kB ⟨a,8,none⟩ (.int .i64 Mt) λqQ=> LDA 9 qQ ⟨a,0,none⟩ λk=> STA 9 qQ ⟨c,0,none⟩ k λta=> LDA 9 ta ⟨c,0,none⟩ λMF=> aa (.agg MF) ta) d) f) e) h
theorem aqF.call{a_0 aa h}(H:aqF.S a_0 aa h):af ak 9 #[.agg a_0] aa h:=qk Tryz.func9 H
def aqC.S(a_0:Array Value)(b_1:Array Value)(aa:VH)(h:ab):=ALC a_0 41 (λb e=> ALC b_1 41 (λc d=> LDA 6 d ⟨b,0,none⟩ λf=> LDA 6 d ⟨c,0,none⟩ λg=> af ak 21 #[.agg f,.agg g] (λi a=> asB i λj=> BIF (!j) (aa (.bool false) a) (oI .i64 (cell a ⟨b,6,none⟩) λxn=> oI .i64 (cell a ⟨c,6,none⟩) λk=> BIF (xn !=k) (aa (.bool false) a) (oI .i64 (cell a ⟨b,7,none⟩) λUS=> oI .i64 (cell a ⟨c,7,none⟩) λJV=> BIF (US !=JV) (aa (.bool false) a) (oI .i64 (cell a ⟨b,8,none⟩) λHU=> oI .i64 (cell a ⟨c,8,none⟩) λEn=> BIF (HU !=En) (aa (.bool false) a) (aa (.bool true) a))))) d) e) h
theorem aqC.call{a_0 b_1 aa h}(H:aqC.S a_0 b_1 aa h):af ak 12 #[.agg a_0,.agg b_1] aa h:=qk Tryz.func12 H
section
variable {h:ab}
theorem asV{ca cb:Array Value}{x:Hs}(Ra:s0.rd h ca.toList x)(Rb:s0.rd h cb.toList x):af ak 12 #[.agg ca,.agg cb] (λu h'=>u = .bool true∧Ext h h') h:=by
 refine aqC.call (gD Ra λg1 h1 x1 A=>gD (s0.ext x1 Rb) λg2 h2 x2 B=>?_)
 have A:=A.ext x2
 have X:=x1.trans x2
 refine A.jH Hn rfl λc1 R1=>B.jH Hn rfl λc2 R2=>goX (FX R1 R2) λh' x'=>bt (cM rfl ?_)
 have A:=A.ext x'
 have B:=B.ext x'
 have X:=X.trans x'
 refine A.oI2 (B.oI2 (cM (by simp) ?_))
 refine A.oI2 (B.oI2 (cM (by simp) ?_))
 refine A.oI2 (B.oI2 (cM (by simp) ?_))
 exact⟨rfl,X⟩
def aqW(x:Hs):Nat:=j8 x.Score
theorem asY{cs:Array Value}{x:Hs}(R0:s0.rd h cs.toList x)(left:Nat)(hl:left≤1048576):af ak 7 #[.agg cs,.int .i64 (left:Int)] (λu h'=>u = .int .i64 (CL left (aqW x))∧Ext h h') h:=by
 have hw:aqW x=j8 x.Score:=rfl
 refine aqD.call (gD R0 λg1 h1 X R=>?_)
 refine R.jH Hn rfl λc1 R1=>goX (RY R1 (left) (by omega)) λh' x'=>cN (Ho (λhc=>⟨by rw[nO (by omega)],X.trans x'⟩) λhc=>?_)
 rw[ly hc]
 have R:=R.ext x'
 have X:=X.trans x'
 exact⟨by rw[ly (by omega)];congr 2 <;> omega,X⟩
theorem aqN{cs:Array Value}{x:Hs}(R0:s0.rd h cs.toList x)(ES:aqW x≤1048576):af ak 9 #[.agg cs] (λu h'=>mN s0 h h' u x) h:=by
 have hw:aqW x=j8 x.Score:=rfl
 refine aqF.call ((Mem.start h).alc λg1 h1 x1 M=>M.alc λg2 h2 x2 M=>M.alc λg3 h3 x3 M=>?_)
 have P:Pt s0 h h3 ⟨g3,0,none⟩ ⟨g3,41,[],[]⟩ [(g2,41,⟨Ky⟩),(g1,31,cs)] atH:=Pt.new (r:=s0) atL M
 have R:RdP s0 _ ⟨g1,0,none⟩ x:=P.mem.rdp (.there .here) (s0.ext P.ext R0)
 refine R.jH Hn rfl λc1 R1=>mN.pt P (wG R1 (by omega)) λh' c2 B P O ho=>gw (P.acw Hn rfl O λh' P=>?_)
 have R:RdP s0 _ ⟨g1,0,none⟩ x:=P.mem.rdp (.there .here) (s0.ext P.ext R0)
 refine R.oI2 (P.Vk λh' P=>?_)
 have R:RdP s0 _ ⟨g1,0,none⟩ x:=P.mem.rdp (.there .here) (s0.ext P.ext R0)
 refine R.oI2 (P.Vk λh' P=>?_)
 have R:RdP s0 _ ⟨g1,0,none⟩ x:=P.mem.rdp (.there .here) (s0.ext P.ext R0)
 refine R.oI2 (P.Vk λh' P=>?_)
 obtain⟨c',B,M,O⟩:=P.out
 refine M.df .here (osz O rfl) ?_
 have M:=M.cnt (W:=(g2,41,⟨Ky⟩) :: B)
 refine M.dH .here (osz O rfl) (s0.jy O) rfl .here λh3 M=>M.df .here (osz O rfl) ?_
 exact⟨_,B,rfl,O,M.drop⟩
end
set_option maxHeartbeats 1000000
noncomputable def Hs.ok(s:Hs):Bool:=s.Score.ok&&inR s.al 1 6&&inR s.K1 1 12&&inR s.Nn 1 3
section
variable {h:ab}
theorem asX{q:Addr}{s:Hs}(R:RdP s0 h q s):af ak 32 #[.pointer (some q)] (λu h'=>u = .bool s.ok∧Ext h h') h:=by
 have A:∀{hh:ab},Ext h hh->RdP s0 hh q s:=λe=>R.ext e
 refine apd.call (goX (abB (R.fst Hn)) λh1 x1=>bt (br (λk1=>?_) λk1=>⟨by rw[Hs.ok,k1];rfl,x1⟩))
 refine(A x1).oI (goE x1 (kQ _ _ _ _) λh2 x2=>bt (br (λk2=>?_) λk2=>⟨by rw[Hs.ok,k2];simp,x2⟩))
 refine(A x2).oI (goE x2 (kQ _ _ _ _) λh3 x3=>bt (br (λk3=>?_) λk3=>⟨by rw[Hs.ok,k3];simp,x3⟩))
 exact(A x3).oI (goE x3 (kQ _ _ _ _) λh4 x4=>bt ⟨by rw[Hs.ok,k1,k2,k3];rfl,x4⟩)
theorem asO{cs:Array Value}{s:Hs}(R0:s0.rd h cs.toList s):af ak 34 #[.agg cs] (λu h'=>u = .bool s.ok∧Ext h h') h:=by
 refine aoG.call (gD R0 λg h0 x0 R=>?_)
 have A:∀{hh:ab},Ext h0 hh->RdP s0 hh ⟨g,0,none⟩ s:=λe=>R.ext e
 refine R.jH Hn rfl λc1 R1=>goX (Ku R1) λh1 x1=>bt (br (λk1=>?_) λk1=>⟨by rw[Hs.ok,k1];rfl,x0.trans x1⟩)
 refine(A x1).oI2 (goE x1 (ud.call (goX (js _ _ _ _) λh' x'=>bt ⟨rfl,x'⟩):af ak 68 #[.int .i64 s.al] (λu h'=>u = .bool (inR s.al 1 6)∧Ext h1 h') h1) λh2 x2=>bt (br (λk2=>?_) λk2=>⟨by rw[Hs.ok,k2];simp,x0.trans x2⟩))
 refine(A x2).oI2 (goE x2 (js _ _ _ _) λh3 x3=>bt (br (λk3=>?_) λk3=>⟨by rw[Hs.ok,k3];simp,x0.trans x3⟩))
 exact(A x3).oI2 (goE x3 (js _ _ _ _) λh4 x4=>bt ⟨by rw[Hs.ok,k1,k2,k3];rfl,x0.trans x4⟩)
end
def aqG.S(s_0:Array Value)(aa:VH)(h:ab):=ALC s_0 41 (λa d=> af ak 32 #[.pointer (some ⟨a,0,none⟩)] (λe b=> asB e λf=> BIF (!f) (ALC ⟨[]⟩ 22 (λg i=> aa (.tuple ⟨[.slice (some ⟨g,0,none⟩) 0 0,.int .i64 1]⟩) i) b) (LDA 6 b ⟨a,0,none⟩ λj=> oI .i64 (cell b ⟨a,6,none⟩) λk=> af ak 33 #[.agg j,.int .i64 k] (λCx me=> fV Cx λyQ xz=> asA yQ λl=> asI .i64 xz λEn=> ALC ⟨bm⟩ 51 (λc qQ=> STA 10 qQ ⟨c,0,none⟩ l λjF=> LDA 10 jF ⟨c,0,none⟩ λm=> oI .i64 (cell jF ⟨a,7,none⟩) λn=> af ak 26 #[.agg m,.int .i64 ((IntKind.i64.wrap (16*n)))] (λHV uD=> TH HV λo RA RB=> asA o λp=> asL RA λapi apk apj=> asI .i64 RB λq=> ALC ⟨bm⟩ 51 (λr Mm=> STA 10 Mm ⟨r,0,none⟩ p λDm=> aa (.tuple ⟨[.slice api apk apj,.int .i64 q]⟩) Dm) uD) jF) me) b)) d) h
theorem aqG.call{s_0 aa h}(H:aqG.S s_0 aa h):af ak 8 #[.agg s_0] aa h:=qk Tryz.func8 H
def aql.S(s_0:Array Value)(aa:VH)(h:ab):=ALC s_0 41 (λa c=> LDA 9 c ⟨a,0,none⟩ λe=> af ak 34 #[.agg e] (λf b=> asB f λg=> BIF (!g) (aa (.tuple ⟨[.slice none 0 0,.int .i64 1]⟩) b) (LDA 6 b ⟨a,0,none⟩ λi=> oI .i64 (cell b ⟨a,6,none⟩) λj=> af ak 35 #[.agg i,.int .i64 j] (λk gv=> fV k λzX yQ=> asA zX λWl=> asI .i64 yQ λHU=> ALC ⟨bm⟩ 51 (λd kT=> STA 10 kT ⟨d,0,none⟩ Wl λqQ=> oI .i64 (cell qQ ⟨a,7,none⟩) λl=> af ak 36 #[.pointer (some ⟨d,0,none⟩),.int .i64 ((IntKind.i64.wrap (16*l)))] (λGY jU=> asL GY λabC XR abD=> aa (.tuple ⟨[.slice abC XR abD,.int .i64 0]⟩) jU) qQ) gv) b)) c) h
theorem aql.call{s_0 aa h}(H:aql.S s_0 aa h):af ak 10 #[.agg s_0] aa h:=qk Tryz.func10 H
def aoZ.S(a_0:Array Value)(k_1:Int)(aa:VH)(h:ab):=ALC a_0 41 (λb a=> LDA 6 a ⟨b,0,none⟩ λc=> af ak 22 #[.agg c,.int .i64 k_1] (λd e=> asI .i64 d λf=> aa (.int .i64 f) e) a) h
theorem aoZ.call{a_0 k_1 aa h}(H:aoZ.S a_0 k_1 aa h):af ak 13 #[.agg a_0,.int .i64 k_1] aa h:=qk Tryz.func13 H
def e8.J16(aa:VH)(auf:Addr)(atu:Option Addr)(atD:Nat)(atx:Nat)(auP:Int)(asG:Option Addr)(asN:Nat)(asH:Nat)(h:ab):=af ak 14 #[.slice asG asN asH,.int .i64 1] (λe Pw=> asI .i64 e λb=> af ak 15 #[.slice asG asN asH,.int .i64 1] (λf Qi=> asI .i64 f λc=> BIF ((decide (c<0))) (aa (.bool false) Qi) (BIF (c !=b) (aa (.bool false) Qi) (LDA 9 Qi auf λg=> af ak 9 #[.agg g] (λi Nj=> asA i λj=> af ak 10 #[.agg j] (λk l=> fV k λm n=> asL m λazU azW azV=> asI .i64 n λo=> af ak 11 #[.slice azU azW azV,.slice atu atD atx] (λp Qj=> asB p λq=> BIF (!q) (aa (.bool false) Qj) (BIF (o !=auP) (aa (.bool false) Qj) (af ak 15 #[.slice asG asN asH,.int .i64 1] (λr a=> asI .i64 r λd=> BIF ((decide (d<0))) (aa (.bool false) a) (BIF (d !=b) (aa (.bool false) a) (aa (.bool true) a))) Qj))) l) Nj) Qi))) Pw) h
def e8.j16(aa:VH):=gg (kds 96 [(1,.p),(4,.l),(5,.i .i64),(7,.l)]) λfr=>e8.J16 aa (gP (ah fr 1)) (gLb (ah fr 4)) (gLl (ah fr 4)) (gLc (ah fr 4)) (gI (ah fr 5)) (gLb (ah fr 7)) (gLl (ah fr 7)) (gLc (ah fr 7))
def e8.J10(aa:VH)(auf:Addr)(atu:Option Addr)(atD:Nat)(atx:Nat)(auP:Int)(awf:Addr)(asG:Option Addr)(asN:Nat)(asH:Nat)(azb:Int)(h:ab):=LDA 9 h awf λa=> LDA 9 h auf λTL=> af ak 9 #[.agg TL] (λYX JI=> asA YX λb=> PIN h awf 9 JI <|af ak 12 #[.agg a,.agg b] (λc Mn=> asB c λd=> BIF (!d) (aa (.bool false) Mn) (LDA 9 Mn awf λe=> af ak 13 #[.agg e,.int .i64 1] (λf Xa=> asI .i64 f λg=> BIF ((decide (g<0))) (aa (.bool false) Xa) (af ak 11 #[.slice asG asN asH,.slice atu atD atx] (λi Pu=> asB i λj=> BIF (!j) (aa (.bool false) Pu) (BIF (azb !=auP) (aa (.bool false) Pu) (e8.J16 aa auf atu atD atx auP asG asN asH Pu))) Xa)) Mn)) JI) h
def e8.j10(aa:VH):=gg (kds 96 [(1,.p),(4,.l),(5,.i .i64),(6,.p),(7,.l),(8,.i .i64)]) λfr=>e8.J10 aa (gP (ah fr 1)) (gLb (ah fr 4)) (gLl (ah fr 4)) (gLc (ah fr 4)) (gI (ah fr 5)) (gP (ah fr 6)) (gLb (ah fr 7)) (gLl (ah fr 7)) (gLc (ah fr 7)) (gI (ah fr 8))
def e8.S(aae:Array Value)(aa:VH)(h:ab):=ALC aae 31 (λa d=> LDA 9 d ⟨a,0,none⟩ λf=> af ak 7 #[.agg f,.int .i64 1048576] (λg b=> asI .i64 g λi=> BIF ((decide (i<0))) (aa (.bool true) b) (LDA 9 b ⟨a,0,none⟩ λj=> af ak 9 #[.agg j] (λk l=> asA k λzO=> af ak 8 #[.agg zO] (λzX jl=> fV zX λxz DI=> asL xz λNC Lv UA=> asI .i64 DI λMt=> LDA 9 jl ⟨a,0,none⟩ λSk=> af ak 9 #[.agg Sk] (λm ta=> asA m λMF=> ALC ⟨Ky⟩ 41 (λc uD=> STA 9 uD ⟨c,0,none⟩ MF λnR=> LDA 9 nR ⟨c,0,none⟩ λn=> af ak 10 #[.agg n] (λRB vD=> fV RB λOA o=> asL OA λajS afv ajT=> asI .i64 o λe=> af ak 11 #[.slice ajS afv ajT,.slice NC Lv UA] (λYW Gg=> asB YW λp=> BIF (!p) (aa (.bool false) Gg) (BIF (e !=Mt) (aa (.bool false) Gg) (e8.J10 aa ⟨a,0,none⟩ NC Lv UA Mt ⟨c,0,none⟩ ajS afv ajT e Gg))) vD) nR) ta) jl) l) b)) d) h
theorem e8.call{aae aa h}(H:e8.S aae aa h):af ak 3 #[.agg aae] aa h:=qc (Λ:=aS [(10,e8.j10 aa),(16,e8.j16 aa)]) Tryz.func3 (qs qf (qs qf (qs qf (qs qf (qs qf (qs qf (qs qf (qj (e8.j10 aa) qf (qs qf (qs qf (qs qf (qj (e8.j16 aa) qf qf)))))))))))) (qe H)
set_option maxHeartbeats 2000000
theorem aum:aeU ln=true:=by
 have h1:same ln.String iw=true:=acj.2 rfl
 have h2:same ln.aI wI=true:=acj.2 rfl
 have h3:same ln.bY vl=true:=acj.2 rfl
 unfold aeU
 rw[h1,h2,h3];rfl
theorem aw1{s:bI}{n:Int}(h:(s.cj n).2=0):(s.cj n).1.ok=true:=by
 obtain⟨h1,h2,h3,e⟩:=T2 h
 have hl:(List.replicate n.toNat ln).length=n.toNat:=List.length_replicate
 have hh:hap s.bo 0=0:=by
  unfold hap
  rw[List.countP_eq_zero]
  intro a ha
  obtain⟨i,hi,rfl⟩:=List.mem_iff_getElem.1 ha
  have hp:=(sP h1).part i hi
  rw[getElem!_pos _ i hi] at hp
  unfold jM at hp
  simp only[Bool.and_eq_true,inR,decide_eq_true_eq] at hp
  simp only[decide_eq_true_eq]
  omega
 have Nm:∀i,i<n.toNat->(List.replicate n.toNat ln)[i]! = ln:=λi hi=>by rw[getElem!_pos _ i (by omega),List.getElem_replicate]
 have ha:(List.range (List.replicate n.toNat ln).length).all (Zv { iv with Score:=s,al:=List.replicate n.toNat ln })=true:=by
  rw[List.all_eq_true]
  intro i hi
  rw[List.mem_range,hl] at hi
  unfold Zv
  have e1:({ iv with Score:=s,al:=List.replicate n.toNat ln }:aC).al[i]! = ln:=Nm i hi
  rw[e1]
  have e2:acy s ln=true:=by unfold acy;rw[if_pos (show ln.aT = -1 from rfl)];exact aum
  show(acy s ln&&_)=true
  rw[e2];rfl
 rw[e]
 unfold aC.ok
 show(s.ok&&inR (List.replicate n.toNat ln).length 1 6&&inR 0 0 200000&&inR 0 0 64&&((0:Int)==(hap s.bo 0:Int))&&(List.range (List.replicate n.toNat ln).length).all _)=true
 rw[h1,ha,hh,hl]
 have hi:inR ((n.toNat:Nat):Int) 1 6=true:=by simp only[inR,Bool.and_eq_true,decide_eq_true_eq];omega
 rw[hi];rfl
noncomputable def Hs.Wb(s:Hs):List Nat×Int:=if s.ok=true then(((s.Score.cj s.al).1.AX (16*s.K1).toNat).2,0) else([],1)
theorem ar2{s:Hs}(h:s.ok=true):(s.Score.cj s.al).2=0∧1≤s.K1∧s.K1≤12:=by
 unfold Hs.ok at h
 simp only[Bool.and_eq_true] at h
 obtain⟨⟨⟨h1,h2⟩,h3⟩,h4⟩:=h
 refine⟨by unfold bI.cj;rw[if_pos h1,if_pos h2],?_⟩
 simpa [inR] using h3
section
variable {h:ab}{s:Hs}
def FLN(h h':ab)(u:Value)(r:List Nat×Int):Prop:=∃b l c C,u = .tuple ⟨[.slice b l c,.int .i64 r.2]⟩∧SlO 22 (rF .f32) C b l c r.1∧Mem h h' C
theorem FLN.go{P:Program}{f:FuncId}{args:Array Value}{r:List Nat×Int}{hb h:ab}{L:List Blk}{K:Value->ab->Prop}(M:Mem hb h L)(c:af P f args (λu h'=>FLN h h' u r) h)(H:∀h' b l c C,Mem hb h' (C++L)->SlO 22 (rF .f32) C b l c r.1->K (.tuple ⟨[.slice b l c,.int .i64 r.2]⟩) h'):af P f args K h:=
 c.mono λu h' ⟨b,l,c,C,e,S,N⟩=>by subst e;exact H h' b l c C (M.join N) S
theorem au6(k:s.ok=true):s.Wb=(((s.Score.cj s.al).1.AX (16*s.K1).toNat).2,0):=by unfold Hs.Wb;rw[if_pos k]
theorem avr(k:s.ok=false):s.Wb=([],1):=by unfold Hs.Wb;rw[k,if_neg (by decide)]
theorem asi{cs:Array Value}(R0:s0.rd h cs.toList s):af ak 8 #[.agg cs] (λu h'=>FLN h h' u s.Wb) h:=by
 refine aqG.call ((Mem.start h).alc λg1 h1 x1 M=>?_)
 have R:∀{hh:ab}{L:List Blk},Mem h hh L->gi L g1 cs->RdP s0 hh ⟨g1,0,none⟩ s:=λM l=>M.rdp l (s0.ext M.ext R0)
 refine goM M (asX (R M .here)) λh2 M=>bt (brN (λhb=>?_) λzT=>?_)
 ·rw[avr hb]
  exact M.alc λg8 h4 x4 M=>⟨_,_,_,_,rfl,SlO.empty g8,M.cnt (λp=>by simp only[bN,bu,bZ] at *;omega)⟩
 rw[au6 zT]
 obtain⟨k,b1,b2⟩:=ar2 zT
 refine(R M .here).jH Hn rfl λc1 R1=>(R M .here).oI2 (fk.go M (DN R1) λh4 c4 B4 M O4 s4=>jJ (gw (cN (M.alc λg16 h5 x5 M=>M.dH .here s4 (bz.jy O4) rfl .here λh6 M=>M.df .here s4 ?_))))
 have M:Mem h h6 ((g16,51,c4) :: (B4++[(g1,41,cs)])):=M
 refine(R M (.there (gi.skip .here))).oI2 ?_
 rw[wrap64 (n:=16*s.K1) (by omega) (by omega)]
 refine PFL.go M (ajo (bz.look O4 M ((List.sublist_append_left _ _).trans (List.sublist_cons_self _ _)))) λh7 c7 B7 b7 l7 k7 T7 M O7 s7 S7=>al1 (gw (lR (cN ?_)))
 have km:(s.Score.cj s.al).1.may (16*s.K1) 4096=0:=by
  have Ud:=(Co k).2
  unfold aC.may
  rw[if_pos (aw1 k),if_pos (by simp only[inR,Bool.and_eq_true,decide_eq_true_eq];omega),if_neg (by omega)]
 rw[asv km] at O7 S7 ⊢
 refine M.alc λg29 h8 x8 M=>M.dH .here s7 (bz.jy O7) rfl .here λh9 M=>?_
 exact⟨b7,l7,k7,T7,rfl,S7,M.cnt (λp=>by simp only[bN,bu,bZ] at *;omega)⟩
theorem aqS{cs:Array Value}(R0:s0.rd h cs.toList s):af ak 10 #[.agg cs] (λu h'=>FLN h h' u s.Wb) h:=by
 refine aql.call ((Mem.start h).alc λg1 h1 x1 M=>M.df .here (rsz R0 rfl) ?_)
 have R:∀{hh:ab}{L:List Blk},Mem h hh L->gi L g1 cs->RdP s0 hh ⟨g1,0,none⟩ s:=λM l=>M.rdp l (s0.ext M.ext R0)
 refine goM M (asO (s0.ext M.ext R0)) λh2 M=>bt (brN (λhb=>?_) λzT=>?_)
 ·rw[avr hb]
  exact⟨_,_,_,[],rfl,SlO.nil,M.drop⟩
 rw[au6 zT]
 obtain⟨k,b1,b2⟩:=ar2 zT
 obtain⟨Ru,Ud⟩:=Co k
 refine(R M .here).jH Hn rfl λc1 R1=>(R M .here).oI2 (fk.go M (Dq R1) λh4 c4 B4 M O4 s4=>jJ (gw (cN (M.alc λg15 h5 x5 M=>M.dH .here s4 (bz.jy O4) rfl .here λh6 M=>?_))))
 have M:Mem h h6 ((g15,51,c4) :: (B4++[(g1,41,cs)])):=M
 refine(R M (.there (gi.skip .here))).oI2 ?_
 have P:Pt bz h h6 ⟨g15,0,none⟩ ⟨g15,51,[],[]⟩ [(g1,41,cs)] (s.Score.cj s.al).1:=Pt.new O4 M
 obtain⟨m,hm⟩:=Int.eq_ofNat_of_zero_le (show 0≤16*s.K1 by omega)
 rw[wrap64 (n:=16*s.K1) (by omega) (by omega),hm,Int.toNat_natCast]
 refine(agw P Ru (by omega) (by omega)).mono ?_
 rintro _ h7 ⟨b,c,B,rfl,O,P⟩
 exact lR ⟨b,m,c,B,rfl,O,P.mem.cnt (λp=>by simp only[bN,bu,bZ] at *;omega)⟩
end
end Go.Sx
