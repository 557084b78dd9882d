/- Lemmas. -/
import Derived.Test.YthhepeklpgefkaaGreatDoorTab
set_option linter.unusedVariables false
set_option linter.unusedSimpArgs false
namespace Go.Sx
open Go.Proofs
set_option maxRecDepth 100000
def ng.S(aF:Option Addr)(ax aN:Nat)(aa:VH)(h:ab):=
 aa (.int .i64 (ax:Int)) h
theorem ng.call{aF:Option Addr}{ax aN:Nat}{aa:VH}{h:ab}(H:ng.S aF ax aN aa h):ae ai m4 #[.slice aF ax aN] aa h:=
 qc (Λ:=an []) Tryz.func179
 qf
 (qe H)
def zW.S(n_0:Int)(aa:VH)(h:ab):=
 ae ai dY #[.int .i64 n_0,.int .i64 1,.int .i64 6] (λa b=>
 asB a λc=>
 aa (.bool c) b) h
theorem zW.call{n_0:Int}{aa:VH}{h:ab}(H:zW.S n_0 aa h):ae ai vt #[.int .i64 n_0] aa h:=
 qc (Λ:=an []) Tryz.func67
 qf
 (qe H)
def nc.S(e_0:Array Value)(b:Addr)(aa:VH)(h:ab):=
 ALC e_0 bq (λc a=>
 oI .i64 (cell a ⟨c,0,none⟩) λd=>
 oI .i64 (cell a b) λe=>
 aa (.bool (decide (e≤d))) a) h
theorem nc.call{e_0:Array Value}{a:Addr}{aa:VH}{h:ab}(H:nc.S e_0 a aa h):ae ai m0 #[.agg e_0,.pointer (some a)] aa h:=
 qc (Λ:=an []) Tryz.func255
 qf
 (qe H)
def bm.B2(aa:VH)(d:(Option Addr×Nat×Nat×Value×Int×Int)->ab->Prop):Option Addr×Nat×Nat×Value×Int×Int->ab->Prop
 | (hO,gx,iz,f_1,b,a),h=>
 BIF (decide (a<b)) (
 bg hO a gx λe=>
 LDA 6 h ((Addr.add e (a.toNat*6))) λf=>
 oc ai f_1 #[.agg f] (λg c=>
 asB g λi=>
 BIF i (
 aa (.int .i64 a) c) (
 d (hO,gx,iz,f_1,b,((IntKind.i64.wrap (a+1)))) c)) h) (
 aa (.int .i64 (-1)) h)
def bm.g2(fr:Frame):Option Addr×Nat×Nat×Value×Int×Int:=((gLb (ah fr 0)),(gLl (ah fr 0)),(gLc (ah fr 0)),(ah fr 1),(gI (ah fr 7)),(gI (ah fr 8)))
def bm.l2(aa:VH):=gg (kds 19 [(0,.l),(1,.v),(7,.i .i64),(8,.i .i64)]) λfr=>bh (bm.B2 aa) (bm.g2 fr)
def bm.S(hO:Option Addr)(gx iz:Nat)(f_1:Value)(aa:VH)(h:ab):=
 bh (bm.B2 aa) (hO,gx,iz,f_1,(gx:Int),0) h
theorem bm.call{hO:Option Addr}{gx iz:Nat}{f_1:Value}{aa:VH}{h:ab}(H:bm.S hO gx iz f_1 aa h):ae ai eH #[.slice hO gx iz,f_1] aa h:=
 qc (Λ:=an [(1000002,bm.l2 aa)]) Tryz.func149
 (qs qf (qs (qs qf (Rq.block (ql (bm.l2 aa) (qg (g:=bm.g2) (Λ:=λa=>an []) (λ_ _ _=>by kernel_rfl) (λa=>qf))))) qf))
 (qe H)
def pS.S(s_0:Array Value)(AS:Int)(aa:VH)(h:ab):=
 ALC s_0 bt (λb e=>
 ALC #[.int .i64 AS] cp (λf c=>
 oL (cell c ⟨b,5,none⟩) λEY Df HY=>
 ae ai eH #[.slice EY Df HY,.func (.func 255) #[] #[.pointer (some ⟨f,0,none⟩)]] (λg a=>
 asI .i64 g λd=>
 BIF ((decide (d<0))) (
 oL (cell a ⟨b,5,none⟩) λi j k=>
 ae ai iM #[.slice i j k] (λAf kc=>
 asI .i64 Af λl=>
 aa (.int .i64 l) kc) a) (
 aa (.int .i64 d) a)) c) e) h
theorem pS.call{s_0:Array Value}{AS:Int}{aa:VH}{h:ab}(H:pS.S s_0 AS aa h):ae ai nV #[.agg s_0,.int .i64 AS] aa h:=
 qc (Λ:=an []) Tryz.func180
 qf
 (qe H)
def rf.S(v_0:Array Value)(aa:VH)(h:ab):=
 ALC v_0 ao (λb a=>
 LDA 15 a ⟨b,5,none⟩ λd=>
 LDA 13 a ⟨b,20,none⟩ λe=>
 LDA 12 a ⟨b,33,none⟩ λf=>
 ae ai sg #[.agg d,.agg ⟨aL⟩] (λg c=>
 asB g λi=>
 PIN a ⟨b,33,none⟩ 12 c <|
 PIN a ⟨b,20,none⟩ 13 c <|
 ae ai vp #[.agg e,.agg ⟨aH⟩] (λj gd=>
 asB j λPX=>
 PIN a ⟨b,33,none⟩ 12 gd <|
 ae ai xA #[.agg f,.agg ⟨cH⟩] (λuu gf=>
 asB uu λFv=>
 aa (.tuple ⟨[.bool i,.bool PX,.bool Fv]⟩) gf) gd) c) a) h
theorem rf.call{v_0:Array Value}{aa:VH}{h:ab}(H:rf.S v_0 aa h):ae ai ou #[.agg v_0] aa h:=
 qc (Λ:=an []) Tryz.func256
 qf
 (qe H)
def sR.S(v_0:Array Value)(aa:VH)(h:ab):=
 ALC v_0 ao (λb a=>
 oI .i64 (cell a ⟨b,0,none⟩) λc=>
 aa (.bool (c==(-1))) a) h
theorem sR.call{v_0:Array Value}{aa:VH}{h:ab}(H:sR.S v_0 aa h):ae ai iB #[.agg v_0] aa h:=
 qc (Λ:=an []) Tryz.func113
 qf
 (qe H)
def w6.S(e_0:Array Value)(c:Addr)(aa:VH)(h:ab):=
 ALC e_0 bq (λb a=>
 oI .i64 (cell a ⟨b,1,none⟩) λd=>
 BIF (d==2) (
 oI .i64 (cell a ⟨b,2,none⟩) λe=>
 oI .i64 (cell a c) λf=>
 aa (.bool (e==f)) a) (
 aa (.bool false) a)) h
theorem w6.call{e_0:Array Value}{a:Addr}{aa:VH}{h:ab}(H:w6.S e_0 a aa h):ae ai sm #[.agg e_0,.pointer (some a)] aa h:=
 qc (Λ:=an []) Tryz.func324
 qf
 (qe H)
def BY.S(s_0:Array Value)(kO:Int)(aa:VH)(h:ab):=
 ALC s_0 bt (λc e=>
 ALC #[.int .i64 kO] cp (λf g=>
 ALC ⟨gX⟩ bq (λa d=>
 oL (cell d ⟨c,5,none⟩) λAu yL AN=>
 ae ai eH #[.slice Au yL AN,.func (.func 324) #[] #[.pointer (some ⟨f,0,none⟩)]] (λi b=>
 asI .i64 i λrD=>
 BIF ((decide (rD<0))) (
 STA 6 b ⟨a,0,none⟩ ⟨[.int .i64 0,.int .i64 0,.int .i64 0,.int .i64 0,.int .i64 0,.float .f32 0]⟩ λkc=>
 LDA 6 kc ⟨a,0,none⟩ λGu=>
 aa (.tuple ⟨[.agg Gu,.bool false]⟩) kc) (
 oL (cell b ⟨c,5,none⟩) λHV HW Mw=>
 bg HV rD HW λj=>
 LDA 6 b ((Addr.add j (rD.toNat*6))) λRP=>
 STA 6 b ⟨a,0,none⟩ RP λiJ=>
 LDA 6 iJ ⟨a,0,none⟩ λHt=>
 aa (.tuple ⟨[.agg Ht,.bool true]⟩) iJ)) d) g) e) h
theorem BY.call{s_0:Array Value}{kO:Int}{aa:VH}{h:ab}(H:BY.S s_0 kO aa h):ae ai xD #[.agg s_0,.int .i64 kO] aa h:=
 qc (Λ:=an []) Tryz.func257
 qf
 (qe H)
def uc.S(x_0:Array Value)(aa:VH)(h:ab):=
 ALC x_0 aB (λa d=>
 LDA 2 d ⟨a,0,none⟩ λe=>
 ae ai ph #[.agg e] (λf b=>
 asB f λg=>
 BIF g (
 LDA 6 b ⟨a,2,none⟩ λi=>
 ae ai lx #[.agg i,.int .i64 3] (λj c=>
 asB j λHw=>
 BIF Hw (
 LDA 6 c ⟨a,8,none⟩ λtq=>
 ae ai lx #[.agg tq,.int .i64 2] (λuu gf=>
 asB uu λFv=>
 BIF Fv (
 oF .f32 (cell gf ⟨a,14,none⟩) λuQ=>
 ae ai gC #[.float .f32 uQ] (λk oZ=>
 asB k λWz=>
 aa (.bool Wz) oZ) gf) (
 aa (.bool false) gf)) c) (
 aa (.bool false) c)) b) (
 aa (.bool false) b)) d) h
theorem uc.call{x_0:Array Value}{aa:VH}{h:ab}(H:uc.S x_0 aa h):ae ai mQ #[.agg x_0] aa h:=
 qc (Λ:=an []) Tryz.func235
 qf
 (qe H)
def zR.S(x_0:Array Value)(aa:VH)(h:ab):=
 ALC x_0 dc (λa d=>
 LDA 2 d ⟨a,0,none⟩ λe=>
 ae ai nM #[.agg e] (λf b=>
 asB f λg=>
 BIF g (
 LDA 2 b ⟨a,2,none⟩ λi=>
 ae ai nM #[.agg i] (λj c=>
 asB j λHw=>
 BIF Hw (
 LDA 6 c ⟨a,4,none⟩ λtq=>
 ae ai lx #[.agg tq,.int .i64 1] (λuu gf=>
 asB uu λFv=>
 BIF Fv (
 oF .f32 (cell gf ⟨a,10,none⟩) λuQ=>
 oF .f32 (cell gf ⟨a,11,none⟩) λHe=>
 ALC ⟨[.float .f32 uQ,.float .f32 He]⟩ au (λDK jn=>
 ae ai ml #[.slice (some ⟨DK,0,none⟩) 2 2] (λFH jZ=>
 asB FH λk=>
 aa (.bool k) jZ) jn) gf) (
 aa (.bool false) gf)) c) (
 aa (.bool false) c)) b) (
 aa (.bool false) b)) d) h
theorem zR.call{x_0:Array Value}{aa:VH}{h:ab}(H:zR.S x_0 aa h):ae ai vq #[.agg x_0] aa h:=
 qc (Λ:=an []) Tryz.func259
 qf
 (qe H)
def jo.J7(aa:VH)(s_2:Addr)(v_3:Addr)(akx:Bool)(akH:Bool)(ZX:Bool)(h:ab):=
 oL (cell h (s_2.add 4)) λalW alX aqZ=>
 oI .i64 (cell h (v_3.add 1)) λa=>
 bg alW a alX λc=>
 oI .i64 (cell h ((Addr.add ((Addr.add c (a.toNat*5))) 1))) λb=>
 BIF (b==1) (
 LDA 15 h (v_3.add 5) λd=>
 ae ai mQ #[.agg d] (λe Qg=>
 asB e λf=>
 BIF f (
 BIF akH (
 aa (.bool ZX) Qg) (
 aa (.bool false) Qg)) (
 aa (.bool false) Qg)) h) (
 BIF (b==2) (
 BIF akx (
 LDA 13 h (v_3.add 20) λg=>
 ae ai tO #[.agg g] (λi Us=>
 asB i λj=>
 BIF j (
 aa (.bool ZX) Us) (
 aa (.bool false) Us)) h) (
 aa (.bool false) h)) (
 BIF akx (
 BIF akH (
 LDA 12 h (v_3.add 33) λk=>
 ae ai vq #[.agg k] (λl Zb=>
 asB l λm=>
 aa (.bool m) Zb) h) (
 aa (.bool false) h)) (
 aa (.bool false) h)))
def jo.j7(aa:VH):=gg (kds 113 [(2,.p),(3,.p),(5,.b),(6,.b),(7,.b)]) λfr=>jo.J7 aa (gP (ah fr 2)) (gP (ah fr 3)) (gB (ah fr 5)) (gB (ah fr 6)) (gB (ah fr 7))
def jo.S(s_0:Array Value)(v_1:Array Value)(aa:VH)(h:ab):=
 ALC s_0 bt (λc f=>
 ALC v_1 ao (λa d=>
 LDA 45 d ⟨a,0,none⟩ λg=>
 ae ai ou #[.agg g] (λi e=>
 OI i λj k Af=>
 asB j λPX=>
 asB k λLe=>
 asB Af λHb=>
 LDA 45 e ⟨a,0,none⟩ λl=>
 ae ai iB #[.agg l] (λDc iJ=>
 asB Dc λOY=>
 BIF OY (
 BIF PX (
 BIF Le (
 BIF Hb (
 oI .i64 (cell iJ ⟨a,1,none⟩) λVb=>
 BIF (Vb==0) (
 oI .i64 (cell iJ ⟨a,2,none⟩) λm=>
 BIF (m==0) (
 oB (cell iJ ⟨a,3,none⟩) λn=>
 BIF (!n) (
 oF .f32 (cell iJ ⟨a,4,none⟩) λIl=>
 ae ai kU #[.float .f32 Il] (λGW mZ=>
 asI .u32 GW λo=>
 aa (.bool (o==0)) mZ) iJ) (
 aa (.bool false) iJ)) (
 aa (.bool false) iJ)) (
 aa (.bool false) iJ)) (
 aa (.bool false) iJ)) (
 aa (.bool false) iJ)) (
 aa (.bool false) iJ)) (
 LDA 6 iJ ⟨c,0,none⟩ λWt=>
 oI .i64 (cell iJ ⟨a,0,none⟩) λXV=>
 ae ai xD #[.agg Wt,.int .i64 XV] (λTj uN=>
 iF Tj λVp Vq=>
 asA Vp λp=>
 asB Vq λq=>
 ALC ⟨gX⟩ bq (λb wQ=>
 STA 6 wQ ⟨b,0,none⟩ p λtA=>
 BIF (!q) (
 aa (.bool false) tA) (
 oI .i64 (cell tA ⟨a,1,none⟩) λr=>
 oI .i64 (cell tA ⟨b,3,none⟩) λs=>
 BIF (r != s) (
 aa (.bool false) tA) (
 oI .i64 (cell tA ⟨a,2,none⟩) λt=>
 oI .i64 (cell tA ⟨b,0,none⟩) λu=>
 BIF (t != u) (
 aa (.bool false) tA) (
 oF .f32 (cell tA ⟨a,4,none⟩) λv=>
 ae ai gC #[.float .f32 v] (λw KT=>
 asB w λx=>
 BIF (!x) (
 aa (.bool false) KT) (
 jo.J7 aa ⟨c,0,none⟩ ⟨a,0,none⟩ PX Le Hb KT)) tA)))) uN) iJ)) e) d) f) h
theorem jo.call{s_0:Array Value}{v_1:Array Value}{aa:VH}{h:ab}(H:jo.S s_0 v_1 aa h):ae ai xC #[.agg s_0,.agg v_1] aa h:=
 qc (Λ:=an [(7,jo.j7 aa)]) Tryz.func181
 (qs qf (qs qf (qs qf (qs qf (qj (jo.j7 aa) qf
 qf)))))
 (qe H)
def cQ.B5(aa:VH)(g:(Addr×Value×Option Addr×Nat×Nat×Int×Int)->ab->Prop):Addr×Value×Option Addr×Nat×Nat×Int×Int->ab->Prop
 | (p_1,Tm,c,d,i,e,b),h=>
 BIF (decide (b<e)) (
 bg c b d λj=>
 LDA 45 h ((Addr.add j (b.toNat*45))) λk=>
 ALC ⟨aW⟩ ao (λa Ur=>
 STA 45 Ur ⟨a,0,none⟩ k λCW=>
 LDA 6 CW p_1 λl=>
 LDA 45 CW ⟨a,0,none⟩ λm=>
 ae ai xC #[.agg l,.agg m] (λn TF=>
 asB n λo=>
 BIF (!o) (
 aa (.bool false) TF) (
 LDA 45 TF ⟨a,0,none⟩ λp=>
 ae ai iB #[.agg p] (λq f=>
 asB q λr=>
 BIF r (
 g (p_1,Tm,c,d,i,e,((IntKind.i64.wrap (b+1)))) f) (
 oI .i64 (cell f ⟨a,0,none⟩) λs=>
 iA ai (Instr.lookup jb Tm (.int .i64 s) false) (λt Sw=>
 asB t λu=>
 BIF u (
 aa (.bool false) Sw) (
 oI .i64 (cell Sw ⟨a,2,none⟩) λv=>
 oI .i64 (cell Sw (p_1.add 7)) λw=>
 BIF (decide (w≤v)) (
 aa (.bool false) Sw) (
 oI .i64 (cell Sw ⟨a,0,none⟩) λx=>
 lK ai (do Instr.mapUpdate jb Tm (.int .i64 x) (.bool true);pure .skip) (λz y=>
 g (p_1,Tm,c,d,i,e,((IntKind.i64.wrap (b+1)))) y) Sw))) f)) TF)) CW) h) (
 aa (.bool true) h)
def cQ.g5(fr:Frame):Addr×Value×Option Addr×Nat×Nat×Int×Int:=((gP (ah fr 1)),(ah fr 3),(gLb (ah fr 41)),(gLl (ah fr 41)),(gLc (ah fr 41)),(gI (ah fr 42)),(gI (ah fr 43)))
def cQ.l5(aa:VH):=gg (kds 69 [(1,.p),(3,.v),(41,.l),(42,.i .i64),(43,.i .i64)]) λfr=>bh (cQ.B5 aa) (cQ.g5 fr)
def cQ.J3(aa:VH)(p_1:Addr)(h:ab):=
 iA ai (Instr.makeMap jb none) (λa ry=>
 oL (cell ry (p_1.add 6)) λSQ Px aeq=>
 bh (cQ.B5 aa) (p_1,a,SQ,Px,aeq,(Px:Int),0) ry) h
def cQ.j3(aa:VH):=gg (kds 69 [(1,.p)]) λfr=>cQ.J3 aa (gP (ah fr 1))
def cQ.S(p_0:Array Value)(aa:VH)(h:ab):=
 ALC p_0 aE (λa c=>
 LDA 6 c ⟨a,0,none⟩ λd=>
 ae ai sh #[.agg d] (λe b=>
 asB e λf=>
 BIF (!f) (
 aa (.bool false) b) (
 oL (cell b ⟨a,6,none⟩) λAu yL AN=>
 ae ai m4 #[.slice Au yL AN] (λg i=>
 asI .i64 g λrD=>
 ae ai vt #[.int .i64 rD] (λwi iG=>
 asB wi λHb=>
 BIF (!Hb) (
 aa (.bool false) iG) (
 oI .i64 (cell iG ⟨a,7,none⟩) λj=>
 ae ai dY #[.int .i64 j,.int .i64 0,.int .i64 200000] (λDc iJ=>
 asB Dc λOY=>
 BIF (!OY) (
 aa (.bool false) iJ) (
 oI .i64 (cell iJ ⟨a,8,none⟩) λVb=>
 LDA 6 iJ ⟨a,0,none⟩ λk=>
 oI .i64 (cell iJ ⟨a,7,none⟩) λl=>
 ae ai nV #[.agg k,.int .i64 l] (λKi rM=>
 asI .i64 Ki λm=>
 PIN iJ ⟨a,8,none⟩ 1 rM <|
 BIF (Vb != m) (
 aa (.bool false) rM) (
 oI .i64 (cell rM ⟨a,9,none⟩) λn=>
 ae ai dY #[.int .i64 n,.int .i64 0,.int .i64 64] (λPF wO=>
 asB PF λo=>
 BIF (!o) (
 aa (.bool false) wO) (
 cQ.J3 aa ⟨a,0,none⟩ wO)) rM)) iJ)) iG)) i) b)) c) h
theorem cQ.call{p_0:Array Value}{aa:VH}{h:ab}(H:cQ.S p_0 aa h):ae ai qM #[.agg p_0] aa h:=
 qc (Λ:=an [(3,cQ.j3 aa),(1000005,cQ.l5 aa)]) Tryz.func112
 (qs qf (qj (cQ.j3 aa) qf
 (qs qf (qs (qs qf (Rq.block (ql (cQ.l5 aa) (qg (g:=cQ.g5) (Λ:=λa=>an []) (λ_ _ _=>by kernel_rfl) (λa=>qf))))) qf))))
 (qe H)
def fv.B3(aa:VH)(a:(Addr×Int×Int×Int)->ab->Prop):Addr×Int×Int×Int->ab->Prop
 | (s_0,AS,n_5,i_6),h=>
 oL (cell h (s_0.add 5)) λf b Qn=>
 BIF ((decide (i_6<(b:Int)))) (
 oL (cell h (s_0.add 5)) λPy c TN=>
 bg Py i_6 c λd=>
 oI .i64 (cell h ((Addr.add d (i_6.toNat*6)))) λe=>
 BIF (decide (e<AS)) (
 a (s_0,AS,((IntKind.i64.wrap (n_5+1))),((IntKind.i64.wrap (i_6+1)))) h) (
 a (s_0,AS,n_5,((IntKind.i64.wrap (i_6+1)))) h)) (
 aa (.int .i64 n_5) h)
def fv.g3(fr:Frame):Addr×Int×Int×Int:=((gP (ah fr 0)),(gI (ah fr 1)),(gI (ah fr 5)),(gI (ah fr 6)))
def fv.l3(aa:VH):=gg (kds 29 [(0,.p),(1,.i .i64),(5,.i .i64),(6,.i .i64)]) λfr=>bh (fv.B3 aa) (fv.g3 fr)
def fv.S(s_0:Addr)(AS:Int)(aa:VH)(h:ab):=
 bh (fv.B3 aa) (s_0,AS,0,0) h
theorem fv.call{s_0:Addr}{AS:Int}{aa:VH}{h:ab}(H:fv.S s_0 AS aa h):ae ai qY #[.pointer (some s_0),.int .i64 AS] aa h:=
 qc (Λ:=an [(1000003,fv.l3 aa)]) Tryz.func176
 (qs qf (qs qf (qs (qs qf (Rq.block (ql (fv.l3 aa) (qg (g:=fv.g3) (Λ:=λa=>an []) (λ_ _ _=>by kernel_rfl) (λa=>qf))))) qf)))
 (qe H)
def uB.S(x_0:Addr)(aa:VH)(h:ab):=
 oL (cell h x_0) λk b Qn=>
 BIF ((b:Int)==0) (
 oI .i64 (cell h (x_0.add 1)) λc=>
 BIF (c==0) (
 ALC (⟨[.int .i64 0,.float .f32 0,.float .f32 0,.float .f32 0,.float .f32 0,.float .f32 0]⟩:Array Value) db (λd e=>
 ae ai mo #[.pointer (some (x_0.add 2)),.pointer (some ⟨d,0,none⟩)] (λf a=>
 asB f λg=>
 BIF g (
 ALC (⟨[.int .i64 0,.float .f32 0,.float .f32 0,.float .f32 0,.float .f32 0,.float .f32 0]⟩:Array Value) db (λi kc=>
 ae ai mo #[.pointer (some (x_0.add 8)),.pointer (some ⟨i,0,none⟩)] (λuu gf=>
 asB uu λFv=>
 BIF Fv (
 oF .f32 (cell gf (x_0.add 14)) λuQ=>
 ae ai eL #[.float .f32 uQ,.float .f32 0] (λj oZ=>
 asB j λWz=>
 aa (.bool Wz) oZ) gf) (
 aa (.bool false) gf)) kc) a) (
 aa (.bool false) a)) e) h) (
 aa (.bool false) h)) (
 aa (.bool false) h)
theorem uB.call{x_0:Addr}{aa:VH}{h:ab}(H:uB.S x_0 aa h):ae ai qZ #[.pointer (some x_0)] aa h:=
 qc (Λ:=an []) Tryz.func247
 qf
 (qe H)
def yw.S(x_0:Addr)(aa:VH)(h:ab):=
 oL (cell h x_0) λg a Qn=>
 BIF ((a:Int)==0) (
 oL (cell h (x_0.add 1)) λPy b TN=>
 BIF ((b:Int)==0) (
 oL (cell h (x_0.add 2)) λAu yL AN=>
 BIF ((yL:Int)==0) (
 ALC (⟨[.int .i64 0,.float .f32 0,.float .f32 0,.float .f32 0,.float .f32 0,.float .f32 0]⟩:Array Value) db (λc kc=>
 ae ai mo #[.pointer (some (x_0.add 3)),.pointer (some ⟨c,0,none⟩)] (λuu gf=>
 asB uu λFv=>
 BIF Fv (
 oB (cell gf (x_0.add 9)) λd=>
 BIF (!d) (
 oF .f32 (cell gf (x_0.add 10)) λHe=>
 ae ai eL #[.float .f32 He,.float .f32 0] (λGV jn=>
 asB GV λLJ=>
 BIF LJ (
 oF .f32 (cell jn (x_0.add 11)) λIk=>
 ae ai eL #[.float .f32 Ik,.float .f32 0] (λKi rM=>
 asB Ki λe=>
 BIF e (
 oF .f32 (cell rM (x_0.add 12)) λIN=>
 ae ai eL #[.float .f32 IN,.float .f32 0] (λPF wO=>
 asB PF λf=>
 aa (.bool f) wO) rM) (
 aa (.bool false) rM)) jn) (
 aa (.bool false) jn)) gf) (
 aa (.bool false) gf)) (
 aa (.bool false) gf)) kc) h) (
 aa (.bool false) h)) (
 aa (.bool false) h)) (
 aa (.bool false) h)
theorem yw.call{x_0:Addr}{aa:VH}{h:ab}(H:yw.S x_0 aa h):ae ai u0 #[.pointer (some x_0)] aa h:=
 qc (Λ:=an []) Tryz.func248
 qf
 (qe H)
def Al.S(x_0:Addr)(aa:VH)(h:ab):=
 oL (cell h x_0) λf a Qn=>
 BIF ((a:Int)==0) (
 oI .i64 (cell h (x_0.add 1)) λb=>
 BIF (b==0) (
 oL (cell h (x_0.add 2)) λEY Df HY=>
 BIF ((Df:Int)==0) (
 oI .i64 (cell h (x_0.add 3)) λc=>
 BIF (c==0) (
 ALC (⟨[.int .i64 0,.float .f32 0,.float .f32 0,.float .f32 0,.float .f32 0,.float .f32 0]⟩:Array Value) db (λd gd=>
 ae ai mo #[.pointer (some (x_0.add 4)),.pointer (some ⟨d,0,none⟩)] (λwi iG=>
 asB wi λHb=>
 BIF Hb (
 oF .f32 (cell iG (x_0.add 10)) λFJ=>
 ae ai eL #[.float .f32 FJ,.float .f32 0] (λDc iJ=>
 asB Dc λOY=>
 BIF OY (
 oF .f32 (cell iJ (x_0.add 11)) λzf=>
 ae ai eL #[.float .f32 zf,.float .f32 0] (λFH jZ=>
 asB FH λe=>
 aa (.bool e) jZ) iJ) (
 aa (.bool false) iJ)) iG) (
 aa (.bool false) iG)) gd) h) (
 aa (.bool false) h)) (
 aa (.bool false) h)) (
 aa (.bool false) h)) (
 aa (.bool false) h)
theorem Al.call{x_0:Addr}{aa:VH}{h:ab}(H:Al.S x_0 aa h):ae ai vK #[.pointer (some x_0)] aa h:=
 qc (Λ:=an []) Tryz.func249
 qf
 (qe H)
def dx.J5(b:(Addr×Int×Addr×Int)->ab->Prop)(aa:VH)(s_0:Addr)(kO:Int)(a:Addr)(i_6:Int)(c:Bool)(h:ab):=
 BIF c (
 oL (cell h (s_0.add 5)) λFC DX Jt=>
 bg FC i_6 DX λd=>
 LDA 6 h ((Addr.add d (i_6.toNat*6))) λIK=>
 STA 6 h a IK λoZ=>
 LDA 6 oZ a λe=>
 aa (.tuple ⟨[.agg e,.bool true]⟩) oZ) (
 b (s_0,kO,a,((IntKind.i64.wrap (i_6+1)))) h)
def dx.j5(a:(Addr×Int×Addr×Int)->ab->Prop)(aa:VH):=gg (kds 45 [(0,.p),(1,.i .i64),(4,.p),(6,.i .i64),(36,.b)]) λfr=>dx.J5 a aa (gP (ah fr 0)) (gI (ah fr 1)) (gP (ah fr 4)) (gI (ah fr 6)) (gB (ah fr 36))
def dx.B2(aa:VH)(b:(Addr×Int×Addr×Int)->ab->Prop):Addr×Int×Addr×Int->ab->Prop
 | (s_0,kO,a,i_6),h=>
 oL (cell h (s_0.add 5)) λKa Hd i=>
 BIF ((decide (i_6<(Hd:Int)))) (
 oL (cell h (s_0.add 5)) λMz MA TO=>
 bg Mz i_6 MA λc=>
 oI .i64 (cell h ((Addr.add ((Addr.add c (i_6.toNat*6))) 1))) λd=>
 BIF (d==2) (
 oL (cell h (s_0.add 5)) λe f j=>
 bg e i_6 f λg=>
 oI .i64 (cell h ((Addr.add ((Addr.add g (i_6.toNat*6))) 2))) λBq=>
 dx.J5 b aa s_0 kO a i_6 (Bq==kO) h) (
 dx.J5 b aa s_0 kO a i_6 false h)) (
 STA 6 h a ⟨[.int .i64 0,.int .i64 0,.int .i64 0,.int .i64 0,.int .i64 0,.float .f32 0]⟩ λiG=>
 LDA 6 iG a λOX=>
 aa (.tuple ⟨[.agg OX,.bool false]⟩) iG)
def dx.g2(fr:Frame):Addr×Int×Addr×Int:=((gP (ah fr 0)),(gI (ah fr 1)),(gP (ah fr 4)),(gI (ah fr 6)))
def dx.l2(aa:VH):=gg (kds 45 [(0,.p),(1,.i .i64),(4,.p),(6,.i .i64)]) λfr=>bh (dx.B2 aa) (dx.g2 fr)
def dx.S(s_0:Addr)(kO:Int)(aa:VH)(h:ab):=
 ALC ⟨gX⟩ bq (λa b=>
 bh (dx.B2 aa) (s_0,kO,⟨a,0,none⟩,0) b) h
theorem dx.call{s_0:Addr}{kO:Int}{aa:VH}{h:ab}(H:dx.S s_0 kO aa h):ae ai vO #[.pointer (some s_0),.int .i64 kO] aa h:=
 qc (Λ:=an [(1000002,dx.l2 aa)]) Tryz.func95
 (qs qf (qs (qs qf (Rq.block (ql (dx.l2 aa) (qg (g:=dx.g2) (Λ:=λa=>an [(5,dx.j5 a aa)]) (λ_ _ _=>by kernel_rfl) (λa=>(qs qf (qs (Rq.block (qj (dx.j5 a aa) qf
 qf)) qf))))))) qf))
 (qe H)
def H5.S(x_0:Addr)(aa:VH)(h:ab):=
 ae ai sH #[.pointer (some x_0)] (λd c=>
 asB d λe=>
 BIF e (
 ae ai pn #[.pointer (some (x_0.add 2))] (λf b=>
 asB f λg=>
 BIF g (
 oI .i64 (cell b (x_0.add 2)) λi=>
 BIF (i==3) (
 ae ai pn #[.pointer (some (x_0.add 8))] (λj a=>
 asB j λHw=>
 BIF Hw (
 oI .i64 (cell a (x_0.add 8)) λBq=>
 BIF (Bq==2) (
 oF .f32 (cell a (x_0.add 14)) λwX=>
 ae ai fk #[.float .f32 wX] (λyM ke=>
 asB yM λk=>
 aa (.bool k) ke) a) (
 aa (.bool false) a)) (
 aa (.bool false) a)) b) (
 aa (.bool false) b)) (
 aa (.bool false) b)) c) (
 aa (.bool false) c)) h
theorem H5.call{x_0:Addr}{aa:VH}{h:ab}(H:H5.S x_0 aa h):ae ai wM #[.pointer (some x_0)] aa h:=
 qc (Λ:=an []) Tryz.func223
 qf
 (qe H)
def Er.S(x_0:Addr)(aa:VH)(h:ab):=
 LDA 2 h x_0 λb=>
 LDA 2 h (x_0.add 2) λc=>
 SIZ (Array.size b) 2 <|
 SIZ (Array.size c) 2 <|
 ALC ⟨(dN 2 2 c (dN 0 2 b [.slice none 0 0,.int .i64 0,.slice none 0 0,.int .i64 0]))⟩ aq (λe f=>
 ae ai nC #[.slice (some ⟨e,0,none⟩) 2 2] (λg d=>
 asB g λi=>
 BIF i (
 ae ai pn #[.pointer (some (x_0.add 4))] (λj a=>
 asB j λHw=>
 BIF Hw (
 oI .i64 (cell a (x_0.add 4)) λBq=>
 BIF (Bq==1) (
 oF .f32 (cell a (x_0.add 10)) λwX=>
 oF .f32 (cell a (x_0.add 11)) λCu=>
 ALC ⟨[.float .f32 wX,.float .f32 Cu]⟩ au (λk kB=>
 ae ai pZ #[.slice (some ⟨k,0,none⟩) 2 2] (λl oZ=>
 asB l λWz=>
 aa (.bool Wz) oZ) kB) a) (
 aa (.bool false) a)) (
 aa (.bool false) a)) d) (
 aa (.bool false) d)) f) h
theorem Er.call{x_0:Addr}{aa:VH}{h:ab}(H:Er.S x_0 aa h):ae ai uM #[.pointer (some x_0)] aa h:=
 qc (Λ:=an []) Tryz.func251
 qf
 (qe H)
def iP.J9(aa:VH)(s_0:Addr)(v_1:Addr)(a_5:Bool)(b_6:Bool)(c_7:Bool)(h:ab):=
 oL (cell h (s_0.add 4)) λaxn axo aEs=>
 oI .i64 (cell h (v_1.add 1)) λa=>
 bg axn a axo λc=>
 oI .i64 (cell h ((Addr.add ((Addr.add c (a.toNat*5))) 1))) λb=>
 BIF (b==1) (
 ae ai wM #[.pointer (some (v_1.add 5))] (λd TF=>
 asB d λe=>
 BIF e (
 BIF b_6 (
 aa (.bool c_7) TF) (
 aa (.bool false) TF)) (
 aa (.bool false) TF)) h) (
 BIF (b==2) (
 BIF a_5 (
 ae ai BL #[.pointer (some (v_1.add 20))] (λf Su=>
 asB f λg=>
 BIF g (
 aa (.bool c_7) Su) (
 aa (.bool false) Su)) h) (
 aa (.bool false) h)) (
 BIF a_5 (
 BIF b_6 (
 ae ai uM #[.pointer (some (v_1.add 33))] (λi TG=>
 asB i λj=>
 aa (.bool j) TG) h) (
 aa (.bool false) h)) (
 aa (.bool false) h)))
def iP.j9(aa:VH):=gg (kds 144 [(0,.p),(1,.p),(5,.b),(6,.b),(7,.b)]) λfr=>iP.J9 aa (gP (ah fr 0)) (gP (ah fr 1)) (gB (ah fr 5)) (gB (ah fr 6)) (gB (ah fr 7))
def iP.S(s_0:Addr)(v_1:Addr)(aa:VH)(h:ab):=
 ae ai qZ #[.pointer (some (v_1.add 5))] (λf g=>
 asB f λc=>
 ae ai u0 #[.pointer (some (v_1.add 20))] (λi j=>
 asB i λd=>
 ae ai vK #[.pointer (some (v_1.add 33))] (λk a=>
 asB k λe=>
 oI .i64 (cell a v_1) λrD=>
 BIF (rD==(-1)) (
 BIF c (
 BIF d (
 BIF e (
 oI .i64 (cell a (v_1.add 1)) λBq=>
 BIF (Bq==0) (
 oI .i64 (cell a (v_1.add 2)) λl=>
 BIF (l==0) (
 oB (cell a (v_1.add 3)) λHb=>
 BIF (!Hb) (
 oF .f32 (cell a (v_1.add 4)) λFJ=>
 ae ai eL #[.float .f32 FJ,.float .f32 0] (λDc iJ=>
 asB Dc λOY=>
 aa (.bool OY) iJ) a) (
 aa (.bool false) a)) (
 aa (.bool false) a)) (
 aa (.bool false) a)) (
 aa (.bool false) a)) (
 aa (.bool false) a)) (
 aa (.bool false) a)) (
 oI .i64 (cell a v_1) λVb=>
 ae ai vO #[.pointer (some s_0),.int .i64 Vb] (λFH jZ=>
 iF FH λKi GW=>
 asA Ki λm=>
 asB GW λn=>
 ALC ⟨gX⟩ bq (λb wO=>
 STA 6 wO ⟨b,0,none⟩ m λwP=>
 BIF (!n) (
 aa (.bool false) wP) (
 oI .i64 (cell wP ⟨b,3,none⟩) λo=>
 oI .i64 (cell wP (v_1.add 1)) λp=>
 BIF (o != p) (
 aa (.bool false) wP) (
 oI .i64 (cell wP ⟨b,0,none⟩) λq=>
 oI .i64 (cell wP (v_1.add 2)) λr=>
 BIF (q != r) (
 aa (.bool false) wP) (
 oF .f32 (cell wP (v_1.add 4)) λWe=>
 ae ai fk #[.float .f32 We] (λs wQ=>
 asB s λt=>
 BIF (!t) (
 aa (.bool false) wQ) (
 iP.J9 aa s_0 v_1 c d e wQ)) wP)))) jZ) a)) j) g) h
theorem iP.call{s_0:Addr}{v_1:Addr}{aa:VH}{h:ab}(H:iP.S s_0 v_1 aa h):ae ai vP #[.pointer (some s_0),.pointer (some v_1)] aa h:=
 qc (Λ:=an [(9,iP.j9 aa)]) Tryz.func177
 (qs qf (qs qf (qs qf (qs qf (qs qf (qs qf (qj (iP.j9 aa) qf
 qf)))))))
 (qe H)
def cd.J14(e:(Addr×Int)->ab->Prop)(a:(Addr×Int×Addr×Int)->ab->Prop)(aa:VH)(p_0:Addr)(i_3:Int)(v_4:Addr)(k_5:Int)(h:ab):=
 oL (cell h (p_0.add 6)) λaes aet aij=>
 bg aes k_5 aet λb=>
 oI .i64 (cell h ((Addr.add b (k_5.toNat*45)))) λc=>
 oI .i64 (cell h v_4) λd=>
 BIF (c==d) (
 aa (.bool false) h) (
 a (p_0,i_3,v_4,((IntKind.i64.wrap (k_5+1)))) h)
def cd.j14(a:(Addr×Int)->ab->Prop)(b:(Addr×Int×Addr×Int)->ab->Prop)(aa:VH):=gg (kds 113 [(0,.p),(3,.i .i64),(4,.p),(5,.i .i64)]) λfr=>cd.J14 a b aa (gP (ah fr 0)) (gI (ah fr 3)) (gP (ah fr 4)) (gI (ah fr 5))
def cd.B12(a:(Addr×Int)->ab->Prop)(aa:VH)(b:(Addr×Int×Addr×Int)->ab->Prop):Addr×Int×Addr×Int->ab->Prop
 | (p_0,i_3,v_4,k_5),h=>
 BIF (decide (k_5<i_3)) (
 oI .i64 (cell h v_4) λc=>
 BIF ((decide (0≤c))) (
 cd.J14 a b aa p_0 i_3 v_4 k_5 h) (
 a (p_0,((IntKind.i64.wrap (i_3+1)))) h)) (
 a (p_0,((IntKind.i64.wrap (i_3+1)))) h)
def cd.g12(fr:Frame):Addr×Int×Addr×Int:=((gP (ah fr 0)),(gI (ah fr 3)),(gP (ah fr 4)),(gI (ah fr 5)))
def cd.l12(a:(Addr×Int)->ab->Prop)(aa:VH):=gg (kds 113 [(0,.p),(3,.i .i64),(4,.p),(5,.i .i64)]) λfr=>bh (cd.B12 a aa) (cd.g12 fr)
def cd.J11(a:(Addr×Int)->ab->Prop)(aa:VH)(p_0:Addr)(i_3:Int)(v_4:Addr)(h:ab):=
 bh (cd.B12 a aa) (p_0,i_3,v_4,0) h
def cd.j11(a:(Addr×Int)->ab->Prop)(aa:VH):=gg (kds 113 [(0,.p),(3,.i .i64),(4,.p)]) λfr=>cd.J11 a aa (gP (ah fr 0)) (gI (ah fr 3)) (gP (ah fr 4))
def cd.B6(aa:VH)(b:(Addr×Int)->ab->Prop):Addr×Int->ab->Prop
 | (p_0,i_3),h=>
 oL (cell h (p_0.add 6)) λPu My Xz=>
 BIF ((decide (i_3<(My:Int)))) (
 oL (cell h (p_0.add 6)) λaen aeo alR=>
 bg aen i_3 aeo λa=>
 ae ai vP #[.pointer (some p_0),.pointer (some ((Addr.add a (i_3.toNat*45))))] (λc ry=>
 asB c λd=>
 BIF (!d) (
 aa (.bool false) ry) (
 oI .i64 (cell ry ((Addr.add a (i_3.toNat*45)))) λe=>
 BIF ((decide (0≤e))) (
 oI .i64 (cell ry ((Addr.add ((Addr.add a (i_3.toNat*45))) 2))) λf=>
 oI .i64 (cell ry (p_0.add 7)) λZu=>
 BIF (decide (Zu≤f)) (
 aa (.bool false) ry) (
 cd.J11 b aa p_0 i_3 ((Addr.add a (i_3.toNat*45))) ry)) (
 cd.J11 b aa p_0 i_3 ((Addr.add a (i_3.toNat*45))) ry))) h) (
 aa (.bool true) h)
def cd.g6(fr:Frame):Addr×Int:=((gP (ah fr 0)),(gI (ah fr 3)))
def cd.l6(aa:VH):=gg (kds 113 [(0,.p),(3,.i .i64)]) λfr=>bh (cd.B6 aa) (cd.g6 fr)
def cd.J3(aa:VH)(p_0:Addr)(h:ab):=
 oI .i64 (cell h (p_0.add 8)) λVb=>
 oI .i64 (cell h (p_0.add 7)) λa=>
 ae ai qY #[.pointer (some p_0),.int .i64 a] (λb qz=>
 asI .i64 b λc=>
 PIN h (p_0.add 8) 1 qz <|
 BIF (Vb != c) (
 aa (.bool false) qz) (
 bh (cd.B6 aa) (p_0,0) qz)) h
def cd.j3(aa:VH):=gg (kds 113 [(0,.p)]) λfr=>cd.J3 aa (gP (ah fr 0))
def cd.S(p_0:Addr)(aa:VH)(h:ab):=
 ae ai BM #[.pointer (some p_0)] (λc a=>
 asB c λd=>
 BIF (!d) (
 aa (.bool false) a) (
 oL (cell a (p_0.add 6)) λPy e TN=>
 ae ai eO #[.int .i64 (e:Int),.int .i64 1,.int .i64 6] (λf b=>
 asB f λg=>
 BIF (!g) (
 aa (.bool false) b) (
 oI .i64 (cell b (p_0.add 7)) λrD=>
 ae ai eO #[.int .i64 rD,.int .i64 0,.int .i64 200000] (λwi iG=>
 asB wi λHb=>
 BIF (!Hb) (
 aa (.bool false) iG) (
 oI .i64 (cell iG (p_0.add 9)) λi=>
 ae ai eO #[.int .i64 i,.int .i64 0,.int .i64 64] (λDc iJ=>
 asB Dc λOY=>
 BIF (!OY) (
 aa (.bool false) iJ) (
 cd.J3 aa p_0 iJ)) iG)) b)) a)) h
theorem cd.call{p_0:Addr}{aa:VH}{h:ab}(H:cd.S p_0 aa h):ae ai BN #[.pointer (some p_0)] aa h:=
 qc (Λ:=an [(3,cd.j3 aa),(1000006,cd.l6 aa)]) Tryz.func110
 (qs qf (qj (cd.j3 aa) qf
 (qs qf (qs (qs qf (Rq.block (ql (cd.l6 aa) (qg (g:=cd.g6) (Λ:=λa=>an [(11,cd.j11 a aa),(1000012,cd.l12 a aa)]) (λ_ _ _=>by kernel_rfl) (λa=>(qs qf (qs (Rq.block (qs qf (qj (cd.j11 a aa) qf
 (qs qf (Rq.block (ql (cd.l12 a aa) (qg (g:=cd.g12) (Λ:=λb=>an [(14,cd.j14 a b aa)]) (λ_ _ _=>by kernel_rfl) (λb=>(qj (cd.j14 a b aa) qf
 qf))))))))) qf))))))) qf))))
 (qe H)
end Go.Sx
