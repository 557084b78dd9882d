/- Lemmas. -/
import Derived.Test.YthhepeklpgefkaaGreatDoorTab
import Derived.Test.YthhepeklpgefkaaGreatDoorLf9
import Derived.Test.YthhepeklpgefkaaGreatDoorLr7
set_option linter.unusedVariables false
set_option linter.unusedSimpArgs false
namespace Go.Sx
open FloatKind (f32 f64)
open IntKind (i64)
open Go.Proofs
set_option maxRecDepth 100000
def Es.S(HT:Int)(aa:VH)(h:ab):=
 ae ai eO #[.int .i64 HT,.int .i64 (-100),.int .i64 100] (λa b=>
 asB a λc=>
 aa (.bool c) b) h
theorem Es.call{HT:Int}{aa:VH}{h:ab}(H:Es.S HT aa h):ae ai FR #[.int .i64 HT] aa h:=
 qc (Λ:=an []) Tryz.func303
 qf
 (qe H)
def fu.J5(aa:VH)(t_0:Addr)(gk:Int)(n_5:Int)(Ic:Int)(h:ab):=
 oF .f32 (cell h (t_0.add 1)) λb=>
 oL (cell h (t_0.add 2)) λEY Df HY=>
 bg EY ((i64.wrap (gk-(i64.wrap (Ic*n_5))))) Df λa=>
 oF .f32 (cell h ((Addr.add a ((Int.toNat ((i64.wrap (gk-(i64.wrap (Ic*n_5))))))*1)))) λc=>
 FOP .f32 (od b (f32.nearest Ic)) λd=>
 PIN h ((Addr.add a ((Int.toNat ((i64.wrap (gk-(i64.wrap (Ic*n_5))))))*1))) 1 h <|
 PIN h (t_0.add 2) 1 h <|
 FOP .f32 (CT d c) λe=>
 aa (.float .f32 e) h
def fu.j5(aa:VH):=gg (kds 40 [(0,.p),(1,.i .i64),(5,.i .i64),(6,.i .i64)]) λfr=>fu.J5 aa (gP (ah fr 0)) (gI (ah fr 1)) (gI (ah fr 5)) (gI (ah fr 6))
def fu.S(t_0:Addr)(gk:Int)(aa:VH)(h:ab):=
 oL (cell h (t_0.add 2)) λb a Qn=>
 NZ (a:Int) <|
 NZ (a:Int) <|
 BIF ((decide ((Int.tmod gk (a:Int))<0))) (
 fu.J5 aa t_0 gk (a:Int) ((i64.wrap ((i64.wrap (Int.tdiv gk (a:Int)))-1))) h) (
 fu.J5 aa t_0 gk (a:Int) ((i64.wrap (Int.tdiv gk (a:Int)))) h)
theorem fu.call{t_0:Addr}{gk:Int}{aa:VH}{h:ab}(H:fu.S t_0 gk aa h):ae ai qX #[.pointer (some t_0),.int .i64 gk] aa h:=
 qc (Λ:=an [(5,fu.j5 aa)]) Tryz.func358
 (qs qf (qs qf (qs qf (qj (fu.j5 aa) qf
 qf))))
 (qe H)
def Cj.S(f_0:Nat)(aa:VH)(h:ab):=
 aa (.bool (f64.format.order f_0 f_0 != some .eq)) h
theorem Cj.call{f_0:Nat}{aa:VH}{h:ab}(H:Cj.S f_0 aa h):ae ai HE #[.float .f64 f_0] aa h:=
 qc (Λ:=an []) Tryz.func360
 qf
 (qe H)
def GQ.S(f_0:Nat)(NF:Int)(aa:VH)(h:ab):=
 BIF (NF==0) (
 ae ai tS #[.float .f64 f_0] (λa b=>
 asF .f64 a λc=>
 aa (.bool (f64.format.order c 9218868437227405311==some .gt)) b) h) (
 BIF ((decide (NF<0))) (
 aa (.bool (f64.format.order (Op.negFloat .f64 f_0) 9218868437227405311==some .gt)) h) (
 aa (.bool (f64.format.order f_0 9218868437227405311==some .gt)) h))
theorem GQ.call{f_0:Nat}{NF:Int}{aa:VH}{h:ab}(H:GQ.S f_0 NF aa h):ae ai HD #[.float .f64 f_0,.int .i64 NF] aa h:=
 qc (Λ:=an []) Tryz.func361
 qf
 (qe H)
def GP.S(x_0:Nat)(aa:VH)(h:ab):=
 ae ai tT #[.float .f64 x_0] (λa b=>
 asF .f64 a λc=>
 aa (.float .f64 c) b) h
theorem GP.call{x_0:Nat}{aa:VH}{h:ab}(H:GP.S x_0 aa h):ae ai lQ #[.float .f64 x_0] aa h:=
 qc (Λ:=an []) Tryz.func227
 qf
 (qe H)
def dw.B5(aa:VH)(a:(Int×Nat)->ab->Prop):Int×Nat->ab->Prop
 | (k_0,p_3),h=>
 BIF ((decide (k_0<0))) (
 FOP .f64 (f64.format.div p_3 4611686018427387904) λb=>
 a (((i64.wrap (k_0+1))),b) h) (
 aa (.float .f64 p_3) h)
def dw.g5(fr:Frame):Int×Nat:=((gI (ah fr 0)),(gF (ah fr 3)))
def dw.l5(aa:VH):=gg (kds 17 [(0,.i .i64),(3,.f .f64)]) λfr=>bh (dw.B5 aa) (dw.g5 fr)
def dw.B2(aa:VH)(a:(Int×Nat)->ab->Prop):Int×Nat->ab->Prop
 | (k_0,p_3),h=>
 BIF ((decide (0<k_0))) (
 FOP .f64 (f64.format.mul p_3 4611686018427387904) λb=>
 a (((i64.wrap (k_0-1))),b) h) (
 bh (dw.B5 aa) (k_0,p_3) h)
def dw.g2(fr:Frame):Int×Nat:=((gI (ah fr 0)),(gF (ah fr 3)))
def dw.l2(aa:VH):=gg (kds 17 [(0,.i .i64),(3,.f .f64)]) λfr=>bh (dw.B2 aa) (dw.g2 fr)
def dw.S(k_0:Int)(aa:VH)(h:ab):=
 bh (dw.B2 aa) (k_0,4607182418800017408) h
theorem dw.call{k_0:Int}{aa:VH}{h:ab}(H:dw.S k_0 aa h):ae ai vJ #[.int .i64 k_0] aa h:=
 qc (Λ:=an [(1000002,dw.l2 aa),(1000005,dw.l5 aa)]) Tryz.func386
 (qs qf (qs qf (qs (Rq.block (ql (dw.l2 aa) (qg (g:=dw.g2) (Λ:=λa=>an []) (λ_ _ _=>by kernel_rfl) (λa=>qf)))) (qs (Rq.block (ql (dw.l5 aa) (qg (g:=dw.g5) (Λ:=λb=>an []) (λ_ _ _=>by kernel_rfl) (λb=>qf)))) qf))))
 (qe H)
def eS.B7(aa:VH)(a:(Nat×Nat×Nat×Int)->ab->Prop):Nat×Nat×Nat×Int->ab->Prop
 | (k_4,y_5,s_6,m_7),h=>
 BIF ((decide (1≤m_7))) (
 FOP .f64 (f64.format.div y_5 (f64.nearest m_7)) λb=>
 FOP .f64 (f64.format.mul b s_6) λc=>
 FOP .f64 (f64.format.add 4607182418800017408 c) λAg=>
 a (k_4,y_5,Ag,((i64.wrap (m_7-1)))) h) (
 FIC .f64 k_4 .i64 λBq=>
 ae ai vJ #[.int .i64 Bq] (λuu gf=>
 asF .f64 uu λFJ=>
 FOP .f64 (f64.format.mul s_6 FJ) λuQ=>
 FFC .f64 uQ .f32 λHe=>
 aa (.tuple ⟨[.float .f32 He,.bool true]⟩) gf) h)
def eS.g7(fr:Frame):Nat×Nat×Nat×Int:=((gF (ah fr 4)),(gF (ah fr 5)),(gF (ah fr 6)),(gI (ah fr 7)))
def eS.l7(aa:VH):=gg (kds 40 [(4,.f .f64),(5,.f .f64),(6,.f .f64),(7,.i .i64)]) λfr=>bh (eS.B7 aa) (eS.g7 fr)
def eS.J3(aa:VH)(x_0:Nat)(h:ab):=
 FFC .f32 x_0 .f64 λb=>
 ae ai lQ #[.float .f64 b] (λc d=>
 asF .f64 c λa=>
 FFC .f32 x_0 .f64 λe=>
 FOP .f64 (f64.format.sub e a) λf=>
 FOP .f64 (f64.format.mul f 4604418534313441775) λg=>
 bh (eS.B7 aa) (a,g,4607182418800017408,14) d) h
def eS.j3(aa:VH):=gg (kds 40 [(0,.f .f32)]) λfr=>eS.J3 aa (gF (ah fr 0))
def eS.S(x_0:Nat)(aa:VH)(h:ab):=
 BIF (f32.format.order x_0 3270508544==some .gt||f32.format.order x_0 3270508544==some .eq) (
 BIF (!(f32.format.order x_0 1123024896==some .lt||f32.format.order x_0 1123024896==some .eq)) (
 aa (.tuple ⟨[.float .f32 0,.bool false]⟩) h) (
 eS.J3 aa x_0 h)) (
 aa (.tuple ⟨[.float .f32 0,.bool false]⟩) h)
theorem eS.call{x_0:Nat}{aa:VH}{h:ab}(H:eS.S x_0 aa h):ae ai zL #[.float .f32 x_0] aa h:=
 qc (Λ:=an [(3,eS.j3 aa),(1000007,eS.l7 aa)]) Tryz.func357
 (qs qf (qj (eS.j3 aa) qf
 (qs qf (qs qf (qs qf (qs (qs qf (Rq.block (ql (eS.l7 aa) (qg (g:=eS.g7) (Λ:=λa=>an []) (λ_ _ _=>by kernel_rfl) (λa=>qf))))) qf))))))
 (qe H)
def Ak.S(t_0:Addr)(gk:Int)(aa:VH)(h:ab):=
 ae ai qX #[.pointer (some t_0),.int .i64 gk] (λb c=>
 asF .f32 b λd=>
 FOP .f32 (TE d 1150681088) λe=>
 ae ai zL #[.float .f32 e] (λf a=>
 iF f λg i=>
 asF .f32 g λj=>
 asB i λHw=>
 oF .f32 (cell a t_0) λDg=>
 FOP .f32 (od Dg j) λwX=>
 aa (.tuple ⟨[.float .f32 wX,.bool Hw]⟩) a) c) h
theorem Ak.call{t_0:Addr}{gk:Int}{aa:VH}{h:ab}(H:Ak.S t_0 gk aa h):ae ai vI #[.pointer (some t_0),.int .i64 gk] aa h:=
 qc (Λ:=an []) Tryz.func304
 qf
 (qe H)
def Aj.S(t_0:Addr)(gk:Int)(aa:VH)(h:ab):=
 ae ai wN #[.pointer (some t_0)] (λd a=>
 asB d λe=>
 BIF (!e) (
 aa (.tuple ⟨[.float .f32 0,.int .i64 1]⟩) a) (
 ae ai FR #[.int .i64 gk] (λf b=>
 asB f λg=>
 BIF (!g) (
 aa (.tuple ⟨[.float .f32 0,.int .i64 2]⟩) b) (
 ae ai vI #[.pointer (some t_0),.int .i64 gk] (λi c=>
 iF i λj Af=>
 asF .f32 j λDg=>
 asB Af λLe=>
 BIF (!Le) (
 aa (.tuple ⟨[.float .f32 0,.int .i64 2]⟩) c) (
 aa (.tuple ⟨[.float .f32 Dg,.int .i64 0]⟩) c)) b)) a)) h
theorem Aj.call{t_0:Addr}{gk:Int}{aa:VH}{h:ab}(H:Aj.S t_0 gk aa h):ae ai vH #[.pointer (some t_0),.int .i64 gk] aa h:=
 qc (Λ:=an []) Tryz.func220
 qf
 (qe H)
def uy.S(t_0:Array Value)(gk:Int)(tf:Nat)(aa:VH)(h:ab):=
 ALC t_0 ey (λc d=>
 ae ai vH #[.pointer (some ⟨c,0,none⟩),.int .i64 gk] (λe a=>
 iF e λf g=>
 asF .f32 f λi=>
 asI .i64 g λb=>
 BIF (b != 0) (
 aa (.tuple ⟨[.float .f32 0,.int .i64 b]⟩) a) (
 BIF (f32.format.order tf 1065353216==some .gt||f32.format.order tf 1065353216==some .eq) (
 BIF (!(f32.format.order tf 1232348160==some .lt||f32.format.order tf 1232348160==some .eq)) (
 aa (.tuple ⟨[.float .f32 0,.int .i64 2]⟩) a) (
 FOP .f32 (TE tf i) λj=>
 aa (.tuple ⟨[.float .f32 j,.int .i64 0]⟩) a)) (
 aa (.tuple ⟨[.float .f32 0,.int .i64 2]⟩) a))) d) h
theorem uy.call{t_0:Array Value}{gk:Int}{tf:Nat}{aa:VH}{h:ab}(H:uy.S t_0 gk tf aa h):ae ai qU #[.agg t_0,.int .i64 gk,.float .f32 tf] aa h:=
 qc (Λ:=an []) Tryz.func158
 qf
 (qe H)
def sO.S(t_0:Array Value)(gk:Int)(aa:VH)(h:ab):=
 ALC t_0 ey (λc d=>
 oL (cell d ⟨c,2,none⟩) λKa Hd f=>
 ae ai dR #[.slice Ka Hd f] (λg b=>
 asI .i64 g λa=>
 NZ a <|
 NZ a <|
 oF .f32 (cell b ⟨c,1,none⟩) λi=>
 NZ a <|
 oL (cell b ⟨c,2,none⟩) λj k l=>
 bg j ((Int.tmod ((i64.wrap ((Int.tmod gk a)+a))) a)) k λe=>
 oF .f32 (cell b ((Addr.add e ((Int.toNat ((Int.tmod ((i64.wrap ((Int.tmod gk a)+a))) a)))*1)))) λAg=>
 FOP .f32 (od i ((f32.nearest ((i64.wrap (Int.tdiv ((i64.wrap (gk-(Int.tmod ((i64.wrap ((Int.tmod gk a)+a))) a)))) a)))))) λDg=>
 PIN b ((Addr.add e ((Int.toNat ((Int.tmod ((i64.wrap ((Int.tmod gk a)+a))) a)))*1))) 1 b <|
 PIN b ⟨c,2,none⟩ 1 b <|
 FOP .f32 (CT Dg Ag) λwX=>
 aa (.float .f32 wX) b) d) h
theorem sO.call{t_0:Array Value}{gk:Int}{aa:VH}{h:ab}(H:sO.S t_0 gk aa h):ae ai pE #[.agg t_0,.int .i64 gk] aa h:=
 qc (Λ:=an []) Tryz.func364
 qf
 (qe H)
def ym.S(x_0:Nat)(aa:VH)(h:ab):=
 ae ai tS #[.float .f64 x_0] (λb a=>
 asF .f64 b λc=>
 BIF (f64.format.order c 4503599627370496==some .lt) (
 FOP .f64 (f64.format.mul x_0 4841369599423283200) λd=>
 aa (.tuple ⟨[.float .f64 d,.int .i64 (-52)]⟩) a) (
 aa (.tuple ⟨[.float .f64 x_0,.int .i64 0]⟩) a)) h
theorem ym.call{x_0:Nat}{aa:VH}{h:ab}(H:ym.S x_0 aa h):ae ai AH #[.float .f64 x_0] aa h:=
 qc (Λ:=an []) Tryz.func407
 qf
 (qe H)
def gn.J19(aa:VH)(uW:Int)(x_6:Int)(m_7:Nat)(h:ab):=
 NN 52 <|
 ae ai kL #[.int .u64 ((zt .or .u64 (zt .andNot .u64 x_6 9218868437227405312) ((afO .u64 ((IntKind.u64.wrap ((i64.wrap (uW+1023))))) 52))))] (λPF wO=>
 asF .f64 PF λNq=>
 FOP .f64 (f64.format.mul m_7 Nq) λa=>
 aa (.float .f64 a) wO) h
def gn.j19(aa:VH):=gg (kds 63 [(1,.i .i64),(6,.i .u64),(7,.f .f64)]) λfr=>gn.J19 aa (gI (ah fr 1)) (gI (ah fr 6)) (gF (ah fr 7))
def gn.J5(aa:VH)(oH:Nat)(uW:Int)(h:ab):=
 ae ai AH #[.float .f64 oH] (λb c=>
 iF b λd Af=>
 asF .f64 d λDg=>
 asI .i64 Af λa=>
 ae ai mV #[.float .f64 Dg] (λyM ke=>
 asI .u64 yM λKh=>
 NN 52 <|
 BIF ((decide ((i64.wrap ((i64.wrap (uW+a))+(i64.wrap ((zt .and .i64 ((i64.wrap (Tn .u64 Kh 52))) 2047)-1023))))<(-1075)))) (
 ae ai KL #[.float .f64 0,.float .f64 Dg] (λe oZ=>
 asF .f64 e λzf=>
 aa (.float .f64 zf) oZ) ke) (
 BIF ((decide (1023<(i64.wrap ((i64.wrap (uW+a))+(i64.wrap ((zt .and .i64 ((i64.wrap (Tn .u64 Kh 52))) 2047)-1023))))))) (
 BIF (f64.format.order Dg 0==some .lt) (
 ae ai LX #[.int .i64 (-1)] (λFH jZ=>
 asF .f64 FH λIl=>
 aa (.float .f64 Il) jZ) ke) (
 ae ai LX #[.int .i64 1] (λGW mZ=>
 asF .f64 GW λIN=>
 aa (.float .f64 IN) mZ) ke)) (
 BIF ((decide ((i64.wrap ((i64.wrap (uW+a))+(i64.wrap ((zt .and .i64 ((i64.wrap (Tn .u64 Kh 52))) 2047)-1023))))<(-1022)))) (
 gn.J19 aa ((i64.wrap ((i64.wrap ((i64.wrap (uW+a))+(i64.wrap ((zt .and .i64 ((i64.wrap (Tn .u64 Kh 52))) 2047)-1023))))+53))) Kh 4368491638549381120 ke) (
 gn.J19 aa ((i64.wrap ((i64.wrap (uW+a))+(i64.wrap ((zt .and .i64 ((i64.wrap (Tn .u64 Kh 52))) 2047)-1023))))) Kh 4607182418800017408 ke)))) c) h
def gn.j5(aa:VH):=gg (kds 63 [(0,.f .f64),(1,.i .i64)]) λfr=>gn.J5 aa (gF (ah fr 0)) (gI (ah fr 1))
def gn.S(oH:Nat)(uW:Int)(aa:VH)(h:ab):=
 BIF (f64.format.order oH 0==some .eq) (
 aa (.float .f64 oH) h) (
 ae ai HD #[.float .f64 oH,.int .i64 0] (λc a=>
 asB c λd=>
 BIF d (
 aa (.float .f64 oH) a) (
 ae ai HE #[.float .f64 oH] (λe b=>
 asB e λf=>
 BIF f (
 aa (.float .f64 oH) b) (
 gn.J5 aa oH uW b)) a)) h)
theorem gn.call{oH:Nat}{uW:Int}{aa:VH}{h:ab}(H:gn.S oH uW aa h):ae ai HF #[.float .f64 oH,.int .i64 uW] aa h:=
 qc (Λ:=an [(5,gn.j5 aa),(19,gn.j19 aa)]) Tryz.func403
 (qs qf (qj (gn.j5 aa) qf
 (qs qf (qs qf (qs qf (qs qf (qs qf (qs qf (qs qf (qj (gn.j19 aa) qf
 qf))))))))))
 (qe H)
def GR.S(oH:Nat)(uW:Int)(aa:VH)(h:ab):=
 ae ai HF #[.float .f64 oH,.int .i64 uW] (λa b=>
 asF .f64 a λc=>
 aa (.float .f64 c) b) h
theorem GR.call{oH:Nat}{uW:Int}{aa:VH}{h:ab}(H:GR.S oH uW aa h):ae ai BK #[.float .f64 oH,.int .i64 uW] aa h:=
 qc (Λ:=an []) Tryz.func390
 qf
 (qe H)
def jN.B7(aa:VH)(a:(Nat×Nat×Nat×Int)->ab->Prop):Nat×Nat×Nat×Int->ab->Prop
 | (k_4,y_5,s_6,m_7),h=>
 BIF ((decide (1≤m_7))) (
 FOP .f64 (f64.format.div y_5 (f64.nearest m_7)) λDg=>
 FOP .f64 (f64.format.mul Dg s_6) λwX=>
 FOP .f64 (f64.format.add 4607182418800017408 wX) λCu=>
 a (k_4,y_5,Cu,((i64.wrap (m_7-1)))) h) (
 FIC .f64 k_4 .i64 λb=>
 ae ai BK #[.float .f64 s_6,.int .i64 b] (λDc iJ=>
 asF .f64 Dc λc=>
 FFC .f64 c .f32 λzf=>
 aa (.tuple ⟨[.float .f32 zf,.int .i64 0]⟩) iJ) h)
def jN.g7(fr:Frame):Nat×Nat×Nat×Int:=((gF (ah fr 4)),(gF (ah fr 5)),(gF (ah fr 6)),(gI (ah fr 7)))
def jN.l7(aa:VH):=gg (kds 35 [(4,.f .f64),(5,.f .f64),(6,.f .f64),(7,.i .i64)]) λfr=>bh (jN.B7 aa) (jN.g7 fr)
def jN.S(x_0:Nat)(aa:VH)(h:ab):=
 ae ai eQ #[.float .f32 x_0,.float .f32 3270508544,.float .f32 1123024896] (λc a=>
 asB c λd=>
 BIF (!d) (
 aa (.tuple ⟨[.float .f32 0,.int .i64 2]⟩) a) (
 FFC .f32 x_0 .f64 λe=>
 ae ai lQ #[.float .f64 e] (λf g=>
 asF .f64 f λb=>
 FFC .f32 x_0 .f64 λi=>
 FOP .f64 (f64.format.sub i b) λj=>
 FOP .f64 (f64.format.mul j 4604418534313441775) λAg=>
 bh (jN.B7 aa) (b,Ag,4607182418800017408,14) g) a)) h
theorem jN.call{x_0:Nat}{aa:VH}{h:ab}(H:jN.S x_0 aa h):ae ai BG #[.float .f32 x_0] aa h:=
 qc (Λ:=an [(1000007,jN.l7 aa)]) Tryz.func363
 (qs qf (qs qf (qs qf (qs qf (qs qf (qs (qs qf (Rq.block (ql (jN.l7 aa) (qg (g:=jN.g7) (Λ:=λa=>an []) (λ_ _ _=>by kernel_rfl) (λa=>qf))))) qf))))))
 (qe H)
def sP.S(t_0:Array Value)(gk:Int)(aa:VH)(h:ab):=
 ALC t_0 ey (λa b=>
 LDA 3 b ⟨a,0,none⟩ λd=>
 ae ai pE #[.agg d,.int .i64 gk] (λe f=>
 asF .f32 e λg=>
 FOP .f32 (TE g 1150681088) λi=>
 ae ai BG #[.float .f32 i] (λj c=>
 iF j λAf wi=>
 asF .f32 Af λwX=>
 asI .i64 wi λQw=>
 oF .f32 (cell c ⟨a,0,none⟩) λFJ=>
 FOP .f32 (od FJ wX) λuQ=>
 aa (.tuple ⟨[.float .f32 uQ,.int .i64 Qw]⟩) c) f) b) h
theorem sP.call{t_0:Array Value}{gk:Int}{aa:VH}{h:ab}(H:sP.S t_0 gk aa h):ae ai pF #[.agg t_0,.int .i64 gk] aa h:=
 qc (Λ:=an []) Tryz.func310
 qf
 (qe H)
def zP.S(t_0:Array Value)(gk:Int)(aa:VH)(h:ab):=
 ALC t_0 ey (λb c=>
 LDA 3 c ⟨b,0,none⟩ λe=>
 ae ai mR #[.agg e] (λf d=>
 asB f λg=>
 BIF (!g) (
 aa (.tuple ⟨[.float .f32 0,.int .i64 1]⟩) d) (
 ae ai wL #[.int .i64 gk] (λi a=>
 asB i λj=>
 BIF (!j) (
 aa (.tuple ⟨[.float .f32 0,.int .i64 2]⟩) a) (
 LDA 3 a ⟨b,0,none⟩ λAz=>
 ae ai pF #[.agg Az,.int .i64 gk] (λwi iG=>
 iF wi λyM Db=>
 asF .f32 yM λuQ=>
 asI .i64 Db λXU=>
 BIF (XU != 0) (
 aa (.tuple ⟨[.float .f32 0,.int .i64 XU]⟩) iG) (
 aa (.tuple ⟨[.float .f32 uQ,.int .i64 0]⟩) iG)) a)) d)) c) h
theorem zP.call{t_0:Array Value}{gk:Int}{aa:VH}{h:ab}(H:zP.S t_0 gk aa h):ae ai vo #[.agg t_0,.int .i64 gk] aa h:=
 qc (Λ:=an []) Tryz.func230
 qf
 (qe H)
def DT.S(Tv:Nat)(aa:VH)(h:ab):=
 ae ai eQ #[.float .f32 Tv,.float .f32 1065353216,.float .f32 1232348160] (λa b=>
 asB a λc=>
 aa (.bool c) b) h
theorem DT.call{Tv:Nat}{aa:VH}{h:ab}(H:DT.S Tv aa h):ae ai zD #[.float .f32 Tv] aa h:=
 qc (Λ:=an []) Tryz.func231
 qf
 (qe H)
def u7.S(t_0:Array Value)(gk:Int)(tf:Nat)(aa:VH)(h:ab):=
 ALC t_0 ey (λd a=>
 LDA 3 a ⟨d,0,none⟩ λe=>
 ae ai vo #[.agg e,.int .i64 gk] (λf b=>
 iF f λg i=>
 asF .f32 g λj=>
 asI .i64 i λc=>
 BIF (c != 0) (
 aa (.tuple ⟨[.float .f32 0,.int .i64 c]⟩) b) (
 ae ai zD #[.float .f32 tf] (λAf kc=>
 asB Af λLe=>
 BIF (!Le) (
 aa (.tuple ⟨[.float .f32 0,.int .i64 2]⟩) kc) (
 FOP .f32 (TE tf j) λCu=>
 aa (.tuple ⟨[.float .f32 Cu,.int .i64 0]⟩) kc)) b)) a) h
theorem u7.call{t_0:Array Value}{gk:Int}{tf:Nat}{aa:VH}{h:ab}(H:u7.S t_0 gk tf aa h):ae ai qI #[.agg t_0,.int .i64 gk,.float .f32 tf] aa h:=
 qc (Λ:=an []) Tryz.func164
 qf
 (qe H)
end Go.Sx
namespace Go.Sx
open FloatKind (f32 f64)
open IntKind (i64)
open Go.Proofs Ieee
set_option maxRecDepth 100000
set_option maxHeartbeats 1000000
theorem aax{x:Nat}(nm:String)(hx:nan .f64 x=false):Extern.MathFloor.toIntegral nm .down #[.float .f64 x]=pure (.float .f64 (flr x)):=by
 have h':(f64.decode x).isNaN=false:=hx
 show (match f64.decode x with | .nan s t=>_ | d=>_)=_
 unfold flr
 cases e:f64.decode x with
 | nan s t=>rw[e] at h';cases h'
 | number s m p=>rfl
 | infinity s=>rfl
theorem EJ{x:Nat}(hx:nan .f64 x=false):Ret ai lQ #[.float .f64 x] (.float .f64 (flr x)):=λh=>by
 have c:Ret ai tT #[.float .f64 x] (.float .f64 (flr x)):=
  HC (e := Extern.MathFloor.toIntegral "math.archFloor" .down) IT (by kernel_rfl) (by kernel_rfl) (by kernel_rfl) (by kernel_rfl) fun w => by rw [aax _ hx, Sem.run_pure]
 exact GP.call (c.go λh1 x1=>dv ⟨rfl,x1⟩)
theorem alj{k:FloatKind}{o:Option Nat}{v:Nat}{F:Nat->Prop}(h:o=some v)(H:F v):FOP k o F:=λr hr=>by
 subst h;rw[show r=v from hr];exact H
theorem abH:Ae 0=4607182418800017408:=by decide +kernel
theorem Xl{k:Int}(h1:-140≤k)(h2:k≤140):Ret ai vJ #[.int .i64 k] (.float .f64 (Ae k)):=λh=>by
 refine dw.call ?_
 refine loop (λx hh=>∃j:Int,x=(j,Ae (k-j))∧(0≤j∧j≤k∨j=k)∧Ext h hh) (λx=>x.1.toNat) ⟨k,by rw[Int.sub_self,abH],.inr rfl,Ext.refl _⟩ ?_
 rintro x hh ⟨j,rfl,hj,X⟩
 refine brd (λhc=>alj (afs (by omega) (by omega)) ?_) λhc=>?_
 ·rw[wrap64 (by omega) (by omega)]
  exact ⟨⟨j-1,by rw[show k-(j-1)=k-j+1 by omega],by omega,X⟩,by show (j-1).toNat<j.toNat;omega⟩
 ·refine loop (λx hh=>∃i:Int,x=(i,Ae (k-i))∧(i≤0∧k≤i∨i=0)∧Ext h hh) (λx=>(-x.1).toNat) ⟨j,rfl,by omega,X⟩ ?_
  rintro x hh ⟨i,rfl,hi,X⟩
  refine brd (λhc=>alj (afr (by omega) (by omega)) ?_) λhc=>?_
  ·rw[wrap64 (by omega) (by omega)]
   exact ⟨⟨i+1,by rw[show k-(i+1)=k-i-1 by omega],by omega,X⟩,by show (-(i+1)).toNat<(-i).toNat;omega⟩
  ·obtain rfl:i=0:=by omega
   exact ⟨by rw[Int.sub_zero],X⟩
theorem ajl{w m:Nat}{e:Int}(h:f64.format.read w = .number false m e)(hm:2 ^ 52≤m)(hw:w<2 ^ 64):w=(e+1074).toNat*2 ^ 52+m:=by
 obtain⟨e1,e2,e3,e4⟩:=xw
 have e5:f64.format.signWeight=2 ^ 63:=rfl
 unfold Format.read at h
 dsimp only at h
 rw[e5,e3,e2,e4] at h
 split at h
 ·simp only[Datum.number.injEq] at h;omega
 ·split at h
  ·simp only[Datum.number.injEq] at h
   obtain⟨h1,h2,h3⟩:=h
   have h1:¬w / 2 ^ 63 % 2=1:=by simpa using h1
   omega
  ·split at h <;> cases h
theorem aar{s:Nat}(hb:Btw s 0 2)(hs:s<2 ^ 64):∃(m:Nat) (e:Int),f64.format.read s = .number false m e∧2 ^ 52≤m∧m<2 ^ 53∧(e = -52∨e = -51∨e = -50)∧s=(e+1074).toNat*2 ^ 52+m:=by
 obtain⟨m,e,hr,hv,hg,h1,h2⟩:=hb
 refine ⟨m,e,hr,h1,h2,?_,ajl hr h1 hs⟩
 have k1:52≤(2-e).toNat:=by
  rcases hv with hv | ⟨g1,g2⟩
  ·omega
  ·exact (Nat.pow_le_pow_iff_right (by decide:1<2)).1 (Nat.le_trans h1 g2)
 have k2:(0-e).toNat<53:=(Nat.pow_lt_pow_iff_right (by decide:1<2)).1 (Nat.lt_of_le_of_lt hg.2 h2)
 omega
theorem afk{k:FloatKind}{x y m n:Nat}{i j:Int}(hx:k.format.read x = .number false m i)(hy:k.format.read y = .number false n j)(b:Int)(hi:b≤i)(hj:b≤j)(h:m*2 ^ (i-b).toNat<n*2 ^ (j-b).toNat):k.format.order x y=some .lt:=by
 rw[jt hx hy,uq _ _ _ _ _ _ b hi hj,fZ,fZ,BF (Int.ofNat_lt.2 h)]
theorem Vk{k:FloatKind}{x y m n:Nat}{i j:Int}(hx:k.format.read x = .number false m i)(hy:k.format.read y = .number false n j)(b:Int)(hi:b≤i)(hj:b≤j)(h:n*2 ^ (j-b).toNat<m*2 ^ (i-b).toNat):k.format.order x y=some .gt:=by
 rw[jt hx hy,uq _ _ _ _ _ _ b hi hj,fZ,fZ,BE (Int.ofNat_lt.2 h)]
theorem IG{n:Int}(h1:0≤n)(h2:n<18446744073709551616):IntKind.u64.wrap n=n:=by
 simp only[IntKind.wrap,IntKind.signed,Bool.false_and,Bool.false_eq_true,if_false]
 rw[show (2:Int) ^ IntKind.u64.bits=18446744073709551616 by decide]
 omega
theorem agV{x:Nat}(h:x<2 ^ 63):x &&& 2 ^ 63=0:=by
 apply Nat.eq_of_testBit_eq
 intro i
 rw[Nat.testBit_and,Nat.testBit_two_pow,Nat.zero_testBit]
 by_cases e:63=i
 ·subst e;rw[Nat.testBit_lt_two_pow h];rfl
 ·rw[decide_eq_false e,Bool.and_false]
theorem aeV{x:Nat}(h:x<2 ^ 63):zt .andNot .u64 (x:Int) 9218868437227405312=((x % 2 ^ 52:Nat):Int):=by
 have e2:(BitVec.ofInt IntKind.u64.bits (x:Int) &&& ~~~BitVec.ofInt IntKind.u64.bits 9218868437227405312).toNat=x % 2 ^ 52:=by
  have e3:(~~~BitVec.ofInt IntKind.u64.bits 9218868437227405312).toNat=2 ^ 63 ||| (2 ^ 52-1):=by decide
  rw[BitVec.toNat_and,e3,BitVec.ofInt_natCast,BitVec.toNat_ofNat]
  rw[show (2:Nat) ^ IntKind.u64.bits=18446744073709551616 by decide,Nat.mod_eq_of_lt (by omega),Nat.and_or_distrib_left,Nat.and_two_pow_sub_one_eq_mod,agV h,Nat.zero_or]
 show IntKind.u64.wrap _=_
 rw[e2]
 exact IG (by omega) (by omega)
theorem aiH{f E:Nat}(hf:f<2 ^ 52)(hE:E<2 ^ 11):zt .or .u64 (f:Int) (((E*2 ^ 52:Nat)):Int)=((E*2 ^ 52+f:Nat):Int):=by
 have e2:(BitVec.ofInt IntKind.u64.bits (f:Int) ||| BitVec.ofInt IntKind.u64.bits ((E*2 ^ 52:Nat):Int)).toNat=E*2 ^ 52+f:=by
  rw[BitVec.toNat_or,BitVec.ofInt_natCast,BitVec.ofInt_natCast,BitVec.toNat_ofNat,BitVec.toNat_ofNat]
  rw[show (2:Nat) ^ IntKind.u64.bits=18446744073709551616 by decide,Nat.mod_eq_of_lt (by omega),Nat.mod_eq_of_lt (by omega),← Nat.shiftLeft_eq,Nat.shiftLeft_add_eq_or_of_lt hf,Nat.or_comm]
 show IntKind.u64.wrap _=_
 rw[e2]
 exact IG (by omega) (by omega)
theorem asJ{x:Nat}(h:x<2 ^ 63):Tn .u64 (x:Int) 52=((x / 2 ^ 52:Nat):Int):=by
 unfold Tn
 rw[show min (52:Int).toNat IntKind.u64.bits=52 by decide]
 rw[show ((2:Int) ^ 52)=((2 ^ 52:Nat):Int) by decide]
 rw[Int.fdiv_eq_ediv_of_nonneg _ (by decide)]
 rfl
theorem asH{E:Nat}(hE:E<2 ^ 11):afO .u64 (E:Int) 52=((E*2 ^ 52:Nat):Int):=by
 unfold afO
 rw[show min (52:Int).toNat IntKind.u64.bits=52 by decide]
 rw[← show ((E*2 ^ 52:Nat):Int)=(E:Int)*2 ^ 52 by rw[Int.natCast_mul,show ((2 ^ 52:Nat):Int)=(2:Int) ^ 52 by decide]]
 exact IG (by omega) (by omega)
theorem abt{w m:Nat}{e:Int}(h:f64.format.read w = .number false m e):f64.format.mul 4607182418800017408 w=some (f64.format.nearest false m e):=by
 rw[F0 (by rw[GX,h,rG])]
 exact congrArg some (vc _ _ 52 (by rw[Nat.mul_comm]) (by omega))
theorem afD:f64.format.read 0 = .number false 0 (-1074):=by decide +kernel
theorem Yk:f64.format.read 9218868437227405311 = .number false (2 ^ 53-1) 971:=by decide +kernel
theorem Yl:f64.format.read 4503599627370496 = .number false (2 ^ 52) (-1074):=by decide +kernel
theorem VY{n:Nat}(h:1≤n)(m:Nat):m*2≤m*2 ^ n:=Nat.mul_le_mul_left _ (Nat.pow_le_pow_right (n:=2) (by decide) h)
theorem SS{s m:Nat}{e:Int}(hr:f64.format.read s = .number false m e)(hm1:2 ^ 52≤m)(K7:m<2 ^ 53)(he:e = -52∨e = -51∨e = -50):
  f64.format.order s 0=some .gt∧f64.format.order s 9218868437227405311=some .lt∧f64.format.order s 4503599627370496=some .gt:=by
 refine ⟨Vk hr afD (-1074) (by omega) (by decide) ?_,afk hr Yk e (by omega) (by omega) ?_,Vk hr Yl (-1074) (by omega) (by decide) ?_⟩
 ·rw[Nat.zero_mul]
  exact Nat.mul_pos (by omega) (Nat.two_pow_pos _)
 ·have h1:=VY (n:=((971:Int)-e).toNat) (by omega) (2 ^ 53-1)
  rw[Int.sub_self,show (0:Int).toNat=0 by rfl,Nat.pow_zero,Nat.mul_one]
  omega
 ·have h1:=VY (n:=(e - -1074).toNat) (by omega) m
  rw[Int.sub_self,show (0:Int).toNat=0 by rfl,Nat.pow_zero,Nat.mul_one]
  omega
theorem XI{s m F:Nat}{e k:Int}(hr:f64.format.read s = .number false m e)(hm1:2 ^ 52≤m)(K7:m<2 ^ 53)(he:e = -52∨e = -51∨e = -50)(h1:-120≤k)(h2:k≤120)(hs:s=(e+1074).toNat*2 ^ 52+m)(hF:(F:Int)=k+(e+1075)):
  f64.format.mul 4607182418800017408 (F*2 ^ 52+s % 2 ^ 52)=some (fP .f64 s (Ae k)):=by
 have hsm:s % 2 ^ 52=m-2 ^ 52:=by omega
 have hq:F*2 ^ 52+s % 2 ^ 52=(F-1)*2 ^ 52+m:=by
  rw[hsm,Nat.sub_mul]
  have:1*2 ^ 52≤F*2 ^ 52:=Nat.mul_le_mul_right _ (by omega)
  omega
 obtain⟨e1,e2,e3,e4⟩:=xw
 have vR:(F-1)*2 ^ 52≤1500*2 ^ 52:=Nat.mul_le_mul_right _ (by omega)
 have Zg:f64.format.read (F*2 ^ 52+s % 2 ^ 52) = .number false m (e+k):=by
  have:=GY f64.format false (k:=m) (q:=F-1) (by rw[e3];omega) (.inr (by rw[e3];exact hm1)) (by rw[e3,e4];omega)
  rw[nu,e3,e2] at this
  rw[hq,this]
  congr 1
  omega
 have hl:m.log2=52:=by
  have a:=(Nat.log2_lt (n:=m) (k:=53) (by omega)).2 K7
  have b:=(Nat.le_log2 (n:=m) (k:=52) (by omega)).2 hm1
  omega
 have hn:f64.format.nearest false m (e+k)=F*2 ^ 52+s % 2 ^ 52:=by
  rw[Cp _ _ (by omega) (by rw[hl,e1,e2];omega),nu,e2,e3,e4,hq,show (e+k - -1074).toNat=F-1 by omega]
  exact Nat.min_eq_left (Nat.le_trans (Nat.add_le_add vR (Nat.le_of_lt K7)) (by decide))
 rw[abt Zg]
 unfold fP
 rw[af8 hr (k:=k) (by omega) (by omega),Option.getD_some,hn,nR Zg]
theorem agL{s:Nat}{k:Int}(hb:Btw s 0 2)(hs:s<2 ^ 64)(q1:-120≤k)(q2:k≤120):Ret ai BK #[.float .f64 s,.int .i64 k] (.float .f64 (fP .f64 s (Ae k))):=λh=>by
 obtain⟨m,e,hr,hm1,K7,he,hw⟩:=aar hb hs
 have alO:s<2 ^ 63:=by omega
 have aqx:Sx.nan .f64 s=false:=by unfold Sx.nan;rw[hr];rfl
 have fs:FW .f64 s s:=⟨nR hr,hs⟩
 have awK:cn .f64 (s % 2 ^ 63)=s:=by rw[Nat.mod_eq_of_lt alO,nR hr]
 obtain⟨o0,o1,o2⟩:=SS hr hm1 K7 he
 have apa:∀hh,ae ai tS #[.float .f64 s] (λu h'=>u = .float .f64 s∧Ext hh h') hh:=λhh=>(YM fs).go λh' y x hy=>by
  rw[awK] at hy
  rw[hy.eq aqx];exact ⟨rfl,x⟩
 refine GR.call (gn.call ?_)
 unfold gn.S
 rw[o0]
 refine dp rfl (GQ.call (BB rfl (goX (apa _) λh1 x1=>dv ?_)))
 rw[o1]
 refine bd (dp rfl (Cj.call ?_))
 unfold Cj.S
 rw[ne_self,aqx]
 refine bd (dp rfl ?_)
 unfold gn.J5
 refine ym.call (goX (apa _) λh2 x2=>dv ?_)
 rw[o2]
 refine dp rfl (nq (dv (cX ((FL s).go λh3 x3=>cX (nn (by decide) ?_)))))
 have hE:∃E:Nat,E=(e+1075).toNat∧s / 2 ^ 52=E∧E<2048∧1023≤E∧(E:Int)=e+1075:=⟨_,rfl,by omega,by omega,by omega,by omega⟩
 obtain⟨E,hE0,hE1,hE2,hE3,hE4⟩:=hE
 rw[asJ alO,hE1,wrap64 (n:=(E:Int)) (by omega) (by omega)]
 have hand:zt .and .i64 (E:Int) 2047=(E:Int):=by
  rcases he with he | he | he <;> (obtain rfl:E=_:=hE0;subst he;decide)
 rw[hand,wrap64 (n:=k+0) (by omega) (by omega),wrap64 (n:=(E:Int)-1023) (by omega) (by omega),wrap64 (n:=k+0+((E:Int)-1023)) (by omega) (by omega)]
 refine brd (λhc=>by omega) λ_=>brd (λhc=>by omega) λ_=>brd (λhc=>by omega) λ_=>?_
 unfold gn.J19
 refine nn (by decide) ?_
 rw[wrap64 (n:=k+0+((E:Int)-1023)+1023) (by omega) (by omega),IG (n:=k+0+((E:Int)-1023)+1023) (by omega) (by omega)]
 have hF:∃F:Nat,(F:Int)=k+0+((E:Int)-1023)+1023∧F<2 ^ 11:=⟨(k+0+((E:Int)-1023)+1023).toNat,by omega,by omega⟩
 obtain⟨F,hF1,hF2⟩:=hF
 rw[← hF1,asH hF2,aeV alO,aiH (Nat.mod_lt _ (by decide)) hF2]
 refine (HM _).go λh4 x4=>dv ?_
 rw[Int.toNat_natCast]
 exact alj (XI hr hm1 K7 he q1 q2 hw (by omega)) ⟨rfl,((x1.trans x2).trans x3).trans x4⟩
theorem apk{k:FloatKind}{x:Nat}(h:x<2 ^ k.format.width):cn k x<2 ^ k.format.width:=by
 unfold cn
 split
 ·exact afz k
 ·exact h
theorem aha(k:FloatKind)(a b:Nat):FW k (fP k a b) (fP k a b):=by
 refine ⟨JU _ _,apk ?_⟩
 cases e:k.format.mul a b with
 | none=>exact afz k
 | some v=>exact k.format.mul_lt e
theorem Zv{k:FloatKind}{s:Bool}{m m':Nat}{p p':Int}(h:k.format.read (k.format.nearest s m p) = .number s m' p'):FW k (k.format.nearest s m p) (k.format.nearest s m p):=⟨nR h,k.format.write_lt (.number s m p)⟩
theorem aiP{k:Int}(h1:-149≤k)(h2:k≤200):FW .f64 (Ae k) (Ae k):=Zv (xp h1 h2)
theorem WM{w:Nat}(h:nan .f64 (flr w)=false):FW .f64 (flr w) (flr w):=by
 refine ⟨?_,f64.format.write_lt _⟩
 unfold cn;rw[h,if_neg (by decide)]
theorem ao7:∀j,j<14->af6.take (j+1)=af6.take j++[14-j]:=by decide
theorem ac6(y s:Nat)(l:List Nat)(m:Nat):W0 y s (l++[m])=mF .f64 4607182418800017408 (fP .f64 (fdiv .f64 y (f64.nearest ((m:Nat):Int))) (W0 y s l)):=by
 simp only[W0,List.foldl_append,List.foldl_cons,List.foldl_nil]
theorem adj:FW .f64 4607182418800017408 4607182418800017408:=adu (by decide) (by decide)
theorem ajB:FW .f64 4604418534313441775 4604418534313441775:=adu (by decide) (by decide)
theorem ajC:FW .f32 3270508544 3270508544:=fK (by decide) (by decide)
theorem ajD:FW .f32 1123024896 1123024896:=fK (by decide) (by decide)
abbrev S2:=Nat×Nat×Nat×Int
section
variable {h:ab}{x a:Nat}
theorem W2{B:(S2->ab->Prop)->S2->ab->Prop}{k4 y5:Nat}(hy:FW .f64 y5 (YG a))(step:∀(N:S2->ab->Prop) (s:Nat) (m:Int),1≤m->m≤14->(FOP .f64 (f64.format.div y5 (f64.nearest m)) λr8=>FOP .f64 (f64.format.mul r8 s) λr9=>FOP .f64 (f64.format.add 4607182418800017408 r9) λAg=>N (k4,y5,Ag,i64.wrap (m-1)) h)->B N (k4,y5,s,m) h)(last:∀(N:S2->ab->Prop) (s:Nat),FW .f64 s (NW a)->B N (k4,y5,s,0) h):bh B (k4,y5,4607182418800017408,(14:Int)) h:=by
 refine loop (λx hh=>∃(j s:Nat),x=(k4,y5,s,((14-j:Nat):Int))∧j≤14∧FW .f64 s (W0 (YG a) 4607182418800017408 (af6.take j))∧hh=h) (λx=>x.2.2.2.toNat) ⟨0,_,rfl,by omega,adj,rfl⟩ ?_
 rintro x hh ⟨j,s,rfl,hj,hs,rfl⟩
 by_cases e:j=14
 ·subst e
  exact last _ s hs
 ·refine step _ s _ (by omega) (by omega) (fD hy (dr .f64 _) λr hr=>fM hr hs λr2 TM=>fA adj TM λr3 hr3=>?_)
  refine ⟨⟨j+1,r3,by rw[wrap64 (by omega) (by omega)];congr 3;omega,by omega,?_,rfl⟩,by rw[wrap64 (by omega) (by omega)];show (((14-j:Nat):Int)-1).toNat<((14-j:Nat):Int).toNat;omega⟩
  rw[ao7 j (by omega),ac6]
  exact hr3
theorem aeh(hx:FW .f32 x a):ae ai zL #[.float .f32 x] (λu h'=>(∃y,u = .tuple ⟨[.float .f32 y,.bool (nD a)]⟩∧FW .f32 y (if nD a then NX a else 0))∧Ext h h') h:=by
 refine eS.call ?_
 unfold eS.S
 rw[cY hx ajC,cY hx ajD]
 have no:∀{b:Bool},nD a=b->b=false->((∃y,Value.tuple ⟨[.float .f32 0,.bool false]⟩ = .tuple ⟨[.float .f32 y,.bool (nD a)]⟩∧FW .f32 y (if nD a then NX a else 0))∧Ext h h):=λe1 e2=>by
  subst e1;rw[e2];exact ⟨⟨0,rfl,fw0⟩,Ext.refl _⟩
 refine br (λk1=>brN (λk2=>no (by rw[nD,inside,fge,fle,k1,k2];rfl) rfl) λk2=>?_) λk1=>no (by rw[nD,inside,fge,k1];rfl) rfl
 have K6:nD a=true:=by rw[nD,inside,fge,fle,k1,k2];rfl
 obtain⟨f1,f2,f3,f4,f5,f6,f7⟩:=Fk K6
 rw[K6,if_pos rfl]
 have fin:∀{hh:ab}{y:Nat},FW .f32 y (nar (fP .f64 (NW a) (Ae (H8 a))))->Ext h hh->((∃y',Value.tuple ⟨[.float .f32 y,.bool true]⟩ = .tuple ⟨[.float .f32 y',.bool true]⟩∧FW .f32 y' (NX a))∧Ext h hh):=λhy X=>⟨⟨_,rfl,hy⟩,X⟩
 unfold eS.J3
 refine cK hx λr1 hr1=>?_
 obtain rfl:=hr1.eq f4
 refine goX (EJ f4 h) λh2 x2=>dv (cK hx λr5 hr5=>fS hr5 (WM f5) λr6 hr6=>fM hr6 ajB λr7 hr7=>?_)
 refine W2 (a:=a) hr7 (λN s m m1 m2 H=>brd (λ_=>H) λhc=>by omega) λN s hs=>?_
 unfold eS.B7
 refine brd (λhc=>by omega) λ_=>?_
 refine Ul f1 (by omega) (by omega) ((Xl (by omega) (by omega)).go λh3 x3=>dv ?_)
 refine fM hs (aiP (by omega) (by omega)) λr8 hr8=>?_
 refine Lj hr8 f7 λr9 hr9=>?_
 exact fin hr9 (x2.trans x3)
theorem agN(hx:FW .f32 x a):ae ai BG #[.float .f32 x] (λu h'=>(∃y,u = .tuple ⟨[.float .f32 y,.int .i64 (if nD a then 0 else 2)]⟩∧FW .f32 y (if nD a then NX a else 0))∧Ext h h') h:=by
 refine jN.call (goX (lS hx ajC ajD h) λh1 x1=>bd (brN (λk=>?_) λk=>?_))
 ·have K6:nD a=false:=k
  rw[K6];exact ⟨⟨0,rfl,fw0⟩,x1⟩
 have K6:nD a=true:=k
 obtain⟨f1,f2,f3,f4,f5,f6,f7⟩:=Fk K6
 rw[K6,if_pos rfl,if_pos rfl]
 have fin:∀{hh:ab}{y:Nat},FW .f32 y (nar (fP .f64 (NW a) (Ae (H8 a))))->Ext h hh->((∃y',Value.tuple ⟨[.float .f32 y,.int .i64 (0:Int)]⟩ = .tuple ⟨[.float .f32 y',.int .i64 (0:Int)]⟩∧FW .f32 y' (NX a))∧Ext h hh):=λhy X=>⟨⟨_,rfl,hy⟩,X⟩
 refine cK hx λr1 hr1=>?_
 obtain rfl:=hr1.eq f4
 refine goX (EJ f4 h1) λh2 x2=>dv (cK hx λr5 hr5=>fS hr5 (WM f5) λr6 hr6=>fM hr6 ajB λr7 hr7=>?_)
 refine W2 (a:=a) hr7 (λN s m m1 m2 H=>brd (λ_=>H) λhc=>by omega) λN s hs=>?_
 unfold jN.B7
 refine brd (λhc=>by omega) λ_=>?_
 obtain⟨mm,ee,hrd,_⟩:=f6
 have GH:nan .f64 (NW a)=false:=by unfold Sx.nan;rw[hrd];rfl
 have hse:=hs.eq GH
 subst hse
 obtain⟨f1,f2,f3,f4,f5,f6,f7⟩:=Fk K6
 refine Ul f1 (by omega) (by omega) ((agL f6 hs.2 (by omega) (by omega)).go λh3 x3=>dv ?_)
 refine Lj (aha _ _ _) f7 λr9 hr9=>?_
 exact fin hr9 (x1.trans (x2.trans x3))
end
theorem Jf{k n:Int}(hn:0<n):(Int.tmod k n<0->Int.tdiv k n-1=k / n)∧(¬Int.tmod k n<0->Int.tdiv k n=k / n)∧-n<Int.tmod k n∧Int.tmod k n<n∧(Int.tmod k n=k % n∨Int.tmod k n=k % n-n):=by
 rcases Int.lt_or_le k 0 with h | h
 ·obtain⟨j,rfl⟩:∃j,k = -j:=⟨-k,by omega⟩
  rw[Int.neg_tmod,Int.neg_tdiv,Int.tmod_eq_emod_of_nonneg (by omega),Int.tdiv_eq_ediv_of_nonneg (by omega)]
  have h1:=Int.emod_nonneg j (show n≠0 by omega)
  have h2:=Int.emod_lt_of_pos j hn
  have h3:=Int.emod_add_mul_ediv j n
  by_cases h0:j % n=0
  ·have:=(Int.ediv_emod_unique hn (a:=-j) (r:=0) (q:=-(j / n))).2 ⟨by rw[Int.mul_neg];omega,by omega,hn⟩
   rw[this.1,this.2]
   omega
  ·have:=(Int.ediv_emod_unique hn (a:=-j) (r:=n-j % n) (q:=-(j / n)-1)).2 ⟨by rw[Int.mul_sub,Int.mul_neg];omega,by omega,by omega⟩
   rw[this.1,this.2]
   omega
 ·rw[Int.tmod_eq_emod_of_nonneg h,Int.tdiv_eq_ediv_of_nonneg h]
  have h1:=Int.emod_nonneg k (show n≠0 by omega)
  have h2:=Int.emod_lt_of_pos k hn
  omega
theorem afZ{k n:Int}(hn:0<n):Int.tmod (Int.tmod k n+n) n=k % n:=by
 obtain⟨_,_,h1,h2,h3⟩:=Jf (k:=k) hn
 rw[Int.tmod_eq_emod_of_nonneg (by omega)]
 rcases h3 with h3 | h3
 ·rw[h3,Int.add_emod_right,Int.emod_emod_of_dvd _ (Int.dvd_refl n)]
 ·rw[h3,Int.sub_add_cancel,Int.emod_emod_of_dvd _ (Int.dvd_refl n)]
theorem afW{k n:Int}(hn:0<n):Int.tdiv (k-k % n) n=k / n:=by
 have h3:=Int.emod_add_mul_ediv k n
 rw[show k-k % n=n*(k / n) by omega,Int.mul_tdiv_cancel_left _ (by omega)]
theorem LQ{k n:Int}(hn:0<n)(h1:-100≤k)(h2:k≤100):-101≤k / n∧k / n≤100:=by
 constructor
 ·exact (Int.le_ediv_iff_mul_le hn).2 (by omega)
 ·have:=(Int.ediv_lt_iff_lt_mul hn (a:=k) (b:=101)).2 (by omega)
  omega
end Go.Sx
