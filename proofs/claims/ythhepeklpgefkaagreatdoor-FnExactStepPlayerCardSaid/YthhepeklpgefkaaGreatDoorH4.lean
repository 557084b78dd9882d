/- Lemmas. -/
import Derived.Test.YthhepeklpgefkaaGreatDoorTab
set_option linter.unusedVariables false
set_option linter.unusedSimpArgs false
namespace Go.Sx
open FloatKind (f32 f64)
open IntKind (i64)
open Go.Proofs
set_option maxRecDepth 100000
def A6.S(a_0:Array Value)(cq:Int)(aa:VH)(h:ab):=
 ALC a_0 zs (λd a=>
 oL (cell a ⟨d,2,none⟩) λKa Hd e=>
 ae ai lO #[.slice Ka Hd e,.int .i64 cq] (λf b=>
 asI .i64 f λc=>
 BIF ((decide (c<0))) (
 aa (.int .i64 (-1)) b) (
 aa (.int .i64 c) b)) a) h
theorem A6.call{a_0:Array Value}{cq:Int}{aa:VH}{h:ab}(H:A6.S a_0 cq aa h):ae ai vA #[.agg a_0,.int .i64 cq] aa h:=
 qc (Λ:=an []) Tryz.func56
 qf
 (qe H)
def sW.S(a_0:Array Value)(cq:Int)(aa:VH)(h:ab):=
 ALC a_0 rV (λc a=>
 oS (cell a ⟨c,0,none⟩) λb=>
 BIF ((decide ((i64.wrap (cq-((ByteArray.size b):Int)))<0))) (
 aa (.int .i64 (-1)) a) (
 aa (.int .i64 ((i64.wrap (cq-((ByteArray.size b):Int))))) a)) h
theorem sW.call{a_0:Array Value}{cq:Int}{aa:VH}{h:ab}(H:sW.S a_0 cq aa h):ae ai pK #[.agg a_0,.int .i64 cq] aa h:=
 qc (Λ:=an []) Tryz.func125
 qf
 (qe H)
def dU.B5(aa:VH)(c:(Option Addr×Nat×Nat×Int×Int)->ab->Prop):Option Addr×Nat×Nat×Int×Int->ab->Prop
 | (aQ,aD,bC,cq,i_5),h=>
 BIF ((decide (i_5<(aD:Int)))) (
 bg aQ i_5 aD λd=>
 LDA 5 h ((Addr.add d (i_5.toNat*5))) λe=>
 ae ai pK #[.agg e,.int .i64 cq] (λf a=>
 asI .i64 f λb=>
 BIF ((decide (b<0))) (
 aa (.int .i64 (-1)) a) (
 c (aQ,aD,bC,b,((i64.wrap (i_5+1)))) a)) h) (
 aa (.int .i64 cq) h)
def dU.g5(fr:Frame):Option Addr×Nat×Nat×Int×Int:=((gLb (ah fr 0)),(gLl (ah fr 0)),(gLc (ah fr 0)),(gI (ah fr 1)),(gI (ah fr 5)))
def dU.l5(aa:VH):=gg (kds 27 [(0,.l),(1,.i .i64),(5,.i .i64)]) λfr=>bh (dU.B5 aa) (dU.g5 fr)
def dU.S(aQ:Option Addr)(aD bC:Nat)(cq:Int)(aa:VH)(h:ab):=
 BIF ((decide ((i64.wrap (cq-(aD:Int)))<0))) (
 aa (.int .i64 (-1)) h) (
 bh (dU.B5 aa) (aQ,aD,bC,((i64.wrap (cq-(aD:Int)))),0) h)
theorem dU.call{aQ:Option Addr}{aD bC:Nat}{cq:Int}{aa:VH}{h:ab}(H:dU.S aQ aD bC cq aa h):ae ai oy #[.slice aQ aD bC,.int .i64 cq] aa h:=
 qc (Λ:=an [(1000005,dU.l5 aa)]) Tryz.func57
 (qs qf (qs qf (qs qf (qs (qs qf (Rq.block (ql (dU.l5 aa) (qg (g:=dU.g5) (Λ:=λa=>an []) (λ_ _ _=>by kernel_rfl) (λa=>qf))))) qf))))
 (qe H)
def uO.S(aQ:Option Addr)(aD bC:Nat)(cq:Int)(aa:VH)(h:ab):=
 BIF ((decide ((i64.wrap (cq-(aD:Int)))<0))) (
 aa (.int .i64 (-1)) h) (
 aa (.int .i64 ((i64.wrap (cq-(aD:Int))))) h)
theorem uO.call{aQ:Option Addr}{aD bC:Nat}{cq:Int}{aa:VH}{h:ab}(H:uO.S aQ aD bC cq aa h):ae ai vy #[.slice aQ aD bC,.int .i64 cq] aa h:=
 qc (Λ:=an []) Tryz.func58
 qf
 (qe H)
def Cd.S(a_0:Array Value)(cq:Int)(aa:VH)(h:ab):=
 ALC a_0 Bw (λa d=>
 LDA 3 d ⟨a,1,none⟩ λg=>
 ae ai vA #[.agg g,.int .i64 cq] (λi b=>
 asI .i64 i λe=>
 BIF ((decide (e<0))) (
 aa (.int .i64 (-1)) b) (
 oL (cell b ⟨a,4,none⟩) λAu yL AN=>
 ae ai oy #[.slice Au yL AN,.int .i64 e] (λj c=>
 asI .i64 j λrD=>
 BIF ((decide (rD<0))) (
 aa (.int .i64 (-1)) c) (
 oL (cell c ⟨a,5,none⟩) λrN qd ui=>
 ae ai vy #[.slice rN qd ui,.int .i64 rD] (λuu gf=>
 asI .i64 uu λf=>
 BIF ((decide (f<0))) (
 aa (.int .i64 (-1)) gf) (
 aa (.int .i64 f) gf)) c)) b)) d) h
theorem Cd.call{a_0:Array Value}{cq:Int}{aa:VH}{h:ab}(H:Cd.S a_0 cq aa h):ae ai xH #[.agg a_0,.int .i64 cq] aa h:=
 qc (Λ:=an []) Tryz.func12
 qf
 (qe H)
def A5.S(a_0:Array Value)(cq:Int)(aa:VH)(h:ab):=
 ALC a_0 zr (λd a=>
 LDA 2 a ⟨d,0,none⟩ λe=>
 ae ai nO #[.agg e,.int .i64 cq] (λf b=>
 asI .i64 f λc=>
 BIF ((decide (c<0))) (
 aa (.int .i64 (-1)) b) (
 aa (.int .i64 c) b)) a) h
theorem A5.call{a_0:Array Value}{cq:Int}{aa:VH}{h:ab}(H:A5.S a_0 cq aa h):ae ai vz #[.agg a_0,.int .i64 cq] aa h:=
 qc (Λ:=an []) Tryz.func244
 qf
 (qe H)
def GM.S(a_0:Array Value)(cq:Int)(aa:VH)(h:ab):=
 ALC a_0 Gm (λb c=>
 LDA 2 c ⟨b,0,none⟩ λf=>
 ae ai nO #[.agg f,.int .i64 cq] (λg a=>
 asI .i64 g λd=>
 BIF ((decide (d<0))) (
 aa (.int .i64 (-1)) a) (
 LDA 2 a ⟨b,2,none⟩ λi=>
 ae ai nO #[.agg i,.int .i64 d] (λj e=>
 asI .i64 j λrD=>
 BIF ((decide (rD<0))) (
 aa (.int .i64 (-1)) e) (
 aa (.int .i64 rD) e)) a)) c) h
theorem GM.call{a_0:Array Value}{cq:Int}{aa:VH}{h:ab}(H:GM.S a_0 cq aa h):ae ai BI #[.agg a_0,.int .i64 cq] aa h:=
 qc (Λ:=an []) Tryz.func246
 qf
 (qe H)
def Ce.S(a_0:Array Value)(cq:Int)(aa:VH)(h:ab):=
 ALC a_0 Bx (λa d=>
 LDA 15 d ⟨a,5,none⟩ λg=>
 ae ai vz #[.agg g,.int .i64 cq] (λi b=>
 asI .i64 i λe=>
 BIF ((decide (e<0))) (
 aa (.int .i64 (-1)) b) (
 LDA 13 b ⟨a,20,none⟩ λj=>
 ae ai zH #[.agg j,.int .i64 e] (λk c=>
 asI .i64 k λrD=>
 BIF ((decide (rD<0))) (
 aa (.int .i64 (-1)) c) (
 LDA 12 c ⟨a,33,none⟩ λtq=>
 ae ai BI #[.agg tq,.int .i64 rD] (λuu gf=>
 asI .i64 uu λf=>
 BIF ((decide (f<0))) (
 aa (.int .i64 (-1)) gf) (
 aa (.int .i64 f) gf)) c)) b)) d) h
theorem Ce.call{a_0:Array Value}{cq:Int}{aa:VH}{h:ab}(H:Ce.S a_0 cq aa h):ae ai xI #[.agg a_0,.int .i64 cq] aa h:=
 qc (Λ:=an []) Tryz.func175
 qf
 (qe H)
def gQ.B5(aa:VH)(c:(Option Addr×Nat×Nat×Int×Int)->ab->Prop):Option Addr×Nat×Nat×Int×Int->ab->Prop
 | (aQ,aD,bC,cq,i_5),h=>
 BIF ((decide (i_5<(aD:Int)))) (
 bg aQ i_5 aD λd=>
 LDA 45 h ((Addr.add d (i_5.toNat*45))) λe=>
 ae ai xI #[.agg e,.int .i64 cq] (λf a=>
 asI .i64 f λb=>
 BIF ((decide (b<0))) (
 aa (.int .i64 (-1)) a) (
 c (aQ,aD,bC,b,((i64.wrap (i_5+1)))) a)) h) (
 aa (.int .i64 cq) h)
def gQ.g5(fr:Frame):Option Addr×Nat×Nat×Int×Int:=((gLb (ah fr 0)),(gLl (ah fr 0)),(gLc (ah fr 0)),(gI (ah fr 1)),(gI (ah fr 5)))
def gQ.l5(aa:VH):=gg (kds 27 [(0,.l),(1,.i .i64),(5,.i .i64)]) λfr=>bh (gQ.B5 aa) (gQ.g5 fr)
def gQ.S(aQ:Option Addr)(aD bC:Nat)(cq:Int)(aa:VH)(h:ab):=
 BIF ((decide ((i64.wrap (cq-(aD:Int)))<0))) (
 aa (.int .i64 (-1)) h) (
 bh (gQ.B5 aa) (aQ,aD,bC,((i64.wrap (cq-(aD:Int)))),0) h)
theorem gQ.call{aQ:Option Addr}{aD bC:Nat}{cq:Int}{aa:VH}{h:ab}(H:gQ.S aQ aD bC cq aa h):ae ai vB #[.slice aQ aD bC,.int .i64 cq] aa h:=
 qc (Λ:=an [(1000005,gQ.l5 aa)]) Tryz.func109
 (qs qf (qs qf (qs qf (qs (qs qf (Rq.block (ql (gQ.l5 aa) (qg (g:=gQ.g5) (Λ:=λa=>an []) (λ_ _ _=>by kernel_rfl) (λa=>qf))))) qf))))
 (qe H)
def A4.S(a_0:Array Value)(cq:Int)(aa:VH)(h:ab):=
 ALC a_0 kT (λb c=>
 LDA 6 c ⟨b,0,none⟩ λf=>
 ae ai xH #[.agg f,.int .i64 cq] (λg a=>
 asI .i64 g λd=>
 BIF ((decide (d<0))) (
 aa (.int .i64 (-1)) a) (
 oL (cell a ⟨b,6,none⟩) λAu yL AN=>
 ae ai vB #[.slice Au yL AN,.int .i64 d] (λi e=>
 asI .i64 i λrD=>
 BIF ((decide (rD<0))) (
 aa (.int .i64 (-1)) e) (
 aa (.int .i64 rD) e)) a)) c) h
theorem A4.call{a_0:Array Value}{cq:Int}{aa:VH}{h:ab}(H:A4.S a_0 cq aa h):ae ai qw #[.agg a_0,.int .i64 cq] aa h:=
 qc (Λ:=an []) Tryz.func30
 qf
 (qe H)
def Ab.S(a_0:Array Value)(aa:VH)(h:ab):=
 ALC a_0 zs (λb f=>
 ALC ⟨pV⟩ ey (λc g=>
 ALC ⟨pV⟩ ey (λa d=>
 oF .f32 (cell d ⟨b,0,none⟩) λi=>
 ST1 d ⟨a,0,none⟩ (.float .f32 i) λe=>
 oF .f32 (cell e ⟨b,1,none⟩) λj=>
 ST1 e ⟨a,1,none⟩ (.float .f32 j) λgd=>
 oL (cell gd ⟨b,2,none⟩) λrN qd ui=>
 ae ai lP #[.slice rN qd ui] (λuu gf=>
 asL uu λFC DX Jt=>
 ST1 gf ⟨a,2,none⟩ (.slice FC DX Jt) λkB=>
 LDA 3 kB ⟨a,0,none⟩ λIK=>
 STA 3 kB ⟨c,0,none⟩ IK λoZ=>
 LDA 3 oZ ⟨c,0,none⟩ λk=>
 aa (.agg k) oZ) gd) g) f) h
theorem Ab.call{a_0:Array Value}{aa:VH}{h:ab}(H:Ab.S a_0 aa h):ae ai vE #[.agg a_0] aa h:=
 qc (Λ:=an []) Tryz.func63
 qf
 (qe H)
def sX.S(a_0:Array Value)(aa:VH)(h:ab):=
 ALC a_0 rV (λb f=>
 ALC ⟨gY⟩ bk (λc g=>
 ALC ⟨gY⟩ bk (λa d=>
 oS (cell d ⟨b,0,none⟩) λi=>
 ST1 d ⟨a,0,none⟩ (.string i) λe=>
 oI .i64 (cell e ⟨b,1,none⟩) λj=>
 ST1 e ⟨a,1,none⟩ (.int .i64 j) λgd=>
 oF .f32 (cell gd ⟨b,2,none⟩) λDg=>
 ST1 gd ⟨a,2,none⟩ (.float .f32 Dg) λiG=>
 oF .f32 (cell iG ⟨b,3,none⟩) λCu=>
 ST1 iG ⟨a,3,none⟩ (.float .f32 Cu) λke=>
 oF .f32 (cell ke ⟨b,4,none⟩) λuQ=>
 ST1 ke ⟨a,4,none⟩ (.float .f32 uQ) λiJ=>
 LDA 5 iJ ⟨a,0,none⟩ λHt=>
 STA 5 iJ ⟨c,0,none⟩ Ht λjn=>
 LDA 5 jn ⟨c,0,none⟩ λk=>
 aa (.agg k) jn) g) f) h
theorem sX.call{a_0:Array Value}{aa:VH}{h:ab}(H:sX.S a_0 aa h):ae ai pL #[.agg a_0] aa h:=
 qc (Λ:=an []) Tryz.func130
 qf
 (qe H)
def eE.B3(aa:VH)(d:(Option Addr×Nat×Nat×Option Addr×Nat×Nat×Int)->ab->Prop):Option Addr×Nat×Nat×Option Addr×Nat×Nat×Int->ab->Prop
 | (aQ,aD,bC,a,b,c,i_4),h=>
 BIF ((decide (i_4<(aD:Int)))) (
 bg aQ i_4 aD λe=>
 LDA 5 h ((Addr.add e (i_4.toNat*5))) λf=>
 ae ai pL #[.agg f] (λg gd=>
 asA g λtq=>
 bg a i_4 b λOo=>
 STA 5 gd ((Addr.add Oo (i_4.toNat*5))) tq λgf=>
 d (aQ,aD,bC,a,b,c,((i64.wrap (i_4+1)))) gf) h) (
 aa (.slice a b c) h)
def eE.g3(fr:Frame):Option Addr×Nat×Nat×Option Addr×Nat×Nat×Int:=((gLb (ah fr 0)),(gLl (ah fr 0)),(gLc (ah fr 0)),(gLb (ah fr 3)),(gLl (ah fr 3)),(gLc (ah fr 3)),(gI (ah fr 4)))
def eE.l3(aa:VH):=gg (kds 23 [(0,.l),(3,.l),(4,.i .i64)]) λfr=>bh (eE.B3 aa) (eE.g3 fr)
def eE.S(aQ:Option Addr)(aD bC:Nat)(aa:VH)(h:ab):=
 MKS rm bk (aD:Int) (aD:Int) (λa b=>
 bh (eE.B3 aa) (aQ,aD,bC,(some ⟨a,0,none⟩),aD,aD,0) b) h
theorem eE.call{aQ:Option Addr}{aD bC:Nat}{aa:VH}{h:ab}(H:eE.S aQ aD bC aa h):ae ai oz #[.slice aQ aD bC] aa h:=
 qc (Λ:=an [(1000003,eE.l3 aa)]) Tryz.func64
 (qs qf (qs qf (qs (qs qf (Rq.block (ql (eE.l3 aa) (qg (g:=eE.g3) (Λ:=λa=>an []) (λ_ _ _=>by kernel_rfl) (λa=>qf))))) qf)))
 (qe H)
def Cf.S(a_0:Array Value)(aa:VH)(h:ab):=
 ALC a_0 Hg (λb f=>
 ALC ⟨gX⟩ bq (λc g=>
 ALC ⟨gX⟩ bq (λa d=>
 oI .i64 (cell d ⟨b,0,none⟩) λi=>
 ST1 d ⟨a,0,none⟩ (.int .i64 i) λe=>
 oI .i64 (cell e ⟨b,1,none⟩) λj=>
 ST1 e ⟨a,1,none⟩ (.int .i64 j) λgd=>
 oI .i64 (cell gd ⟨b,2,none⟩) λBq=>
 ST1 gd ⟨a,2,none⟩ (.int .i64 Bq) λiG=>
 oI .i64 (cell iG ⟨b,3,none⟩) λQw=>
 ST1 iG ⟨a,3,none⟩ (.int .i64 Qw) λke=>
 oI .i64 (cell ke ⟨b,4,none⟩) λKh=>
 ST1 ke ⟨a,4,none⟩ (.int .i64 Kh) λiJ=>
 oF .f32 (cell iJ ⟨b,5,none⟩) λk=>
 ST1 iJ ⟨a,5,none⟩ (.float .f32 k) λjn=>
 LDA 6 jn ⟨a,0,none⟩ λl=>
 STA 6 jn ⟨c,0,none⟩ l λjZ=>
 LDA 6 jZ ⟨c,0,none⟩ λm=>
 aa (.agg m) jZ) g) f) h
theorem Cf.call{a_0:Array Value}{aa:VH}{h:ab}(H:Cf.S a_0 aa h):ae ai xJ #[.agg a_0] aa h:=
 qc (Λ:=an []) Tryz.func25
 qf
 (qe H)
def ie.B3(aa:VH)(d:(Option Addr×Nat×Nat×Option Addr×Nat×Nat×Int)->ab->Prop):Option Addr×Nat×Nat×Option Addr×Nat×Nat×Int->ab->Prop
 | (aQ,aD,bC,a,b,c,i_4),h=>
 BIF ((decide (i_4<(aD:Int)))) (
 bg aQ i_4 aD λe=>
 LDA 6 h ((Addr.add e (i_4.toNat*6))) λf=>
 ae ai xJ #[.agg f] (λg gd=>
 asA g λtq=>
 bg a i_4 b λOo=>
 STA 6 gd ((Addr.add Oo (i_4.toNat*6))) tq λgf=>
 d (aQ,aD,bC,a,b,c,((i64.wrap (i_4+1)))) gf) h) (
 aa (.slice a b c) h)
def ie.g3(fr:Frame):Option Addr×Nat×Nat×Option Addr×Nat×Nat×Int:=((gLb (ah fr 0)),(gLl (ah fr 0)),(gLc (ah fr 0)),(gLb (ah fr 3)),(gLl (ah fr 3)),(gLc (ah fr 3)),(gI (ah fr 4)))
def ie.l3(aa:VH):=gg (kds 23 [(0,.l),(3,.l),(4,.i .i64)]) λfr=>bh (ie.B3 aa) (ie.g3 fr)
def ie.S(aQ:Option Addr)(aD bC:Nat)(aa:VH)(h:ab):=
 MKS Ap bq (aD:Int) (aD:Int) (λa b=>
 bh (ie.B3 aa) (aQ,aD,bC,(some ⟨a,0,none⟩),aD,aD,0) b) h
theorem ie.call{aQ:Option Addr}{aD bC:Nat}{aa:VH}{h:ab}(H:ie.S aQ aD bC aa h):ae ai vC #[.slice aQ aD bC] aa h:=
 qc (Λ:=an [(1000003,ie.l3 aa)]) Tryz.func65
 (qs qf (qs qf (qs (qs qf (Rq.block (ql (ie.l3 aa) (qg (g:=ie.g3) (Λ:=λa=>an []) (λ_ _ _=>by kernel_rfl) (λa=>qf))))) qf)))
 (qe H)
def Cg.S(a_0:Array Value)(aa:VH)(h:ab):=
 ALC a_0 Bw (λb f=>
 ALC ⟨eN⟩ bt (λc g=>
 ALC ⟨eN⟩ bt (λa d=>
 oF .f32 (cell d ⟨b,0,none⟩) λi=>
 ST1 d ⟨a,0,none⟩ (.float .f32 i) λe=>
 LDA 3 e ⟨b,1,none⟩ λj=>
 ae ai vE #[.agg j] (λAf kc=>
 asA Af λGu=>
 STA 3 kc ⟨a,1,none⟩ Gu λgf=>
 oL (cell gf ⟨b,4,none⟩) λFC DX Jt=>
 ae ai oz #[.slice FC DX Jt] (λDc iJ=>
 asL Dc λUM SL Xs=>
 ST1 iJ ⟨a,4,none⟩ (.slice UM SL Xs) λjn=>
 oL (cell jn ⟨b,5,none⟩) λUN SN Xu=>
 ae ai vC #[.slice UN SN Xu] (λk qz=>
 asL k λXx Xy ael=>
 ST1 qz ⟨a,5,none⟩ (.slice Xx Xy ael) λmZ=>
 LDA 6 mZ ⟨a,0,none⟩ λl=>
 STA 6 mZ ⟨c,0,none⟩ l λoJ=>
 LDA 6 oJ ⟨c,0,none⟩ λm=>
 aa (.agg m) oJ) jn) gf) e) g) f) h
theorem Cg.call{a_0:Array Value}{aa:VH}{h:ab}(H:Cg.S a_0 aa h):ae ai xK #[.agg a_0] aa h:=
 qc (Λ:=an []) Tryz.func14
 qf
 (qe H)
def Aa.S(a_0:Array Value)(aa:VH)(h:ab):=
 ALC a_0 zr (λb e=>
 ALC ⟨aL⟩ aB (λc f=>
 ALC ⟨aL⟩ aB (λa d=>
 LDA 2 d ⟨b,0,none⟩ λg=>
 ae ai nP #[.agg g] (λi j=>
 asA i λAz=>
 STA 2 j ⟨a,0,none⟩ Az λkc=>
 LDA 6 kc ⟨b,2,none⟩ λGu=>
 ae ai lD #[.agg Gu] (λyM ke=>
 asA yM λRP=>
 STA 6 ke ⟨a,2,none⟩ RP λiJ=>
 LDA 6 iJ ⟨b,8,none⟩ λHt=>
 ae ai lD #[.agg Ht] (λTi tz=>
 asA Ti λHu=>
 STA 6 tz ⟨a,8,none⟩ Hu λqz=>
 oF .f32 (cell qz ⟨b,14,none⟩) λPG=>
 ST1 qz ⟨a,14,none⟩ (.float .f32 PG) λmZ=>
 LDA 15 mZ ⟨a,0,none⟩ λk=>
 STA 15 mZ ⟨c,0,none⟩ k λoJ=>
 LDA 15 oJ ⟨c,0,none⟩ λl=>
 aa (.agg l) oJ) iJ) kc) d) f) e) h
theorem Aa.call{a_0:Array Value}{aa:VH}{h:ab}(H:Aa.S a_0 aa h):ae ai vD #[.agg a_0] aa h:=
 qc (Λ:=an []) Tryz.func252
 qf
 (qe H)
def GN.S(a_0:Array Value)(aa:VH)(h:ab):=
 ALC a_0 Gm (λb e=>
 ALC ⟨cH⟩ dc (λc f=>
 ALC ⟨cH⟩ dc (λa d=>
 LDA 2 d ⟨b,0,none⟩ λg=>
 ae ai nP #[.agg g] (λi j=>
 asA i λAz=>
 STA 2 j ⟨a,0,none⟩ Az λkc=>
 LDA 2 kc ⟨b,2,none⟩ λGu=>
 ae ai nP #[.agg Gu] (λyM ke=>
 asA yM λRP=>
 STA 2 ke ⟨a,2,none⟩ RP λiJ=>
 LDA 6 iJ ⟨b,4,none⟩ λHt=>
 ae ai lD #[.agg Ht] (λTi tz=>
 asA Ti λHu=>
 STA 6 tz ⟨a,4,none⟩ Hu λqz=>
 oF .f32 (cell qz ⟨b,10,none⟩) λPG=>
 ST1 qz ⟨a,10,none⟩ (.float .f32 PG) λmZ=>
 oF .f32 (cell mZ ⟨b,11,none⟩) λIN=>
 ST1 mZ ⟨a,11,none⟩ (.float .f32 IN) λoJ=>
 LDA 12 oJ ⟨a,0,none⟩ λk=>
 STA 12 oJ ⟨c,0,none⟩ k λwP=>
 LDA 12 wP ⟨c,0,none⟩ λl=>
 aa (.agg l) wP) iJ) kc) d) f) e) h
theorem GN.call{a_0:Array Value}{aa:VH}{h:ab}(H:GN.S a_0 aa h):ae ai BJ #[.agg a_0] aa h:=
 qc (Λ:=an []) Tryz.func254
 qf
 (qe H)
def Ch.S(a_0:Array Value)(aa:VH)(h:ab):=
 ALC a_0 Bx (λb f=>
 ALC ⟨aW⟩ ao (λc g=>
 ALC ⟨aW⟩ ao (λa d=>
 oI .i64 (cell d ⟨b,0,none⟩) λi=>
 ST1 d ⟨a,0,none⟩ (.int .i64 i) λe=>
 oI .i64 (cell e ⟨b,1,none⟩) λj=>
 ST1 e ⟨a,1,none⟩ (.int .i64 j) λgd=>
 oI .i64 (cell gd ⟨b,2,none⟩) λBq=>
 ST1 gd ⟨a,2,none⟩ (.int .i64 Bq) λiG=>
 oB (cell iG ⟨b,3,none⟩) λHb=>
 ST1 iG ⟨a,3,none⟩ (.bool Hb) λke=>
 oF .f32 (cell ke ⟨b,4,none⟩) λuQ=>
 ST1 ke ⟨a,4,none⟩ (.float .f32 uQ) λiJ=>
 LDA 15 iJ ⟨b,5,none⟩ λHt=>
 ae ai vD #[.agg Ht] (λTi tz=>
 asA Ti λHu=>
 STA 15 tz ⟨a,5,none⟩ Hu λqz=>
 LDA 13 qz ⟨b,20,none⟩ λk=>
 ae ai zI #[.agg k] (λl m=>
 asA l λWt=>
 STA 13 m ⟨a,20,none⟩ Wt λwO=>
 LDA 12 wO ⟨b,33,none⟩ λn=>
 ae ai BJ #[.agg n] (λo ry=>
 asA o λp=>
 STA 12 ry ⟨a,33,none⟩ p λDL=>
 LDA 45 DL ⟨a,0,none⟩ λq=>
 STA 45 DL ⟨c,0,none⟩ q λLk=>
 LDA 45 Lk ⟨c,0,none⟩ λr=>
 aa (.agg r) Lk) wO) qz) iJ) g) f) h
theorem Ch.call{a_0:Array Value}{aa:VH}{h:ab}(H:Ch.S a_0 aa h):ae ai xL #[.agg a_0] aa h:=
 qc (Λ:=an []) Tryz.func178
 qf
 (qe H)
def ig.B3(aa:VH)(d:(Option Addr×Nat×Nat×Option Addr×Nat×Nat×Int)->ab->Prop):Option Addr×Nat×Nat×Option Addr×Nat×Nat×Int->ab->Prop
 | (aQ,aD,bC,a,b,c,i_4),h=>
 BIF ((decide (i_4<(aD:Int)))) (
 bg aQ i_4 aD λe=>
 LDA 45 h ((Addr.add e (i_4.toNat*45))) λf=>
 ae ai xL #[.agg f] (λg gd=>
 asA g λtq=>
 bg a i_4 b λOo=>
 STA 45 gd ((Addr.add Oo (i_4.toNat*45))) tq λgf=>
 d (aQ,aD,bC,a,b,c,((i64.wrap (i_4+1)))) gf) h) (
 aa (.slice a b c) h)
def ig.g3(fr:Frame):Option Addr×Nat×Nat×Option Addr×Nat×Nat×Int:=((gLb (ah fr 0)),(gLl (ah fr 0)),(gLc (ah fr 0)),(gLb (ah fr 3)),(gLl (ah fr 3)),(gLc (ah fr 3)),(gI (ah fr 4)))
def ig.l3(aa:VH):=gg (kds 23 [(0,.l),(3,.l),(4,.i .i64)]) λfr=>bh (ig.B3 aa) (ig.g3 fr)
def ig.S(aQ:Option Addr)(aD bC:Nat)(aa:VH)(h:ab):=
 MKS Aq ao (aD:Int) (aD:Int) (λa b=>
 bh (ig.B3 aa) (aQ,aD,bC,(some ⟨a,0,none⟩),aD,aD,0) b) h
theorem ig.call{aQ:Option Addr}{aD bC:Nat}{aa:VH}{h:ab}(H:ig.S aQ aD bC aa h):ae ai vF #[.slice aQ aD bC] aa h:=
 qc (Λ:=an [(1000003,ig.l3 aa)]) Tryz.func111
 (qs qf (qs qf (qs (qs qf (Rq.block (ql (ig.l3 aa) (qg (g:=ig.g3) (Λ:=λa=>an []) (λ_ _ _=>by kernel_rfl) (λa=>qf))))) qf)))
 (qe H)
def A9.S(a_0:Array Value)(aa:VH)(h:ab):=
 ALC a_0 kT (λb f=>
 ALC ⟨bx⟩ aE (λc g=>
 ALC ⟨bx⟩ aE (λa d=>
 LDA 6 d ⟨b,0,none⟩ λi=>
 ae ai xK #[.agg i] (λj k=>
 asA j λAz=>
 STA 6 k ⟨a,0,none⟩ Az λkc=>
 oL (cell kc ⟨b,6,none⟩) λKY Js KZ=>
 ae ai vF #[.slice KY Js KZ] (λyM ke=>
 asL yM λFD l HX=>
 ST1 ke ⟨a,6,none⟩ (.slice FD l HX) λiJ=>
 oI .i64 (cell iJ ⟨b,7,none⟩) λWa=>
 ST1 iJ ⟨a,7,none⟩ (.int .i64 Wa) λjn=>
 oI .i64 (cell jn ⟨b,8,none⟩) λm=>
 ST1 jn ⟨a,8,none⟩ (.int .i64 m) λjZ=>
 oI .i64 (cell jZ ⟨b,9,none⟩) λn=>
 ST1 jZ ⟨a,9,none⟩ (.int .i64 n) λrM=>
 LDA 10 rM ⟨a,0,none⟩ λo=>
 STA 10 rM ⟨c,0,none⟩ o λe=>
 LDA 10 e ⟨c,0,none⟩ λWt=>
 aa (.agg Wt) e) kc) d) g) f) h
theorem A9.call{a_0:Array Value}{aa:VH}{h:ab}(H:A9.S a_0 aa h):ae ai lE #[.agg a_0] aa h:=
 qc (Λ:=an []) Tryz.func32
 qf
 (qe H)
def A3.S(a_0:Array Value)(b_1:Array Value)(aa:VH)(h:ab):=
 ALC a_0 ey (λa d=>
 ALC b_1 ey (λb c=>
 oF .f32 (cell c ⟨a,0,none⟩) λe=>
 FFC .f32 e .f64 λf=>
 oF .f32 (cell c ⟨b,0,none⟩) λg=>
 FFC .f32 g .f64 λi=>
 ae ai bS #[.float .f64 f,.float .f64 i] (λj gd=>
 asB j λPX=>
 BIF (!PX) (
 aa (.bool false) gd) (
 oF .f32 (cell gd ⟨a,1,none⟩) λwX=>
 FFC .f32 wX .f64 λCu=>
 oF .f32 (cell gd ⟨b,1,none⟩) λFJ=>
 FFC .f32 FJ .f64 λuQ=>
 ae ai bS #[.float .f64 Cu,.float .f64 uQ] (λk oZ=>
 asB k λWz=>
 BIF (!Wz) (
 aa (.bool false) oZ) (
 oL (cell oZ ⟨a,2,none⟩) λUN SN Xu=>
 oL (cell oZ ⟨b,2,none⟩) λabb Xv aek=>
 ae ai lN #[.slice UN SN Xu,.slice abb Xv aek] (λKi rM=>
 asB Ki λl=>
 BIF (!l) (
 aa (.bool false) rM) (
 aa (.bool true) rM)) oZ)) gd)) c) d) h
theorem A3.call{a_0:Array Value}{b_1:Array Value}{aa:VH}{h:ab}(H:A3.S a_0 b_1 aa h):ae ai vw #[.agg a_0,.agg b_1] aa h:=
 qc (Λ:=an []) Tryz.func71
 qf
 (qe H)
def sV.S(a_0:Array Value)(b_1:Array Value)(aa:VH)(h:ab):=
 ALC a_0 bk (λb d=>
 ALC b_1 bk (λc a=>
 oS (cell a ⟨b,0,none⟩) λe=>
 oS (cell a ⟨c,0,none⟩) λf=>
 BIF (!(ByteArray.toList e==ByteArray.toList f)) (
 aa (.bool false) a) (
 oI .i64 (cell a ⟨b,1,none⟩) λg=>
 oI .i64 (cell a ⟨c,1,none⟩) λi=>
 BIF (g != i) (
 aa (.bool false) a) (
 oF .f32 (cell a ⟨b,2,none⟩) λj=>
 FFC .f32 j .f64 λAg=>
 oF .f32 (cell a ⟨c,2,none⟩) λDg=>
 FFC .f32 Dg .f64 λwX=>
 ae ai bS #[.float .f64 Ag,.float .f64 wX] (λyM ke=>
 asB yM λk=>
 BIF (!k) (
 aa (.bool false) ke) (
 oF .f32 (cell ke ⟨b,3,none⟩) λHe=>
 FFC .f32 He .f64 λl=>
 oF .f32 (cell ke ⟨c,3,none⟩) λzf=>
 FFC .f32 zf .f64 λZE=>
 ae ai bS #[.float .f64 l,.float .f64 ZE] (λm qz=>
 asB m λn=>
 BIF (!n) (
 aa (.bool false) qz) (
 oF .f32 (cell qz ⟨b,4,none⟩) λo=>
 FFC .f32 o .f64 λIN=>
 oF .f32 (cell qz ⟨c,4,none⟩) λQL=>
 FFC .f32 QL .f64 λYi=>
 ae ai bS #[.float .f64 IN,.float .f64 Yi] (λTj uN=>
 asB Tj λp=>
 BIF (!p) (
 aa (.bool false) uN) (
 aa (.bool true) uN)) qz)) ke)) a))) d) h
theorem sV.call{a_0:Array Value}{b_1:Array Value}{aa:VH}{h:ab}(H:sV.S a_0 b_1 aa h):ae ai pJ #[.agg a_0,.agg b_1] aa h:=
 qc (Λ:=an []) Tryz.func139
 qf
 (qe H)
def eD.B4(aa:VH)(a:(Option Addr×Nat×Nat×Option Addr×Nat×Nat×Int)->ab->Prop):Option Addr×Nat×Nat×Option Addr×Nat×Nat×Int->ab->Prop
 | (aQ,aD,bC,lr,kE,mE,i_5),h=>
 BIF ((decide (i_5<(aD:Int)))) (
 bg aQ i_5 aD λb=>
 LDA 5 h ((Addr.add b (i_5.toNat*5))) λc=>
 bg lr i_5 kE λd=>
 LDA 5 h ((Addr.add d (i_5.toNat*5))) λAz=>
 ae ai pJ #[.agg c,.agg Az] (λwi iG=>
 asB wi λHb=>
 BIF (!Hb) (
 aa (.bool false) iG) (
 a (aQ,aD,bC,lr,kE,mE,((i64.wrap (i_5+1)))) iG)) h) (
 aa (.bool true) h)
def eD.g4(fr:Frame):Option Addr×Nat×Nat×Option Addr×Nat×Nat×Int:=((gLb (ah fr 0)),(gLl (ah fr 0)),(gLc (ah fr 0)),(gLb (ah fr 1)),(gLl (ah fr 1)),(gLc (ah fr 1)),(gI (ah fr 5)))
def eD.l4(aa:VH):=gg (kds 27 [(0,.l),(1,.l),(5,.i .i64)]) λfr=>bh (eD.B4 aa) (eD.g4 fr)
def eD.S(aQ:Option Addr)(aD bC:Nat)(lr:Option Addr)(kE mE:Nat)(aa:VH)(h:ab):=
 BIF ((aD:Int) != (kE:Int)) (
 aa (.bool false) h) (
 bh (eD.B4 aa) (aQ,aD,bC,lr,kE,mE,0) h)
theorem eD.call{aQ:Option Addr}{aD bC:Nat}{lr:Option Addr}{kE mE:Nat}{aa:VH}{h:ab}(H:eD.S aQ aD bC lr kE mE aa h):ae ai ox #[.slice aQ aD bC,.slice lr kE mE] aa h:=
 qc (Λ:=an [(1000004,eD.l4 aa)]) Tryz.func72
 (qs qf (qs qf (qs (qs qf (Rq.block (ql (eD.l4 aa) (qg (g:=eD.g4) (Λ:=λa=>an []) (λ_ _ _=>by kernel_rfl) (λa=>qf))))) qf)))
 (qe H)
def Ca.S(a_0:Array Value)(b_1:Array Value)(aa:VH)(h:ab):=
 ALC a_0 bq (λb d=>
 ALC b_1 bq (λc a=>
 oI .i64 (cell a ⟨b,0,none⟩) λe=>
 oI .i64 (cell a ⟨c,0,none⟩) λf=>
 BIF (e != f) (
 aa (.bool false) a) (
 oI .i64 (cell a ⟨b,1,none⟩) λg=>
 oI .i64 (cell a ⟨c,1,none⟩) λi=>
 BIF (g != i) (
 aa (.bool false) a) (
 oI .i64 (cell a ⟨b,2,none⟩) λj=>
 oI .i64 (cell a ⟨c,2,none⟩) λrD=>
 BIF (j != rD) (
 aa (.bool false) a) (
 oI .i64 (cell a ⟨b,3,none⟩) λBq=>
 oI .i64 (cell a ⟨c,3,none⟩) λk=>
 BIF (Bq != k) (
 aa (.bool false) a) (
 oI .i64 (cell a ⟨b,4,none⟩) λQw=>
 oI .i64 (cell a ⟨c,4,none⟩) λl=>
 BIF (Qw != l) (
 aa (.bool false) a) (
 oF .f32 (cell a ⟨b,5,none⟩) λuQ=>
 FFC .f32 uQ .f64 λHe=>
 oF .f32 (cell a ⟨c,5,none⟩) λm=>
 FFC .f32 m .f64 λzf=>
 ae ai bS #[.float .f64 He,.float .f64 zf] (λFH jZ=>
 asB FH λn=>
 BIF (!n) (
 aa (.bool false) jZ) (
 aa (.bool true) jZ)) a)))))) d) h
theorem Ca.call{a_0:Array Value}{b_1:Array Value}{aa:VH}{h:ab}(H:Ca.S a_0 b_1 aa h):ae ai xE #[.agg a_0,.agg b_1] aa h:=
 qc (Λ:=an []) Tryz.func140
 qf
 (qe H)
def ia.B4(aa:VH)(a:(Option Addr×Nat×Nat×Option Addr×Nat×Nat×Int)->ab->Prop):Option Addr×Nat×Nat×Option Addr×Nat×Nat×Int->ab->Prop
 | (aQ,aD,bC,lr,kE,mE,i_5),h=>
 BIF ((decide (i_5<(aD:Int)))) (
 bg aQ i_5 aD λb=>
 LDA 6 h ((Addr.add b (i_5.toNat*6))) λc=>
 bg lr i_5 kE λd=>
 LDA 6 h ((Addr.add d (i_5.toNat*6))) λAz=>
 ae ai xE #[.agg c,.agg Az] (λwi iG=>
 asB wi λHb=>
 BIF (!Hb) (
 aa (.bool false) iG) (
 a (aQ,aD,bC,lr,kE,mE,((i64.wrap (i_5+1)))) iG)) h) (
 aa (.bool true) h)
def ia.g4(fr:Frame):Option Addr×Nat×Nat×Option Addr×Nat×Nat×Int:=((gLb (ah fr 0)),(gLl (ah fr 0)),(gLc (ah fr 0)),(gLb (ah fr 1)),(gLl (ah fr 1)),(gLc (ah fr 1)),(gI (ah fr 5)))
def ia.l4(aa:VH):=gg (kds 27 [(0,.l),(1,.l),(5,.i .i64)]) λfr=>bh (ia.B4 aa) (ia.g4 fr)
def ia.S(aQ:Option Addr)(aD bC:Nat)(lr:Option Addr)(kE mE:Nat)(aa:VH)(h:ab):=
 BIF ((aD:Int) != (kE:Int)) (
 aa (.bool false) h) (
 bh (ia.B4 aa) (aQ,aD,bC,lr,kE,mE,0) h)
theorem ia.call{aQ:Option Addr}{aD bC:Nat}{lr:Option Addr}{kE mE:Nat}{aa:VH}{h:ab}(H:ia.S aQ aD bC lr kE mE aa h):ae ai vu #[.slice aQ aD bC,.slice lr kE mE] aa h:=
 qc (Λ:=an [(1000004,ia.l4 aa)]) Tryz.func73
 (qs qf (qs qf (qs (qs qf (Rq.block (ql (ia.l4 aa) (qg (g:=ia.g4) (Λ:=λa=>an []) (λ_ _ _=>by kernel_rfl) (λa=>qf))))) qf)))
 (qe H)
def Cb.S(a_0:Array Value)(b_1:Array Value)(aa:VH)(h:ab):=
 ALC a_0 bt (λa d=>
 ALC b_1 bt (λb c=>
 oF .f32 (cell c ⟨a,0,none⟩) λe=>
 FFC .f32 e .f64 λf=>
 oF .f32 (cell c ⟨b,0,none⟩) λg=>
 FFC .f32 g .f64 λi=>
 ae ai bS #[.float .f64 f,.float .f64 i] (λj gd=>
 asB j λPX=>
 BIF (!PX) (
 aa (.bool false) gd) (
 LDA 3 gd ⟨a,1,none⟩ λGu=>
 LDA 3 gd ⟨b,1,none⟩ λOX=>
 ae ai vw #[.agg Gu,.agg OX] (λDb kB=>
 asB Db λk=>
 BIF (!k) (
 aa (.bool false) kB) (
 oL (cell kB ⟨a,4,none⟩) λUM SL Xs=>
 oL (cell kB ⟨b,4,none⟩) λSM Mx Xt=>
 ae ai ox #[.slice UM SL Xs,.slice SM Mx Xt] (λFH jZ=>
 asB FH λl=>
 BIF (!l) (
 aa (.bool false) jZ) (
 oL (cell jZ ⟨a,5,none⟩) λXx Xy ael=>
 oL (cell jZ ⟨b,5,none⟩) λPu My Xz=>
 ae ai vu #[.slice Xx Xy ael,.slice Pu My Xz] (λVo oJ=>
 asB Vo λm=>
 BIF (!m) (
 aa (.bool false) oJ) (
 aa (.bool true) oJ)) jZ)) kB)) gd)) c) d) h
theorem Cb.call{a_0:Array Value}{b_1:Array Value}{aa:VH}{h:ab}(H:Cb.S a_0 b_1 aa h):ae ai xF #[.agg a_0,.agg b_1] aa h:=
 qc (Λ:=an []) Tryz.func17
 qf
 (qe H)
def A2.S(a_0:Array Value)(b_1:Array Value)(aa:VH)(h:ab):=
 ALC a_0 aB (λa e=>
 ALC b_1 aB (λb d=>
 LDA 2 d ⟨a,0,none⟩ λf=>
 LDA 2 d ⟨b,0,none⟩ λg=>
 ae ai nN #[.agg f,.agg g] (λi c=>
 asB i λj=>
 BIF (!j) (
 aa (.bool false) c) (
 LDA 6 c ⟨a,2,none⟩ λAz=>
 LDA 6 c ⟨b,2,none⟩ λtq=>
 ae ai ly #[.agg Az,.agg tq] (λuu gf=>
 asB uu λFv=>
 BIF (!Fv) (
 aa (.bool false) gf) (
 LDA 6 gf ⟨a,8,none⟩ λRP=>
 LDA 6 gf ⟨b,8,none⟩ λIK=>
 ae ai ly #[.agg RP,.agg IK] (λGV jn=>
 asB GV λLJ=>
 BIF (!LJ) (
 aa (.bool false) jn) (
 oF .f32 (cell jn ⟨a,14,none⟩) λIk=>
 FFC .f32 Ik .f64 λIl=>
 oF .f32 (cell jn ⟨b,14,none⟩) λPG=>
 FFC .f32 PG .f64 λk=>
 ae ai bS #[.float .f64 Il,.float .f64 k] (λVo oJ=>
 asB Vo λl=>
 BIF (!l) (
 aa (.bool false) oJ) (
 aa (.bool true) oJ)) jn)) gf)) c)) d) e) h
theorem A2.call{a_0:Array Value}{b_1:Array Value}{aa:VH}{h:ab}(H:A2.S a_0 b_1 aa h):ae ai vv #[.agg a_0,.agg b_1] aa h:=
 qc (Λ:=an []) Tryz.func100
 qf
 (qe H)
def GL.S(a_0:Array Value)(b_1:Array Value)(aa:VH)(h:ab):=
 ALC a_0 dc (λa e=>
 ALC b_1 dc (λb d=>
 LDA 2 d ⟨a,0,none⟩ λf=>
 LDA 2 d ⟨b,0,none⟩ λg=>
 ae ai nN #[.agg f,.agg g] (λi c=>
 asB i λj=>
 BIF (!j) (
 aa (.bool false) c) (
 LDA 2 c ⟨a,2,none⟩ λAz=>
 LDA 2 c ⟨b,2,none⟩ λtq=>
 ae ai nN #[.agg Az,.agg tq] (λuu gf=>
 asB uu λFv=>
 BIF (!Fv) (
 aa (.bool false) gf) (
 LDA 6 gf ⟨a,4,none⟩ λRP=>
 LDA 6 gf ⟨b,4,none⟩ λIK=>
 ae ai ly #[.agg RP,.agg IK] (λGV jn=>
 asB GV λLJ=>
 BIF (!LJ) (
 aa (.bool false) jn) (
 oF .f32 (cell jn ⟨a,10,none⟩) λIk=>
 FFC .f32 Ik .f64 λIl=>
 oF .f32 (cell jn ⟨b,10,none⟩) λPG=>
 FFC .f32 PG .f64 λk=>
 ae ai bS #[.float .f64 Il,.float .f64 k] (λVo oJ=>
 asB Vo λl=>
 BIF (!l) (
 aa (.bool false) oJ) (
 oF .f32 (cell oJ ⟨a,11,none⟩) λNq=>
 FFC .f32 Nq .f64 λm=>
 oF .f32 (cell oJ ⟨b,11,none⟩) λKk=>
 FFC .f32 Kk .f64 λQM=>
 ae ai bS #[.float .f64 m,.float .f64 QM] (λn JY=>
 asB n λo=>
 BIF (!o) (
 aa (.bool false) JY) (
 aa (.bool true) JY)) oJ)) jn)) gf)) c)) d) e) h
theorem GL.call{a_0:Array Value}{b_1:Array Value}{aa:VH}{h:ab}(H:GL.S a_0 b_1 aa h):ae ai BH #[.agg a_0,.agg b_1] aa h:=
 qc (Λ:=an []) Tryz.func102
 qf
 (qe H)
def Cc.S(a_0:Array Value)(b_1:Array Value)(aa:VH)(h:ab):=
 ALC a_0 ao (λb d=>
 ALC b_1 ao (λc a=>
 oI .i64 (cell a ⟨b,0,none⟩) λe=>
 oI .i64 (cell a ⟨c,0,none⟩) λf=>
 BIF (e != f) (
 aa (.bool false) a) (
 oI .i64 (cell a ⟨b,1,none⟩) λg=>
 oI .i64 (cell a ⟨c,1,none⟩) λi=>
 BIF (g != i) (
 aa (.bool false) a) (
 oI .i64 (cell a ⟨b,2,none⟩) λj=>
 oI .i64 (cell a ⟨c,2,none⟩) λrD=>
 BIF (j != rD) (
 aa (.bool false) a) (
 oB (cell a ⟨b,3,none⟩) λPX=>
 oB (cell a ⟨c,3,none⟩) λLe=>
 BIF (!(PX==Le)) (
 aa (.bool false) a) (
 oF .f32 (cell a ⟨b,4,none⟩) λCu=>
 FFC .f32 Cu .f64 λFJ=>
 oF .f32 (cell a ⟨c,4,none⟩) λuQ=>
 FFC .f32 uQ .f64 λHe=>
 ae ai bS #[.float .f64 FJ,.float .f64 He] (λGV jn=>
 asB GV λLJ=>
 BIF (!LJ) (
 aa (.bool false) jn) (
 LDA 15 jn ⟨b,5,none⟩ λHu=>
 LDA 15 jn ⟨c,5,none⟩ λk=>
 ae ai vv #[.agg Hu,.agg k] (λGW mZ=>
 asB GW λl=>
 BIF (!l) (
 aa (.bool false) mZ) (
 LDA 13 mZ ⟨b,20,none⟩ λWt=>
 LDA 13 mZ ⟨c,20,none⟩ λm=>
 ae ai zG #[.agg Wt,.agg m] (λTj uN=>
 asB Tj λn=>
 BIF (!n) (
 aa (.bool false) uN) (
 LDA 12 uN ⟨b,33,none⟩ λo=>
 LDA 12 uN ⟨c,33,none⟩ λp=>
 ae ai BH #[.agg o,.agg p] (λq Lk=>
 asB q λr=>
 BIF (!r) (
 aa (.bool false) Lk) (
 aa (.bool true) Lk)) uN)) mZ)) jn)) a))))) d) h
theorem Cc.call{a_0:Array Value}{b_1:Array Value}{aa:VH}{h:ab}(H:Cc.S a_0 b_1 aa h):ae ai xG #[.agg a_0,.agg b_1] aa h:=
 qc (Λ:=an []) Tryz.func27
 qf
 (qe H)
def ib.B4(aa:VH)(a:(Option Addr×Nat×Nat×Option Addr×Nat×Nat×Int)->ab->Prop):Option Addr×Nat×Nat×Option Addr×Nat×Nat×Int->ab->Prop
 | (aQ,aD,bC,lr,kE,mE,i_5),h=>
 BIF ((decide (i_5<(aD:Int)))) (
 bg aQ i_5 aD λb=>
 LDA 45 h ((Addr.add b (i_5.toNat*45))) λc=>
 bg lr i_5 kE λd=>
 LDA 45 h ((Addr.add d (i_5.toNat*45))) λAz=>
 ae ai xG #[.agg c,.agg Az] (λwi iG=>
 asB wi λHb=>
 BIF (!Hb) (
 aa (.bool false) iG) (
 a (aQ,aD,bC,lr,kE,mE,((i64.wrap (i_5+1)))) iG)) h) (
 aa (.bool true) h)
def ib.g4(fr:Frame):Option Addr×Nat×Nat×Option Addr×Nat×Nat×Int:=((gLb (ah fr 0)),(gLl (ah fr 0)),(gLc (ah fr 0)),(gLb (ah fr 1)),(gLl (ah fr 1)),(gLc (ah fr 1)),(gI (ah fr 5)))
def ib.l4(aa:VH):=gg (kds 27 [(0,.l),(1,.l),(5,.i .i64)]) λfr=>bh (ib.B4 aa) (ib.g4 fr)
def ib.S(aQ:Option Addr)(aD bC:Nat)(lr:Option Addr)(kE mE:Nat)(aa:VH)(h:ab):=
 BIF ((aD:Int) != (kE:Int)) (
 aa (.bool false) h) (
 bh (ib.B4 aa) (aQ,aD,bC,lr,kE,mE,0) h)
theorem ib.call{aQ:Option Addr}{aD bC:Nat}{lr:Option Addr}{kE mE:Nat}{aa:VH}{h:ab}(H:ib.S aQ aD bC lr kE mE aa h):ae ai vx #[.slice aQ aD bC,.slice lr kE mE] aa h:=
 qc (Λ:=an [(1000004,ib.l4 aa)]) Tryz.func70
 (qs qf (qs qf (qs (qs qf (Rq.block (ql (ib.l4 aa) (qg (g:=ib.g4) (Λ:=λa=>an []) (λ_ _ _=>by kernel_rfl) (λa=>qf))))) qf)))
 (qe H)
def zZ.S(a_0:Array Value)(b_1:Array Value)(aa:VH)(h:ab):=
 ALC a_0 aE (λa e=>
 ALC b_1 aE (λb d=>
 LDA 6 d ⟨a,0,none⟩ λf=>
 LDA 6 d ⟨b,0,none⟩ λg=>
 ae ai xF #[.agg f,.agg g] (λi c=>
 asB i λj=>
 BIF (!j) (
 aa (.bool false) c) (
 oL (cell c ⟨a,6,none⟩) λuY rj yg=>
 oL (cell c ⟨b,6,none⟩) λrN qd ui=>
 ae ai vx #[.slice uY rj yg,.slice rN qd ui] (λuu gf=>
 asB uu λFv=>
 BIF (!Fv) (
 aa (.bool false) gf) (
 oI .i64 (cell gf ⟨a,7,none⟩) λKh=>
 oI .i64 (cell gf ⟨b,7,none⟩) λXU=>
 BIF (Kh != XU) (
 aa (.bool false) gf) (
 oI .i64 (cell gf ⟨a,8,none⟩) λWa=>
 oI .i64 (cell gf ⟨b,8,none⟩) λVb=>
 BIF (Wa != Vb) (
 aa (.bool false) gf) (
 oI .i64 (cell gf ⟨a,9,none⟩) λk=>
 oI .i64 (cell gf ⟨b,9,none⟩) λl=>
 BIF (k != l) (
 aa (.bool false) gf) (
 aa (.bool true) gf))))) c)) d) e) h
theorem zZ.call{a_0:Array Value}{b_1:Array Value}{aa:VH}{h:ab}(H:zZ.S a_0 b_1 aa h):ae ai lz #[.agg a_0,.agg b_1] aa h:=
 qc (Λ:=an []) Tryz.func16
 qf
 (qe H)
end Go.Sx
