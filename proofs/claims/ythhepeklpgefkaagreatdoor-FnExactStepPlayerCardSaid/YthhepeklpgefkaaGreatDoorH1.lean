/- Lemmas. -/
import Derived.Test.YthhepeklpgefkaaGreatDoorTab
import Derived.Test.YthhepeklpgefkaaGreatDoorLk24
set_option linter.unusedVariables false
set_option linter.unusedSimpArgs false
namespace Go.Sx
open FloatKind (f32 f64)
open IntKind (i64)
open Go.Proofs
set_option maxRecDepth 100000
def dq.J4(aa:VH)(a_0:Nat)(b_1:Nat)(a:Bool)(h:ab):=
 BIF a (
 FOP .f64 (f64.format.div 4607182418800017408 a_0) λb=>
 FOP .f64 (f64.format.div 4607182418800017408 b_1) λc=>
 aa (.bool ((f64.format.order b 0==some .gt)==(f64.format.order c 0==some .gt))) h) (
 aa (.bool (f64.format.order a_0 b_1==some .eq)) h)
def dq.j4(aa:VH):=gg (kds 37 [(0,.f .f64),(1,.f .f64),(26,.b)]) λfr=>dq.J4 aa (gF (ah fr 0)) (gF (ah fr 1)) (gB (ah fr 26))
def dq.J3(aa:VH)(a_0:Nat)(b_1:Nat)(h:ab):=
 BIF (f64.format.order a_0 0==some .eq) (
 dq.J4 aa a_0 b_1 (f64.format.order b_1 0==some .eq) h) (
 dq.J4 aa a_0 b_1 false h)
def dq.j3(aa:VH):=gg (kds 37 [(0,.f .f64),(1,.f .f64)]) λfr=>dq.J3 aa (gF (ah fr 0)) (gF (ah fr 1))
def dq.S(a_0:Nat)(b_1:Nat)(aa:VH)(h:ab):=
 BIF (f64.format.order a_0 a_0 != some .eq) (
 BIF (f64.format.order a_0 a_0 != some .eq) (
 aa (.bool (f64.format.order b_1 b_1 != some .eq)) h) (
 aa (.bool false) h)) (
 BIF (f64.format.order b_1 b_1 != some .eq) (
 BIF (f64.format.order a_0 a_0 != some .eq) (
 aa (.bool (f64.format.order b_1 b_1 != some .eq)) h) (
 aa (.bool false) h)) (
 dq.J3 aa a_0 b_1 h))
theorem dq.call{a_0:Nat}{b_1:Nat}{aa:VH}{h:ab}(H:dq.S a_0 b_1 aa h):ae ai bS #[.float .f64 a_0,.float .f64 b_1] aa h:=
 qc (Λ:=an [(3,dq.j3 aa),(4,dq.j4 aa)]) Tryz.func50
 (qs qf (qj (dq.j3 aa) qf
 (qs (qj (dq.j4 aa) qf
 qf) qf)))
 (qe H)
def qA.S(aQ:Option Addr)(aD bC:Nat)(cq:Int)(aa:VH)(h:ab):=
 BIF ((decide ((i64.wrap (cq-(aD:Int)))<0))) (
 aa (.int .i64 (-1)) h) (
 aa (.int .i64 ((i64.wrap (cq-(aD:Int))))) h)
theorem qA.call{aQ:Option Addr}{aD bC:Nat}{cq:Int}{aa:VH}{h:ab}(H:qA.S aQ aD bC cq aa h):ae ai lO #[.slice aQ aD bC,.int .i64 cq] aa h:=
 qc (Λ:=an []) Tryz.func124
 qf
 (qe H)
def fX.B3(aa:VH)(d:(Option Addr×Nat×Nat×Option Addr×Nat×Nat×Int)->ab->Prop):Option Addr×Nat×Nat×Option Addr×Nat×Nat×Int->ab->Prop
 | (aQ,aD,bC,a,b,c,i_4),h=>
 BIF ((decide (i_4<(aD:Int)))) (
 bg aQ i_4 aD λe=>
 oF .f32 (cell h ((Addr.add e (i_4.toNat*1)))) λf=>
 bg a i_4 b λg=>
 ST1 h ((Addr.add g (i_4.toNat*1))) (.float .f32 f) λgd=>
 d (aQ,aD,bC,a,b,c,((i64.wrap (i_4+1)))) gd) (
 aa (.slice a b c) h)
def fX.g3(fr:Frame):Option Addr×Nat×Nat×Option Addr×Nat×Nat×Int:=((gLb (ah fr 0)),(gLl (ah fr 0)),(gLc (ah fr 0)),(gLb (ah fr 3)),(gLl (ah fr 3)),(gLc (ah fr 3)),(gI (ah fr 4)))
def fX.l3(aa:VH):=gg (kds 22 [(0,.l),(3,.l),(4,.i .i64)]) λfr=>bh (fX.B3 aa) (fX.g3 fr)
def fX.S(aQ:Option Addr)(aD bC:Nat)(aa:VH)(h:ab):=
 MKS fh au (aD:Int) (aD:Int) (λa b=>
 bh (fX.B3 aa) (aQ,aD,bC,(some ⟨a,0,none⟩),aD,aD,0) b) h
theorem fX.call{aQ:Option Addr}{aD bC:Nat}{aa:VH}{h:ab}(H:fX.S aQ aD bC aa h):ae ai lP #[.slice aQ aD bC] aa h:=
 qc (Λ:=an [(1000003,fX.l3 aa)]) Tryz.func129
 (qs qf (qs qf (qs (qs qf (Rq.block (ql (fX.l3 aa) (qg (g:=fX.g3) (Λ:=λa=>an []) (λ_ _ _=>by kernel_rfl) (λa=>qf))))) qf)))
 (qe H)
def fU.B4(aa:VH)(c:(Option Addr×Nat×Nat×Option Addr×Nat×Nat×Int)->ab->Prop):Option Addr×Nat×Nat×Option Addr×Nat×Nat×Int->ab->Prop
 | (aQ,aD,bC,lr,kE,mE,i_5),h=>
 BIF ((decide (i_5<(aD:Int)))) (
 bg aQ i_5 aD λa=>
 oF .f32 (cell h ((Addr.add a (i_5.toNat*1)))) λd=>
 bg lr i_5 kE λb=>
 oF .f32 (cell h ((Addr.add b (i_5.toNat*1)))) λAg=>
 (FFC .f32 d .f64 λDg=>
 PIN h ((Addr.add b (i_5.toNat*1))) 1 h <|
 FFC .f32 Ag .f64 λwX=>
 PIN h ((Addr.add a (i_5.toNat*1))) 1 h <|
 ae ai bS #[.float .f64 Dg,.float .f64 wX] (λyM ke=>
 asB yM λe=>
 BIF (!e) (
 aa (.bool false) ke) (
 c (aQ,aD,bC,lr,kE,mE,((i64.wrap (i_5+1)))) ke)) h)∧(FFC .f32 Ag .f64 λHe=>
 PIN h ((Addr.add a (i_5.toNat*1))) 1 h <|
 FFC .f32 d .f64 λf=>
 PIN h ((Addr.add b (i_5.toNat*1))) 1 h <|
 ae ai bS #[.float .f64 f,.float .f64 He] (λTi tz=>
 asB Ti λg=>
 BIF (!g) (
 aa (.bool false) tz) (
 c (aQ,aD,bC,lr,kE,mE,((i64.wrap (i_5+1)))) tz)) h)) (
 aa (.bool true) h)
def fU.g4(fr:Frame):Option Addr×Nat×Nat×Option Addr×Nat×Nat×Int:=((gLb (ah fr 0)),(gLl (ah fr 0)),(gLc (ah fr 0)),(gLb (ah fr 1)),(gLl (ah fr 1)),(gLc (ah fr 1)),(gI (ah fr 5)))
def fU.l4(aa:VH):=gg (kds 29 [(0,.l),(1,.l),(5,.i .i64)]) λfr=>bh (fU.B4 aa) (fU.g4 fr)
def fU.S(aQ:Option Addr)(aD bC:Nat)(lr:Option Addr)(kE mE:Nat)(aa:VH)(h:ab):=
 BIF ((aD:Int) != (kE:Int)) (
 aa (.bool false) h) (
 bh (fU.B4 aa) (aQ,aD,bC,lr,kE,mE,0) h)
theorem fU.call{aQ:Option Addr}{aD bC:Nat}{lr:Option Addr}{kE mE:Nat}{aa:VH}{h:ab}(H:fU.S aQ aD bC lr kE mE aa h):ae ai lN #[.slice aQ aD bC,.slice lr kE mE] aa h:=
 qc (Λ:=an [(1000004,fU.l4 aa)]) Tryz.func41
 (qs qf (qs qf (qs (qs qf (Rq.block (ql (fU.l4 aa) (qg (g:=fU.g4) (Λ:=λa=>an []) (λ_ _ _=>by kernel_rfl) (λa=>qf))))) qf)))
 (qe H)
def eU.B2(aa:VH)(a:(Option Addr×Nat×Nat×Int×Int)->ab->Prop):Option Addr×Nat×Nat×Int×Int->ab->Prop
 | (aQ,aD,bC,k_1,i_5),h=>
 BIF ((decide (i_5<(aD:Int)))) (
 bg aQ i_5 aD λb=>
 ST1 h ((Addr.add b (i_5.toNat*1))) (.float .f32 (f32.nearest k_1)) λc=>
 a (aQ,aD,bC,((i64.wrap (k_1+1))),((i64.wrap (i_5+1)))) c) (
 aa (.int .i64 k_1) h)
def eU.g2(fr:Frame):Option Addr×Nat×Nat×Int×Int:=((gLb (ah fr 0)),(gLl (ah fr 0)),(gLc (ah fr 0)),(gI (ah fr 1)),(gI (ah fr 5)))
def eU.l2(aa:VH):=gg (kds 20 [(0,.l),(1,.i .i64),(5,.i .i64)]) λfr=>bh (eU.B2 aa) (eU.g2 fr)
def eU.S(aQ:Option Addr)(aD bC:Nat)(k_1:Int)(aa:VH)(h:ab):=
 bh (eU.B2 aa) (aQ,aD,bC,k_1,0) h
theorem eU.call{aQ:Option Addr}{aD bC:Nat}{k_1:Int}{aa:VH}{h:ab}(H:eU.S aQ aD bC k_1 aa h):ae ai gT #[.slice aQ aD bC,.int .i64 k_1] aa h:=
 qc (Λ:=an [(1000002,eU.l2 aa)]) Tryz.func44
 (qs qf (qs (qs qf (Rq.block (ql (eU.l2 aa) (qg (g:=eU.g2) (Λ:=λa=>an []) (λ_ _ _=>by kernel_rfl) (λa=>qf))))) qf))
 (qe H)
def eT.B2(aa:VH)(a:(Option Addr×Nat×Nat×Int×Int)->ab->Prop):Option Addr×Nat×Nat×Int×Int->ab->Prop
 | (aQ,aD,bC,k_1,i_5),h=>
 BIF ((decide (i_5<(aD:Int)))) (
 bg aQ i_5 aD λb=>
 oF .f32 (cell h ((Addr.add b (i_5.toNat*1)))) λc=>
 BIF (f32.format.order c (f32.nearest k_1) != some .eq) (
 aa (.int .i64 (-1)) h) (
 a (aQ,aD,bC,((i64.wrap (k_1+1))),((i64.wrap (i_5+1)))) h)) (
 aa (.int .i64 k_1) h)
def eT.g2(fr:Frame):Option Addr×Nat×Nat×Int×Int:=((gLb (ah fr 0)),(gLl (ah fr 0)),(gLc (ah fr 0)),(gI (ah fr 1)),(gI (ah fr 5)))
def eT.l2(aa:VH):=gg (kds 22 [(0,.l),(1,.i .i64),(5,.i .i64)]) λfr=>bh (eT.B2 aa) (eT.g2 fr)
def eT.S(aQ:Option Addr)(aD bC:Nat)(k_1:Int)(aa:VH)(h:ab):=
 bh (eT.B2 aa) (aQ,aD,bC,k_1,0) h
theorem eT.call{aQ:Option Addr}{aD bC:Nat}{k_1:Int}{aa:VH}{h:ab}(H:eT.S aQ aD bC k_1 aa h):ae ai gR #[.slice aQ aD bC,.int .i64 k_1] aa h:=
 qc (Λ:=an [(1000002,eT.l2 aa)]) Tryz.func45
 (qs qf (qs (qs qf (Rq.block (ql (eT.l2 aa) (qg (g:=eT.g2) (Λ:=λa=>an []) (λ_ _ _=>by kernel_rfl) (λa=>qf))))) qf))
 (qe H)
def fq.B3(aa:VH)(b:(Addr×Addr×Addr×Int)->ab->Prop):Addr×Addr×Addr×Int->ab->Prop
 | (a_1,a,mI,i_4),h=>
 BIF ((decide (i_4<2))) (
 IDX i_4 2 <|
 oF .f32 (cell h ((Addr.add a_1 (i_4.toNat*1)))) λc=>
 IDX i_4 2 <|
 ST1 h ((Addr.add mI (i_4.toNat*1))) (.float .f32 c) λd=>
 b (a_1,a,mI,((i64.wrap (i_4+1)))) d) (
 LDA 2 h mI λe=>
 STA 2 h a e λgd=>
 LDA 2 gd a λtq=>
 aa (.agg tq) gd)
def fq.g3(fr:Frame):Addr×Addr×Addr×Int:=((gP (ah fr 1)),(gP (ah fr 2)),(gP (ah fr 3)),(gI (ah fr 4)))
def fq.l3(aa:VH):=gg (kds 15 [(1,.p),(2,.p),(3,.p),(4,.i .i64)]) λfr=>bh (fq.B3 aa) (fq.g3 fr)
def fq.S(a_0:Array Value)(aa:VH)(h:ab):=
 ALC a_0 jW (λa b=>
 ALC ⟨om⟩ jW (λc d=>
 ALC ⟨om⟩ jW (λe f=>
 bh (fq.B3 aa) (⟨a,0,none⟩,⟨c,0,none⟩,⟨e,0,none⟩,0) f) d) b) h
theorem fq.call{a_0:Array Value}{aa:VH}{h:ab}(H:fq.S a_0 aa h):ae ai qQ #[.agg a_0] aa h:=
 qc (Λ:=an [(1000003,fq.l3 aa)]) Tryz.func367
 (qs qf (qs qf (qs (qs qf (Rq.block (ql (fq.l3 aa) (qg (g:=fq.g3) (Λ:=λa=>an []) (λ_ _ _=>by kernel_rfl) (λa=>qf))))) qf)))
 (qe H)
def ft.B3(aa:VH)(b:(Addr×Addr×Addr×Int)->ab->Prop):Addr×Addr×Addr×Int->ab->Prop
 | (a_1,a,mI,i_4),h=>
 BIF ((decide (i_4<3))) (
 IDX i_4 3 <|
 oF .f32 (cell h ((Addr.add a_1 (i_4.toNat*1)))) λc=>
 IDX i_4 3 <|
 ST1 h ((Addr.add mI (i_4.toNat*1))) (.float .f32 c) λd=>
 b (a_1,a,mI,((i64.wrap (i_4+1)))) d) (
 LDA 3 h mI λe=>
 STA 3 h a e λgd=>
 LDA 3 gd a λtq=>
 aa (.agg tq) gd)
def ft.g3(fr:Frame):Addr×Addr×Addr×Int:=((gP (ah fr 1)),(gP (ah fr 2)),(gP (ah fr 3)),(gI (ah fr 4)))
def ft.l3(aa:VH):=gg (kds 15 [(1,.p),(2,.p),(3,.p),(4,.i .i64)]) λfr=>bh (ft.B3 aa) (ft.g3 fr)
def ft.S(a_0:Array Value)(aa:VH)(h:ab):=
 ALC a_0 dH (λa b=>
 ALC ⟨jx⟩ dH (λc d=>
 ALC ⟨jx⟩ dH (λe f=>
 bh (ft.B3 aa) (⟨a,0,none⟩,⟨c,0,none⟩,⟨e,0,none⟩,0) f) d) b) h
theorem ft.call{a_0:Array Value}{aa:VH}{h:ab}(H:ft.S a_0 aa h):ae ai qR #[.agg a_0] aa h:=
 qc (Λ:=an [(1000003,ft.l3 aa)]) Tryz.func366
 (qs qf (qs qf (qs (qs qf (Rq.block (ql (ft.l3 aa) (qg (g:=ft.g3) (Λ:=λa=>an []) (λ_ _ _=>by kernel_rfl) (λa=>qf))))) qf)))
 (qe H)
def fm.B2(aa:VH)(a:(Addr×Addr×Int)->ab->Prop):Addr×Addr×Int->ab->Prop
 | (a_2,b_3,i_5),h=>
 BIF ((decide (i_5<2))) (
 IDX i_5 2 <|
 oF .f32 (cell h ((Addr.add a_2 (i_5.toNat*1)))) λb=>
 IDX i_5 2 <|
 oF .f32 (cell h ((Addr.add b_3 (i_5.toNat*1)))) λc=>
 (FFC .f32 b .f64 λd=>
 PIN h ((Addr.add b_3 (i_5.toNat*1))) 1 h <|
 FFC .f32 c .f64 λe=>
 PIN h ((Addr.add a_2 (i_5.toNat*1))) 1 h <|
 ae ai bS #[.float .f64 d,.float .f64 e] (λf gd=>
 asB f λPX=>
 BIF (!PX) (
 aa (.bool false) gd) (
 a (a_2,b_3,((i64.wrap (i_5+1)))) gd)) h)∧(FFC .f32 c .f64 λwX=>
 PIN h ((Addr.add a_2 (i_5.toNat*1))) 1 h <|
 FFC .f32 b .f64 λCu=>
 PIN h ((Addr.add b_3 (i_5.toNat*1))) 1 h <|
 ae ai bS #[.float .f64 Cu,.float .f64 wX] (λDb kB=>
 asB Db λg=>
 BIF (!g) (
 aa (.bool false) kB) (
 a (a_2,b_3,((i64.wrap (i_5+1)))) kB)) h)) (
 aa (.bool true) h)
def fm.g2(fr:Frame):Addr×Addr×Int:=((gP (ah fr 2)),(gP (ah fr 3)),(gI (ah fr 5)))
def fm.l2(aa:VH):=gg (kds 20 [(2,.p),(3,.p),(5,.i .i64)]) λfr=>bh (fm.B2 aa) (fm.g2 fr)
def fm.S(a_0:Array Value)(b_1:Array Value)(aa:VH)(h:ab):=
 ALC a_0 jW (λa b=>
 ALC b_1 jW (λc d=>
 bh (fm.B2 aa) (⟨a,0,none⟩,⟨c,0,none⟩,0) d) b) h
theorem fm.call{a_0:Array Value}{b_1:Array Value}{aa:VH}{h:ab}(H:fm.S a_0 b_1 aa h):ae ai qO #[.agg a_0,.agg b_1] aa h:=
 qc (Λ:=an [(1000002,fm.l2 aa)]) Tryz.func243
 (qs qf (qs (qs qf (Rq.block (ql (fm.l2 aa) (qg (g:=fm.g2) (Λ:=λa=>an []) (λ_ _ _=>by kernel_rfl) (λa=>qf))))) qf))
 (qe H)
def fp.B2(aa:VH)(a:(Addr×Addr×Int)->ab->Prop):Addr×Addr×Int->ab->Prop
 | (a_2,b_3,i_5),h=>
 BIF ((decide (i_5<3))) (
 IDX i_5 3 <|
 oF .f32 (cell h ((Addr.add a_2 (i_5.toNat*1)))) λb=>
 IDX i_5 3 <|
 oF .f32 (cell h ((Addr.add b_3 (i_5.toNat*1)))) λc=>
 (FFC .f32 b .f64 λd=>
 PIN h ((Addr.add b_3 (i_5.toNat*1))) 1 h <|
 FFC .f32 c .f64 λe=>
 PIN h ((Addr.add a_2 (i_5.toNat*1))) 1 h <|
 ae ai bS #[.float .f64 d,.float .f64 e] (λf gd=>
 asB f λPX=>
 BIF (!PX) (
 aa (.bool false) gd) (
 a (a_2,b_3,((i64.wrap (i_5+1)))) gd)) h)∧(FFC .f32 c .f64 λwX=>
 PIN h ((Addr.add a_2 (i_5.toNat*1))) 1 h <|
 FFC .f32 b .f64 λCu=>
 PIN h ((Addr.add b_3 (i_5.toNat*1))) 1 h <|
 ae ai bS #[.float .f64 Cu,.float .f64 wX] (λDb kB=>
 asB Db λg=>
 BIF (!g) (
 aa (.bool false) kB) (
 a (a_2,b_3,((i64.wrap (i_5+1)))) kB)) h)) (
 aa (.bool true) h)
def fp.g2(fr:Frame):Addr×Addr×Int:=((gP (ah fr 2)),(gP (ah fr 3)),(gI (ah fr 5)))
def fp.l2(aa:VH):=gg (kds 20 [(2,.p),(3,.p),(5,.i .i64)]) λfr=>bh (fp.B2 aa) (fp.g2 fr)
def fp.S(a_0:Array Value)(b_1:Array Value)(aa:VH)(h:ab):=
 ALC a_0 dH (λa b=>
 ALC b_1 dH (λc d=>
 bh (fp.B2 aa) (⟨a,0,none⟩,⟨c,0,none⟩,0) d) b) h
theorem fp.call{a_0:Array Value}{b_1:Array Value}{aa:VH}{h:ab}(H:fp.S a_0 b_1 aa h):ae ai qP #[.agg a_0,.agg b_1] aa h:=
 qc (Λ:=an [(1000002,fp.l2 aa)]) Tryz.func242
 (qs qf (qs (qs qf (Rq.block (ql (fp.l2 aa) (qg (g:=fp.g2) (Λ:=λa=>an []) (λ_ _ _=>by kernel_rfl) (λa=>qf))))) qf))
 (qe H)
def E5.S(a_0:Array Value)(cq:Int)(aa:VH)(h:ab):=
 ALC a_0 Dm (λd a=>
 oL (cell a ⟨d,0,none⟩) λKa Hd e=>
 ae ai lO #[.slice Ka Hd e,.int .i64 cq] (λf b=>
 asI .i64 f λc=>
 BIF ((decide (c<0))) (
 aa (.int .i64 (-1)) b) (
 aa (.int .i64 c) b)) a) h
theorem E5.call{a_0:Array Value}{cq:Int}{aa:VH}{h:ab}(H:E5.S a_0 cq aa h):ae ai nO #[.agg a_0,.int .i64 cq] aa h:=
 qc (Λ:=an []) Tryz.func313
 qf
 (qe H)
def E7.S(a_0:Array Value)(aa:VH)(h:ab):=
 ALC a_0 Dm (λb e=>
 ALC ⟨fO⟩ aq (λc f=>
 ALC ⟨fO⟩ aq (λa d=>
 oL (cell d ⟨b,0,none⟩) λAu yL AN=>
 ae ai lP #[.slice Au yL AN] (λg i=>
 asL g λuY rj yg=>
 ST1 i ⟨a,0,none⟩ (.slice uY rj yg) λkc=>
 oI .i64 (cell kc ⟨b,1,none⟩) λj=>
 ST1 kc ⟨a,1,none⟩ (.int .i64 j) λgf=>
 LDA 2 gf ⟨a,0,none⟩ λk=>
 STA 2 gf ⟨c,0,none⟩ k λkB=>
 LDA 2 kB ⟨c,0,none⟩ λIK=>
 aa (.agg IK) kB) d) f) e) h
theorem E7.call{a_0:Array Value}{aa:VH}{h:ab}(H:E7.S a_0 aa h):ae ai nP #[.agg a_0] aa h:=
 qc (Λ:=an []) Tryz.func318
 qf
 (qe H)
def E2.S(a_0:Array Value)(b_1:Array Value)(aa:VH)(h:ab):=
 ALC a_0 aq (λc e=>
 ALC b_1 aq (λd b=>
 oL (cell b ⟨c,0,none⟩) λEY Df HY=>
 oL (cell b ⟨d,0,none⟩) λMz MA TO=>
 ae ai lN #[.slice EY Df HY,.slice Mz MA TO] (λf a=>
 asB f λg=>
 BIF (!g) (
 aa (.bool false) a) (
 oI .i64 (cell a ⟨c,1,none⟩) λrD=>
 oI .i64 (cell a ⟨d,1,none⟩) λBq=>
 BIF (rD != Bq) (
 aa (.bool false) a) (
 aa (.bool true) a))) b) e) h
theorem E2.call{a_0:Array Value}{b_1:Array Value}{aa:VH}{h:ab}(H:E2.S a_0 b_1 aa h):ae ai nN #[.agg a_0,.agg b_1] aa h:=
 qc (Λ:=an []) Tryz.func170
 qf
 (qe H)
def A8.S(a_0:Array Value)(aa:VH)(h:ab):=
 ALC a_0 FM (λb f=>
 ALC ⟨fH⟩ db (λc g=>
 ALC ⟨fH⟩ db (λa d=>
 oI .i64 (cell d ⟨b,0,none⟩) λi=>
 ST1 d ⟨a,0,none⟩ (.int .i64 i) λe=>
 LDA 3 e ⟨b,1,none⟩ λj=>
 ae ai qR #[.agg j] (λAf kc=>
 asA Af λGu=>
 STA 3 kc ⟨a,1,none⟩ Gu λgf=>
 LDA 2 gf ⟨b,4,none⟩ λk=>
 ae ai qQ #[.agg k] (λDc iJ=>
 asA Dc λHt=>
 STA 2 iJ ⟨a,4,none⟩ Ht λjn=>
 LDA 6 jn ⟨a,0,none⟩ λl=>
 STA 6 jn ⟨c,0,none⟩ l λjZ=>
 LDA 6 jZ ⟨c,0,none⟩ λm=>
 aa (.agg m) jZ) gf) e) g) f) h
theorem A8.call{a_0:Array Value}{aa:VH}{h:ab}(H:A8.S a_0 aa h):ae ai lD #[.agg a_0] aa h:=
 qc (Λ:=an []) Tryz.func319
 qf
 (qe H)
def zY.S(a_0:Array Value)(b_1:Array Value)(aa:VH)(h:ab):=
 ALC a_0 db (λb d=>
 ALC b_1 db (λc a=>
 oI .i64 (cell a ⟨b,0,none⟩) λe=>
 oI .i64 (cell a ⟨c,0,none⟩) λf=>
 BIF (e != f) (
 aa (.bool false) a) (
 LDA 3 a ⟨b,1,none⟩ λg=>
 LDA 3 a ⟨c,1,none⟩ λi=>
 ae ai qP #[.agg g,.agg i] (λj gd=>
 asB j λPX=>
 BIF (!PX) (
 aa (.bool false) gd) (
 LDA 2 gd ⟨b,4,none⟩ λGu=>
 LDA 2 gd ⟨c,4,none⟩ λOX=>
 ae ai qO #[.agg Gu,.agg OX] (λDb kB=>
 asB Db λk=>
 BIF (!k) (
 aa (.bool false) kB) (
 aa (.bool true) kB)) gd)) a)) d) h
theorem zY.call{a_0:Array Value}{b_1:Array Value}{aa:VH}{h:ab}(H:zY.S a_0 b_1 aa h):ae ai ly #[.agg a_0,.agg b_1] aa h:=
 qc (Λ:=an []) Tryz.func171
 qf
 (qe H)
def cD(xs:List Nat):Nat:=xs.length
def yN(left w:Nat):Int:=if left<w then -1 else ((left-w:Nat):Int)
theorem np{left w:Nat}{p q:Prop}(ht:left<w->p)(hf:w≤left->q):BIF (decide (yN left w<0)) p q:=by
 refine brd (λh=>ht ?_) λh=>hf ?_
 ·unfold yN at h;split at h <;> omega
 ·unfold yN at h;split at h <;> omega
theorem gN{left w:Nat}(h:left<w):yN left w = -1:=by unfold yN;rw[if_pos h]
theorem eM{left w:Nat}(h:w≤left):yN left w=((left-w:Nat):Int):=by unfold yN;rw[if_neg (by omega)]
theorem aic{o:Option Nat}{r1 r2:Nat}(h1:IsF .f64 o r1)(h2:IsF .f64 o r2):(f64.format.order r1 0==some .gt)=(f64.format.order r2 0==some .gt):=by
 cases o with
 | some v=>rw[show r1=v from h1,show r2=v from h2]
 | none=>rw[ta (qi (k:=.f64) h1),ta (qi (k:=.f64) h2)]
theorem Vw{a b:Nat}(hab:cn .f64 a=cn .f64 b):Ret ai bS #[.float .f64 a,.float .f64 b] (.bool true):=λh=>by
 obtain⟨hn,he⟩:=Sc hab
 refine dq.call ?_
 unfold dq.S
 simp only[ne_self]
 cases hna:nan .f64 a with
 | true=>exact BB rfl (BB rfl ⟨by rw[← hn,hna],Ext.refl _⟩)
 | false=>
  obtain rfl:=he hna
  refine dp rfl (dp hna ?_)
  unfold dq.J3
  have hoo:f64.format.order a a=some .eq:=by rw[Cq,hna];rfl
  refine br (λhz=>?_) λhz=>?_
  ·unfold dq.J4
   rw[hz]
   exact BB rfl λr1 h1 r2 h2=>⟨by rw[aic h1 h2];simp,Ext.refl _⟩
  ·unfold dq.J4
   exact dp rfl ⟨by rw[hoo];rfl,Ext.refl _⟩
theorem jU{a b c:Nat}(ha:FW .f64 a (wid c))(hb:FW .f64 b (wid c)):Ret ai bS #[.float .f64 a,.float .f64 b] (.bool true):=Vw (by rw[ha.1,hb.1])
section
variable {h:ab}
theorem Ao{b:Option Addr}{l c:Nat}{xs:List Nat}(S:SlR (rF .f32) h b l c xs)(left:Nat)(hl:left≤1048576):ae ai lO #[.slice b l c,.int .i64 (left:Int)] (λu h'=>u = .int .i64 (yN left (cD xs))∧Ext h h') h:=by
 have h1:cD xs=l:=S.len
 have h2:=S.2.1
 have h3:=S.2.2.1
 have:=bW
 refine qA.call ?_
 unfold qA.S
 rw[wrap64 (n:=(left:Int)-(l:Int)) (by omega) (by omega),h1]
 refine brd (λhc=>⟨by rw[gN (by omega)],Ext.refl _⟩) λhc=>⟨by rw[eM (by omega)];congr 1;omega,Ext.refl _⟩
theorem Ar{b:Option Addr}{l c:Nat}{xs:List Nat}(S:SlR (rF .f32) h b l c xs)(hl0:cD xs≤1048576):ae ai lP #[.slice b l c] (λu h'=>∃b' c' B,u = .slice b' l c'∧SlO au (rF .f32) B b' l c' xs∧Mem h h' B) h:=by
 have Zj:=S.len
 have hl:l≤1048576:=by unfold cD at hl0;omega
 refine fX.call (Kb (Mem.start h) hl λg h1 x1 M0 O0=>?_)
 refine loop (λx hh=>∃(n:Nat) (B:List Blk),x=(b,l,c,some ⟨g,0,none⟩,l,l,(n:Int))∧n≤l∧SlO au (rF .f32) B (some ⟨g,0,none⟩) l l (xs.take n++List.replicate (l-n) 0)∧Mem h hh (B++[])) (λx=>(l-x.2.2.2.2.2.2).toNat) ⟨0,_,rfl,by omega,O0,M0⟩ ?_
 rintro x hh ⟨n,B,rfl,hn,O,M⟩
 refine brd (λhc=>?_) λhc=>?_
 ·refine (S.ext M.ext).idx (by decide) (by omega) (by omega) λa Ra=>Ra.oF1 λy hy=>?_
  obtain⟨a0,F',L',e,P,hs,close⟩:=O.elem M (i:=n) (by omega)
  cases e
  refine idxs (by omega) (by omega) (P.abW hy λh' P'=>?_)
  obtain⟨B',O',M'⟩:=close _ _ _ P'
  rw[ag (by omega)]
  refine ⟨⟨n+1,B',rfl,by omega,?_,M'⟩,by show _<_;simp;omega⟩
  have e:(xs.take n++List.replicate (l-n) 0).set n xs[n]! = xs.take (n+1)++List.replicate (l-(n+1)) 0:=by rw[getElem!_pos xs n (by omega)];exact tI Zj (by omega)
  rw[Int.toNat_natCast,e] at O'
  exact O'
 ·obtain rfl:n=l:=by omega
  rw[show xs.take n++List.replicate (n-n) 0=xs by rw[← Zj];simp] at O
  rw[List.append_nil] at M
  exact ⟨_,_,B,rfl,O,M⟩
theorem zw{b1 b2:Option Addr}{l1 c1 l2 c2:Nat}{xs:List Nat}(S1:SlR (rF .f32) h b1 l1 c1 xs)(S2:SlR (rF .f32) h b2 l2 c2 xs):ae ai lN #[.slice b1 l1 c1,.slice b2 l2 c2] (λu h'=>u = .bool true∧Ext h h') h:=by
 have e1:=S1.len
 have e2:=S2.len
 have h2:=S1.2.1
 have h3:=S1.2.2.1
 have:=bW
 obtain rfl:l1=l2:=by omega
 refine fU.call (dp (by simp) ?_)
 refine loop (λx hh=>∃n:Nat,x=(b1,l1,c1,b2,l1,c2,(n:Int))∧n≤l1∧Ext h hh) (λx=>(l1-x.2.2.2.2.2.2).toNat) ⟨0,rfl,by omega,Ext.refl _⟩ ?_
 rintro x hh ⟨n,rfl,hn,X⟩
 refine brd (λhc=>?_) λhc=>⟨rfl,X⟩
 refine (S1.ext X).idx (by decide) (by omega) (by omega) λa Ra=>Ra.oF1 λy hy=>(S2.ext X).idx (by decide) (by omega) (by omega) λa' Rb=>Rb.oF1 λz hz=>?_
 have fin:∀{h'},Ext hh h'->(∃n_1:Nat,((b1,l1,c1,b2,l1,c2,i64.wrap ((n:Int)+1)):Option Addr×Nat×Nat×Option Addr×Nat×Nat×Int)=(b1,l1,c1,b2,l1,c2,(n_1:Int))∧n_1≤l1∧Ext h h')∧((l1:Int)-i64.wrap ((n:Int)+1)).toNat<((l1:Int)-(n:Int)).toNat:=by
  intro h' x'
  rw[ag (by omega)]
  exact ⟨⟨n+1,rfl,by omega,X.trans x'⟩,by omega⟩
 exact ⟨cK hy λr1 k1=>dS (cK hz λr2 k2=>dS (goX (jU k1 k2 _) λh' x'=>bd (dp rfl (fin x')))),
  cK hz λr1 k1=>dS (cK hy λr2 k2=>dS (goX (jU k2 k1 _) λh' x'=>bd (dp rfl (fin x'))))⟩
def fB(xs:List Nat)(k:Nat):List Nat:=(List.range xs.length).map λi=>f32.nearest ((k+i:Nat):Int)
def aw(xs:List Nat):Nat:=xs.length
theorem aiz{xs:List Nat}{k i:Nat}(hi:i<xs.length):(fB xs k)[i]! = f32.nearest ((k+i:Nat):Int):=by
 rw[getElem!_pos _ i (by simpa [fB] using hi)]
 simp[fB]
theorem lI{h0:ab}{B L:List Blk}{b:Option Addr}{l c:Nat}{xs:List Nat}(O:SlO au (rF .f32) B b l c xs)(M:Mem h0 h (B++L))(k:Nat)(hl:cD xs≤1048576)(hk:k+aw xs≤1073741824):
  ae ai gT #[.slice b l c,.int .i64 (k:Int)] (λu h'=>u = .int .i64 ((k+aw xs:Nat):Int)∧∃B',SlO au (rF .f32) B' b l c (fB xs k)∧Mem h0 h' (B'++L)) h:=by
 have h1:=O.len
 unfold cD at hl
 unfold aw at hk
 refine eU.call ?_
 refine loop (λx hh=>∃(n:Nat) (B:List Blk) (ys:List Nat),x=(b,l,c,((k+n:Nat):Int),(n:Int))∧n≤l∧SlO au (rF .f32) B b l c ys∧Mem h0 hh (B++L)∧∀i,i<n->ys[i]! = f32.nearest ((k+i:Nat):Int)) (λx=>(l-x.2.2.2.2).toNat) ⟨0,B,xs,rfl,by omega,O,M,λi hi=>by omega⟩ ?_
 rintro x hh ⟨n,B,ys,rfl,hn,O,M,hy⟩
 have h2:=O.len
 refine brd (λhc=>?_) λhc=>?_
 ·obtain⟨a0,F',L',rfl,P,hs,close⟩:=O.elem M (i:=n) (by omega)
  refine idxs (by omega) (by omega) (P.abW (dr _ _) λh' P'=>?_)
  obtain⟨B',O',M'⟩:=close _ _ _ P'
  rw[ag (by omega),ag (by omega)]
  refine ⟨⟨n+1,B',_,rfl,by omega,O',M',λi hi=>?_⟩,by show _<_;simp;omega⟩
  by_cases e:i=n
  ·subst e;rw[getElem!_pos _ i (by simpa using by omega),List.getElem_set_self]
  ·have:=hy i (by omega)
   rw[getElem!_pos _ i (by omega)] at this
   rw[getElem!_pos _ i (by simpa using by omega),List.getElem_set_ne (by omega)]
   exact this
 ·obtain rfl:n=l:=by omega
  refine ⟨by rw[aw,h1],B,?_,M⟩
  have:ys=fB xs k:=by
   apply List.ext_getElem
   ·simp[fB];omega
   ·intro i hi hi2
    have:=hy i (by omega)
    rw[getElem!_pos _ i hi] at this
    rw[this];simp[fB]
  rw[← this];exact O
theorem lH{b:Option Addr}{l c:Nat}{xs:List Nat}(k:Nat)(S:SlR (rF .f32) h b l c (fB xs k))(hl:cD xs≤1048576)(hk:k+aw xs≤1073741824):
  ae ai gR #[.slice b l c,.int .i64 (k:Int)] (λu h'=>u = .int .i64 ((k+aw xs:Nat):Int)∧Ext h h') h:=by
 have h1:xs.length=l:=by have:=S.len;simpa [fB] using this
 unfold cD at hl
 unfold aw at hk
 refine eT.call ?_
 refine loop (λx hh=>∃n:Nat,x=(b,l,c,((k+n:Nat):Int),(n:Int))∧n≤l∧hh=h) (λx=>(l-x.2.2.2.2).toNat) ⟨0,rfl,by omega,rfl⟩ ?_
 rintro x hh ⟨n,rfl,hn,rfl⟩
 refine brd (λhc=>?_) λhc=>?_
 ·refine S.idx (by decide) (by omega) (by omega) λa Ra=>Ra.oF1 λy hy=>?_
  rw[Int.toNat_natCast,aiz (by omega)] at hy
  have e:y=f32.nearest ((k+n:Nat):Int):=hy.eq (dW _ _)
  subst e
  refine dp (yq (dW _ _)) ?_
  rw[ag (by omega),ag (by omega)]
  exact ⟨⟨n+1,rfl,by omega,rfl⟩,by show _<_;simp;omega⟩
 ·obtain rfl:n=l:=by omega
  exact ⟨by rw[aw,h1],Ext.refl _⟩
theorem PQ:(iv 2 (rF .f32)).ow [] (List.replicate 2 (.float .f32 0)) (List.replicate 2 0):=⟨by simp,IJ _⟩
theorem NS{cs:Array Value}{xs:List Nat}(R0:(iv 2 (rF .f32)).rd h cs.toList xs):ae ai qQ #[.agg cs] (λu h'=>gw (iv 2 (rF .f32)) h h' u xs) h:=by
 refine fq.call ((Mem.start h).alc λg1 h1 x1 M=>M.alc λg2 h2 x2 M=>M.alc λg3 h3 x3 M=>?_)
 have R:RdP (iv 2 (rF .f32)) h3 ⟨g1,0,none⟩ xs:=M.rdp (.there (.there .here)) ((iv 2 (rF .f32)).ext M.ext R0)
 have hl:xs.length=2:=R0.1
 refine loop (λx hh=>∃n:Nat,x=(⟨g1,0,none⟩,⟨g2,0,none⟩,⟨g3,0,none⟩,(n:Int))∧n≤2∧Pt (iv 2 (rF .f32)) h hh ⟨g3,0,none⟩ ⟨g3,jW,[],[]⟩ [(g2,jW,⟨om⟩),(g1,jW,cs)] (xs.take n++List.replicate (2-n) 0)) (λx=>(2-x.2.2.2).toNat) ⟨0,rfl,by omega,Pt.new (r:=iv 2 (rF .f32)) PQ M⟩ ?_
 rintro x hh ⟨n,rfl,hn,P⟩
 refine brd (λhc=>?_) λhc=>?_
 ·have R:RdP (iv 2 (rF .f32)) hh ⟨g1,0,none⟩ xs:=P.mem.rdp (.there .here) ((iv 2 (rF .f32)).ext P.ext R0)
  refine idx (by omega) (by omega) ((R.elem (i:=n) (by omega)).oF1 λy hy=>idx (by omega) (by omega) ?_)
  refine Pt.st (B':=[]) (v:=.float .f32 y) (b:=xs[n]!) P (Foc.arr (rF .f32) n (by omega)) rfl ⟨rfl,y,rfl,hy⟩ λh' P'=>?_
  rw[ag (by omega)]
  refine ⟨⟨n+1,rfl,by omega,?_⟩,by show _<_;simp;omega⟩
  have e:(xs.take n++List.replicate (2-n) 0).set n xs[n]! = xs.take (n+1)++List.replicate (2-(n+1)) 0:=by rw[getElem!_pos xs n (by omega)];exact tI hl (by omega)
  rw[e] at P'
  exact P'
 ·obtain rfl:n=2:=by omega
  rw[show xs.take 2++List.replicate (2-2) 0=xs by rw[← hl];simp] at P
  obtain⟨FQ,B,M,O⟩:=P.out
  refine M.cM .here (osz O rfl) ?_
  have M:=M.cnt (W:=(g2,jW,⟨om⟩) :: B)
  refine M.dy .here (osz O rfl) ((iv 2 (rF .f32)).iH O) rfl .here λh3 M=>M.cM .here (osz O rfl) ?_
  exact ⟨_,B,rfl,O,M.drop⟩
theorem LS{ca cb:Array Value}{xs:List Nat}(Ra:(iv 2 (rF .f32)).rd h ca.toList xs)(Rb:(iv 2 (rF .f32)).rd h cb.toList xs):ae ai qO #[.agg ca,.agg cb] (λu h'=>u = .bool true∧Ext h h') h:=by
 refine fm.call (fj Ra λg1 h1 x1 A=>fj ((iv 2 (rF .f32)).ext x1 Rb) λg2 h2 x2 B=>?_)
 have A:=A.ext x2
 refine loop (λx hh=>∃n:Nat,x=(⟨g1,0,none⟩,⟨g2,0,none⟩,(n:Int))∧n≤2∧Ext h2 hh) (λx=>(2-x.2.2).toNat) ⟨0,rfl,by omega,Ext.refl _⟩ ?_
 rintro x hh ⟨n,rfl,hn,X⟩
 refine brd (λhc=>?_) λhc=>⟨rfl,(x1.trans x2).trans X⟩
 have A1:=(A.ext X).elem (i:=n) (by omega)
 have B1:=(B.ext X).elem (i:=n) (by omega)
 refine idx (by omega) (by omega) (A1.oF1 λy hy=>idx (by omega) (by omega) (B1.oF1 λz hz=>?_))
 have fin:∀{h'},Ext hh h'->(∃n_1:Nat,((⟨g1,0,none⟩,⟨g2,0,none⟩,i64.wrap ((n:Int)+1)):Addr×Addr×Int)=(⟨g1,0,none⟩,⟨g2,0,none⟩,(n_1:Int))∧n_1≤2∧Ext h2 h')∧((2:Int)-i64.wrap ((n:Int)+1)).toNat<((2:Int)-(n:Int)).toNat:=by
  intro h' x'
  rw[ag (by omega)]
  exact ⟨⟨n+1,rfl,by omega,X.trans x'⟩,by omega⟩
 exact ⟨cK hy λr1 k1=>dS (cK hz λr2 k2=>dS (goX (jU k1 k2 _) λh' x'=>bd (dp rfl (fin x')))),
  cK hz λr1 k1=>dS (cK hy λr2 k2=>dS (goX (jU k2 k1 _) λh' x'=>bd (dp rfl (fin x'))))⟩
theorem PT:(iv 3 (rF .f32)).ow [] (List.replicate 3 (.float .f32 0)) (List.replicate 3 0):=⟨by simp,IJ _⟩
theorem NT{cs:Array Value}{xs:List Nat}(R0:(iv 3 (rF .f32)).rd h cs.toList xs):ae ai qR #[.agg cs] (λu h'=>gw (iv 3 (rF .f32)) h h' u xs) h:=by
 refine ft.call ((Mem.start h).alc λg1 h1 x1 M=>M.alc λg2 h2 x2 M=>M.alc λg3 h3 x3 M=>?_)
 have R:RdP (iv 3 (rF .f32)) h3 ⟨g1,0,none⟩ xs:=M.rdp (.there (.there .here)) ((iv 3 (rF .f32)).ext M.ext R0)
 have hl:xs.length=3:=R0.1
 refine loop (λx hh=>∃n:Nat,x=(⟨g1,0,none⟩,⟨g2,0,none⟩,⟨g3,0,none⟩,(n:Int))∧n≤3∧Pt (iv 3 (rF .f32)) h hh ⟨g3,0,none⟩ ⟨g3,dH,[],[]⟩ [(g2,dH,⟨jx⟩),(g1,dH,cs)] (xs.take n++List.replicate (3-n) 0)) (λx=>(3-x.2.2.2).toNat) ⟨0,rfl,by omega,Pt.new (r:=iv 3 (rF .f32)) PT M⟩ ?_
 rintro x hh ⟨n,rfl,hn,P⟩
 refine brd (λhc=>?_) λhc=>?_
 ·have R:RdP (iv 3 (rF .f32)) hh ⟨g1,0,none⟩ xs:=P.mem.rdp (.there .here) ((iv 3 (rF .f32)).ext P.ext R0)
  refine idx (by omega) (by omega) ((R.elem (i:=n) (by omega)).oF1 λy hy=>idx (by omega) (by omega) ?_)
  refine Pt.st (B':=[]) (v:=.float .f32 y) (b:=xs[n]!) P (Foc.arr (rF .f32) n (by omega)) rfl ⟨rfl,y,rfl,hy⟩ λh' P'=>?_
  rw[ag (by omega)]
  refine ⟨⟨n+1,rfl,by omega,?_⟩,by show _<_;simp;omega⟩
  have e:(xs.take n++List.replicate (3-n) 0).set n xs[n]! = xs.take (n+1)++List.replicate (3-(n+1)) 0:=by rw[getElem!_pos xs n (by omega)];exact tI hl (by omega)
  rw[e] at P'
  exact P'
 ·obtain rfl:n=3:=by omega
  rw[show xs.take 3++List.replicate (3-3) 0=xs by rw[← hl];simp] at P
  obtain⟨FQ,B,M,O⟩:=P.out
  refine M.cM .here (osz O rfl) ?_
  have M:=M.cnt (W:=(g2,dH,⟨jx⟩) :: B)
  refine M.dy .here (osz O rfl) ((iv 3 (rF .f32)).iH O) rfl .here λh3 M=>M.cM .here (osz O rfl) ?_
  exact ⟨_,B,rfl,O,M.drop⟩
theorem LU{ca cb:Array Value}{xs:List Nat}(Ra:(iv 3 (rF .f32)).rd h ca.toList xs)(Rb:(iv 3 (rF .f32)).rd h cb.toList xs):ae ai qP #[.agg ca,.agg cb] (λu h'=>u = .bool true∧Ext h h') h:=by
 refine fp.call (fj Ra λg1 h1 x1 A=>fj ((iv 3 (rF .f32)).ext x1 Rb) λg2 h2 x2 B=>?_)
 have A:=A.ext x2
 refine loop (λx hh=>∃n:Nat,x=(⟨g1,0,none⟩,⟨g2,0,none⟩,(n:Int))∧n≤3∧Ext h2 hh) (λx=>(3-x.2.2).toNat) ⟨0,rfl,by omega,Ext.refl _⟩ ?_
 rintro x hh ⟨n,rfl,hn,X⟩
 refine brd (λhc=>?_) λhc=>⟨rfl,(x1.trans x2).trans X⟩
 have A1:=(A.ext X).elem (i:=n) (by omega)
 have B1:=(B.ext X).elem (i:=n) (by omega)
 refine idx (by omega) (by omega) (A1.oF1 λy hy=>idx (by omega) (by omega) (B1.oF1 λz hz=>?_))
 have fin:∀{h'},Ext hh h'->(∃n_1:Nat,((⟨g1,0,none⟩,⟨g2,0,none⟩,i64.wrap ((n:Int)+1)):Addr×Addr×Int)=(⟨g1,0,none⟩,⟨g2,0,none⟩,(n_1:Int))∧n_1≤3∧Ext h2 h')∧((3:Int)-i64.wrap ((n:Int)+1)).toNat<((3:Int)-(n:Int)).toNat:=by
  intro h' x'
  rw[ag (by omega)]
  exact ⟨⟨n+1,rfl,by omega,X.trans x'⟩,by omega⟩
 exact ⟨cK hy λr1 k1=>dS (cK hz λr2 k2=>dS (goX (jU k1 k2 _) λh' x'=>bd (dp rfl (fin x')))),
  cK hz λr1 k1=>dS (cK hy λr2 k2=>dS (goX (jU k2 k1 _) λh' x'=>bd (dp rfl (fin x'))))⟩
end
theorem jG.go{α:Type}{r:Rep α}{P:Program}{f:FuncId}{args:Array Value}{a:α}{code:Int}{hb h:ab}{L:List Blk}{K:Value->ab->Prop}(M:Mem hb h L)(c:ae P f args (λu h'=>jG r h h' u a code) h)(H:∀h' cs B,Mem hb h' (B++L)->r.ow B cs.toList a->cs.size=r.sz->K (.tuple ⟨[.agg cs,.int .i64 code]⟩) h'):ae P f args K h:=
 c.mono λu h' ⟨cs,B,e,O,N⟩=>by subst e;exact H h' cs B (M.join N) O (by simpa using r.kF O)
theorem akv{α:Type}{r:Rep α}{P:Program}{f:FuncId}{args:Array Value}{b:α}{v:Value}{hb h:ab}{L:List Blk}{cs:Array Value}{K:Value->ab->Prop}(c:ae P f args (λu h'=>u=v∧∃B',r.ow B' cs.toList b∧Mem hb h' (B'++L)) h)(H:∀h' B',Mem hb h' (B'++L)->r.ow B' cs.toList b->K v h'):ae P f args K h:=
 c.mono λu h' ⟨e,B',O,N⟩=>by subst e;exact H h' B' N O
theorem eqB{a:Int}{p q:Prop}(H:q):BIF (a != a) p q:=by
 rw[show (a != a)=false by simp];exact H
theorem Sa{b:Bool}{p q:Prop}(hb:b=true)(H:q):BIF (!b) p q:=by
 subst hb;exact H
theorem adx{a:Int}{p q:Prop}(h:0≤a)(H:q):BIF (decide (a<0)) p q:=by
 rw[show decide (a<0)=false by simp;omega];exact H
end Go.Sx
