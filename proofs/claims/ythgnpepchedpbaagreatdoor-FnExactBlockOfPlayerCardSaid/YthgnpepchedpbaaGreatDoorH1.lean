/- Lemmas. -/
import Derived.Test.YthgnpepchedpbaaGreatDoorTab
import Derived.Test.YthgnpepchedpbaaGreatDoorLk24
set_option linter.unusedVariables false
set_option linter.unusedSimpArgs false
namespace Go.Sx
open FloatKind (f32 f64)
open IntKind (i64)
open Go.Proofs
set_option maxRecDepth 100000
def cI.J4(aa:VH)(a_0:Nat)(b_1:Nat)(a:Bool)(h:ab):=BIF a (FOP .f64 (f64.format.div 4607182418800017408 a_0) λb=> FOP .f64 (f64.format.div 4607182418800017408 b_1) λc=> aa (.bool ((f64.format.order b 0==some .gt)==(f64.format.order c 0==some .gt))) h) (aa (.bool (f64.format.order a_0 b_1==some .eq)) h)
def cI.j4(aa:VH):=gg (kds 37 [(0,.f .f64),(1,.f .f64),(26,.b)]) λfr=>cI.J4 aa (gF (ah fr 0)) (gF (ah fr 1)) (gB (ah fr 26))
def cI.J3(aa:VH)(a_0:Nat)(b_1:Nat)(h:ab):=BIF (f64.format.order a_0 0==some .eq) (cI.J4 aa a_0 b_1 (f64.format.order b_1 0==some .eq) h) (cI.J4 aa a_0 b_1 false h)
def cI.j3(aa:VH):=gg (kds 37 [(0,.f .f64),(1,.f .f64)]) λfr=>cI.J3 aa (gF (ah fr 0)) (gF (ah fr 1))
def cI.S(a_0:Nat)(b_1:Nat)(aa:VH)(h:ab):=BIF (f64.format.order a_0 a_0 !=some .eq) (BIF (f64.format.order a_0 a_0 !=some .eq) (aa (.bool (f64.format.order b_1 b_1 !=some .eq)) h) (aa (.bool false) h)) (BIF (f64.format.order b_1 b_1 !=some .eq) (BIF (f64.format.order a_0 a_0 !=some .eq) (aa (.bool (f64.format.order b_1 b_1 !=some .eq)) h) (aa (.bool false) h)) (cI.J3 aa a_0 b_1 h))
theorem cI.call{a_0 b_1 aa h}(H:cI.S a_0 b_1 aa h):af ak 37 #[.float .f64 a_0,.float .f64 b_1] aa h:=qc (Λ:=aS [(3,cI.j3 aa),(4,cI.j4 aa)]) Tryz.func37 (qs qf (qj (cI.j3 aa) qf (qs (qj (cI.j4 aa) qf qf) qf))) (qe H)
def mf.S(aO:Option Addr)(aB bH:Nat)(fy:Int)(aa:VH)(h:ab):=BIF ((decide ((i64.wrap (fy-(aB:Int)))<0))) (aa (.int .i64 (-1)) h) (aa (.int .i64 ((i64.wrap (fy-(aB:Int))))) h)
theorem mf.call{aO aB bH fy aa h}(H:mf.S aO aB bH fy aa h):af ak 72 #[.slice aO aB bH,.int .i64 fy] aa h:=qk Tryz.func72 H
def eL.B3(aa:VH)(a:(Option Addr×Nat×Nat×Option Addr×Nat×Nat×Int)->ab->Prop):Option Addr×Nat×Nat×Option Addr×Nat×Nat×Int->ab->Prop |(aO,aB,bH,lu,lv,nF,i_4),h=> BIF ((decide (i_4<(aB:Int)))) (bd aO i_4 aB λb=> oF .f32 (cell h ((Addr.add b (i_4.toNat*1)))) λc=> bd lu i_4 lv λd=> ST1 h ((Addr.add d (i_4.toNat*1))) (.float .f32 c) λgv=> a (aO,aB,bH,lu,lv,nF,((i64.wrap (i_4+1)))) gv) (aa (.slice lu lv nF) h)
def eL.g3(fr:Frame):Option Addr×Nat×Nat×Option Addr×Nat×Nat×Int:=((gLb (ah fr 0)),(gLl (ah fr 0)),(gLc (ah fr 0)),(gLb (ah fr 3)),(gLl (ah fr 3)),(gLc (ah fr 3)),(gI (ah fr 4)))
def eL.l3(aa:VH):=gg (kds 22 [(0,.l),(3,.l),(4,.i .i64)]) λfr=>bk (eL.B3 aa) (eL.g3 fr)
def eL.S(aO:Option Addr)(aB bH:Nat)(aa:VH)(h:ab):=MKS eC 22 (aB:Int) (aB:Int) (λa b=> bk (eL.B3 aa) (aO,aB,bH,(some ⟨a,0,none⟩),aB,aB,0) b) h
theorem eL.call{aO aB bH aa h}(H:eL.S aO aB bH aa h):af ak 78 #[.slice aO aB bH] aa h:=qc (Λ:=aS [(1000003,eL.l3 aa)]) Tryz.func78 (qs qf (qs qf (qs (qs qf (Rq.block (ql (eL.l3 aa) (qg (g:=eL.g3) (Λ:=λa=>aS []) (λ_ _ _=>by kernel_rfl) (λa=>qf))))) qf))) (qe H)
def eI.B4(aa:VH)(c:(Option Addr×Nat×Nat×Option Addr×Nat×Nat×Int)->ab->Prop):Option Addr×Nat×Nat×Option Addr×Nat×Nat×Int->ab->Prop |(aO,aB,bH,jV,jb,kY,i_5),h=> BIF ((decide (i_5<(aB:Int)))) (bd aO i_5 aB λa=> oF .f32 (cell h ((Addr.add a (i_5.toNat*1)))) λd=> bd jV i_5 jb λb=> oF .f32 (cell h ((Addr.add b (i_5.toNat*1)))) λxA=> (FFC .f32 d .f64 λxG=> PIN h ((Addr.add b (i_5.toNat*1))) 1 h <|FFC .f32 xA .f64 λrk=> PIN h ((Addr.add a (i_5.toNat*1))) 1 h <|af ak 37 #[.float .f64 xG,.float .f64 rk] (λxz e=> asB xz λEG=> BIF (!EG) (aa (.bool false) e) (c (aO,aB,bH,jV,jb,kY,((i64.wrap (i_5+1)))) e)) h)∧(FFC .f32 xA .f64 λEr=> PIN h ((Addr.add a (i_5.toNat*1))) 1 h <|FFC .f32 d .f64 λCy=> PIN h ((Addr.add b (i_5.toNat*1))) 1 h <|af ak 37 #[.float .f64 Cy,.float .f64 Er] (λf ta=> asB f λg=> BIF (!g) (aa (.bool false) ta) (c (aO,aB,bH,jV,jb,kY,((i64.wrap (i_5+1)))) ta)) h)) (aa (.bool true) h)
def eI.g4(fr:Frame):Option Addr×Nat×Nat×Option Addr×Nat×Nat×Int:=((gLb (ah fr 0)),(gLl (ah fr 0)),(gLc (ah fr 0)),(gLb (ah fr 1)),(gLl (ah fr 1)),(gLc (ah fr 1)),(gI (ah fr 5)))
def eI.l4(aa:VH):=gg (kds 29 [(0,.l),(1,.l),(5,.i .i64)]) λfr=>bk (eI.B4 aa) (eI.g4 fr)
def eI.S(aO:Option Addr)(aB bH:Nat)(jV:Option Addr)(jb kY:Nat)(aa:VH)(h:ab):=BIF ((aB:Int) !=(jb:Int)) (aa (.bool false) h) (bk (eI.B4 aa) (aO,aB,bH,jV,jb,kY,0) h)
theorem eI.call{aO aB bH jV jb kY aa h}(H:eI.S aO aB bH jV jb kY aa h):af ak 11 #[.slice aO aB bH,.slice jV jb kY] aa h:=qc (Λ:=aS [(1000004,eI.l4 aa)]) Tryz.func11 (qs qf (qs qf (qs (qs qf (Rq.block (ql (eI.l4 aa) (qg (g:=eI.g4) (Λ:=λa=>aS []) (λ_ _ _=>by kernel_rfl) (λa=>qf))))) qf))) (qe H)
def dO.B2(aa:VH)(a:(Option Addr×Nat×Nat×Int×Int)->ab->Prop):Option Addr×Nat×Nat×Int×Int->ab->Prop |(aO,aB,bH,k_1,i_5),h=> BIF ((decide (i_5<(aB:Int)))) (bd aO i_5 aB λb=> ST1 h ((Addr.add b (i_5.toNat*1))) (.float .f32 (f32.nearest k_1)) λc=> a (aO,aB,bH,((i64.wrap (k_1+1))),((i64.wrap (i_5+1)))) c) (aa (.int .i64 k_1) h)
def dO.g2(fr:Frame):Option Addr×Nat×Nat×Int×Int:=((gLb (ah fr 0)),(gLl (ah fr 0)),(gLc (ah fr 0)),(gI (ah fr 1)),(gI (ah fr 5)))
def dO.l2(aa:VH):=gg (kds 20 [(0,.l),(1,.i .i64),(5,.i .i64)]) λfr=>bk (dO.B2 aa) (dO.g2 fr)
def dO.S(aO:Option Addr)(aB bH:Nat)(k_1:Int)(aa:VH)(h:ab):=bk (dO.B2 aa) (aO,aB,bH,k_1,0) h
theorem dO.call{aO aB bH k_1 aa h}(H:dO.S aO aB bH k_1 aa h):af ak 14 #[.slice aO aB bH,.int .i64 k_1] aa h:=qc (Λ:=aS [(1000002,dO.l2 aa)]) Tryz.func14 (qs qf (qs (qs qf (Rq.block (ql (dO.l2 aa) (qg (g:=dO.g2) (Λ:=λa=>aS []) (λ_ _ _=>by kernel_rfl) (λa=>qf))))) qf)) (qe H)
def dN.B2(aa:VH)(a:(Option Addr×Nat×Nat×Int×Int)->ab->Prop):Option Addr×Nat×Nat×Int×Int->ab->Prop |(aO,aB,bH,k_1,i_5),h=> BIF ((decide (i_5<(aB:Int)))) (bd aO i_5 aB λb=> oF .f32 (cell h ((Addr.add b (i_5.toNat*1)))) λc=> BIF (f32.format.order c (f32.nearest k_1) !=some .eq) (aa (.int .i64 (-1)) h) (a (aO,aB,bH,((i64.wrap (k_1+1))),((i64.wrap (i_5+1)))) h)) (aa (.int .i64 k_1) h)
def dN.g2(fr:Frame):Option Addr×Nat×Nat×Int×Int:=((gLb (ah fr 0)),(gLl (ah fr 0)),(gLc (ah fr 0)),(gI (ah fr 1)),(gI (ah fr 5)))
def dN.l2(aa:VH):=gg (kds 22 [(0,.l),(1,.i .i64),(5,.i .i64)]) λfr=>bk (dN.B2 aa) (dN.g2 fr)
def dN.S(aO:Option Addr)(aB bH:Nat)(k_1:Int)(aa:VH)(h:ab):=bk (dN.B2 aa) (aO,aB,bH,k_1,0) h
theorem dN.call{aO aB bH k_1 aa h}(H:dN.S aO aB bH k_1 aa h):af ak 15 #[.slice aO aB bH,.int .i64 k_1] aa h:=qc (Λ:=aS [(1000002,dN.l2 aa)]) Tryz.func15 (qs qf (qs (qs qf (Rq.block (ql (dN.l2 aa) (qg (g:=dN.g2) (Λ:=λa=>aS []) (λ_ _ _=>by kernel_rfl) (λa=>qf))))) qf)) (qe H)
def abo.B3(aa:VH)(a:(Addr×Addr×Addr×Int)->ab->Prop):Addr×Addr×Addr×Int->ab->Prop |(a_1,t2,Cs,i_4),h=> BIF ((decide (i_4<2))) (IDX i_4 2 <|oF .f32 (cell h ((Addr.add a_1 (i_4.toNat*1)))) λb=> IDX i_4 2 <|ST1 h ((Addr.add Cs (i_4.toNat*1))) (.float .f32 b) λc=> a (a_1,t2,Cs,((i64.wrap (i_4+1)))) c) (LDA 2 h Cs λd=> STA 2 h t2 d λgv=> LDA 2 gv t2 λzi=> aa (.agg zi) gv)
def abo.g3(fr:Frame):Addr×Addr×Addr×Int:=((gP (ah fr 1)),(gP (ah fr 2)),(gP (ah fr 3)),(gI (ah fr 4)))
def abo.l3(aa:VH):=gg (kds 15 [(1,.p),(2,.p),(3,.p),(4,.i .i64)]) λfr=>bk (abo.B3 aa) (abo.g3 fr)
def abo.S(a_0:Array Value)(aa:VH)(h:ab):=ALC a_0 111 (λa b=> ALC ⟨xQ⟩ 111 (λc d=> ALC ⟨xQ⟩ 111 (λe f=> bk (abo.B3 aa) (⟨a,0,none⟩,⟨c,0,none⟩,⟨e,0,none⟩,0) f) d) b) h
theorem abo.call{a_0 aa h}(H:abo.S a_0 aa h):af ak 268 #[.agg a_0] aa h:=qc (Λ:=aS [(1000003,abo.l3 aa)]) Tryz.func268 (qs qf (qs qf (qs (qs qf (Rq.block (ql (abo.l3 aa) (qg (g:=abo.g3) (Λ:=λa=>aS []) (λ_ _ _=>by kernel_rfl) (λa=>qf))))) qf))) (qe H)
def abp.B3(aa:VH)(a:(Addr×Addr×Addr×Int)->ab->Prop):Addr×Addr×Addr×Int->ab->Prop |(a_1,t2,Cs,i_4),h=> BIF ((decide (i_4<3))) (IDX i_4 3 <|oF .f32 (cell h ((Addr.add a_1 (i_4.toNat*1)))) λb=> IDX i_4 3 <|ST1 h ((Addr.add Cs (i_4.toNat*1))) (.float .f32 b) λc=> a (a_1,t2,Cs,((i64.wrap (i_4+1)))) c) (LDA 3 h Cs λd=> STA 3 h t2 d λgv=> LDA 3 gv t2 λzi=> aa (.agg zi) gv)
def abp.g3(fr:Frame):Addr×Addr×Addr×Int:=((gP (ah fr 1)),(gP (ah fr 2)),(gP (ah fr 3)),(gI (ah fr 4)))
def abp.l3(aa:VH):=gg (kds 15 [(1,.p),(2,.p),(3,.p),(4,.i .i64)]) λfr=>bk (abp.B3 aa) (abp.g3 fr)
def abp.S(a_0:Array Value)(aa:VH)(h:ab):=ALC a_0 110 (λa b=> ALC ⟨jY⟩ 110 (λc d=> ALC ⟨jY⟩ 110 (λe f=> bk (abp.B3 aa) (⟨a,0,none⟩,⟨c,0,none⟩,⟨e,0,none⟩,0) f) d) b) h
theorem abp.call{a_0 aa h}(H:abp.S a_0 aa h):af ak 267 #[.agg a_0] aa h:=qc (Λ:=aS [(1000003,abp.l3 aa)]) Tryz.func267 (qs qf (qs qf (qs (qs qf (Rq.block (ql (abp.l3 aa) (qg (g:=abp.g3) (Λ:=λa=>aS []) (λ_ _ _=>by kernel_rfl) (λa=>qf))))) qf))) (qe H)
def ek.B2(aa:VH)(a:(Addr×Addr×Int)->ab->Prop):Addr×Addr×Int->ab->Prop |(a_2,b_3,i_5),h=> BIF ((decide (i_5<2))) (IDX i_5 2 <|oF .f32 (cell h ((Addr.add a_2 (i_5.toNat*1)))) λb=> IDX i_5 2 <|oF .f32 (cell h ((Addr.add b_3 (i_5.toNat*1)))) λc=> (FFC .f32 b .f64 λd=> PIN h ((Addr.add b_3 (i_5.toNat*1))) 1 h <|FFC .f32 c .f64 λe=> PIN h ((Addr.add a_2 (i_5.toNat*1))) 1 h <|af ak 37 #[.float .f64 d,.float .f64 e] (λf gv=> asB f λPU=> BIF (!PU) (aa (.bool false) gv) (a (a_2,b_3,((i64.wrap (i_5+1)))) gv)) h)∧(FFC .f32 c .f64 λrk=> PIN h ((Addr.add a_2 (i_5.toNat*1))) 1 h <|FFC .f32 b .f64 λxB=> PIN h ((Addr.add b_3 (i_5.toNat*1))) 1 h <|af ak 37 #[.float .f64 xB,.float .f64 rk] (λDI kB=> asB DI λg=> BIF (!g) (aa (.bool false) kB) (a (a_2,b_3,((i64.wrap (i_5+1)))) kB)) h)) (aa (.bool true) h)
def ek.g2(fr:Frame):Addr×Addr×Int:=((gP (ah fr 2)),(gP (ah fr 3)),(gI (ah fr 5)))
def ek.l2(aa:VH):=gg (kds 20 [(2,.p),(3,.p),(5,.i .i64)]) λfr=>bk (ek.B2 aa) (ek.g2 fr)
def ek.S(a_0:Array Value)(b_1:Array Value)(aa:VH)(h:ab):=ALC a_0 111 (λa b=> ALC b_1 111 (λc d=> bk (ek.B2 aa) (⟨a,0,none⟩,⟨c,0,none⟩,0) d) b) h
theorem ek.call{a_0 b_1 aa h}(H:ek.S a_0 b_1 aa h):af ak 264 #[.agg a_0,.agg b_1] aa h:=qc (Λ:=aS [(1000002,ek.l2 aa)]) Tryz.func264 (qs qf (qs (qs qf (Rq.block (ql (ek.l2 aa) (qg (g:=ek.g2) (Λ:=λa=>aS []) (λ_ _ _=>by kernel_rfl) (λa=>qf))))) qf)) (qe H)
def eo.B2(aa:VH)(a:(Addr×Addr×Int)->ab->Prop):Addr×Addr×Int->ab->Prop |(a_2,b_3,i_5),h=> BIF ((decide (i_5<3))) (IDX i_5 3 <|oF .f32 (cell h ((Addr.add a_2 (i_5.toNat*1)))) λb=> IDX i_5 3 <|oF .f32 (cell h ((Addr.add b_3 (i_5.toNat*1)))) λc=> (FFC .f32 b .f64 λd=> PIN h ((Addr.add b_3 (i_5.toNat*1))) 1 h <|FFC .f32 c .f64 λe=> PIN h ((Addr.add a_2 (i_5.toNat*1))) 1 h <|af ak 37 #[.float .f64 d,.float .f64 e] (λf gv=> asB f λPU=> BIF (!PU) (aa (.bool false) gv) (a (a_2,b_3,((i64.wrap (i_5+1)))) gv)) h)∧(FFC .f32 c .f64 λrk=> PIN h ((Addr.add a_2 (i_5.toNat*1))) 1 h <|FFC .f32 b .f64 λxB=> PIN h ((Addr.add b_3 (i_5.toNat*1))) 1 h <|af ak 37 #[.float .f64 xB,.float .f64 rk] (λDI kB=> asB DI λg=> BIF (!g) (aa (.bool false) kB) (a (a_2,b_3,((i64.wrap (i_5+1)))) kB)) h)) (aa (.bool true) h)
def eo.g2(fr:Frame):Addr×Addr×Int:=((gP (ah fr 2)),(gP (ah fr 3)),(gI (ah fr 5)))
def eo.l2(aa:VH):=gg (kds 20 [(2,.p),(3,.p),(5,.i .i64)]) λfr=>bk (eo.B2 aa) (eo.g2 fr)
def eo.S(a_0:Array Value)(b_1:Array Value)(aa:VH)(h:ab):=ALC a_0 110 (λa b=> ALC b_1 110 (λc d=> bk (eo.B2 aa) (⟨a,0,none⟩,⟨c,0,none⟩,0) d) b) h
theorem eo.call{a_0 b_1 aa h}(H:eo.S a_0 b_1 aa h):af ak 263 #[.agg a_0,.agg b_1] aa h:=qc (Λ:=aS [(1000002,eo.l2 aa)]) Tryz.func263 (qs qf (qs (qs qf (Rq.block (ql (eo.l2 aa) (qg (g:=eo.g2) (Λ:=λa=>aS []) (λ_ _ _=>by kernel_rfl) (λa=>qf))))) qf)) (qe H)
def alG.B2(aa:VH)(a:(Addr×Addr×Int)->ab->Prop):Addr×Addr×Int->ab->Prop |(a_2,b_3,i_5),h=> BIF ((decide (i_5<16))) (IDX i_5 16 <|oF .f32 (cell h ((Addr.add a_2 (i_5.toNat*1)))) λb=> IDX i_5 16 <|oF .f32 (cell h ((Addr.add b_3 (i_5.toNat*1)))) λc=> (FFC .f32 b .f64 λd=> PIN h ((Addr.add b_3 (i_5.toNat*1))) 1 h <|FFC .f32 c .f64 λe=> PIN h ((Addr.add a_2 (i_5.toNat*1))) 1 h <|af ak 37 #[.float .f64 d,.float .f64 e] (λf gv=> asB f λPU=> BIF (!PU) (aa (.bool false) gv) (a (a_2,b_3,((i64.wrap (i_5+1)))) gv)) h)∧(FFC .f32 c .f64 λrk=> PIN h ((Addr.add a_2 (i_5.toNat*1))) 1 h <|FFC .f32 b .f64 λxB=> PIN h ((Addr.add b_3 (i_5.toNat*1))) 1 h <|af ak 37 #[.float .f64 xB,.float .f64 rk] (λDI kB=> asB DI λg=> BIF (!g) (aa (.bool false) kB) (a (a_2,b_3,((i64.wrap (i_5+1)))) kB)) h)) (aa (.bool true) h)
def alG.g2(fr:Frame):Addr×Addr×Int:=((gP (ah fr 2)),(gP (ah fr 3)),(gI (ah fr 5)))
def alG.l2(aa:VH):=gg (kds 20 [(2,.p),(3,.p),(5,.i .i64)]) λfr=>bk (alG.B2 aa) (alG.g2 fr)
def alG.S(a_0:Array Value)(b_1:Array Value)(aa:VH)(h:ab):=ALC a_0 69 (λa b=> ALC b_1 69 (λc d=> bk (alG.B2 aa) (⟨a,0,none⟩,⟨c,0,none⟩,0) d) b) h
theorem alG.call{a_0 b_1 aa h}(H:alG.S a_0 b_1 aa h):af ak 31 #[.agg a_0,.agg b_1] aa h:=qc (Λ:=aS [(1000002,alG.l2 aa)]) Tryz.func31 (qs qf (qs (qs qf (Rq.block (ql (alG.l2 aa) (qg (g:=alG.g2) (Λ:=λa=>aS []) (λ_ _ _=>by kernel_rfl) (λa=>qf))))) qf)) (qe H)
def ai6.S(a_0:Array Value)(fy:Int)(aa:VH)(h:ab):=ALC a_0 149 (λd a=> oL (cell a ⟨d,0,none⟩) λNH NI Pz=> af ak 72 #[.slice NH NI Pz,.int .i64 fy] (λe b=> asI .i64 e λc=> BIF ((decide (c<0))) (aa (.int .i64 (-1)) b) (aa (.int .i64 c) b)) a) h
theorem ai6.call{a_0 fy aa h}(H:ai6.S a_0 fy aa h):af ak 199 #[.agg a_0,.int .i64 fy] aa h:=qk Tryz.func199 H
def aic.S(a_0:Array Value)(aa:VH)(h:ab):=ALC a_0 149 (λb e=> ALC ⟨jh⟩ 109 (λc f=> ALC ⟨jh⟩ 109 (λa d=> oL (cell d ⟨b,0,none⟩) λHS Gr IJ=> af ak 78 #[.slice HS Gr IJ] (λg i=> asL g λzU uf Du=> ST1 i ⟨a,0,none⟩ (.slice zU uf Du) λme=> oI .i64 (cell me ⟨b,1,none⟩) λUS=> ST1 me ⟨a,1,none⟩ (.int .i64 US) λhP=> LDA 2 hP ⟨a,0,none⟩ λj=> STA 2 hP ⟨c,0,none⟩ j λkB=> LDA 2 kB ⟨c,0,none⟩ λPL=> aa (.agg PL) kB) d) f) e) h
theorem aic.call{a_0 aa h}(H:aic.S a_0 aa h):af ak 209 #[.agg a_0] aa h:=qk Tryz.func209 H
def yI.S(a_0:Array Value)(b_1:Array Value)(aa:VH)(h:ab):=ALC a_0 109 (λc e=> ALC b_1 109 (λd b=> oL (cell b ⟨c,0,none⟩) λII HR PA=> oL (cell b ⟨d,0,none⟩) λUH UI f=> af ak 11 #[.slice II HR PA,.slice UH UI f] (λg a=> asB g λi=> BIF (!i) (aa (.bool false) a) (oI .i64 (cell a ⟨c,1,none⟩) λxn=> oI .i64 (cell a ⟨d,1,none⟩) λj=> BIF (xn !=j) (aa (.bool false) a) (aa (.bool true) a))) b) e) h
theorem yI.call{a_0 b_1 aa h}(H:yI.S a_0 b_1 aa h):af ak 196 #[.agg a_0,.agg b_1] aa h:=qk Tryz.func196 H
def agR.S(a_0:Array Value)(aa:VH)(h:ab):=ALC a_0 150 (λb f=> ALC ⟨gf⟩ 113 (λc g=> ALC ⟨gf⟩ 113 (λa d=> oI .i64 (cell d ⟨b,0,none⟩) λi=> ST1 d ⟨a,0,none⟩ (.int .i64 i) λe=> LDA 3 e ⟨b,1,none⟩ λj=> af ak 267 #[.agg j] (λCx me=> asA Cx λKH=> STA 3 me ⟨a,1,none⟩ KH λhP=> LDA 2 hP ⟨b,4,none⟩ λk=> af ak 268 #[.agg k] (λIV kT=> asA IV λSk=> STA 2 kT ⟨a,4,none⟩ Sk λjF=> LDA 6 jF ⟨a,0,none⟩ λl=> STA 6 jF ⟨c,0,none⟩ l λjU=> LDA 6 jU ⟨c,0,none⟩ λWm=> aa (.agg Wm) jU) hP) e) g) f) h
theorem agR.call{a_0 aa h}(H:agR.S a_0 aa h):af ak 210 #[.agg a_0] aa h:=qk Tryz.func210 H
def ug.S(a_0:Array Value)(b_1:Array Value)(aa:VH)(h:ab):=ALC a_0 113 (λb d=> ALC b_1 113 (λc a=> oI .i64 (cell a ⟨b,0,none⟩) λe=> oI .i64 (cell a ⟨c,0,none⟩) λf=> BIF (e !=f) (aa (.bool false) a) (LDA 3 a ⟨b,1,none⟩ λg=> LDA 3 a ⟨c,1,none⟩ λi=> af ak 263 #[.agg g,.agg i] (λj gv=> asB j λPU=> BIF (!PU) (aa (.bool false) gv) (LDA 2 gv ⟨b,4,none⟩ λKH=> LDA 2 gv ⟨c,4,none⟩ λWl=> af ak 264 #[.agg KH,.agg Wl] (λDI kB=> asB DI λk=> BIF (!k) (aa (.bool false) kB) (aa (.bool true) kB)) gv)) a)) d) h
theorem ug.call{a_0 b_1 aa h}(H:ug.S a_0 b_1 aa h):af ak 197 #[.agg a_0,.agg b_1] aa h:=qk Tryz.func197 H
def cf(xs:List Nat):Nat:=xs.length
def CL(left w:Nat):Int:=if left<w then -1 else((left-w:Nat):Int)
theorem Ho{left w:Nat}{p q:Prop}(ht:left<w->p)(hf:w≤left->q):BIF (decide (CL left w<0)) p q:=by
 refine brd (λh=>ht ?_) λh=>hf ?_
 ·unfold CL at h;split at h <;> omega
 ·unfold CL at h;split at h <;> omega
theorem nO{left w:Nat}(h:left<w):CL left w = -1:=by unfold CL;rw[if_pos h]
theorem ly{left w:Nat}(h:w≤left):CL left w=((left-w:Nat):Int):=by unfold CL;rw[if_neg (by omega)]
theorem abz{o:Option Nat}{r1 r2:Nat}(h1:IsF .f64 o r1)(h2:IsF .f64 o r2):(f64.format.order r1 0==some .gt)=(f64.format.order r2 0==some .gt):=by
 cases o with
 | some v=>rw[show r1=v from h1,show r2=v from h2]
 | none=>rw[nE (m4 (k:=.f64) h1),nE (m4 (k:=.f64) h2)]
theorem OI{a b:Nat}(hab:cn .f64 a=cn .f64 b):Ret ak 37 #[.float .f64 a,.float .f64 b] (.bool true):=λh=>by
 obtain⟨hn,he⟩:=KQ hab
 refine cI.call ?_
 unfold cI.S
 simp only[ne_self]
 cases VI:nan .f64 a with
 | true=>exact vu rfl (vu rfl ⟨by rw[← hn,VI],Ext.refl _⟩)
 | false=>
  obtain rfl:=he VI
  refine cM rfl (cM VI ?_)
  unfold cI.J3
  have hoo:f64.format.order a a=some .eq:=by rw[wa,VI];rfl
  refine br (λhz=>?_) λhz=>?_
  ·unfold cI.J4
   rw[hz]
   exact vu rfl λr1 h1 r2 h2=>⟨by rw[abz h1 h2];simp,Ext.refl _⟩
  ·unfold cI.J4
   exact cM rfl ⟨by rw[hoo];rfl,Ext.refl _⟩
theorem iA{a b c:Nat}(ha:FW .f64 a (wid c))(hb:FW .f64 b (wid c)):Ret ak 37 #[.float .f64 a,.float .f64 b] (.bool true):=OI (by rw[ha.1,hb.1])
section
variable {h:ab}
theorem Jc{b:Option Addr}{l c:Nat}{xs:List Nat}(S:SlR (rF .f32) h b l c xs)(left:Nat)(hl:left≤1048576):af ak 72 #[.slice b l c,.int .i64 (left:Int)] (λu h'=>u = .int .i64 (CL left (cf xs))∧Ext h h') h:=by
 have h1:cf xs=l:=S.len
 have h2:=S.2.1
 have h3:=S.2.2.1
 have:=cu
 refine mf.call ?_
 unfold mf.S
 rw[wrap64 (n:=(left:Int)-(l:Int)) (by omega) (by omega),h1]
 refine brd (λhc=>⟨by rw[nO (by omega)],Ext.refl _⟩) λhc=>⟨by rw[ly (by omega)];congr 1;omega,Ext.refl _⟩
theorem Jo{b:Option Addr}{l c:Nat}{xs:List Nat}(S:SlR (rF .f32) h b l c xs)(hl0:cf xs≤1048576):af ak 78 #[.slice b l c] (λu h'=>∃b' c' B,u = .slice b' l c'∧SlO 22 (rF .f32) B b' l c' xs∧Mem h h' B) h:=by
 have hxl:=S.len
 have hl:l≤1048576:=by unfold cf at hl0;omega
 refine eL.call (Ei (Mem.start h) hl λg h1 x1 M0 O0=>?_)
 refine loop (λx hh=>∃(n:Nat) (B:List Blk),x=(b,l,c,some ⟨g,0,none⟩,l,l,(n:Int))∧n≤l∧SlO 22 (rF .f32) B (some ⟨g,0,none⟩) l l (xs.take n++List.replicate (l-n) 0)∧Mem h hh (B++[])) (λx=>(l-x.2.2.2.2.2.2).toNat) ⟨0,_,rfl,by omega,O0,M0⟩ ?_
 rintro x hh ⟨n,B,rfl,hn,O,M⟩
 refine brd (λhc=>?_) λhc=>?_
 ·refine(S.ext M.ext).idx (by decide) (by omega) (by omega) λa Ra=>Ra.oF1 λy hy=>?_
  obtain⟨a0,F',L',e,P,hs,close⟩:=O.elem M (i:=n) (by omega)
  cases e
  refine idxs (by omega) (by omega) (P.Vj hy λh' P'=>?_)
  obtain⟨B',O',M'⟩:=close _ _ _ P'
  rw[ag (by omega)]
  refine⟨⟨n+1,B',rfl,by omega,?_,M'⟩,by show _<_;simp;omega⟩
  have e:(xs.take n++List.replicate (l-n) 0).set n xs[n]! = xs.take (n+1)++List.replicate (l-(n+1)) 0:=by rw[getElem!_pos xs n (by omega)];exact Db hxl (by omega)
  rw[Int.toNat_natCast,e] at O'
  exact O'
 ·obtain rfl:n=l:=by omega
  rw[show xs.take n++List.replicate (n-n) 0=xs by rw[← hxl];simp] at O
  rw[List.append_nil] at M
  exact⟨_,_,B,rfl,O,M⟩
theorem tW{b1 b2:Option Addr}{l1 c1 l2 c2:Nat}{xs:List Nat}(S1:SlR (rF .f32) h b1 l1 c1 xs)(S2:SlR (rF .f32) h b2 l2 c2 xs):af ak 11 #[.slice b1 l1 c1,.slice b2 l2 c2] (λu h'=>u = .bool true∧Ext h h') h:=by
 have e1:=S1.len
 have e2:=S2.len
 have h2:=S1.2.1
 have h3:=S1.2.2.1
 have:=cu
 obtain rfl:l1=l2:=by omega
 refine eI.call (cM (by simp) ?_)
 refine loop (λx hh=>∃n:Nat,x=(b1,l1,c1,b2,l1,c2,(n:Int))∧n≤l1∧Ext h hh) (λx=>(l1-x.2.2.2.2.2.2).toNat) ⟨0,rfl,by omega,Ext.refl _⟩ ?_
 rintro x hh ⟨n,rfl,hn,X⟩
 refine brd (λhc=>?_) λhc=>⟨rfl,X⟩
 refine(S1.ext X).idx (by decide) (by omega) (by omega) λa Ra=>Ra.oF1 λy hy=>(S2.ext X).idx (by decide) (by omega) (by omega) λa' Rb=>Rb.oF1 λz hz=>?_
 have fin:∀{h'},Ext hh h'->(∃n_1:Nat,((b1,l1,c1,b2,l1,c2,i64.wrap ((n:Int)+1)):Option Addr×Nat×Nat×Option Addr×Nat×Nat×Int)=(b1,l1,c1,b2,l1,c2,(n_1:Int))∧n_1≤l1∧Ext h h')∧((l1:Int)-i64.wrap ((n:Int)+1)).toNat<((l1:Int)-(n:Int)).toNat:=by
  intro h' x'
  rw[ag (by omega)]
  exact⟨⟨n+1,rfl,by omega,X.trans x'⟩,by omega⟩
 exact⟨cg hy λr1 k1=>dT (cg hz λr2 k2=>dT (goX (iA k1 k2 _) λh' x'=>bt (cM rfl (fin x')))),
  cg hz λr1 k1=>dT (cg hy λr2 k2=>dT (goX (iA k2 k1 _) λh' x'=>bt (cM rfl (fin x'))))⟩
def eu(xs:List Nat)(k:Nat):List Nat:=(List.range xs.length).map λi=>f32.nearest ((k+i:Nat):Int)
def ao(xs:List Nat):Nat:=xs.length
theorem abT{xs:List Nat}{k i:Nat}(hi:i<xs.length):(eu xs k)[i]! = f32.nearest ((k+i:Nat):Int):=by
 rw[getElem!_pos _ i (by simpa [eu] using hi)]
 simp[eu]
theorem je{h0:ab}{B L:List Blk}{b:Option Addr}{l c:Nat}{xs:List Nat}(O:SlO 22 (rF .f32) B b l c xs)(M:Mem h0 h (B++L))(k:Nat)(hl:cf xs≤1048576)(hk:k+ao xs≤1073741824):
  af ak 14 #[.slice b l c,.int .i64 (k:Int)] (λu h'=>u = .int .i64 ((k+ao xs:Nat):Int)∧∃B',SlO 22 (rF .f32) B' b l c (eu xs k)∧Mem h0 h' (B'++L)) h:=by
 have h1:=O.len
 unfold cf at hl
 unfold ao at hk
 refine dO.call ?_
 refine loop (λx hh=>∃(n:Nat) (B:List Blk) (ys:List Nat),x=(b,l,c,((k+n:Nat):Int),(n:Int))∧n≤l∧SlO 22 (rF .f32) B b l c ys∧Mem h0 hh (B++L)∧∀i,i<n->ys[i]! = f32.nearest ((k+i:Nat):Int)) (λx=>(l-x.2.2.2.2).toNat) ⟨0,B,xs,rfl,by omega,O,M,λi hi=>by omega⟩ ?_
 rintro x hh ⟨n,B,ys,rfl,hn,O,M,hy⟩
 have h2:=O.len
 refine brd (λhc=>?_) λhc=>?_
 ·obtain⟨a0,F',L',rfl,P,hs,close⟩:=O.elem M (i:=n) (by omega)
  refine idxs (by omega) (by omega) (P.Vj (cK _ _) λh' P'=>?_)
  obtain⟨B',O',M'⟩:=close _ _ _ P'
  rw[ag (by omega),ag (by omega)]
  refine⟨⟨n+1,B',_,rfl,by omega,O',M',λi hi=>?_⟩,by show _<_;simp;omega⟩
  by_cases e:i=n
  ·subst e;rw[getElem!_pos _ i (by simpa using by omega),List.getElem_set_self]
  ·have:=hy i (by omega)
   rw[getElem!_pos _ i (by omega)] at this
   rw[getElem!_pos _ i (by simpa using by omega),List.getElem_set_ne (by omega)]
   exact this
 ·obtain rfl:n=l:=by omega
  refine⟨by rw[ao,h1],B,?_,M⟩
  have:ys=eu xs k:=by
   apply List.ext_getElem
   ·simp[eu];omega
   ·intro i hi hi2
    have:=hy i (by omega)
    rw[getElem!_pos _ i hi] at this
    rw[this];simp[eu]
  rw[← this];exact O
theorem jd{b:Option Addr}{l c:Nat}{xs:List Nat}(k:Nat)(S:SlR (rF .f32) h b l c (eu xs k))(hl:cf xs≤1048576)(hk:k+ao xs≤1073741824):
  af ak 15 #[.slice b l c,.int .i64 (k:Int)] (λu h'=>u = .int .i64 ((k+ao xs:Nat):Int)∧Ext h h') h:=by
 have h1:xs.length=l:=by have:=S.len;simpa [eu] using this
 unfold cf at hl
 unfold ao at hk
 refine dN.call ?_
 refine loop (λx hh=>∃n:Nat,x=(b,l,c,((k+n:Nat):Int),(n:Int))∧n≤l∧hh=h) (λx=>(l-x.2.2.2.2).toNat) ⟨0,rfl,by omega,rfl⟩ ?_
 rintro x hh ⟨n,rfl,hn,rfl⟩
 refine brd (λhc=>?_) λhc=>?_
 ·refine S.idx (by decide) (by omega) (by omega) λa Ra=>Ra.oF1 λy hy=>?_
  rw[Int.toNat_natCast,abT (by omega)] at hy
  have e:y=f32.nearest ((k+n:Nat):Int):=hy.eq (dp _ _)
  subst e
  refine cM (sN (dp _ _)) ?_
  rw[ag (by omega),ag (by omega)]
  exact⟨⟨n+1,rfl,by omega,rfl⟩,by show _<_;simp;omega⟩
 ·obtain rfl:n=l:=by omega
  exact⟨by rw[ao,h1],Ext.refl _⟩
theorem alb:(iT 2 (rF .f32)).ow [] (List.replicate 2 (.float .f32 0)) (List.replicate 2 0):=⟨by simp,Po _⟩
theorem akL{cs:Array Value}{xs:List Nat}(R0:(iT 2 (rF .f32)).rd h cs.toList xs):af ak 268 #[.agg cs] (λu h'=>mN (iT 2 (rF .f32)) h h' u xs) h:=by
 refine abo.call ((Mem.start h).alc λg1 h1 x1 M=>M.alc λg2 h2 x2 M=>M.alc λg3 h3 x3 M=>?_)
 have R:RdP (iT 2 (rF .f32)) h3 ⟨g1,0,none⟩ xs:=M.rdp (.there (.there .here)) ((iT 2 (rF .f32)).ext M.ext R0)
 have hl:xs.length=2:=R0.1
 refine loop (λx hh=>∃n:Nat,x=(⟨g1,0,none⟩,⟨g2,0,none⟩,⟨g3,0,none⟩,(n:Int))∧n≤2∧Pt (iT 2 (rF .f32)) h hh ⟨g3,0,none⟩ ⟨g3,111,[],[]⟩ [(g2,111,⟨xQ⟩),(g1,111,cs)] (xs.take n++List.replicate (2-n) 0)) (λx=>(2-x.2.2.2).toNat) ⟨0,rfl,by omega,Pt.new (r:=iT 2 (rF .f32)) alb M⟩ ?_
 rintro x hh ⟨n,rfl,hn,P⟩
 refine brd (λhc=>?_) λhc=>?_
 ·have R:RdP (iT 2 (rF .f32)) hh ⟨g1,0,none⟩ xs:=P.mem.rdp (.there .here) ((iT 2 (rF .f32)).ext P.ext R0)
  refine idx (by omega) (by omega) ((R.elem (i:=n) (by omega)).oF1 λy hy=>idx (by omega) (by omega) ?_)
  refine Pt.st (B':=[]) (v:=.float .f32 y) (b:=xs[n]!) P (Foc.arr (rF .f32) n (by omega)) rfl ⟨rfl,y,rfl,hy⟩ λh' P'=>?_
  rw[ag (by omega)]
  refine⟨⟨n+1,rfl,by omega,?_⟩,by show _<_;simp;omega⟩
  have e:(xs.take n++List.replicate (2-n) 0).set n xs[n]! = xs.take (n+1)++List.replicate (2-(n+1)) 0:=by rw[getElem!_pos xs n (by omega)];exact Db hl (by omega)
  rw[e] at P'
  exact P'
 ·obtain rfl:n=2:=by omega
  rw[show xs.take 2++List.replicate (2-2) 0=xs by rw[← hl];simp] at P
  obtain⟨BP,B,M,O⟩:=P.out
  refine M.df .here (osz O rfl) ?_
  have M:=M.cnt (W:=(g2,111,⟨xQ⟩) :: B)
  refine M.dH .here (osz O rfl) ((iT 2 (rF .f32)).jy O) rfl .here λh3 M=>M.df .here (osz O rfl) ?_
  exact⟨_,B,rfl,O,M.drop⟩
theorem FT{ca cb:Array Value}{xs:List Nat}(Ra:(iT 2 (rF .f32)).rd h ca.toList xs)(Rb:(iT 2 (rF .f32)).rd h cb.toList xs):af ak 264 #[.agg ca,.agg cb] (λu h'=>u = .bool true∧Ext h h') h:=by
 refine ek.call (gD Ra λg1 h1 x1 A=>gD ((iT 2 (rF .f32)).ext x1 Rb) λg2 h2 x2 B=>?_)
 have A:=A.ext x2
 refine loop (λx hh=>∃n:Nat,x=(⟨g1,0,none⟩,⟨g2,0,none⟩,(n:Int))∧n≤2∧Ext h2 hh) (λx=>(2-x.2.2).toNat) ⟨0,rfl,by omega,Ext.refl _⟩ ?_
 rintro x hh ⟨n,rfl,hn,X⟩
 refine brd (λhc=>?_) λhc=>⟨rfl,(x1.trans x2).trans X⟩
 have A1:=(A.ext X).elem (i:=n) (by omega)
 have B1:=(B.ext X).elem (i:=n) (by omega)
 refine idx (by omega) (by omega) (A1.oF1 λy hy=>idx (by omega) (by omega) (B1.oF1 λz hz=>?_))
 have fin:∀{h'},Ext hh h'->(∃n_1:Nat,((⟨g1,0,none⟩,⟨g2,0,none⟩,i64.wrap ((n:Int)+1)):Addr×Addr×Int)=(⟨g1,0,none⟩,⟨g2,0,none⟩,(n_1:Int))∧n_1≤2∧Ext h2 h')∧((2:Int)-i64.wrap ((n:Int)+1)).toNat<((2:Int)-(n:Int)).toNat:=by
  intro h' x'
  rw[ag (by omega)]
  exact⟨⟨n+1,rfl,by omega,X.trans x'⟩,by omega⟩
 exact⟨cg hy λr1 k1=>dT (cg hz λr2 k2=>dT (goX (iA k1 k2 _) λh' x'=>bt (cM rfl (fin x')))),
  cg hz λr1 k1=>dT (cg hy λr2 k2=>dT (goX (iA k2 k1 _) λh' x'=>bt (cM rfl (fin x'))))⟩
theorem ald:(iT 3 (rF .f32)).ow [] (List.replicate 3 (.float .f32 0)) (List.replicate 3 0):=⟨by simp,Po _⟩
theorem akM{cs:Array Value}{xs:List Nat}(R0:(iT 3 (rF .f32)).rd h cs.toList xs):af ak 267 #[.agg cs] (λu h'=>mN (iT 3 (rF .f32)) h h' u xs) h:=by
 refine abp.call ((Mem.start h).alc λg1 h1 x1 M=>M.alc λg2 h2 x2 M=>M.alc λg3 h3 x3 M=>?_)
 have R:RdP (iT 3 (rF .f32)) h3 ⟨g1,0,none⟩ xs:=M.rdp (.there (.there .here)) ((iT 3 (rF .f32)).ext M.ext R0)
 have hl:xs.length=3:=R0.1
 refine loop (λx hh=>∃n:Nat,x=(⟨g1,0,none⟩,⟨g2,0,none⟩,⟨g3,0,none⟩,(n:Int))∧n≤3∧Pt (iT 3 (rF .f32)) h hh ⟨g3,0,none⟩ ⟨g3,110,[],[]⟩ [(g2,110,⟨jY⟩),(g1,110,cs)] (xs.take n++List.replicate (3-n) 0)) (λx=>(3-x.2.2.2).toNat) ⟨0,rfl,by omega,Pt.new (r:=iT 3 (rF .f32)) ald M⟩ ?_
 rintro x hh ⟨n,rfl,hn,P⟩
 refine brd (λhc=>?_) λhc=>?_
 ·have R:RdP (iT 3 (rF .f32)) hh ⟨g1,0,none⟩ xs:=P.mem.rdp (.there .here) ((iT 3 (rF .f32)).ext P.ext R0)
  refine idx (by omega) (by omega) ((R.elem (i:=n) (by omega)).oF1 λy hy=>idx (by omega) (by omega) ?_)
  refine Pt.st (B':=[]) (v:=.float .f32 y) (b:=xs[n]!) P (Foc.arr (rF .f32) n (by omega)) rfl ⟨rfl,y,rfl,hy⟩ λh' P'=>?_
  rw[ag (by omega)]
  refine⟨⟨n+1,rfl,by omega,?_⟩,by show _<_;simp;omega⟩
  have e:(xs.take n++List.replicate (3-n) 0).set n xs[n]! = xs.take (n+1)++List.replicate (3-(n+1)) 0:=by rw[getElem!_pos xs n (by omega)];exact Db hl (by omega)
  rw[e] at P'
  exact P'
 ·obtain rfl:n=3:=by omega
  rw[show xs.take 3++List.replicate (3-3) 0=xs by rw[← hl];simp] at P
  obtain⟨BP,B,M,O⟩:=P.out
  refine M.df .here (osz O rfl) ?_
  have M:=M.cnt (W:=(g2,110,⟨jY⟩) :: B)
  refine M.dH .here (osz O rfl) ((iT 3 (rF .f32)).jy O) rfl .here λh3 M=>M.df .here (osz O rfl) ?_
  exact⟨_,B,rfl,O,M.drop⟩
theorem FU{ca cb:Array Value}{xs:List Nat}(Ra:(iT 3 (rF .f32)).rd h ca.toList xs)(Rb:(iT 3 (rF .f32)).rd h cb.toList xs):af ak 263 #[.agg ca,.agg cb] (λu h'=>u = .bool true∧Ext h h') h:=by
 refine eo.call (gD Ra λg1 h1 x1 A=>gD ((iT 3 (rF .f32)).ext x1 Rb) λg2 h2 x2 B=>?_)
 have A:=A.ext x2
 refine loop (λx hh=>∃n:Nat,x=(⟨g1,0,none⟩,⟨g2,0,none⟩,(n:Int))∧n≤3∧Ext h2 hh) (λx=>(3-x.2.2).toNat) ⟨0,rfl,by omega,Ext.refl _⟩ ?_
 rintro x hh ⟨n,rfl,hn,X⟩
 refine brd (λhc=>?_) λhc=>⟨rfl,(x1.trans x2).trans X⟩
 have A1:=(A.ext X).elem (i:=n) (by omega)
 have B1:=(B.ext X).elem (i:=n) (by omega)
 refine idx (by omega) (by omega) (A1.oF1 λy hy=>idx (by omega) (by omega) (B1.oF1 λz hz=>?_))
 have fin:∀{h'},Ext hh h'->(∃n_1:Nat,((⟨g1,0,none⟩,⟨g2,0,none⟩,i64.wrap ((n:Int)+1)):Addr×Addr×Int)=(⟨g1,0,none⟩,⟨g2,0,none⟩,(n_1:Int))∧n_1≤3∧Ext h2 h')∧((3:Int)-i64.wrap ((n:Int)+1)).toNat<((3:Int)-(n:Int)).toNat:=by
  intro h' x'
  rw[ag (by omega)]
  exact⟨⟨n+1,rfl,by omega,X.trans x'⟩,by omega⟩
 exact⟨cg hy λr1 k1=>dT (cg hz λr2 k2=>dT (goX (iA k1 k2 _) λh' x'=>bt (cM rfl (fin x')))),
  cg hz λr1 k1=>dT (cg hy λr2 k2=>dT (goX (iA k2 k1 _) λh' x'=>bt (cM rfl (fin x'))))⟩
theorem anG{ca cb:Array Value}{xs:List Nat}(Ra:(iT 16 (rF .f32)).rd h ca.toList xs)(Rb:(iT 16 (rF .f32)).rd h cb.toList xs):af ak 31 #[.agg ca,.agg cb] (λu h'=>u = .bool true∧Ext h h') h:=by
 refine alG.call (gD Ra λg1 h1 x1 A=>gD ((iT 16 (rF .f32)).ext x1 Rb) λg2 h2 x2 B=>?_)
 have A:=A.ext x2
 refine loop (λx hh=>∃n:Nat,x=(⟨g1,0,none⟩,⟨g2,0,none⟩,(n:Int))∧n≤16∧Ext h2 hh) (λx=>(16-x.2.2).toNat) ⟨0,rfl,by omega,Ext.refl _⟩ ?_
 rintro x hh ⟨n,rfl,hn,X⟩
 refine brd (λhc=>?_) λhc=>⟨rfl,(x1.trans x2).trans X⟩
 have A1:=(A.ext X).elem (i:=n) (by omega)
 have B1:=(B.ext X).elem (i:=n) (by omega)
 refine idx (by omega) (by omega) (A1.oF1 λy hy=>idx (by omega) (by omega) (B1.oF1 λz hz=>?_))
 have fin:∀{h'},Ext hh h'->(∃n_1:Nat,((⟨g1,0,none⟩,⟨g2,0,none⟩,i64.wrap ((n:Int)+1)):Addr×Addr×Int)=(⟨g1,0,none⟩,⟨g2,0,none⟩,(n_1:Int))∧n_1≤16∧Ext h2 h')∧((16:Int)-i64.wrap ((n:Int)+1)).toNat<((16:Int)-(n:Int)).toNat:=by
  intro h' x'
  rw[ag (by omega)]
  exact⟨⟨n+1,rfl,by omega,X.trans x'⟩,by omega⟩
 exact⟨cg hy λr1 k1=>dT (cg hz λr2 k2=>dT (goX (iA k1 k2 _) λh' x'=>bt (cM rfl (fin x')))),
  cg hz λr1 k1=>dT (cg hy λr2 k2=>dT (goX (iA k2 k1 _) λh' x'=>bt (cM rfl (fin x'))))⟩
end
theorem fk.go{α:Type}{r:Rep α}{P:Program}{f:FuncId}{args:Array Value}{a:α}{code:Int}{hb h:ab}{L:List Blk}{K:Value->ab->Prop}(M:Mem hb h L)(c:af P f args (λu h'=>fk r h h' u a code) h)(H:∀h' cs B,Mem hb h' (B++L)->r.ow B cs.toList a->cs.size=r.sz->K (.tuple ⟨[.agg cs,.int .i64 code]⟩) h'):af P f args K h:=
 c.mono λu h' ⟨cs,B,e,O,N⟩=>by subst e;exact H h' cs B (M.join N) O (by simpa using r.jX O)
theorem ae5{α:Type}{r:Rep α}{P:Program}{f:FuncId}{args:Array Value}{b:α}{v:Value}{hb h:ab}{L:List Blk}{cs:Array Value}{K:Value->ab->Prop}(c:af P f args (λu h'=>u=v∧∃B',r.ow B' cs.toList b∧Mem hb h' (B'++L)) h)(H:∀h' B',Mem hb h' (B'++L)->r.ow B' cs.toList b->K v h'):af P f args K h:=
 c.mono λu h' ⟨e,B',O,N⟩=>by subst e;exact H h' B' N O
theorem eqB{a:Int}{p q:Prop}(H:q):BIF (a != a) p q:=by
 rw[show(a != a)=false by simp];exact H
theorem KP{b:Bool}{p q:Prop}(hb:b=true)(H:q):BIF (!b) p q:=by
 subst hb;exact H
theorem WQ{a:Int}{p q:Prop}(h:0≤a)(H:q):BIF (decide (a<0)) p q:=by
 rw[show decide (a<0)=false by simp;omega];exact H
theorem aui{left w:Nat}(h:decide (CL left w<0)=false):w≤left:=by
 unfold CL at h
 split at h
 ·simp at h
 ·omega
end Go.Sx
