/- Lemmas. -/
import Derived.Test.YthgnpepchedpbaaGreatDoorTab
import Derived.Test.YthgnpepchedpbaaGreatDoorLf9
import Derived.Test.YthgnpepchedpbaaGreatDoorLk17
set_option linter.unusedVariables false
set_option linter.unusedSimpArgs false
namespace Go.Sx
open FloatKind (f32 f64)
open IntKind (i64)
open Go.Proofs
set_option maxRecDepth 100000
def za.S(Cc:Int)(aa:VH)(h:ab):=af ak 41 #[.int .i64 Cc,.int .i64 (-100),.int .i64 100] (λa b=> asB a λc=> aa (.bool c) b) h
theorem za.call{Cc aa h}(H:za.S Cc aa h):af ak 291 #[.int .i64 Cc] aa h:=qk Tryz.func291 H
def ep.J5(aa:VH)(t_0:Addr)(eV:Int)(n_5:Int)(Cq:Int)(h:ab):=oF .f32 (cell h (t_0.add 1)) λb=> oL (cell h (t_0.add 2)) λII HR PA=> bd II ((i64.wrap (eV-(i64.wrap (Cq*n_5))))) HR λa=> oF .f32 (cell h ((Addr.add a ((Int.toNat ((i64.wrap (eV-(i64.wrap (Cq*n_5))))))*1)))) λc=> FOP .f32 (lE b (f32.nearest Cq)) λd=> PIN h ((Addr.add a ((Int.toNat ((i64.wrap (eV-(i64.wrap (Cq*n_5))))))*1))) 1 h <|PIN h (t_0.add 2) 1 h <|FOP .f32 (wN d c) λe=> aa (.float .f32 e) h
def ep.j5(aa:VH):=gg (kds 40 [(0,.p),(1,.i .i64),(5,.i .i64),(6,.i .i64)]) λfr=>ep.J5 aa (gP (ah fr 0)) (gI (ah fr 1)) (gI (ah fr 5)) (gI (ah fr 6))
def ep.S(t_0:Addr)(eV:Int)(aa:VH)(h:ab):=oL (cell h (t_0.add 2)) λJN xv QA=> NZ (xv:Int) <|NZ (xv:Int) <|BIF ((decide ((Int.tmod eV (xv:Int))<0))) (ep.J5 aa t_0 eV (xv:Int) ((i64.wrap ((i64.wrap (Int.tdiv eV (xv:Int)))-1))) h) (ep.J5 aa t_0 eV (xv:Int) ((i64.wrap (Int.tdiv eV (xv:Int)))) h)
theorem ep.call{t_0 eV aa h}(H:ep.S t_0 eV aa h):af ak 310 #[.pointer (some t_0),.int .i64 eV] aa h:=qc (Λ:=aS [(5,ep.j5 aa)]) Tryz.func310 (qs qf (qs qf (qs qf (qj (ep.j5 aa) qf qf)))) (qe H)
def vX.S(f_0:Nat)(aa:VH)(h:ab):=aa (.bool (f64.format.order f_0 f_0 !=some .eq)) h
theorem vX.call{f_0 aa h}(H:vX.S f_0 aa h):af ak 311 #[.float .f64 f_0] aa h:=qk Tryz.func311 H
def AV.S(f_0:Nat)(Hg:Int)(aa:VH)(h:ab):=BIF (Hg==0) (af ak 308 #[.float .f64 f_0] (λa b=> asF .f64 a λc=> aa (.bool (f64.format.order c 9218868437227405311==some .gt)) b) h) (BIF ((decide (Hg<0))) (aa (.bool (f64.format.order (Op.negFloat .f64 f_0) 9218868437227405311==some .gt)) h) (aa (.bool (f64.format.order f_0 9218868437227405311==some .gt)) h))
theorem AV.call{f_0 Hg aa h}(H:AV.S f_0 Hg aa h):af ak 312 #[.float .f64 f_0,.int .i64 Hg] aa h:=qk Tryz.func312 H
def AU.S(x_0:Nat)(aa:VH)(h:ab):=af ak 293 #[.float .f64 x_0] (λa b=> asF .f64 a λc=> aa (.float .f64 c) b) h
theorem AU.call{x_0 aa h}(H:AU.S x_0 aa h):af ak 255 #[.float .f64 x_0] aa h:=qk Tryz.func255 H
def cQ.B5(aa:VH)(a:(Int×Nat)->ab->Prop):Int×Nat->ab->Prop |(k_0,p_3),h=> BIF ((decide (k_0<0))) (FOP .f64 (f64.format.div p_3 4611686018427387904) λb=> a (((i64.wrap (k_0+1))),b) h) (aa (.float .f64 p_3) h)
def cQ.g5(fr:Frame):Int×Nat:=((gI (ah fr 0)),(gF (ah fr 3)))
def cQ.l5(aa:VH):=gg (kds 17 [(0,.i .i64),(3,.f .f64)]) λfr=>bk (cQ.B5 aa) (cQ.g5 fr)
def cQ.B2(aa:VH)(a:(Int×Nat)->ab->Prop):Int×Nat->ab->Prop |(k_0,p_3),h=> BIF ((decide (0<k_0))) (FOP .f64 (f64.format.mul p_3 4611686018427387904) λb=> a (((i64.wrap (k_0-1))),b) h) (bk (cQ.B5 aa) (k_0,p_3) h)
def cQ.g2(fr:Frame):Int×Nat:=((gI (ah fr 0)),(gF (ah fr 3)))
def cQ.l2(aa:VH):=gg (kds 17 [(0,.i .i64),(3,.f .f64)]) λfr=>bk (cQ.B2 aa) (cQ.g2 fr)
def cQ.S(k_0:Int)(aa:VH)(h:ab):=bk (cQ.B2 aa) (k_0,4607182418800017408) h
theorem cQ.call{k_0 aa h}(H:cQ.S k_0 aa h):af ak 322 #[.int .i64 k_0] aa h:=qc (Λ:=aS [(1000002,cQ.l2 aa),(1000005,cQ.l5 aa)]) Tryz.func322 (qs qf (qs qf (qs (Rq.block (ql (cQ.l2 aa) (qg (g:=cQ.g2) (Λ:=λa=>aS []) (λ_ _ _=>by kernel_rfl) (λa=>qf)))) (qs (Rq.block (ql (cQ.l5 aa) (qg (g:=cQ.g5) (Λ:=λb=>aS []) (λ_ _ _=>by kernel_rfl) (λb=>qf)))) qf)))) (qe H)
def dG.B7(aa:VH)(a:(Nat×Nat×Nat×Int)->ab->Prop):Nat×Nat×Nat×Int->ab->Prop |(k_4,y_5,s_6,m_7),h=> BIF ((decide (1≤m_7))) (FOP .f64 (f64.format.div y_5 (f64.nearest m_7)) λb=> FOP .f64 (f64.format.mul b s_6) λc=> FOP .f64 (f64.format.add 4607182418800017408 c) λxA=> a (k_4,y_5,xA,((i64.wrap (m_7-1)))) h) (FIC .f64 k_4 .i64 λd=> af ak 322 #[.int .i64 d] (λyQ hP=> asF .f64 yQ λDK=> FOP .f64 (f64.format.mul s_6 DK) λrM=> FFC .f64 rM .f32 λEr=> aa (.tuple ⟨[.float .f32 Er,.bool true]⟩) hP) h)
def dG.g7(fr:Frame):Nat×Nat×Nat×Int:=((gF (ah fr 4)),(gF (ah fr 5)),(gF (ah fr 6)),(gI (ah fr 7)))
def dG.l7(aa:VH):=gg (kds 40 [(4,.f .f64),(5,.f .f64),(6,.f .f64),(7,.i .i64)]) λfr=>bk (dG.B7 aa) (dG.g7 fr)
def dG.J3(aa:VH)(x_0:Nat)(h:ab):=FFC .f32 x_0 .f64 λb=> af ak 255 #[.float .f64 b] (λc d=> asF .f64 c λa=> FFC .f32 x_0 .f64 λe=> FOP .f64 (f64.format.sub e a) λf=> FOP .f64 (f64.format.mul f 4604418534313441775) λg=> bk (dG.B7 aa) (a,g,4607182418800017408,14) d) h
def dG.j3(aa:VH):=gg (kds 40 [(0,.f .f32)]) λfr=>dG.J3 aa (gF (ah fr 0))
def dG.S(x_0:Nat)(aa:VH)(h:ab):=BIF (f32.format.order x_0 3270508544==some .gt||f32.format.order x_0 3270508544==some .eq) (BIF (!(f32.format.order x_0 1123024896==some .lt||f32.format.order x_0 1123024896==some .eq)) (aa (.tuple ⟨[.float .f32 0,.bool false]⟩) h) (dG.J3 aa x_0 h)) (aa (.tuple ⟨[.float .f32 0,.bool false]⟩) h)
theorem dG.call{x_0 aa h}(H:dG.S x_0 aa h):af ak 309 #[.float .f32 x_0] aa h:=qc (Λ:=aS [(3,dG.j3 aa),(1000007,dG.l7 aa)]) Tryz.func309 (qs qf (qj (dG.j3 aa) qf (qs qf (qs qf (qs qf (qs (qs qf (Rq.block (ql (dG.l7 aa) (qg (g:=dG.g7) (Λ:=λa=>aS []) (λ_ _ _=>by kernel_rfl) (λa=>qf))))) qf)))))) (qe H)
def ux.S(t_0:Addr)(eV:Int)(aa:VH)(h:ab):=af ak 310 #[.pointer (some t_0),.int .i64 eV] (λb c=> asF .f32 b λd=> FOP .f32 (Ml d 1150681088) λe=> af ak 309 #[.float .f32 e] (λf a=> fV f λg i=> asF .f32 g λj=> asB i λEF=> oF .f32 (cell a t_0) λxG=> FOP .f32 (lE xG j) λrk=> aa (.tuple ⟨[.float .f32 rk,.bool EF]⟩) a) c) h
theorem ux.call{t_0 eV aa h}(H:ux.S t_0 eV aa h):af ak 292 #[.pointer (some t_0),.int .i64 eV] aa h:=qk Tryz.func292 H
def uw.S(t_0:Addr)(eV:Int)(aa:VH)(h:ab):=af ak 151 #[.pointer (some t_0)] (λd a=> asB d λe=> BIF (!e) (aa (.tuple ⟨[.float .f32 0,.int .i64 1]⟩) a) (af ak 291 #[.int .i64 eV] (λf b=> asB f λg=> BIF (!g) (aa (.tuple ⟨[.float .f32 0,.int .i64 2]⟩) b) (af ak 292 #[.pointer (some t_0),.int .i64 eV] (λi c=> fV i λj Cx=> asF .f32 j λxG=> asB Cx λKK=> BIF (!KK) (aa (.tuple ⟨[.float .f32 0,.int .i64 2]⟩) c) (aa (.tuple ⟨[.float .f32 xG,.int .i64 0]⟩) c)) b)) a)) h
theorem uw.call{t_0 eV aa h}(H:uw.S t_0 eV aa h):af ak 250 #[.pointer (some t_0),.int .i64 eV] aa h:=qk Tryz.func250 H
def oZ.S(t_0:Array Value)(eV:Int)(nJ:Nat)(aa:VH)(h:ab):=ALC t_0 35 (λc d=> af ak 250 #[.pointer (some ⟨c,0,none⟩),.int .i64 eV] (λe a=> fV e λf g=> asF .f32 f λi=> asI .i64 g λb=> BIF (b !=0) (aa (.tuple ⟨[.float .f32 0,.int .i64 b]⟩) a) (BIF (f32.format.order nJ 1065353216==some .gt||f32.format.order nJ 1065353216==some .eq) (BIF (!(f32.format.order nJ 1232348160==some .lt||f32.format.order nJ 1232348160==some .eq)) (aa (.tuple ⟨[.float .f32 0,.int .i64 2]⟩) a) (FOP .f32 (Ml nJ i) λj=> aa (.tuple ⟨[.float .f32 j,.int .i64 0]⟩) a)) (aa (.tuple ⟨[.float .f32 0,.int .i64 2]⟩) a))) d) h
theorem oZ.call{t_0 eV nJ aa h}(H:oZ.S t_0 eV nJ aa h):af ak 180 #[.agg t_0,.int .i64 eV,.float .f32 nJ] aa h:=qk Tryz.func180 H
def nk.S(t_0:Array Value)(eV:Int)(aa:VH)(h:ab):=ALC t_0 35 (λc d=> oL (cell d ⟨c,2,none⟩) λNH NI Pz=> af ak 161 #[.slice NH NI Pz] (λf b=> asI .i64 f λa=> NZ a <|NZ a <|oF .f32 (cell b ⟨c,1,none⟩) λg=> NZ a <|oL (cell b ⟨c,2,none⟩) λi j k=> bd i ((Int.tmod ((i64.wrap ((Int.tmod eV a)+a))) a)) j λe=> oF .f32 (cell b ((Addr.add e ((Int.toNat ((Int.tmod ((i64.wrap ((Int.tmod eV a)+a))) a)))*1)))) λxA=> FOP .f32 (lE g ((f32.nearest ((i64.wrap (Int.tdiv ((i64.wrap (eV-(Int.tmod ((i64.wrap ((Int.tmod eV a)+a))) a)))) a)))))) λxG=> PIN b ((Addr.add e ((Int.toNat ((Int.tmod ((i64.wrap ((Int.tmod eV a)+a))) a)))*1))) 1 b <|PIN b ⟨c,2,none⟩ 1 b <|FOP .f32 (wN xG xA) λrk=> aa (.float .f32 rk) b) d) h
theorem nk.call{t_0 eV aa h}(H:nk.S t_0 eV aa h):af ak 319 #[.agg t_0,.int .i64 eV] aa h:=qk Tryz.func319 H
def sL.S(x_0:Nat)(aa:VH)(h:ab):=af ak 308 #[.float .f64 x_0] (λb a=> asF .f64 b λc=> BIF (f64.format.order c 4503599627370496==some .lt) (FOP .f64 (f64.format.mul x_0 4841369599423283200) λd=> aa (.tuple ⟨[.float .f64 d,.int .i64 (-52)]⟩) a) (aa (.tuple ⟨[.float .f64 x_0,.int .i64 0]⟩) a)) h
theorem sL.call{x_0 aa h}(H:sL.S x_0 aa h):af ak 338 #[.float .f64 x_0] aa h:=qk Tryz.func338 H
def eW.J19(aa:VH)(pG:Int)(x_6:Int)(m_7:Nat)(h:ab):=NN 52 <|af ak 320 #[.int .u64 ((tU .or .u64 (tU .andNot .u64 x_6 9218868437227405312) ((Ze .u64 ((IntKind.u64.wrap ((i64.wrap (pG+1023))))) 52))))] (λRB vD=> asF .f64 RB λIY=> FOP .f64 (f64.format.mul m_7 IY) λBz=> aa (.float .f64 Bz) vD) h
def eW.j19(aa:VH):=gg (kds 63 [(1,.i .i64),(6,.i .u64),(7,.f .f64)]) λfr=>eW.J19 aa (gI (ah fr 1)) (gI (ah fr 6)) (gF (ah fr 7))
def eW.J5(aa:VH)(lj:Nat)(pG:Int)(h:ab):=af ak 338 #[.float .f64 lj] (λb c=> fV b λd Cx=> asF .f64 d λxG=> asI .i64 Cx λUS=> af ak 321 #[.float .f64 xG] (λxz a=> asI .u64 xz λEn=> NN 52 <|BIF ((decide ((i64.wrap ((i64.wrap (pG+US))+(i64.wrap ((tU .and .i64 ((i64.wrap (LW .u64 En 52))) 2047)-1023))))<(-1075)))) (af ak 324 #[.float .f64 0,.float .f64 xG] (λLV qQ=> asF .f64 LV λvn=> aa (.float .f64 vn) qQ) a) (BIF ((decide (1023<(i64.wrap ((i64.wrap (pG+US))+(i64.wrap ((tU .and .i64 ((i64.wrap (LW .u64 En 52))) 2047)-1023))))))) (BIF (f64.format.order xG 0==some .lt) (af ak 339 #[.int .i64 (-1)] (λGY jU=> asF .f64 GY λIX=> aa (.float .f64 IX) jU) a) (af ak 339 #[.int .i64 1] (λGZ nR=> asF .f64 GZ λHW=> aa (.float .f64 HW) nR) a)) (BIF ((decide ((i64.wrap ((i64.wrap (pG+US))+(i64.wrap ((tU .and .i64 ((i64.wrap (LW .u64 En 52))) 2047)-1023))))<(-1022)))) (eW.J19 aa ((i64.wrap ((i64.wrap ((i64.wrap (pG+US))+(i64.wrap ((tU .and .i64 ((i64.wrap (LW .u64 En 52))) 2047)-1023))))+53))) En 4368491638549381120 a) (eW.J19 aa ((i64.wrap ((i64.wrap (pG+US))+(i64.wrap ((tU .and .i64 ((i64.wrap (LW .u64 En 52))) 2047)-1023))))) En 4607182418800017408 a)))) c) h
def eW.j5(aa:VH):=gg (kds 63 [(0,.f .f64),(1,.i .i64)]) λfr=>eW.J5 aa (gF (ah fr 0)) (gI (ah fr 1))
def eW.S(lj:Nat)(pG:Int)(aa:VH)(h:ab):=BIF (f64.format.order lj 0==some .eq) (aa (.float .f64 lj) h) (af ak 312 #[.float .f64 lj,.int .i64 0] (λc a=> asB c λd=> BIF d (aa (.float .f64 lj) a) (af ak 311 #[.float .f64 lj] (λe b=> asB e λf=> BIF f (aa (.float .f64 lj) b) (eW.J5 aa lj pG b)) a)) h)
theorem eW.call{lj pG aa h}(H:eW.S lj pG aa h):af ak 336 #[.float .f64 lj,.int .i64 pG] aa h:=qc (Λ:=aS [(5,eW.j5 aa),(19,eW.j19 aa)]) Tryz.func336 (qs qf (qj (eW.j5 aa) qf (qs qf (qs qf (qs qf (qs qf (qs qf (qs qf (qs qf (qj (eW.j19 aa) qf qf)))))))))) (qe H)
def AW.S(lj:Nat)(pG:Int)(aa:VH)(h:ab):=af ak 336 #[.float .f64 lj,.int .i64 pG] (λa b=> asF .f64 a λc=> aa (.float .f64 c) b) h
theorem AW.call{lj pG aa h}(H:AW.S lj pG aa h):af ak 328 #[.float .f64 lj,.int .i64 pG] aa h:=qk Tryz.func328 H
def ib.B7(aa:VH)(a:(Nat×Nat×Nat×Int)->ab->Prop):Nat×Nat×Nat×Int->ab->Prop |(k_4,y_5,s_6,m_7),h=> BIF ((decide (1≤m_7))) (FOP .f64 (f64.format.div y_5 (f64.nearest m_7)) λxG=> FOP .f64 (f64.format.mul xG s_6) λrk=> FOP .f64 (f64.format.add 4607182418800017408 rk) λxB=> a (k_4,y_5,xB,((i64.wrap (m_7-1)))) h) (FIC .f64 k_4 .i64 λHU=> af ak 328 #[.float .f64 s_6,.int .i64 HU] (λIV kT=> asF .f64 IV λCy=> FFC .f64 Cy .f32 λvn=> aa (.tuple ⟨[.float .f32 vn,.int .i64 0]⟩) kT) h)
def ib.g7(fr:Frame):Nat×Nat×Nat×Int:=((gF (ah fr 4)),(gF (ah fr 5)),(gF (ah fr 6)),(gI (ah fr 7)))
def ib.l7(aa:VH):=gg (kds 35 [(4,.f .f64),(5,.f .f64),(6,.f .f64),(7,.i .i64)]) λfr=>bk (ib.B7 aa) (ib.g7 fr)
def ib.S(x_0:Nat)(aa:VH)(h:ab):=af ak 159 #[.float .f32 x_0,.float .f32 3270508544,.float .f32 1123024896] (λc a=> asB c λd=> BIF (!d) (aa (.tuple ⟨[.float .f32 0,.int .i64 2]⟩) a) (FFC .f32 x_0 .f64 λe=> af ak 255 #[.float .f64 e] (λf g=> asF .f64 f λb=> FFC .f32 x_0 .f64 λi=> FOP .f64 (f64.format.sub i b) λj=> FOP .f64 (f64.format.mul j 4604418534313441775) λxA=> bk (ib.B7 aa) (b,xA,4607182418800017408,14) g) a)) h
theorem ib.call{x_0 aa h}(H:ib.S x_0 aa h):af ak 318 #[.float .f32 x_0] aa h:=qc (Λ:=aS [(1000007,ib.l7 aa)]) Tryz.func318 (qs qf (qs qf (qs qf (qs qf (qs qf (qs (qs qf (Rq.block (ql (ib.l7 aa) (qg (g:=ib.g7) (Λ:=λa=>aS []) (λ_ _ _=>by kernel_rfl) (λa=>qf))))) qf)))))) (qe H)
def np.S(t_0:Array Value)(eV:Int)(aa:VH)(h:ab):=ALC t_0 35 (λa b=> LDA 3 b ⟨a,0,none⟩ λd=> af ak 319 #[.agg d,.int .i64 eV] (λe f=> asF .f32 e λg=> FOP .f32 (Ml g 1150681088) λi=> af ak 318 #[.float .f32 i] (λj c=> fV j λCx zX=> asF .f32 Cx λrk=> asI .i64 zX λJV=> oF .f32 (cell c ⟨a,0,none⟩) λDK=> FOP .f32 (lE DK rk) λrM=> aa (.tuple ⟨[.float .f32 rM,.int .i64 JV]⟩) c) f) b) h
theorem np.call{t_0 eV aa h}(H:np.S t_0 eV aa h):af ak 307 #[.agg t_0,.int .i64 eV] aa h:=qk Tryz.func307 H
def u6.S(t_0:Array Value)(eV:Int)(aa:VH)(h:ab):=ALC t_0 35 (λb c=> LDA 3 c ⟨b,0,none⟩ λe=> af ak 104 #[.agg e] (λf d=> asB f λg=> BIF (!g) (aa (.tuple ⟨[.float .f32 0,.int .i64 1]⟩) d) (af ak 167 #[.int .i64 eV] (λi a=> asB i λj=> BIF (!j) (aa (.tuple ⟨[.float .f32 0,.int .i64 2]⟩) a) (LDA 3 a ⟨b,0,none⟩ λzO=> af ak 307 #[.agg zO,.int .i64 eV] (λzX jl=> fV zX λxz DI=> asF .f32 xz λrM=> asI .i64 DI λMt=> BIF (Mt !=0) (aa (.tuple ⟨[.float .f32 0,.int .i64 Mt]⟩) jl) (aa (.tuple ⟨[.float .f32 rM,.int .i64 0]⟩) jl)) a)) d)) c) h
theorem u6.call{t_0 eV aa h}(H:u6.S t_0 eV aa h):af ak 279 #[.agg t_0,.int .i64 eV] aa h:=qk Tryz.func279 H
def yD.S(a:Nat)(aa:VH)(h:ab):=af ak 159 #[.float .f32 a,.float .f32 1065353216,.float .f32 1232348160] (λb c=> asB b λd=> aa (.bool d) c) h
theorem yD.call{M9 aa h}(H:yD.S M9 aa h):af ak 280 #[.float .f32 M9] aa h:=qk Tryz.func280 H
def oA.S(t_0:Array Value)(eV:Int)(nJ:Nat)(aa:VH)(h:ab):=ALC t_0 35 (λd a=> LDA 3 a ⟨d,0,none⟩ λe=> af ak 279 #[.agg e,.int .i64 eV] (λf b=> fV f λg i=> asF .f32 g λj=> asI .i64 i λc=> BIF (c !=0) (aa (.tuple ⟨[.float .f32 0,.int .i64 c]⟩) b) (af ak 280 #[.float .f32 nJ] (λCx me=> asB Cx λKK=> BIF (!KK) (aa (.tuple ⟨[.float .f32 0,.int .i64 2]⟩) me) (FOP .f32 (Ml nJ j) λxB=> aa (.tuple ⟨[.float .f32 xB,.int .i64 0]⟩) me)) b)) a) h
theorem oA.call{t_0 eV nJ aa h}(H:oA.S t_0 eV nJ aa h):af ak 233 #[.agg t_0,.int .i64 eV,.float .f32 nJ] aa h:=qk Tryz.func233 H
end Go.Sx
namespace Go.Sx
open FloatKind (f32 f64)
open IntKind (i64)
open Go.Proofs Ieee
set_option maxRecDepth 100000
set_option maxHeartbeats 1000000
theorem TV{x:Nat}(nm:String)(hx:nan .f64 x=false):Extern.MathFloor.toIntegral nm .down #[.float .f64 x]=pure (.float .f64 (flr x)):=by
 have h':(f64.decode x).isNaN=false:=hx
 show(match f64.decode x with | .nan s t=>_ | d=>_)=_
 unfold flr
 cases e:f64.decode x with
 | nan s t=>rw[e] at h';cases h'
 | number s m p=>rfl
 | infinity s=>rfl
theorem zh{x:Nat}(hx:nan .f64 x=false):Ret ak 255 #[.float .f64 x] (.float .f64 (flr x)):=λh=>by
 have c:Ret ak 293 #[.float .f64 x] (.float .f64 (flr x)):=
  BU (e := Extern.MathFloor.toIntegral "math.archFloor" .down) D0 (by kernel_rfl) (by kernel_rfl) (by kernel_rfl) (by kernel_rfl) fun w => by rw [TV _ hx, Sem.run_pure]
 exact AU.call (c.go λh1 x1=>cW ⟨rfl,x1⟩)
theorem aeT{k:FloatKind}{o:Option Nat}{v:Nat}{F:Nat->Prop}(h:o=some v)(H:F v):FOP k o F:=λr hr=>by
 subst h;rw[show r=v from hr];exact H
theorem V8:ur 0=4607182418800017408:=by decide +kernel
theorem Qt{k:Int}(h1:-140≤k)(h2:k≤140):Ret ak 322 #[.int .i64 k] (.float .f64 (ur k)):=λh=>by
 refine cQ.call ?_
 refine loop (λx hh=>∃j:Int,x=(j,ur (k-j))∧(0≤j∧j≤k∨j=k)∧Ext h hh) (λx=>x.1.toNat) ⟨k,by rw[Int.sub_self,V8],.inr rfl,Ext.refl _⟩ ?_
 rintro x hh ⟨j,rfl,hj,X⟩
 refine brd (λhc=>aeT (YS (by omega) (by omega)) ?_) λhc=>?_
 ·rw[wrap64 (by omega) (by omega)]
  exact⟨⟨j-1,by rw[show k-(j-1)=k-j+1 by omega],by omega,X⟩,by show(j-1).toNat<j.toNat;omega⟩
 ·refine loop (λx hh=>∃i:Int,x=(i,ur (k-i))∧(i≤0∧k≤i∨i=0)∧Ext h hh) (λx=>(-x.1).toNat) ⟨j,rfl,by omega,X⟩ ?_
  rintro x hh ⟨i,rfl,hi,X⟩
  refine brd (λhc=>aeT (YR (by omega) (by omega)) ?_) λhc=>?_
  ·rw[wrap64 (by omega) (by omega)]
   exact⟨⟨i+1,by rw[show k-(i+1)=k-i-1 by omega],by omega,X⟩,by show(-(i+1)).toNat<(-i).toNat;omega⟩
  ·obtain rfl:i=0:=by omega
   exact⟨by rw[Int.sub_zero],X⟩
theorem acI{w m:Nat}{e:Int}(h:f64.format.read w = .number false m e)(hm:2 ^ 52≤m)(hw:w<2 ^ 64):w=(e+1074).toNat*2 ^ 52+m:=by
 obtain⟨e1,e2,e3,e4⟩:=rU
 have e5:f64.format.signWeight=2 ^ 63:=rfl
 unfold Format.read at h
 dsimp only at h
 rw[e5,e3,e2,e4] at h
 split at h
 ·simp only[Datum.number.injEq] at h;omega
 ·split at h
  ·simp only[Datum.number.injEq] at h
   obtain⟨h1,h2,h3⟩:=h
   have h1:¬w / 2 ^ 63 % 2=1:=by simpa using h1
   omega
  ·split at h <;> cases h
theorem TP{s:Nat}(hb:Btw s 0 2)(hs:s<2 ^ 64):∃(m:Nat) (e:Int),f64.format.read s = .number false m e∧2 ^ 52≤m∧m<2 ^ 53∧(e = -52∨e = -51∨e = -50)∧s=(e+1074).toNat*2 ^ 52+m:=by
 obtain⟨m,e,hr,hv,hg,h1,h2⟩:=hb
 refine⟨m,e,hr,h1,h2,?_,acI hr h1 hs⟩
 have k1:52≤(2-e).toNat:=by
  rcases hv with hv | ⟨g1,g2⟩
  ·omega
  ·exact(Nat.pow_le_pow_iff_right (by decide:1<2)).1 (Nat.le_trans h1 g2)
 have k2:(0-e).toNat<53:=(Nat.pow_lt_pow_iff_right (by decide:1<2)).1 (Nat.lt_of_le_of_lt hg.2 h2)
 omega
theorem YH{k:FloatKind}{x y m n:Nat}{i j:Int}(hx:k.format.read x = .number false m i)(hy:k.format.read y = .number false n j)(b:Int)(hi:b≤i)(hj:b≤j)(h:m*2 ^ (i-b).toNat<n*2 ^ (j-b).toNat):k.format.order x y=some .lt:=by
 rw[gN hx hy,oT _ _ _ _ _ _ b hi hj,eP,eP,vy (Int.ofNat_lt.2 h)]
theorem Oq{k:FloatKind}{x y m n:Nat}{i j:Int}(hx:k.format.read x = .number false m i)(hy:k.format.read y = .number false n j)(b:Int)(hi:b≤i)(hj:b≤j)(h:n*2 ^ (j-b).toNat<m*2 ^ (i-b).toNat):k.format.order x y=some .gt:=by
 rw[gN hx hy,oT _ _ _ _ _ _ b hi hj,eP,eP,vx (Int.ofNat_lt.2 h)]
theorem CT{n:Int}(h1:0≤n)(h2:n<18446744073709551616):IntKind.u64.wrap n=n:=by
 simp only[IntKind.wrap,IntKind.signed,Bool.false_and,Bool.false_eq_true,if_false]
 rw[show(2:Int) ^ IntKind.u64.bits=18446744073709551616 by decide]
 omega
theorem aag{x:Nat}(h:x<2 ^ 63):x &&& 2 ^ 63=0:=by
 apply Nat.eq_of_testBit_eq
 intro i
 rw[Nat.testBit_and,Nat.testBit_two_pow,Nat.zero_testBit]
 by_cases e:63=i
 ·subst e;rw[Nat.testBit_lt_two_pow h];rfl
 ·rw[decide_eq_false e,Bool.and_false]
theorem Ym{x:Nat}(h:x<2 ^ 63):tU .andNot .u64 (x:Int) 9218868437227405312=((x % 2 ^ 52:Nat):Int):=by
 have e2:(BitVec.ofInt IntKind.u64.bits (x:Int) &&& ~~~BitVec.ofInt IntKind.u64.bits 9218868437227405312).toNat=x % 2 ^ 52:=by
  have e3:(~~~BitVec.ofInt IntKind.u64.bits 9218868437227405312).toNat=2 ^ 63 ||| (2 ^ 52-1):=by decide
  rw[BitVec.toNat_and,e3,BitVec.ofInt_natCast,BitVec.toNat_ofNat]
  rw[show(2:Nat) ^ IntKind.u64.bits=18446744073709551616 by decide,Nat.mod_eq_of_lt (by omega),Nat.and_or_distrib_left,Nat.and_two_pow_sub_one_eq_mod,aag h,Nat.zero_or]
 show IntKind.u64.wrap _=_
 rw[e2]
 exact CT (by omega) (by omega)
theorem ac1{f E:Nat}(hf:f<2 ^ 52)(hE:E<2 ^ 11):tU .or .u64 (f:Int) (((E*2 ^ 52:Nat)):Int)=((E*2 ^ 52+f:Nat):Int):=by
 have e2:(BitVec.ofInt IntKind.u64.bits (f:Int) ||| BitVec.ofInt IntKind.u64.bits ((E*2 ^ 52:Nat):Int)).toNat=E*2 ^ 52+f:=by
  rw[BitVec.toNat_or,BitVec.ofInt_natCast,BitVec.ofInt_natCast,BitVec.toNat_ofNat,BitVec.toNat_ofNat]
  rw[show(2:Nat) ^ IntKind.u64.bits=18446744073709551616 by decide,Nat.mod_eq_of_lt (by omega),Nat.mod_eq_of_lt (by omega),← Nat.shiftLeft_eq,Nat.shiftLeft_add_eq_or_of_lt hf,Nat.or_comm]
 show IntKind.u64.wrap _=_
 rw[e2]
 exact CT (by omega) (by omega)
theorem akX{x:Nat}(h:x<2 ^ 63):LW .u64 (x:Int) 52=((x / 2 ^ 52:Nat):Int):=by
 unfold LW
 rw[show min (52:Int).toNat IntKind.u64.bits=52 by decide]
 rw[show((2:Int) ^ 52)=((2 ^ 52:Nat):Int) by decide]
 rw[Int.fdiv_eq_ediv_of_nonneg _ (by decide)]
 rfl
theorem akW{E:Nat}(hE:E<2 ^ 11):Ze .u64 (E:Int) 52=((E*2 ^ 52:Nat):Int):=by
 unfold Ze
 rw[show min (52:Int).toNat IntKind.u64.bits=52 by decide]
 rw[← show((E*2 ^ 52:Nat):Int)=(E:Int)*2 ^ 52 by rw[Int.natCast_mul,show((2 ^ 52:Nat):Int)=(2:Int) ^ 52 by decide]]
 exact CT (by omega) (by omega)
theorem UR{w m:Nat}{e:Int}(h:f64.format.read w = .number false m e):f64.format.mul 4607182418800017408 w=some (f64.format.nearest false m e):=by
 rw[zA (by rw[AY,h,mJ])]
 exact congrArg some (pT _ _ 52 (by rw[Nat.mul_comm]) (by omega))
theorem Z5:f64.format.read 0 = .number false 0 (-1074):=by decide +kernel
theorem RJ:f64.format.read 9218868437227405311 = .number false (2 ^ 53-1) 971:=by decide +kernel
theorem RK:f64.format.read 4503599627370496 = .number false (2 ^ 52) (-1074):=by decide +kernel
theorem Pe{n:Nat}(h:1≤n)(m:Nat):m*2≤m*2 ^ n:=Nat.mul_le_mul_left _ (Nat.pow_le_pow_right (n:=2) (by decide) h)
theorem LB{s m:Nat}{e:Int}(hr:f64.format.read s = .number false m e)(hm1:2 ^ 52≤m)(Fi:m<2 ^ 53)(he:e = -52∨e = -51∨e = -50):
  f64.format.order s 0=some .gt∧f64.format.order s 9218868437227405311=some .lt∧f64.format.order s 4503599627370496=some .gt:=by
 refine⟨Oq hr Z5 (-1074) (by omega) (by decide) ?_,YH hr RJ e (by omega) (by omega) ?_,Oq hr RK (-1074) (by omega) (by decide) ?_⟩
 ·rw[Nat.zero_mul]
  exact Nat.mul_pos (by omega) (Nat.two_pow_pos _)
 ·have h1:=Pe (n:=((971:Int)-e).toNat) (by omega) (2 ^ 53-1)
  rw[Int.sub_self,show(0:Int).toNat=0 by rfl,Nat.pow_zero,Nat.mul_one]
  omega
 ·have h1:=Pe (n:=(e - -1074).toNat) (by omega) m
  rw[Int.sub_self,show(0:Int).toNat=0 by rfl,Nat.pow_zero,Nat.mul_one]
  omega
theorem QL{s m F:Nat}{e k:Int}(hr:f64.format.read s = .number false m e)(hm1:2 ^ 52≤m)(Fi:m<2 ^ 53)(he:e = -52∨e = -51∨e = -50)(h1:-120≤k)(h2:k≤120)(hs:s=(e+1074).toNat*2 ^ 52+m)(hF:(F:Int)=k+(e+1075)):
  f64.format.mul 4607182418800017408 (F*2 ^ 52+s % 2 ^ 52)=some (eG .f64 s (ur k)):=by
 have hsm:s % 2 ^ 52=m-2 ^ 52:=by omega
 have hq:F*2 ^ 52+s % 2 ^ 52=(F-1)*2 ^ 52+m:=by
  rw[hsm,Nat.sub_mul]
  have:1*2 ^ 52≤F*2 ^ 52:=Nat.mul_le_mul_right _ (by omega)
  omega
 obtain⟨e1,e2,e3,e4⟩:=rU
 have qR:(F-1)*2 ^ 52≤1500*2 ^ 52:=Nat.mul_le_mul_right _ (by omega)
 have SM:f64.format.read (F*2 ^ 52+s % 2 ^ 52) = .number false m (e+k):=by
  have:=AZ f64.format false (k:=m) (q:=F-1) (by rw[e3];omega) (.inr (by rw[e3];exact hm1)) (by rw[e3,e4];omega)
  rw[kr,e3,e2] at this
  rw[hq,this]
  congr 1
  omega
 have hl:m.log2=52:=by
  have a:=(Nat.log2_lt (n:=m) (k:=53) (by omega)).2 Fi
  have b:=(Nat.le_log2 (n:=m) (k:=52) (by omega)).2 hm1
  omega
 have hn:f64.format.nearest false m (e+k)=F*2 ^ 52+s % 2 ^ 52:=by
  rw[w9 _ _ (by omega) (by rw[hl,e1,e2];omega),kr,e2,e3,e4,hq,show(e+k - -1074).toNat=F-1 by omega]
  exact Nat.min_eq_left (Nat.le_trans (Nat.add_le_add qR (Nat.le_of_lt Fi)) (by decide))
 rw[UR SM]
 unfold eG
 rw[Yz hr (k:=k) (by omega) (by omega),Option.getD_some,hn,kJ SM]
theorem aa4{s:Nat}{k:Int}(hb:Btw s 0 2)(hs:s<2 ^ 64)(q1:-120≤k)(q2:k≤120):Ret ak 328 #[.float .f64 s,.int .i64 k] (.float .f64 (eG .f64 s (ur k))):=λh=>by
 obtain⟨m,e,hr,hm1,Fi,he,hw⟩:=TP hb hs
 have afm:s<2 ^ 63:=by omega
 have ajs:Sx.nan .f64 s=false:=by unfold Sx.nan;rw[hr];rfl
 have fs:FW .f64 s s:=⟨kJ hr,hs⟩
 have aoI:cn .f64 (s % 2 ^ 63)=s:=by rw[Nat.mod_eq_of_lt afm,kJ hr]
 obtain⟨o0,o1,o2⟩:=LB hr hm1 Fi he
 have ai2:∀hh,af ak 308 #[.float .f64 s] (λu h'=>u = .float .f64 s∧Ext hh h') hh:=λhh=>(Sm fs).go λh' y x hy=>by
  rw[aoI] at hy
  rw[hy.eq ajs];exact⟨rfl,x⟩
 refine AW.call (eW.call ?_)
 unfold eW.S
 rw[o0]
 refine cM rfl (AV.call (vu rfl (goX (ai2 _) λh1 x1=>cW ?_)))
 rw[o1]
 refine bt (cM rfl (vX.call ?_))
 unfold vX.S
 rw[ne_self,ajs]
 refine bt (cM rfl ?_)
 unfold eW.J5
 refine sL.call (goX (ai2 _) λh2 x2=>cW ?_)
 rw[o2]
 refine cM rfl (jJ (cW (cN ((A4 s).go λh3 x3=>cN (nn (by decide) ?_)))))
 have hE:∃E:Nat,E=(e+1075).toNat∧s / 2 ^ 52=E∧E<2048∧1023≤E∧(E:Int)=e+1075:=⟨_,rfl,by omega,by omega,by omega,by omega⟩
 obtain⟨E,hE0,hE1,hE2,hE3,hE4⟩:=hE
 rw[akX afm,hE1,wrap64 (n:=(E:Int)) (by omega) (by omega)]
 have hand:tU .and .i64 (E:Int) 2047=(E:Int):=by
  rcases he with he | he | he <;> (obtain rfl:E=_:=hE0;subst he;decide)
 rw[hand,wrap64 (n:=k+0) (by omega) (by omega),wrap64 (n:=(E:Int)-1023) (by omega) (by omega),wrap64 (n:=k+0+((E:Int)-1023)) (by omega) (by omega)]
 refine brd (λhc=>by omega) λ_=>brd (λhc=>by omega) λ_=>brd (λhc=>by omega) λ_=>?_
 unfold eW.J19
 refine nn (by decide) ?_
 rw[wrap64 (n:=k+0+((E:Int)-1023)+1023) (by omega) (by omega),CT (n:=k+0+((E:Int)-1023)+1023) (by omega) (by omega)]
 have hF:∃F:Nat,(F:Int)=k+0+((E:Int)-1023)+1023∧F<2 ^ 11:=⟨(k+0+((E:Int)-1023)+1023).toNat,by omega,by omega⟩
 obtain⟨F,hF1,hF2⟩:=hF
 rw[← hF1,akW hF2,Ym afm,ac1 (Nat.mod_lt _ (by decide)) hF2]
 refine(C7 _).go λh4 x4=>cW ?_
 rw[Int.toNat_natCast]
 exact aeT (QL hr hm1 Fi he q1 q2 hw (by omega)) ⟨rfl,((x1.trans x2).trans x3).trans x4⟩
end Go.Sx
