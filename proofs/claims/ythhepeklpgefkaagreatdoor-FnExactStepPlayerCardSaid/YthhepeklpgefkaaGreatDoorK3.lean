/- Lemmas. -/
import Derived.Test.YthhepeklpgefkaaGreatDoorTab
set_option linter.unusedVariables false
set_option linter.unusedSimpArgs false
namespace Go.Sx
open FloatKind (f32 f64)
open IntKind (i64)
open Go.Proofs
set_option maxRecDepth 100000
def dD.B10(aa:VH)(b:(Addr×Int×Int)->ab->Prop):Addr×Int×Int->ab->Prop
 | (x_0,n_3,i_5),h=>
 BIF ((decide (i_5<(i64.wrap (n_3-1))))) (
 oL (cell h (x_0.add 2)) λSO SP abg=>
 bg SO i_5 SP λc=>
 oF .f32 (cell h ((Addr.add c (i_5.toNat*1)))) λQM=>
 BIF (f32.format.order QM 3212836864==some .gt||f32.format.order QM 3212836864==some .eq) (
 oL (cell h (x_0.add 2)) λXB XC aer=>
 bg XB i_5 XC λd=>
 oF .f32 (cell h ((Addr.add d (i_5.toNat*1)))) λa=>
 BIF (!(f32.format.order a 1065353216==some .lt||f32.format.order a 1065353216==some .eq)) (
 aa (.bool false) h) (
 b (x_0,n_3,((i64.wrap (i_5+1)))) h)) (
 aa (.bool false) h)) (
 ae ai pn #[.pointer (some (x_0.add 3))] (λWd tA=>
 asB Wd λe=>
 BIF e (
 oI .i64 (cell tA (x_0.add 3)) λf=>
 BIF (f==1) (
 oF .f32 (cell tA (x_0.add 10)) λZF=>
 oF .f32 (cell tA (x_0.add 11)) λg=>
 oF .f32 (cell tA (x_0.add 12)) λi=>
 ALC ⟨[.float .f32 ZF,.float .f32 g,.float .f32 i]⟩ au (λj KT=>
 ae ai pZ #[.slice (some ⟨j,0,none⟩) 3 3] (λk Su=>
 asB k λl=>
 aa (.bool l) Su) KT) tA) (
 aa (.bool false) tA)) (
 aa (.bool false) tA)) h)
def dD.g10(fr:Frame):Addr×Int×Int:=((gP (ah fr 0)),(gI (ah fr 3)),(gI (ah fr 5)))
def dD.l10(aa:VH):=gg (kds 129 [(0,.p),(3,.i .i64),(5,.i .i64)]) λfr=>bh (dD.B10 aa) (dD.g10 fr)
def dD.B5(aa:VH)(a:(Addr×Int×Int)->ab->Prop):Addr×Int×Int->ab->Prop
 | (x_0,n_3,i_4),h=>
 BIF (decide (i_4<n_3)) (
 oL (cell h x_0) λSM Mx Xt=>
 bg SM i_4 Mx λb=>
 oL (cell h ((Addr.add b (i_4.toNat*2)))) λabb Xv aek=>
 oL (cell h (x_0.add 1)) λPu My Xz=>
 bg Pu i_4 My λc=>
 oL (cell h ((Addr.add c (i_4.toNat*2)))) λXA Pw aem=>
 BIF ((Xv:Int) != (Pw:Int)) (
 aa (.bool false) h) (
 a (x_0,n_3,((i64.wrap (i_4+1)))) h)) (
 bh (dD.B10 aa) (x_0,n_3,0) h)
def dD.g5(fr:Frame):Addr×Int×Int:=((gP (ah fr 0)),(gI (ah fr 3)),(gI (ah fr 4)))
def dD.l5(aa:VH):=gg (kds 129 [(0,.p),(3,.i .i64),(4,.i .i64)]) λfr=>bh (dD.B5 aa) (dD.g5 fr)
def dD.J4(aa:VH)(x_0:Addr)(n_3:Int)(h:ab):=
 bh (dD.B5 aa) (x_0,n_3,0) h
def dD.j4(aa:VH):=gg (kds 129 [(0,.p),(3,.i .i64)]) λfr=>dD.J4 aa (gP (ah fr 0)) (gI (ah fr 3))
def dD.S(x_0:Addr)(aa:VH)(h:ab):=
 oL (cell h x_0) λc a Qn=>
 BIF ((decide ((a:Int)<1))) (
 aa (.bool false) h) (
 BIF ((decide (3<(a:Int)))) (
 aa (.bool false) h) (
 oL (cell h (x_0.add 1)) λPy b TN=>
 BIF ((b:Int) != (a:Int)) (
 aa (.bool false) h) (
 oL (cell h (x_0.add 2)) λAu yL AN=>
 BIF (((yL:Int) != (i64.wrap ((a:Int)-1)))) (
 aa (.bool false) h) (
 oL (cell h x_0) λuY rj yg=>
 ae ai nC #[.slice uY rj yg] (λwi iG=>
 asB wi λHb=>
 BIF (!Hb) (
 aa (.bool false) iG) (
 oL (cell iG (x_0.add 1)) λFC DX Jt=>
 ae ai nC #[.slice FC DX Jt] (λDc iJ=>
 asB Dc λOY=>
 BIF (!OY) (
 aa (.bool false) iJ) (
 dD.J4 aa x_0 (a:Int) iJ)) iG)) h))))
theorem dD.call{x_0:Addr}{aa:VH}{h:ab}(H:dD.S x_0 aa h):ae ai BL #[.pointer (some x_0)] aa h:=
 qc (Λ:=an [(4,dD.j4 aa),(1000005,dD.l5 aa),(1000010,dD.l10 aa)]) Tryz.func250
 (qs qf (qs qf (qj (dD.j4 aa) qf
 (qs (qs qf (Rq.block (ql (dD.l5 aa) (qg (g:=dD.g5) (Λ:=λa=>an []) (λ_ _ _=>by kernel_rfl) (λa=>qf))))) (qs (qs qf (Rq.block (ql (dD.l10 aa) (qg (g:=dD.g10) (Λ:=λb=>an []) (λ_ _ _=>by kernel_rfl) (λb=>qf))))) qf)))))
 (qe H)
def gK.B3(aa:VH)(e:(Option Addr×Nat×Nat×Option Addr×Nat×Nat×Int)->ab->Prop):Option Addr×Nat×Nat×Option Addr×Nat×Nat×Int->ab->Prop
 | (aF,ax,aN,a,b,c,i_4),h=>
 BIF ((decide (i_4<(ax:Int)))) (
 bg aF i_4 ax λf=>
 ae ai mn #[.pointer (some ((Addr.add f (i_4.toNat*2))))] (λg i=>
 asA g λd=>
 SIZ (Array.size d) 2 <|
 ALC ⟨(dN 0 2 d [.slice none 0 0,.int .i64 0])⟩ aq (λj gd=>
 iA ai (Builtin.append_ #[bG,bG] bG #[.slice a b c,.slice (some ⟨j,0,none⟩) 1 1]) (λwi iG=>
 asL wi λHV HW Mw=>
 e (aF,ax,aN,HV,HW,Mw,((i64.wrap (i_4+1)))) iG) gd) i) h) (
 aa (.slice a b c) h)
def gK.g3(fr:Frame):Option Addr×Nat×Nat×Option Addr×Nat×Nat×Int:=((gLb (ah fr 0)),(gLl (ah fr 0)),(gLc (ah fr 0)),(gLb (ah fr 3)),(gLl (ah fr 3)),(gLc (ah fr 3)),(gI (ah fr 4)))
def gK.l3(aa:VH):=gg (kds 20 [(0,.l),(3,.l),(4,.i .i64)]) λfr=>bh (gK.B3 aa) (gK.g3 fr)
def gK.S(aF:Option Addr)(ax aN:Nat)(aa:VH)(h:ab):=
 ALC ⟨[]⟩ aq (λa b=>
 bh (gK.B3 aa) (aF,ax,aN,(some ⟨a,0,none⟩),0,0,0) b) h
theorem gK.call{aF:Option Addr}{ax aN:Nat}{aa:VH}{h:ab}(H:gK.S aF ax aN aa h):ae ai jL #[.slice aF ax aN] aa h:=
 qc (Λ:=an [(1000003,gK.l3 aa)]) Tryz.func341
 (qs qf (qs qf (qs (qs qf (Rq.block (ql (gK.l3 aa) (qg (g:=gK.g3) (Λ:=λa=>an []) (λ_ _ _=>by kernel_rfl) (λa=>qf))))) qf)))
 (qe H)
def CJ.S(x_0:Addr)(aa:VH)(h:ab):=
 ALC ⟨aH⟩ av (λb a=>
 oL (cell a x_0) λKa Hd i=>
 oL (cell a (x_0.add 1)) λPy d TN=>
 oL (cell a (x_0.add 2)) λEY Df HY=>
 LDA 6 a (x_0.add 3) λc=>
 oB (cell a (x_0.add 9)) λe=>
 oF .f32 (cell a (x_0.add 10)) λf=>
 oF .f32 (cell a (x_0.add 11)) λg=>
 oF .f32 (cell a (x_0.add 12)) λAg=>
 (ae ai jL #[.slice Ka Hd i] (λwi iG=>
 asL wi λHV HW Mw=>
 PIN a (x_0.add 12) 1 iG <|
 PIN a (x_0.add 11) 1 iG <|
 PIN a (x_0.add 10) 1 iG <|
 PIN a (x_0.add 9) 1 iG <|
 PIN a (x_0.add 3) 6 iG <|
 PIN a (x_0.add 2) 1 iG <|
 PIN a (x_0.add 1) 1 iG <|
 (ae ai jL #[.slice Py d TN] (λDb kB=>
 asL Db λDY DZ FE=>
 PIN a (x_0.add 12) 1 kB <|
 PIN a (x_0.add 11) 1 kB <|
 PIN a (x_0.add 10) 1 kB <|
 PIN a (x_0.add 9) 1 kB <|
 PIN a (x_0.add 3) 6 kB <|
 PIN a (x_0.add 2) 1 kB <|
 ALC ⟨[]⟩ au (λDK jn=>
 PIN a (x_0.add 12) 1 jn <|
 PIN a (x_0.add 11) 1 jn <|
 PIN a (x_0.add 10) 1 jn <|
 PIN a (x_0.add 9) 1 jn <|
 PIN a (x_0.add 3) 6 jn <|
 PIN a (x_0.add 2) 1 jn <|
 PIN a (x_0.add 1) 1 jn <|
 PIN a x_0 1 jn <|
 iA ai (Builtin.append_ #[bI,bI] bI #[.slice (some ⟨DK,0,none⟩) 0 0,.slice EY Df HY]) (λFH jZ=>
 asL FH λabd Xw abe=>
 PIN a (x_0.add 12) 1 jZ <|
 PIN a (x_0.add 11) 1 jZ <|
 PIN a (x_0.add 10) 1 jZ <|
 PIN a (x_0.add 9) 1 jZ <|
 PIN a (x_0.add 3) 6 jZ <|
 SIZ (Array.size c) 6 <|
 STA 13 jZ ⟨b,0,none⟩ ⟨(List.set (List.set (List.set (List.set (dN 3 6 c [.slice HV HW Mw,.slice DY DZ FE,.slice abd Xw abe,.int .i64 0,.float .f32 0,.float .f32 0,.float .f32 0,.float .f32 0,.float .f32 0,.bool false,.float .f32 0,.float .f32 0,.float .f32 0]) 9 (.bool e)) 10 (.float .f32 f)) 11 (.float .f32 g)) 12 (.float .f32 Ag))⟩ λrM=>
 LDA 13 rM ⟨b,0,none⟩ λk=>
 aa (.agg k) rM) jn) kB) iG)∧(ALC ⟨[]⟩ au (λl oJ=>
 PIN a (x_0.add 12) 1 oJ <|
 PIN a (x_0.add 11) 1 oJ <|
 PIN a (x_0.add 10) 1 oJ <|
 PIN a (x_0.add 9) 1 oJ <|
 PIN a (x_0.add 3) 6 oJ <|
 PIN a (x_0.add 2) 1 oJ <|
 PIN a (x_0.add 1) 1 oJ <|
 PIN a x_0 1 oJ <|
 ae ai jL #[.slice Py d TN] (λm wP=>
 asL m λSO SP abg=>
 PIN a (x_0.add 12) 1 wP <|
 PIN a (x_0.add 11) 1 wP <|
 PIN a (x_0.add 10) 1 wP <|
 PIN a (x_0.add 9) 1 wP <|
 PIN a (x_0.add 3) 6 wP <|
 PIN a (x_0.add 2) 1 wP <|
 iA ai (Builtin.append_ #[bI,bI] bI #[.slice (some ⟨l,0,none⟩) 0 0,.slice EY Df HY]) (λVp GD=>
 asL Vp λXB XC aer=>
 PIN a (x_0.add 12) 1 GD <|
 PIN a (x_0.add 11) 1 GD <|
 PIN a (x_0.add 10) 1 GD <|
 PIN a (x_0.add 9) 1 GD <|
 PIN a (x_0.add 3) 6 GD <|
 SIZ (Array.size c) 6 <|
 STA 13 GD ⟨b,0,none⟩ ⟨(List.set (List.set (List.set (List.set (dN 3 6 c [.slice HV HW Mw,.slice SO SP abg,.slice XB XC aer,.int .i64 0,.float .f32 0,.float .f32 0,.float .f32 0,.float .f32 0,.float .f32 0,.bool false,.float .f32 0,.float .f32 0,.float .f32 0]) 9 (.bool e)) 10 (.float .f32 f)) 11 (.float .f32 g)) 12 (.float .f32 Ag))⟩ λJY=>
 LDA 13 JY ⟨b,0,none⟩ λn=>
 aa (.agg n) JY) wP) oJ) iG)) a)∧(ALC ⟨[]⟩ au (λo tA=>
 PIN a (x_0.add 12) 1 tA <|
 PIN a (x_0.add 11) 1 tA <|
 PIN a (x_0.add 10) 1 tA <|
 PIN a (x_0.add 9) 1 tA <|
 PIN a (x_0.add 3) 6 tA <|
 PIN a (x_0.add 2) 1 tA <|
 PIN a (x_0.add 1) 1 tA <|
 PIN a x_0 1 tA <|
 ae ai jL #[.slice Ka Hd i] (λYf CW=>
 asL Yf λaxp axr axq=>
 PIN a (x_0.add 12) 1 CW <|
 PIN a (x_0.add 11) 1 CW <|
 PIN a (x_0.add 10) 1 CW <|
 PIN a (x_0.add 9) 1 CW <|
 PIN a (x_0.add 3) 6 CW <|
 PIN a (x_0.add 2) 1 CW <|
 PIN a (x_0.add 1) 1 CW <|
 ae ai jL #[.slice Py d TN] (λp IL=>
 asL p λaev aew aik=>
 PIN a (x_0.add 12) 1 IL <|
 PIN a (x_0.add 11) 1 IL <|
 PIN a (x_0.add 10) 1 IL <|
 PIN a (x_0.add 9) 1 IL <|
 PIN a (x_0.add 3) 6 IL <|
 PIN a (x_0.add 2) 1 IL <|
 iA ai (Builtin.append_ #[bI,bI] bI #[.slice (some ⟨o,0,none⟩) 0 0,.slice EY Df HY]) (λq GF=>
 asL q λalW alX aqZ=>
 PIN a (x_0.add 12) 1 GF <|
 PIN a (x_0.add 11) 1 GF <|
 PIN a (x_0.add 10) 1 GF <|
 PIN a (x_0.add 9) 1 GF <|
 PIN a (x_0.add 3) 6 GF <|
 SIZ (Array.size c) 6 <|
 STA 13 GF ⟨b,0,none⟩ ⟨(List.set (List.set (List.set (List.set (dN 3 6 c [.slice axp axr axq,.slice aev aew aik,.slice alW alX aqZ,.int .i64 0,.float .f32 0,.float .f32 0,.float .f32 0,.float .f32 0,.float .f32 0,.bool false,.float .f32 0,.float .f32 0,.float .f32 0]) 9 (.bool e)) 10 (.float .f32 f)) 11 (.float .f32 g)) 12 (.float .f32 Ag))⟩ λj=>
 LDA 13 j ⟨b,0,none⟩ λr=>
 aa (.agg r) j) IL) CW) tA) a)) h
theorem CJ.call{x_0:Addr}{aa:VH}{h:ab}(H:CJ.S x_0 aa h):ae ai xO #[.pointer (some x_0)] aa h:=
 qc (Λ:=an []) Tryz.func276
 qf
 (qe H)
def gL.B3(aa:VH)(e:(Option Addr×Nat×Nat×Option Addr×Nat×Nat×Int)->ab->Prop):Option Addr×Nat×Nat×Option Addr×Nat×Nat×Int->ab->Prop
 | (aF,ax,aN,a,b,c,i_4),h=>
 BIF ((decide (i_4<(ax:Int)))) (
 bg aF i_4 ax λf=>
 oL (cell h ((Addr.add f (i_4.toNat*2)))) λMz MA TO=>
 bg aF i_4 ax λg=>
 oI .i64 (cell h ((Addr.add ((Addr.add g (i_4.toNat*2))) 1))) λd=>
 bg Mz d MA λi=>
 oF .f32 (cell h ((Addr.add i (d.toNat*1)))) λAg=>
 ALC ⟨[.float .f32 Ag]⟩ au (λj iG=>
 iA ai (Builtin.append_ #[bI,bI] bI #[.slice a b c,.slice (some ⟨j,0,none⟩) 1 1]) (λyM ke=>
 asL yM λFD k HX=>
 e (aF,ax,aN,FD,k,HX,((i64.wrap (i_4+1)))) ke) iG) h) (
 aa (.slice a b c) h)
def gL.g3(fr:Frame):Option Addr×Nat×Nat×Option Addr×Nat×Nat×Int:=((gLb (ah fr 0)),(gLl (ah fr 0)),(gLc (ah fr 0)),(gLb (ah fr 3)),(gLl (ah fr 3)),(gLc (ah fr 3)),(gI (ah fr 4)))
def gL.l3(aa:VH):=gg (kds 28 [(0,.l),(3,.l),(4,.i .i64)]) λfr=>bh (gL.B3 aa) (gL.g3 fr)
def gL.S(aF:Option Addr)(ax aN:Nat)(aa:VH)(h:ab):=
 ALC ⟨[]⟩ au (λa b=>
 bh (gL.B3 aa) (aF,ax,aN,(some ⟨a,0,none⟩),0,0,0) b) h
theorem gL.call{aF:Option Addr}{ax aN:Nat}{aa:VH}{h:ab}(H:gL.S aF ax aN aa h):ae ai po #[.slice aF ax aN] aa h:=
 qc (Λ:=an [(1000003,gL.l3 aa)]) Tryz.func335
 (qs qf (qs qf (qs (qs qf (Rq.block (ql (gL.l3 aa) (qg (g:=gL.g3) (Λ:=λa=>an []) (λ_ _ _=>by kernel_rfl) (λa=>qf))))) qf)))
 (qe H)
def CK.S(Cw:Nat)(wZ:Nat)(d_2:Nat)(aa:VH)(h:ab):=
 FOP .f32 (od wZ d_2) λa=>
 FOP .f32 (CT Cw a) λb=>
 ae ai qx #[.float .f32 b,.float .f32 1065353216] (λc d=>
 asF .f32 c λe=>
 aa (.float .f32 e) d) h
theorem CK.call{Cw:Nat}{wZ:Nat}{d_2:Nat}{aa:VH}{h:ab}(H:CK.S Cw wZ d_2 aa h):ae ai xP #[.float .f32 Cw,.float .f32 wZ,.float .f32 d_2] aa h:=
 qc (Λ:=an []) Tryz.func336
 qf
 (qe H)
def dP.J16(aa:VH)(x_0:Addr)(n_5:Int)(avc:Nat)(b:Nat)(h:ab):=
 oL (cell h (x_0.add 1)) λaeB aeC ain=>
 bg aeB ((i64.wrap (n_5-1))) aeC λc=>
 ae ai bM #[.float .f32 b] (λd a=>
 asF .f32 d λe=>
 PIN h (x_0.add 1) 1 a <|
 ae ai jl #[.pointer (some ((Addr.add c ((Int.toNat ((i64.wrap (n_5-1))))*2)))),.float .f32 e] (λf g=>
 asF .f32 f λi=>
 aa (.float .f32 avc) g) a) h
def dP.j16(aa:VH):=gg (kds 140 [(0,.p),(5,.i .i64),(11,.f .f32),(12,.f .f32)]) λfr=>dP.J16 aa (gP (ah fr 0)) (gI (ah fr 5)) (gF (ah fr 11)) (gF (ah fr 12))
def dP.B7(aa:VH)(l:(Addr×Int×Option Addr×Nat×Nat×Option Addr×Nat×Nat×Int)->ab->Prop):Addr×Int×Option Addr×Nat×Nat×Option Addr×Nat×Nat×Int->ab->Prop
 | (x_0,n_5,b,c,aBb,e,f,axS,i_9),h=>
 BIF ((decide ((i64.wrap (i_9+1))<n_5))) (
 oL (cell h (x_0.add 2)) λSQ Px aeq=>
 bg SQ i_9 Px λi=>
 oF .f32 (cell h ((Addr.add i (i_9.toNat*1)))) λWe=>
 bg b i_9 c λm=>
 oF .f32 (cell h ((Addr.add m (i_9.toNat*1)))) λn=>
 bg e ((i64.wrap (i_9+1))) f λo=>
 oF .f32 (cell h ((Addr.add o ((Int.toNat ((i64.wrap (i_9+1))))*1)))) λTP=>
 FOP .f32 (wv n TP) λWf=>
 PIN h ((Addr.add i (i_9.toNat*1))) 1 h <|
 PIN h (x_0.add 2) 1 h <|
 FOP .f32 (od We Wf) λZF=>
 oL (cell h x_0) λaeu abh alV=>
 bg aeu ((i64.wrap (i_9+1))) abh λp=>
 bg b i_9 c λq=>
 oF .f32 (cell h ((Addr.add q (i_9.toNat*1)))) λr=>
 FOP .f32 (CT r ZF) λs=>
 PIN h x_0 1 h <|
 ae ai bM #[.float .f32 s] (λt j=>
 asF .f32 t λu=>
 PIN h x_0 1 j <|
 ae ai jl #[.pointer (some ((Addr.add p ((Int.toNat ((i64.wrap (i_9+1))))*2)))),.float .f32 u] (λv a=>
 asF .f32 v λL=>
 oL (cell a (x_0.add 1)) λw x axt=>
 bg w i_9 x λy=>
 bg e ((i64.wrap (i_9+1))) f λz=>
 oF .f32 (cell a ((Addr.add z ((Int.toNat ((i64.wrap (i_9+1))))*1)))) λA=>
 FOP .f32 (CT A ZF) λB=>
 PIN a (x_0.add 1) 1 a <|
 ae ai bM #[.float .f32 B] (λC JZ=>
 asF .f32 C λD=>
 PIN a (x_0.add 1) 1 JZ <|
 ae ai jl #[.pointer (some ((Addr.add y (i_9.toNat*2)))),.float .f32 D] (λE F=>
 asF .f32 E λM=>
 l (x_0,n_5,b,c,aBb,e,f,axS,((i64.wrap (i_9+1)))) F) JZ) a) j) h) (
 bg b ((i64.wrap (n_5-1))) c λG=>
 oF .f32 (cell h ((Addr.add G ((Int.toNat ((i64.wrap (n_5-1))))*1)))) λH=>
 ae ai mq #[.pointer (some (x_0.add 3)),.float .f32 H] (λI d=>
 asF .f32 I λg=>
 oF .f32 (cell d (x_0.add 10)) λJ=>
 FOP .f32 (od J g) λk=>
 oB (cell d (x_0.add 9)) λK=>
 BIF K (
 dP.J16 aa x_0 n_5 g (Op.negFloat .f32 k) d) (
 dP.J16 aa x_0 n_5 g k d)) h)
def dP.g7(fr:Frame):Addr×Int×Option Addr×Nat×Nat×Option Addr×Nat×Nat×Int:=((gP (ah fr 0)),(gI (ah fr 5)),(gLb (ah fr 6)),(gLl (ah fr 6)),(gLc (ah fr 6)),(gLb (ah fr 7)),(gLl (ah fr 7)),(gLc (ah fr 7)),(gI (ah fr 9)))
def dP.l7(aa:VH):=gg (kds 140 [(0,.p),(5,.i .i64),(6,.l),(7,.l),(9,.i .i64)]) λfr=>bh (dP.B7 aa) (dP.g7 fr)
def dP.S(x_0:Addr)(lM:Nat)(aa:VH)(h:ab):=
 oL (cell h x_0) λn b Qn=>
 oL (cell h x_0) λPy c TN=>
 ae ai po #[.slice Py c TN] (λd a=>
 asL d λAu yL AN=>
 oL (cell a (x_0.add 1)) λe f g=>
 ae ai po #[.slice e f g] (λi gd=>
 asL i λrN qd ui=>
 bg rN 0 qd λOo=>
 oF .f32 (cell gd Oo) λCu=>
 FOP .f32 (wv Cu lM) λFJ=>
 oL (cell gd x_0) λFD j HX=>
 bg FD 0 j λk=>
 oF .f32 (cell gd (x_0.add 11)) λl=>
 oF .f32 (cell gd (x_0.add 12)) λzf=>
 ae ai xP #[.float .f32 l,.float .f32 zf,.float .f32 FJ] (λFH jZ=>
 asF .f32 FH λIl=>
 PIN gd x_0 1 jZ <|
 FOP .f32 (od FJ Il) λPG=>
 PIN gd x_0 1 jZ <|
 FOP .f32 (CT lM PG) λm=>
 PIN gd x_0 1 jZ <|
 ae ai bM #[.float .f32 m] (λVo oJ=>
 asF .f32 Vo λYi=>
 PIN gd x_0 1 oJ <|
 ae ai jl #[.pointer (some k),.float .f32 Yi] (λTj uN=>
 asF .f32 Tj λKk=>
 bh (dP.B7 aa) (x_0,(b:Int),Au,yL,AN,rN,qd,ui,0) uN) oJ) jZ) gd) a) h
theorem dP.call{x_0:Addr}{lM:Nat}{aa:VH}{h:ab}(H:dP.S x_0 lM aa h):ae ai xQ #[.pointer (some x_0),.float .f32 lM] aa h:=
 qc (Λ:=an [(1000007,dP.l7 aa),(16,dP.j16 aa)]) Tryz.func271
 (qs qf (qs qf (qs qf (qs qf (qs qf (qs qf (qs (qs qf (Rq.block (ql (dP.l7 aa) (qg (g:=dP.g7) (Λ:=λa=>an []) (λ_ _ _=>by kernel_rfl) (λa=>qf))))) (qs qf (qs qf (qj (dP.j16 aa) qf
 qf))))))))))
 (qe H)
def sQ.S(k_0:Nat)(aa:VH)(h:ab):=
 ae ai eQ #[.float .f32 k_0,.float .f32 3212836864,.float .f32 1065353216] (λa b=>
 asB a λc=>
 aa (.bool (!c)) b) h
theorem sQ.call{k_0:Nat}{aa:VH}{h:ab}(H:sQ.S k_0 aa h):ae ai pG #[.float .f32 k_0] aa h:=
 qc (Λ:=an []) Tryz.func328
 qf
 (qe H)
def dB.B5(aa:VH)(f:(Addr×Option Addr×Nat×Nat×Int×Int)->ab->Prop):Addr×Option Addr×Nat×Nat×Int×Int->ab->Prop
 | (x_1,c,d,g,e,a),h=>
 BIF (decide (a<e)) (
 bg c a d λi=>
 LDA 2 h ((Addr.add i (a.toNat*2))) λj=>
 ALC ⟨fO⟩ aq (λb Lk=>
 STA 2 Lk ⟨b,0,none⟩ j λwQ=>
 LDA 2 wQ ⟨b,0,none⟩ λRQ=>
 ae ai nM #[.agg RQ] (λYf CW=>
 asB Yf λk=>
 BIF (!k) (
 aa (.bool false) CW) (
 oL (cell CW (x_1.add 1)) λaeu abh alV=>
 bg aeu a abh λl=>
 LDA 2 CW ((Addr.add l (a.toNat*2))) λm=>
 ae ai nM #[.agg m] (λn GF=>
 asB n λo=>
 BIF (!o) (
 aa (.bool false) GF) (
 oL (cell GF ⟨b,0,none⟩) λail aex aim=>
 oL (cell GF (x_1.add 1)) λalY alZ axs=>
 bg alY a alZ λp=>
 oL (cell GF ((Addr.add p (a.toNat*2)))) λx q axt=>
 BIF ((aex:Int) != (q:Int)) (
 aa (.bool false) GF) (
 f (x_1,c,d,g,e,((i64.wrap (a+1)))) GF))) CW)) wQ) h) (
 oL (cell h (x_1.add 2)) λr s t=>
 ae ai eZ #[.slice r s t,.func (.func 328) #[] #[]] (λu v=>
 asB u λw=>
 aa (.bool (!w)) v) h)
def dB.g5(fr:Frame):Addr×Option Addr×Nat×Nat×Int×Int:=((gP (ah fr 1)),(gLb (ah fr 45)),(gLl (ah fr 45)),(gLc (ah fr 45)),(gI (ah fr 46)),(gI (ah fr 47)))
def dB.l5(aa:VH):=gg (kds 82 [(1,.p),(45,.l),(46,.i .i64),(47,.i .i64)]) λfr=>bh (dB.B5 aa) (dB.g5 fr)
def dB.J4(aa:VH)(x_1:Addr)(h:ab):=
 oL (cell h x_1) λalS aih alT=>
 bh (dB.B5 aa) (x_1,alS,aih,alT,(aih:Int),0) h
def dB.j4(aa:VH):=gg (kds 82 [(1,.p)]) λfr=>dB.J4 aa (gP (ah fr 1))
def dB.S(x_0:Array Value)(aa:VH)(h:ab):=
 ALC x_0 av (λa c=>
 oL (cell c ⟨a,0,none⟩) λKa Hd j=>
 ae ai dY #[.int .i64 (Hd:Int),.int .i64 1,.int .i64 3] (λd b=>
 asB d λe=>
 BIF (!e) (
 aa (.bool false) b) (
 oL (cell b ⟨a,1,none⟩) λk f l=>
 BIF ((f:Int) != (Hd:Int)) (
 aa (.bool false) b) (
 oL (cell b ⟨a,2,none⟩) λKY Js KZ=>
 BIF (((Js:Int) != (i64.wrap ((Hd:Int)-1)))) (
 aa (.bool false) b) (
 LDA 6 b ⟨a,3,none⟩ λRP=>
 ae ai lx #[.agg RP,.int .i64 1] (λg oZ=>
 asB g λWz=>
 BIF (!Wz) (
 aa (.bool false) oZ) (
 oF .f32 (cell oZ ⟨a,10,none⟩) λZE=>
 oF .f32 (cell oZ ⟨a,11,none⟩) λIk=>
 oF .f32 (cell oZ ⟨a,12,none⟩) λIl=>
 ALC ⟨[.float .f32 ZE,.float .f32 Ik,.float .f32 Il]⟩ au (λMi mZ=>
 ae ai ml #[.slice (some ⟨Mi,0,none⟩) 3 3] (λVo oJ=>
 asB Vo λi=>
 BIF (!i) (
 aa (.bool false) oJ) (
 dB.J4 aa ⟨a,0,none⟩ oJ)) mZ) oZ)) b)))) c) h
theorem dB.call{x_0:Array Value}{aa:VH}{h:ab}(H:dB.S x_0 aa h):ae ai tO #[.agg x_0] aa h:=
 qc (Λ:=an [(4,dB.j4 aa),(1000005,dB.l5 aa)]) Tryz.func258
 (qs qf (qs qf (qj (dB.j4 aa) qf
 (qs (qs qf (Rq.block (ql (dB.l5 aa) (qg (g:=dB.g5) (Λ:=λa=>an []) (λ_ _ _=>by kernel_rfl) (λa=>qf))))) qf))))
 (qe H)
def fT.B3(aa:VH)(k:(Option Addr×Nat×Nat×Option Addr×Nat×Nat×Int×Int)->ab->Prop):Option Addr×Nat×Nat×Option Addr×Nat×Nat×Int×Int->ab->Prop
 | (b,c,d,e,f,l,g,a),h=>
 BIF (decide (a<g)) (
 bg e a f λm=>
 LDA 2 h ((Addr.add m (a.toNat*2))) λn=>
 ALC ⟨fO⟩ aq (λi o=>
 STA 2 o ⟨i,0,none⟩ n λj=>
 LDA 2 j ⟨i,0,none⟩ λp=>
 ae ai kg #[.agg p] (λq gd=>
 asA q λtq=>
 SIZ (Array.size tq) 2 <|
 ALC ⟨(dN 0 2 tq [.slice none 0 0,.int .i64 0])⟩ aq (λr gf=>
 iA ai (Builtin.append_ #[bG,bG] bG #[.slice b c d,.slice (some ⟨r,0,none⟩) 1 1]) (λDb kB=>
 asL Db λDY DZ FE=>
 k (DY,DZ,FE,e,f,l,g,((i64.wrap (a+1)))) kB) gf) gd) j) h) (
 aa (.slice b c d) h)
def fT.g3(fr:Frame):Option Addr×Nat×Nat×Option Addr×Nat×Nat×Int×Int:=((gLb (ah fr 3)),(gLl (ah fr 3)),(gLc (ah fr 3)),(gLb (ah fr 6)),(gLl (ah fr 6)),(gLc (ah fr 6)),(gI (ah fr 7)),(gI (ah fr 8)))
def fT.l3(aa:VH):=gg (kds 19 [(3,.l),(6,.l),(7,.i .i64),(8,.i .i64)]) λfr=>bh (fT.B3 aa) (fT.g3 fr)
def fT.S(aF:Option Addr)(ax aN:Nat)(aa:VH)(h:ab):=
 bh (fT.B3 aa) (none,0,0,aF,ax,aN,(ax:Int),0) h
theorem fT.call{aF:Option Addr}{ax aN:Nat}{aa:VH}{h:ab}(H:fT.S aF ax aN aa h):ae ai o7 #[.slice aF ax aN] aa h:=
 qc (Λ:=an [(1000003,fT.l3 aa)]) Tryz.func343
 (qs qf (qs qf (qs (qs qf (Rq.block (ql (fT.l3 aa) (qg (g:=fT.g3) (Λ:=λa=>an []) (λ_ _ _=>by kernel_rfl) (λa=>qf))))) qf)))
 (qe H)
def vU.S(x_0:Array Value)(aa:VH)(h:ab):=
 ALC x_0 av (λa e=>
 ALC ⟨aH⟩ av (λd b=>
 oL (cell b ⟨a,0,none⟩) λEY Df HY=>
 oL (cell b ⟨a,1,none⟩) λMz MA TO=>
 oL (cell b ⟨a,2,none⟩) λAu yL AN=>
 ae ai o7 #[.slice EY Df HY] (λf c=>
 asL f λuY rj yg=>
 PIN b ⟨a,2,none⟩ 1 c <|
 PIN b ⟨a,1,none⟩ 1 c <|
 ae ai o7 #[.slice Mz MA TO] (λwi iG=>
 asL wi λHV HW Mw=>
 PIN b ⟨a,2,none⟩ 1 iG <|
 ae ai eo #[.slice Au yL AN] (λDb kB=>
 asL Db λDY DZ FE=>
 ST1 kB ⟨a,0,none⟩ (.slice uY rj yg) λoZ=>
 ST1 oZ ⟨a,1,none⟩ (.slice HV HW Mw) λjn=>
 ST1 jn ⟨a,2,none⟩ (.slice DY DZ FE) λtz=>
 LDA 13 tz ⟨a,0,none⟩ λHu=>
 STA 13 tz ⟨d,0,none⟩ Hu λqz=>
 LDA 13 qz ⟨d,0,none⟩ λg=>
 aa (.agg g) qz) iG) c) b) e) h
theorem vU.call{x_0:Array Value}{aa:VH}{h:ab}(H:vU.S x_0 aa h):ae ai se #[.agg x_0] aa h:=
 qc (Λ:=an []) Tryz.func279
 qf
 (qe H)
def DO.S(Cw:Nat)(wZ:Nat)(wK:Nat)(aa:VH)(h:ab):=
 FOP .f32 (od wZ wK) λa=>
 FOP .f32 (CT Cw a) λb=>
 ae ai mN #[.float .f32 b,.float .f32 1065353216] (λc d=>
 asF .f32 c λe=>
 aa (.float .f32 e) d) h
theorem DO.call{Cw:Nat}{wZ:Nat}{wK:Nat}{aa:VH}{h:ab}(H:DO.S Cw wZ wK aa h):ae ai zy #[.float .f32 Cw,.float .f32 wZ,.float .f32 wK] aa h:=
 qc (Λ:=an []) Tryz.func349
 qf
 (qe H)
def bB.J21(aa:VH)(x_0:Addr)(n_5:Int)(avd:Nat)(a:Nat)(h:ab):=
 oL (cell h (x_0.add 1)) λaxE axF aEv=>
 bg axE ((i64.wrap (n_5-1))) axF λb=>
 ae ai gj #[.float .f32 a] (λc Uu=>
 asF .f32 c λd=>
 PIN h (x_0.add 1) 1 Uu <|
 ae ai gm #[.pointer (some ((Addr.add b ((Int.toNat ((i64.wrap (n_5-1))))*2)))),.float .f32 d] (λe f=>
 asF .f32 e λg=>
 aa (.float .f32 avd) f) Uu) h
def bB.j21(aa:VH):=gg (kds 150 [(0,.p),(5,.i .i64),(13,.f .f32),(14,.f .f32)]) λfr=>bB.J21 aa (gP (ah fr 0)) (gI (ah fr 5)) (gF (ah fr 13)) (gF (ah fr 14))
def bB.B11(aa:VH)(j:(Addr×Int×Addr×Addr×Option Addr×Nat×Nat×Int×Int)->ab->Prop):Addr×Int×Addr×Addr×Option Addr×Nat×Nat×Int×Int->ab->Prop
 | (x_0,n_5,r_6,l_7,c,d,k,e,a),h=>
 BIF (decide (a<e)) (
 bg c a d λl=>
 oF .f32 (cell h ((Addr.add l (a.toNat*1)))) λm=>
 IDX a 3 <|
 oF .f32 (cell h ((Addr.add r_6 (a.toNat*1)))) λn=>
 IDX ((i64.wrap (a+1))) 3 <|
 oF .f32 (cell h ((Addr.add l_7 ((Int.toNat ((i64.wrap (a+1))))*1)))) λo=>
 FOP .f32 (wv n o) λp=>
 FOP .f32 (od m p) λf=>
 oL (cell h x_0) λalY alZ axs=>
 bg alY ((i64.wrap (a+1))) alZ λq=>
 IDX a 3 <|
 oF .f32 (cell h ((Addr.add r_6 (a.toNat*1)))) λWg=>
 FOP .f32 (CT Wg f) λZG=>
 PIN h x_0 1 h <|
 ae ai gj #[.float .f32 ZG] (λr g=>
 asF .f32 r λs=>
 PIN h x_0 1 g <|
 ae ai gm #[.pointer (some ((Addr.add q ((Int.toNat ((i64.wrap (a+1))))*2)))),.float .f32 s] (λt JZ=>
 asF .f32 t λE=>
 oL (cell JZ (x_0.add 1)) λaxw axx aEu=>
 bg axw a axx λu=>
 IDX ((i64.wrap (a+1))) 3 <|
 oF .f32 (cell JZ ((Addr.add l_7 ((Int.toNat ((i64.wrap (a+1))))*1)))) λv=>
 FOP .f32 (CT v f) λw=>
 PIN JZ (x_0.add 1) 1 JZ <|
 ae ai gj #[.float .f32 w] (λx Pe=>
 asF .f32 x λy=>
 PIN JZ (x_0.add 1) 1 Pe <|
 ae ai gm #[.pointer (some ((Addr.add u (a.toNat*2)))),.float .f32 y] (λz TH=>
 asF .f32 z λF=>
 j (x_0,n_5,r_6,l_7,c,d,k,e,((i64.wrap (a+1)))) TH) Pe) JZ) g) h) (
 IDX ((i64.wrap (n_5-1))) 3 <|
 oF .f32 (cell h ((Addr.add r_6 ((Int.toNat ((i64.wrap (n_5-1))))*1)))) λA=>
 ae ai jc #[.pointer (some (x_0.add 3)),.float .f32 A] (λB Oi=>
 asF .f32 B λb=>
 oF .f32 (cell Oi (x_0.add 10)) λC=>
 FOP .f32 (od C b) λi=>
 oB (cell Oi (x_0.add 9)) λD=>
 BIF D (
 bB.J21 aa x_0 n_5 b (Op.negFloat .f32 i) Oi) (
 bB.J21 aa x_0 n_5 b i Oi)) h)
def bB.g11(fr:Frame):Addr×Int×Addr×Addr×Option Addr×Nat×Nat×Int×Int:=((gP (ah fr 0)),(gI (ah fr 5)),(gP (ah fr 6)),(gP (ah fr 7)),(gLb (ah fr 73)),(gLl (ah fr 73)),(gLc (ah fr 73)),(gI (ah fr 74)),(gI (ah fr 75)))
def bB.l11(aa:VH):=gg (kds 150 [(0,.p),(5,.i .i64),(6,.p),(7,.p),(73,.l),(74,.i .i64),(75,.i .i64)]) λfr=>bh (bB.B11 aa) (bB.g11 fr)
def bB.B4(aa:VH)(d:(Addr×Nat×Int×Addr×Addr×Int×Int)->ab->Prop):Addr×Nat×Int×Addr×Addr×Int×Int->ab->Prop
 | (x_0,lM,n_5,r_6,l_7,b,a),h=>
 BIF (decide (a<b)) (
 oL (cell h x_0) λe f m=>
 bg e a f λg=>
 LDA 2 h ((Addr.add g (a.toNat*2))) λAz=>
 oL (cell h (x_0.add 1)) λrN qd ui=>
 bg rN a qd λOo=>
 LDA 2 h ((Addr.add Oo (a.toNat*2))) λOX=>
 ae ai hP #[.agg Az] (λDb kB=>
 asF .f32 Db λHe=>
 PIN h ((Addr.add Oo (a.toNat*2))) 2 kB <|
 PIN h (x_0.add 1) 1 kB <|
 IDX a 3 <|
 ae ai hP #[.agg OX] (λGV jn=>
 asF .f32 GV λZE=>
 ST1 jn ((Addr.add r_6 (a.toNat*1))) (.float .f32 He) λjZ=>
 IDX a 3 <|
 ST1 jZ ((Addr.add l_7 (a.toNat*1))) (.float .f32 ZE) λqz=>
 d (x_0,lM,n_5,r_6,l_7,b,((i64.wrap (a+1)))) qz) kB) h) (
 IDX 0 3 <|
 oF .f32 (cell h l_7) λPG=>
 FOP .f32 (wv PG lM) λc=>
 oL (cell h x_0) λUO Pv abf=>
 bg UO 0 Pv λi=>
 oF .f32 (cell h (x_0.add 11)) λYi=>
 oF .f32 (cell h (x_0.add 12)) λNq=>
 ae ai zy #[.float .f32 Yi,.float .f32 Nq,.float .f32 c] (λj ry=>
 asF .f32 j λQM=>
 PIN h x_0 1 ry <|
 FOP .f32 (od c QM) λYj=>
 PIN h x_0 1 ry <|
 FOP .f32 (CT lM Yj) λWe=>
 PIN h x_0 1 ry <|
 ae ai gj #[.float .f32 We] (λk wQ=>
 asF .f32 k λl=>
 PIN h x_0 1 wQ <|
 ae ai gm #[.pointer (some i),.float .f32 l] (λYf CW=>
 asF .f32 Yf λZF=>
 oL (cell CW (x_0.add 2)) λaeu abh alV=>
 bh (bB.B11 aa) (x_0,n_5,r_6,l_7,aeu,abh,alV,(abh:Int),0) CW) wQ) ry) h)
def bB.g4(fr:Frame):Addr×Nat×Int×Addr×Addr×Int×Int:=((gP (ah fr 0)),(gF (ah fr 1)),(gI (ah fr 5)),(gP (ah fr 6)),(gP (ah fr 7)),(gI (ah fr 20)),(gI (ah fr 21)))
def bB.l4(aa:VH):=gg (kds 150 [(0,.p),(1,.f .f32),(5,.i .i64),(6,.p),(7,.p),(20,.i .i64),(21,.i .i64)]) λfr=>bh (bB.B4 aa) (bB.g4 fr)
def bB.S(x_0:Addr)(lM:Nat)(aa:VH)(h:ab):=
 oL (cell h x_0) λf a Qn=>
 ALC ⟨jx⟩ dH (λb c=>
 ALC ⟨jx⟩ dH (λd e=>
 bh (bB.B4 aa) (x_0,lM,(a:Int),⟨b,0,none⟩,⟨d,0,none⟩,(a:Int),0) e) c) h
theorem bB.call{x_0:Addr}{lM:Nat}{aa:VH}{h:ab}(H:bB.S x_0 lM aa h):ae ai qS #[.pointer (some x_0),.float .f32 lM] aa h:=
 qc (Λ:=an [(1000004,bB.l4 aa),(1000011,bB.l11 aa),(21,bB.j21 aa)]) Tryz.func286
 (qs qf (qs qf (qs qf (qs (qs qf (Rq.block (ql (bB.l4 aa) (qg (g:=bB.g4) (Λ:=λa=>an []) (λ_ _ _=>by kernel_rfl) (λa=>qf))))) (qs qf (qs qf (qs (qs qf (Rq.block (ql (bB.l11 aa) (qg (g:=bB.g11) (Λ:=λb=>an []) (λ_ _ _=>by kernel_rfl) (λb=>qf))))) (qs qf (qs qf (qj (bB.j21 aa) qf
 qf))))))))))
 (qe H)
end Go.Sx
