/- Lemmas. -/
import Derived.Test.YthhepeklpgefkaaGreatDoorTab
set_option linter.unusedVariables false
set_option linter.unusedSimpArgs false
namespace Go.Sx
open FloatKind (f32 f64)
open IntKind (i64)
open Go.Proofs
set_option maxRecDepth 100000
def ij.J3(aa:VH)(eX:Nat)(a:Addr)(h:ab):=
 FOP .f32 (wv 1065353216 eX) λc=>
 FOP .f32 (CT 1065353216 eX) λd=>
 FOP .f32 (TE c d) λb=>
 SIZ (Array.size (⟨[.float .f32 b,.float .f32 0,.float .f32 0]⟩:Array Value)) 3 <|
 STA 6 h a ⟨[.int .i64 3,.float .f32 b,.float .f32 0,.float .f32 0,.float .f32 0,.float .f32 0]⟩ λgd=>
 LDA 6 gd a λtq=>
 aa (.tuple ⟨[.agg tq,.int .i64 0]⟩) gd
def ij.j3(aa:VH):=gg (kds 19 [(0,.f .f32),(2,.p)]) λfr=>ij.J3 aa (gF (ah fr 0)) (gP (ah fr 2))
def ij.S(eX:Nat)(aa:VH)(h:ab):=
 ALC ⟨fH⟩ db (λa b=>
 BIF (f32.format.order eX 0==some .gt||f32.format.order eX 0==some .eq) (
 BIF (!(f32.format.order eX 1073741824==some .lt||f32.format.order eX 1073741824==some .eq)) (
 STA 6 b ⟨a,0,none⟩ ⟨[.int .i64 0,.float .f32 0,.float .f32 0,.float .f32 0,.float .f32 0,.float .f32 0]⟩ λc=>
 LDA 6 c ⟨a,0,none⟩ λe=>
 aa (.tuple ⟨[.agg e,.int .i64 2]⟩) c) (
 ij.J3 aa eX ⟨a,0,none⟩ b)) (
 STA 6 b ⟨a,0,none⟩ ⟨[.int .i64 0,.float .f32 0,.float .f32 0,.float .f32 0,.float .f32 0,.float .f32 0]⟩ λd=>
 LDA 6 d ⟨a,0,none⟩ λf=>
 aa (.tuple ⟨[.agg f,.int .i64 2]⟩) d)) h
theorem ij.call{eX:Nat}{aa:VH}{h:ab}(H:ij.S eX aa h):ae ai sD #[.float .f32 eX] aa h:=
 qc (Λ:=an [(3,ij.j3 aa)]) Tryz.func221
 (qs qf (qj (ij.j3 aa) qf
 qf))
 (qe H)
def CB.S(AQ:Nat)(aa:VH)(h:ab):=
 ALC ⟨fH⟩ db (λa d=>
 FOP .f32 (wv 1065353216 AQ) λb=>
 SIZ (Array.size (⟨[.float .f32 b,.float .f32 AQ,.float .f32 0]⟩:Array Value)) 3 <|
 STA 6 d ⟨a,0,none⟩ ⟨[.int .i64 2,.float .f32 b,.float .f32 AQ,.float .f32 0,.float .f32 0,.float .f32 0]⟩ λc=>
 LDA 6 c ⟨a,0,none⟩ λe=>
 aa (.agg e) c) h
theorem CB.call{AQ:Nat}{aa:VH}{h:ab}(H:CB.S AQ aa h):ae ai sF #[.float .f32 AQ] aa h:=
 qc (Λ:=an []) Tryz.func222
 qf
 (qe H)
def dC.J7(aa:VH)(mu:Nat)(kC:Nat)(b:Addr)(d_8:Nat)(n_9:Int)(h:ab):=
 FOP .f32 (wv d_8 (f32.nearest n_9)) λzf=>
 ae ai sD #[.float .f32 zf] (λFH jZ=>
 iF FH λKi GW=>
 asA Ki λi=>
 asI .i64 GW λl=>
 ALC ⟨fH⟩ db (λa wO=>
 STA 6 wO ⟨a,0,none⟩ i λwP=>
 LDA 6 wP ⟨a,0,none⟩ λc=>
 (MKS fh au n_9 n_9 (λd GD=>
 PIN wP ⟨a,0,none⟩ 6 GD <|
 ae ai sF #[.float .f32 mu] (λj JY=>
 asA j λe=>
 PIN wP ⟨a,0,none⟩ 6 JY <|
 SIZ (Array.size (⟨[.slice (some ⟨d,0,none⟩) n_9.toNat n_9.toNat,.int .i64 0]⟩:Array Value)) 2 <|
 SIZ (Array.size c) 6 <|
 SIZ (Array.size e) 6 <|
 STA 15 JY b (⟨(List.set (dN 8 6 e (dN 2 6 c [.slice (some ⟨d,0,none⟩) n_9.toNat n_9.toNat,.int .i64 0,.int .i64 0,.float .f32 0,.float .f32 0,.float .f32 0,.float .f32 0,.float .f32 0,.int .i64 0,.float .f32 0,.float .f32 0,.float .f32 0,.float .f32 0,.float .f32 0,.float .f32 0])) 14 (.float .f32 kC))⟩) λwQ=>
 LDA 15 wQ b λRQ=>
 aa (.tuple ⟨[.agg RQ,.int .i64 0]⟩) wQ) GD) wP)∧(ae ai sF #[.float .f32 mu] (λYf CW=>
 asA Yf λf=>
 PIN wP ⟨a,0,none⟩ 6 CW <|
 MKS fh au n_9 n_9 (λg IL=>
 PIN wP ⟨a,0,none⟩ 6 IL <|
 SIZ (Array.size (⟨[.slice (some ⟨g,0,none⟩) n_9.toNat n_9.toNat,.int .i64 0]⟩:Array Value)) 2 <|
 SIZ (Array.size c) 6 <|
 SIZ (Array.size f) 6 <|
 STA 15 IL b (⟨(List.set (dN 8 6 f (dN 2 6 c [.slice (some ⟨g,0,none⟩) n_9.toNat n_9.toNat,.int .i64 0,.int .i64 0,.float .f32 0,.float .f32 0,.float .f32 0,.float .f32 0,.float .f32 0,.int .i64 0,.float .f32 0,.float .f32 0,.float .f32 0,.float .f32 0,.float .f32 0,.float .f32 0])) 14 (.float .f32 kC))⟩) λTF=>
 LDA 15 TF b λk=>
 aa (.tuple ⟨[.agg k,.int .i64 0]⟩) TF) CW) wP)) jZ) h
def dC.j7(aa:VH):=gg (kds 66 [(1,.f .f32),(2,.f .f32),(6,.p),(8,.f .f32),(9,.i .i64)]) λfr=>dC.J7 aa (gF (ah fr 1)) (gF (ah fr 2)) (gP (ah fr 6)) (gF (ah fr 8)) (gI (ah fr 9))
def dC.J3(aa:VH)(bH:Nat)(mu:Nat)(kC:Nat)(a:Addr)(h:ab):=
 FOP .f32 (wv bH mu) λuQ=>
 FIC .f32 uQ .i64 λXU=>
 FOP .f32 (wv uQ (f32.nearest XU)) λb=>
 BIF (f32.format.order b 1048576000==some .lt) (
 dC.J7 aa mu kC a uQ ((i64.wrap (XU-1))) h) (
 dC.J7 aa mu kC a uQ XU h)
def dC.j3(aa:VH):=gg (kds 66 [(0,.f .f32),(1,.f .f32),(2,.f .f32),(6,.p)]) λfr=>dC.J3 aa (gF (ah fr 0)) (gF (ah fr 1)) (gF (ah fr 2)) (gP (ah fr 6))
def dC.S(bH:Nat)(mu:Nat)(kC:Nat)(aa:VH)(h:ab):=
 ALC ⟨aL⟩ aB (λa b=>
 BIF (f32.format.order bH 1077936128==some .gt||f32.format.order bH 1077936128==some .eq) (
 BIF (!(f32.format.order bH 1149239296==some .lt||f32.format.order bH 1149239296==some .eq)) (
 STA 15 b ⟨a,0,none⟩ ⟨aL⟩ λc=>
 LDA 15 c ⟨a,0,none⟩ λg=>
 aa (.tuple ⟨[.agg g,.int .i64 2]⟩) c) (
 BIF (f32.format.order mu 0==some .gt||f32.format.order mu 0==some .eq) (
 BIF (!(f32.format.order mu 1056964608==some .lt||f32.format.order mu 1056964608==some .eq)) (
 STA 15 b ⟨a,0,none⟩ ⟨aL⟩ λd=>
 LDA 15 d ⟨a,0,none⟩ λi=>
 aa (.tuple ⟨[.agg i,.int .i64 2]⟩) d) (
 BIF (f32.format.order kC 0==some .gt||f32.format.order kC 0==some .eq) (
 BIF (!(f32.format.order kC 1065353216==some .lt||f32.format.order kC 1065353216==some .eq)) (
 STA 15 b ⟨a,0,none⟩ ⟨aL⟩ λe=>
 LDA 15 e ⟨a,0,none⟩ λj=>
 aa (.tuple ⟨[.agg j,.int .i64 2]⟩) e) (
 dC.J3 aa bH mu kC ⟨a,0,none⟩ b)) (
 STA 15 b ⟨a,0,none⟩ ⟨aL⟩ λf=>
 LDA 15 f ⟨a,0,none⟩ λAz=>
 aa (.tuple ⟨[.agg Az,.int .i64 2]⟩) f))) (
 STA 15 b ⟨a,0,none⟩ ⟨aL⟩ λkc=>
 LDA 15 kc ⟨a,0,none⟩ λGu=>
 aa (.tuple ⟨[.agg Gu,.int .i64 2]⟩) kc))) (
 STA 15 b ⟨a,0,none⟩ ⟨aL⟩ λgf=>
 LDA 15 gf ⟨a,0,none⟩ λk=>
 aa (.tuple ⟨[.agg k,.int .i64 2]⟩) gf)) h
theorem dC.call{bH:Nat}{mu:Nat}{kC:Nat}{aa:VH}{h:ab}(H:dC.S bH mu kC aa h):ae ai tV #[.float .f32 bH,.float .f32 mu,.float .f32 kC] aa h:=
 qc (Λ:=an [(3,dC.j3 aa),(7,dC.j7 aa)]) Tryz.func159
 (qs qf (qj (dC.j3 aa) qf
 (qs qf (qs qf (qj (dC.j7 aa) qf
 qf)))))
 (qe H)
def CH.S(x_0:Addr)(aa:VH)(h:ab):=
 ALC ⟨aL⟩ aB (λc a=>
 LDA 6 a (x_0.add 2) λd=>
 LDA 6 a (x_0.add 8) λe=>
 oF .f32 (cell a (x_0.add 14)) λi=>
 ae ai mn #[.pointer (some x_0)] (λj b=>
 asA j λf=>
 PIN a (x_0.add 14) 1 b <|
 PIN a (x_0.add 8) 6 b <|
 PIN a (x_0.add 2) 6 b <|
 SIZ (Array.size f) 2 <|
 SIZ (Array.size d) 6 <|
 SIZ (Array.size e) 6 <|
 STA 15 b ⟨c,0,none⟩ ⟨(List.set (dN 8 6 e (dN 2 6 d (dN 0 2 f aL))) 14 (.float .f32 i))⟩ λg=>
 LDA 15 g ⟨c,0,none⟩ λAz=>
 aa (.agg Az) g) a) h
theorem CH.call{x_0:Addr}{aa:VH}{h:ab}(H:CH.S x_0 aa h):ae ai sI #[.pointer (some x_0)] aa h:=
 qc (Λ:=an []) Tryz.func224
 qf
 (qe H)
def Ep.S(r_0:Addr)(i_1:Int)(a_2:Nat)(aa:VH)(h:ab):=
 oI .i64 (cell h (r_0.add 1)) λb=>
 oL (cell h r_0) λg a i=>
 NZ (a:Int) <|
 oL (cell h r_0) λEY Df HY=>
 oL (cell h r_0) λMz MA TO=>
 bg Mz ((Int.tmod (i64.wrap (b+i_1)) (a:Int))) MA λc=>
 oF .f32 (cell h ((Addr.add c ((Int.toNat ((Int.tmod (i64.wrap (b+i_1)) (a:Int))))*1)))) λd=>
 FOP .f32 (CT d a_2) λe=>
 PIN h r_0 1 h <|
 bg EY ((Int.tmod (i64.wrap (b+i_1)) (a:Int))) Df λf=>
 ST1 h ((Addr.add f ((Int.toNat ((Int.tmod (i64.wrap (b+i_1)) (a:Int))))*1))) (.float .f32 e) λkc=>
 aa (.tuple ⟨[]⟩) kc
theorem Ep.call{r_0:Addr}{i_1:Int}{a_2:Nat}{aa:VH}{h:ab}(H:Ep.S r_0 i_1 a_2 aa h):ae ai pY #[.pointer (some r_0),.int .i64 i_1,.float .f32 a_2] aa h:=
 qc (Λ:=an []) Tryz.func225
 qf
 (qe H)
def cU.B9(aa:VH)(b:(Nat×Addr×Addr×Addr×Nat×Nat×Int)->ab->Prop):Nat×Addr×Addr×Addr×Nat×Nat×Int->ab->Prop
 | (lR,x_3,a,Vl,n_9,afm,UA),h=>
 oL (cell h x_3) λaEq axm aEr=>
 BIF ((decide (UA<(axm:Int)))) (
 BIF (f32.format.order (f32.nearest UA) afm==some .lt) (
 FOP .f32 (TE (f32.nearest UA) afm) λWe=>
 FOP .f32 (od lR We) λc=>
 ae ai pY #[.pointer (some Vl),.int .i64 UA,.float .f32 c] (λWd tA=>
 b (lR,x_3,a,Vl,n_9,afm,((i64.wrap (UA+1)))) tA) h) (
 FOP .f32 (wv n_9 (f32.nearest UA)) λTP=>
 FOP .f32 (wv n_9 afm) λWf=>
 FOP .f32 (TE TP Wf) λZF=>
 FOP .f32 (od lR ZF) λd=>
 ae ai pY #[.pointer (some Vl),.int .i64 UA,.float .f32 d] (λg TF=>
 b (lR,x_3,a,Vl,n_9,afm,((i64.wrap (UA+1)))) TF) h)) (
 LDA 15 h Vl λe=>
 STA 15 h a e λGF=>
 LDA 15 GF a λf=>
 aa (.tuple ⟨[.agg f,.int .i64 0]⟩) GF)
def cU.g9(fr:Frame):Nat×Addr×Addr×Addr×Nat×Nat×Int:=((gF (ah fr 2)),(gP (ah fr 3)),(gP (ah fr 6)),(gP (ah fr 8)),(gF (ah fr 9)),(gF (ah fr 10)),(gI (ah fr 11)))
def cU.l9(aa:VH):=gg (kds 72 [(2,.f .f32),(3,.p),(6,.p),(8,.p),(9,.f .f32),(10,.f .f32),(11,.i .i64)]) λfr=>bh (cU.B9 aa) (cU.g9 fr)
def cU.J5(aa:VH)(fg:Nat)(lR:Nat)(x_3:Addr)(b:Addr)(h:ab):=
 ae ai sI #[.pointer (some x_3)] (λFH jZ=>
 asA FH λc=>
 ALC ⟨aL⟩ aB (λMi mZ=>
 STA 15 mZ ⟨Mi,0,none⟩ c λa=>
 oL (cell a x_3) λXA Pw aem=>
 FOP .f32 (od fg (f32.nearest (Pw:Int))) λd=>
 bh (cU.B9 aa) (lR,x_3,b,⟨Mi,0,none⟩,(f32.nearest (Pw:Int)),d,0) a) jZ) h
def cU.j5(aa:VH):=gg (kds 72 [(1,.f .f32),(2,.f .f32),(3,.p),(6,.p)]) λfr=>cU.J5 aa (gF (ah fr 1)) (gF (ah fr 2)) (gP (ah fr 3)) (gP (ah fr 6))
def cU.S(x_0:Array Value)(fg:Nat)(lR:Nat)(aa:VH)(h:ab):=
 ALC x_0 aB (λc e=>
 ALC ⟨aL⟩ aB (λa f=>
 ae ai wM #[.pointer (some ⟨c,0,none⟩)] (λg b=>
 asB g λi=>
 BIF (!i) (
 STA 15 b ⟨a,0,none⟩ ⟨aL⟩ λd=>
 LDA 15 d ⟨a,0,none⟩ λj=>
 aa (.tuple ⟨[.agg j,.int .i64 1]⟩) d) (
 BIF (f32.format.order fg 0==some .gt||f32.format.order fg 0==some .eq) (
 BIF (!(f32.format.order fg 1065353216==some .lt)) (
 STA 15 b ⟨a,0,none⟩ ⟨aL⟩ λgd=>
 LDA 15 gd ⟨a,0,none⟩ λtq=>
 aa (.tuple ⟨[.agg tq,.int .i64 2]⟩) gd) (
 ae ai fk #[.float .f32 lR] (λuu gf=>
 asB uu λFv=>
 BIF (!Fv) (
 STA 15 gf ⟨a,0,none⟩ ⟨aL⟩ λkB=>
 LDA 15 kB ⟨a,0,none⟩ λIK=>
 aa (.tuple ⟨[.agg IK,.int .i64 2]⟩) kB) (
 cU.J5 aa fg lR ⟨c,0,none⟩ ⟨a,0,none⟩ gf)) b)) (
 STA 15 b ⟨a,0,none⟩ ⟨aL⟩ λoZ=>
 LDA 15 oZ ⟨a,0,none⟩ λk=>
 aa (.tuple ⟨[.agg k,.int .i64 2]⟩) oZ))) f) e) h
theorem cU.call{x_0:Array Value}{fg:Nat}{lR:Nat}{aa:VH}{h:ab}(H:cU.S x_0 fg lR aa h):ae ai ld #[.agg x_0,.float .f32 fg,.float .f32 lR] aa h:=
 qc (Λ:=an [(5,cU.j5 aa),(1000009,cU.l9 aa)]) Tryz.func160
 (qs qf (qs qf (qj (cU.j5 aa) qf
 (qs qf (qs qf (qs qf (qs (qs qf (Rq.block (ql (cU.l9 aa) (qg (g:=cU.g9) (Λ:=λa=>an []) (λ_ _ _=>by kernel_rfl) (λa=>qf))))) qf)))))))
 (qe H)
def uU.S(a_0:Nat)(aa:VH)(h:ab):=
 BIF (!(f32.format.order a_0 1232348160==some .lt||f32.format.order a_0 1232348160==some .eq)) (
 aa (.int .i64 1000000) h) (
 FIC .f32 a_0 .i64 λa=>
 aa (.int .i64 a) h)
theorem uU.call{a_0:Nat}{aa:VH}{h:ab}(H:uU.S a_0 aa h):ae ai eA #[.float .f32 a_0] aa h:=
 qc (Λ:=an []) Tryz.func162
 qf
 (qe H)
def CA.S(ug:Nat)(aa:VH)(h:ab):=
 ALC ⟨fH⟩ db (λa d=>
 FOP .f32 (wv 1065353216 ug) λb=>
 SIZ (Array.size (⟨[.float .f32 b,.float .f32 ug,.float .f32 0]⟩:Array Value)) 3 <|
 STA 6 d ⟨a,0,none⟩ ⟨[.int .i64 1,.float .f32 b,.float .f32 ug,.float .f32 0,.float .f32 0,.float .f32 0]⟩ λc=>
 LDA 6 c ⟨a,0,none⟩ λe=>
 aa (.agg e) c) h
theorem CA.call{ug:Nat}{aa:VH}{h:ab}(H:CA.S ug aa h):ae ai iN #[.float .f32 ug] aa h:=
 qc (Λ:=an []) Tryz.func226
 qf
 (qe H)
def aS.J5(a:(Option Addr×Nat×Nat×Option Addr×Nat×Nat×Bool×Nat×Nat×Addr×Bool×Int)->ab->Prop)(aa:VH)(bZ:Option Addr)(bN:Nat)(cw:Nat)(cx:Option Addr)(bY:Nat)(cI:Nat)(gH:Bool)(fN:Nat)(fI:Nat)(b:Addr)(aaR:Int)(h:ab):=
 bg bZ aaR bN λc=>
 oI .i64 (cell h ((Addr.add c (aaR.toNat*1)))) λKh=>
 ae ai eO #[.int .i64 Kh,.int .i64 1,.int .i64 1024] (λd oZ=>
 asB d λWz=>
 a (bZ,bN,cw,cx,bY,cI,gH,fN,fI,b,Wz,((i64.wrap (aaR+1)))) oZ) h
def aS.j5(a:(Option Addr×Nat×Nat×Option Addr×Nat×Nat×Bool×Nat×Nat×Addr×Bool×Int)->ab->Prop)(aa:VH):=gg (kds 119 [(0,.l),(1,.l),(2,.b),(3,.f .f32),(4,.f .f32),(10,.p),(13,.i .i64)]) λfr=>aS.J5 a aa (gLb (ah fr 0)) (gLl (ah fr 0)) (gLc (ah fr 0)) (gLb (ah fr 1)) (gLl (ah fr 1)) (gLc (ah fr 1)) (gB (ah fr 2)) (gF (ah fr 3)) (gF (ah fr 4)) (gP (ah fr 10)) (gI (ah fr 13))
def aS.J9(a:(Option Addr×Nat×Nat×Option Addr×Nat×Nat×Bool×Nat×Nat×Addr×Bool×Int)->ab->Prop)(aa:VH)(bZ:Option Addr)(bN:Nat)(cw:Nat)(cx:Option Addr)(bY:Nat)(cI:Nat)(gH:Bool)(fN:Nat)(fI:Nat)(b:Addr)(SB:Int)(h:ab):=
 bg cx SB bY λd=>
 oF .f32 (cell h ((Addr.add d (SB.toNat*1)))) λc=>
 BIF (f32.format.order c 3212836864==some .gt||f32.format.order c 3212836864==some .eq) (
 bg cx SB bY λe=>
 oF .f32 (cell h ((Addr.add e (SB.toNat*1)))) λWg=>
 a (bZ,bN,cw,cx,bY,cI,gH,fN,fI,b,(f32.format.order Wg 1065353216==some .lt||f32.format.order Wg 1065353216==some .eq),((i64.wrap (SB+1)))) h) (
 a (bZ,bN,cw,cx,bY,cI,gH,fN,fI,b,false,((i64.wrap (SB+1)))) h)
def aS.j9(a:(Option Addr×Nat×Nat×Option Addr×Nat×Nat×Bool×Nat×Nat×Addr×Bool×Int)->ab->Prop)(aa:VH):=gg (kds 119 [(0,.l),(1,.l),(2,.b),(3,.f .f32),(4,.f .f32),(10,.p),(14,.i .i64)]) λfr=>aS.J9 a aa (gLb (ah fr 0)) (gLl (ah fr 0)) (gLc (ah fr 0)) (gLb (ah fr 1)) (gLl (ah fr 1)) (gLc (ah fr 1)) (gB (ah fr 2)) (gF (ah fr 3)) (gF (ah fr 4)) (gP (ah fr 10)) (gI (ah fr 14))
def aS.B14(aa:VH)(g:(Option Addr×Nat×Nat×Addr×Addr×Int)->ab->Prop):Option Addr×Nat×Nat×Addr×Addr×Int->ab->Prop
 | (bZ,bN,cw,c,nI,aaS),h=>
 BIF ((decide (aaS<(bN:Int)))) (
 oL (cell h nI) λi j k=>
 bg bZ aaS bN λl=>
 oI .i64 (cell h ((Addr.add l (aaS.toNat*1)))) λa=>
 MKS fh au a a (λd Ut=>
 PIN h nI 1 Ut <|
 SIZ (Array.size (⟨[.slice (some ⟨d,0,none⟩) a.toNat a.toNat,.int .i64 0]⟩:Array Value)) 2 <|
 ALC ⟨[.slice (some ⟨d,0,none⟩) a.toNat a.toNat,.int .i64 0]⟩ aq (λm e=>
 PIN h nI 1 e <|
 iA ai (Builtin.append_ #[bG,bG] bG #[.slice i j k,.slice (some ⟨m,0,none⟩) 1 1]) (λYg Hc=>
 asL Yg λaxy axA axz=>
 ST1 Hc nI (.slice axy axA axz) λPe=>
 oL (cell Pe (nI.add 1)) λaey aeA aez=>
 bg bZ aaS bN λn=>
 oI .i64 (cell Pe ((Addr.add n (aaS.toNat*1)))) λb=>
 MKS fh au b b (λf yH=>
 PIN Pe (nI.add 1) 1 yH <|
 SIZ (Array.size (⟨[.slice (some ⟨f,0,none⟩) b.toNat b.toNat,.int .i64 0]⟩:Array Value)) 2 <|
 ALC ⟨[.slice (some ⟨f,0,none⟩) b.toNat b.toNat,.int .i64 0]⟩ aq (λo Oi=>
 PIN Pe (nI.add 1) 1 Oi <|
 iA ai (Builtin.append_ #[bG,bG] bG #[.slice aey aeA aez,.slice (some ⟨o,0,none⟩) 1 1]) (λp q=>
 asL p λaxB axD axC=>
 ST1 q (nI.add 1) (.slice axB axD axC) λr=>
 g (bZ,bN,cw,c,nI,((i64.wrap (aaS+1)))) r) Oi) yH) Pe) e) Ut) h) (
 LDA 13 h nI λs=>
 STA 13 h c s λKU=>
 LDA 13 KU c λt=>
 aa (.tuple ⟨[.agg t,.int .i64 0]⟩) KU)
def aS.g14(fr:Frame):Option Addr×Nat×Nat×Addr×Addr×Int:=((gLb (ah fr 0)),(gLl (ah fr 0)),(gLc (ah fr 0)),(gP (ah fr 10)),(gP (ah fr 15)),(gI (ah fr 16)))
def aS.l14(aa:VH):=gg (kds 119 [(0,.l),(10,.p),(15,.p),(16,.i .i64)]) λfr=>bh (aS.B14 aa) (aS.g14 fr)
def aS.B7(aa:VH)(e:(Option Addr×Nat×Nat×Option Addr×Nat×Nat×Bool×Nat×Nat×Addr×Bool×Int)->ab->Prop):Option Addr×Nat×Nat×Option Addr×Nat×Nat×Bool×Nat×Nat×Addr×Bool×Int->ab->Prop
 | (bZ,bN,cw,cx,bY,cI,gH,fN,fI,a,Ie,SB),h=>
 BIF ((decide (SB<(bY:Int)))) (
 BIF Ie (
 aS.J9 e aa bZ bN cw cx bY cI gH fN fI a SB h) (
 BIF (!Ie) (
 STA 13 h a ⟨aH⟩ λqz=>
 LDA 13 qz a λf=>
 aa (.tuple ⟨[.agg f,.int .i64 2]⟩) qz) (
 ALC ⟨[]⟩ au (λg i=>
 iA ai (Builtin.append_ #[bI,bI] bI #[.slice (some ⟨g,0,none⟩) 0 0,.slice cx bY cI]) (λPF wO=>
 asL PF λalS aih alT=>
 ae ai iN #[.float .f32 fN] (λj ry=>
 asA j λb=>
 SIZ (Array.size b) 6 <|
 ALC ⟨aH⟩ av (λAL JY=>
 STA 13 JY ⟨AL,0,none⟩ ⟨(List.set (List.set (List.set (List.set (dN 3 6 b [.slice none 0 0,.slice none 0 0,.slice alS aih alT,.int .i64 0,.float .f32 0,.float .f32 0,.float .f32 0,.float .f32 0,.float .f32 0,.bool false,.float .f32 0,.float .f32 0,.float .f32 0]) 9 (.bool gH)) 10 (.float .f32 fI)) 11 (.float .f32 1061158912)) 12 (.float .f32 3200253952))⟩ λLk=>
 bh (aS.B14 aa) (bZ,bN,cw,a,⟨AL,0,none⟩,0) Lk) ry) wO) i) h))) (
 BIF (!Ie) (
 STA 13 h a ⟨aH⟩ λwQ=>
 LDA 13 wQ a λRQ=>
 aa (.tuple ⟨[.agg RQ,.int .i64 2]⟩) wQ) (
 ALC ⟨[]⟩ au (λk CW=>
 iA ai (Builtin.append_ #[bI,bI] bI #[.slice (some ⟨k,0,none⟩) 0 0,.slice cx bY cI]) (λl DM=>
 asL l λXD XE abi=>
 ae ai iN #[.float .f32 fN] (λm KT=>
 asA m λc=>
 SIZ (Array.size c) 6 <|
 ALC ⟨aH⟩ av (λd n=>
 STA 13 n ⟨d,0,none⟩ ⟨(List.set (List.set (List.set (List.set (dN 3 6 c [.slice none 0 0,.slice none 0 0,.slice XD XE abi,.int .i64 0,.float .f32 0,.float .f32 0,.float .f32 0,.float .f32 0,.float .f32 0,.bool false,.float .f32 0,.float .f32 0,.float .f32 0]) 9 (.bool gH)) 10 (.float .f32 fI)) 11 (.float .f32 1061158912)) 12 (.float .f32 3200253952))⟩ λSv=>
 bh (aS.B14 aa) (bZ,bN,cw,a,⟨d,0,none⟩,0) Sv) KT) DM) CW) h))
def aS.g7(fr:Frame):Option Addr×Nat×Nat×Option Addr×Nat×Nat×Bool×Nat×Nat×Addr×Bool×Int:=((gLb (ah fr 0)),(gLl (ah fr 0)),(gLc (ah fr 0)),(gLb (ah fr 1)),(gLl (ah fr 1)),(gLc (ah fr 1)),(gB (ah fr 2)),(gF (ah fr 3)),(gF (ah fr 4)),(gP (ah fr 10)),(gB (ah fr 12)),(gI (ah fr 14)))
def aS.l7(aa:VH):=gg (kds 119 [(0,.l),(1,.l),(2,.b),(3,.f .f32),(4,.f .f32),(10,.p),(12,.b),(14,.i .i64)]) λfr=>bh (aS.B7 aa) (aS.g7 fr)
def aS.B3(aa:VH)(b:(Option Addr×Nat×Nat×Option Addr×Nat×Nat×Bool×Nat×Nat×Addr×Bool×Int)->ab->Prop):Option Addr×Nat×Nat×Option Addr×Nat×Nat×Bool×Nat×Nat×Addr×Bool×Int->ab->Prop
 | (bZ,bN,cw,cx,bY,cI,gH,fN,fI,a,Ie,aaR),h=>
 BIF ((decide (aaR<(bN:Int)))) (
 BIF Ie (
 aS.J5 b aa bZ bN cw cx bY cI gH fN fI a aaR h) (
 bh (aS.B7 aa) (bZ,bN,cw,cx,bY,cI,gH,fN,fI,a,Ie,0) h)) (
 bh (aS.B7 aa) (bZ,bN,cw,cx,bY,cI,gH,fN,fI,a,Ie,0) h)
def aS.g3(fr:Frame):Option Addr×Nat×Nat×Option Addr×Nat×Nat×Bool×Nat×Nat×Addr×Bool×Int:=((gLb (ah fr 0)),(gLl (ah fr 0)),(gLc (ah fr 0)),(gLb (ah fr 1)),(gLl (ah fr 1)),(gLc (ah fr 1)),(gB (ah fr 2)),(gF (ah fr 3)),(gF (ah fr 4)),(gP (ah fr 10)),(gB (ah fr 12)),(gI (ah fr 13)))
def aS.l3(aa:VH):=gg (kds 119 [(0,.l),(1,.l),(2,.b),(3,.f .f32),(4,.f .f32),(10,.p),(12,.b),(13,.i .i64)]) λfr=>bh (aS.B3 aa) (aS.g3 fr)
def aS.J2(aa:VH)(bZ:Option Addr)(bN:Nat)(cw:Nat)(cx:Option Addr)(bY:Nat)(cI:Nat)(gH:Bool)(fN:Nat)(fI:Nat)(a:Addr)(Ie:Bool)(h:ab):=
 bh (aS.B3 aa) (bZ,bN,cw,cx,bY,cI,gH,fN,fI,a,Ie,0) h
def aS.j2(aa:VH):=gg (kds 119 [(0,.l),(1,.l),(2,.b),(3,.f .f32),(4,.f .f32),(10,.p),(12,.b)]) λfr=>aS.J2 aa (gLb (ah fr 0)) (gLl (ah fr 0)) (gLc (ah fr 0)) (gLb (ah fr 1)) (gLl (ah fr 1)) (gLc (ah fr 1)) (gB (ah fr 2)) (gF (ah fr 3)) (gF (ah fr 4)) (gP (ah fr 10)) (gB (ah fr 12))
def aS.S(bZ:Option Addr)(bN cw:Nat)(cx:Option Addr)(bY cI:Nat)(gH:Bool)(fN:Nat)(fI:Nat)(aa:VH)(h:ab):=
 ALC ⟨aH⟩ av (λa c=>
 ae ai eO #[.int .i64 (bN:Int),.int .i64 1,.int .i64 3] (λd b=>
 asB d λe=>
 BIF e (
 BIF (((bY:Int)==(i64.wrap ((bN:Int)-1)))) (
 BIF (f32.format.order fN 0==some .gt||f32.format.order fN 0==some .eq) (
 BIF (f32.format.order fN 1065353216==some .lt) (
 BIF (f32.format.order fI 0==some .gt||f32.format.order fI 0==some .eq) (
 aS.J2 aa bZ bN cw cx bY cI gH fN fI ⟨a,0,none⟩ (f32.format.order fI 1065353216==some .lt||f32.format.order fI 1065353216==some .eq) b) (
 aS.J2 aa bZ bN cw cx bY cI gH fN fI ⟨a,0,none⟩ false b)) (
 aS.J2 aa bZ bN cw cx bY cI gH fN fI ⟨a,0,none⟩ false b)) (
 aS.J2 aa bZ bN cw cx bY cI gH fN fI ⟨a,0,none⟩ false b)) (
 aS.J2 aa bZ bN cw cx bY cI gH fN fI ⟨a,0,none⟩ false b)) (
 aS.J2 aa bZ bN cw cx bY cI gH fN fI ⟨a,0,none⟩ false b)) c) h
theorem aS.call{bZ:Option Addr}{bN cw:Nat}{cx:Option Addr}{bY cI:Nat}{gH:Bool}{fN:Nat}{fI:Nat}{aa:VH}{h:ab}(H:aS.S bZ bN cw cx bY cI gH fN fI aa h):ae ai cG #[.slice bZ bN cw,.slice cx bY cI,.bool gH,.float .f32 fN,.float .f32 fI] aa h:=
 qc (Λ:=an [(2,aS.j2 aa),(1000003,aS.l3 aa),(1000007,aS.l7 aa),(1000014,aS.l14 aa)]) Tryz.func161
 (qs qf (qj (aS.j2 aa) qf
 (qs (qs qf (Rq.block (ql (aS.l3 aa) (qg (g:=aS.g3) (Λ:=λa=>an [(5,aS.j5 a aa)]) (λ_ _ _=>by kernel_rfl) (λa=>(qj (aS.j5 a aa) qf
 qf)))))) (qs (qs qf (Rq.block (ql (aS.l7 aa) (qg (g:=aS.g7) (Λ:=λb=>an [(9,aS.j9 b aa)]) (λ_ _ _=>by kernel_rfl) (λb=>(qj (aS.j9 b aa) qf
 qf)))))) (qs qf (qs qf (qs (qs qf (Rq.block (ql (aS.l14 aa) (qg (g:=aS.g14) (Λ:=λc=>an []) (λ_ _ _=>by kernel_rfl) (λc=>qf))))) qf)))))))
 (qe H)
def Em.S(a_0:Int)(b_1:Int)(aa:VH)(h:ab):=
 BIF (decide (a_0<b_1)) (
 aa (.int .i64 a_0) h) (
 aa (.int .i64 b_1) h)
theorem Em.call{a_0:Int}{b_1:Int}{aa:VH}{h:ab}(H:Em.S a_0 b_1 aa h):ae ai zK #[.int .i64 a_0,.int .i64 b_1] aa h:=
 qc (Λ:=an []) Tryz.func229
 qf
 (qe H)
def El.S(a_0:Int)(b_1:Int)(aa:VH)(h:ab):=
 BIF (decide (b_1<a_0)) (
 aa (.int .i64 a_0) h) (
 aa (.int .i64 b_1) h)
theorem El.call{a_0:Int}{b_1:Int}{aa:VH}{h:ab}(H:El.S a_0 b_1 aa h):ae ai zJ #[.int .i64 a_0,.int .i64 b_1] aa h:=
 qc (Λ:=an []) Tryz.func228
 qf
 (qe H)
def kY.J3(aa:VH)(bH:Int)(fg:Nat)(c:Nat)(lg:Nat)(kt:Nat)(b:Addr)(h:ab):=
 FOP .f32 (f32.format.mul fg (f32.nearest bH)) λQL=>
 FFC .f32 QL .f64 λYi=>
 ae ai lQ #[.float .f64 Yi] (λTj uN=>
 asF .f64 Tj λKk=>
 FIC .f64 Kk .i64 λw=>
 ae ai zK #[.int .i64 ((i64.wrap (bH-1))),.int .i64 w] (λx JY=>
 asI .i64 x λZu=>
 ae ai zJ #[.int .i64 1,.int .i64 Zu] (λWd tA=>
 asI .i64 Wd λa=>
 (MKS fh au (i64.wrap (bH-a)) (i64.wrap (bH-a)) (λd Jl=>
 (MKS fh au a a (λg IL=>
 ae ai iN #[.float .f32 c] (λy KT=>
 asA y λi=>
 SIZ (Array.size (⟨[.slice (some ⟨d,0,none⟩) ((Int.toNat (i64.wrap (bH-a)))) ((Int.toNat (i64.wrap (bH-a)))),.int .i64 0]⟩:Array Value)) 2 <|
 SIZ (Array.size (⟨[.slice (some ⟨g,0,none⟩) a.toNat a.toNat,.int .i64 0]⟩:Array Value)) 2 <|
 SIZ (Array.size i) 6 <|
 STA 12 KT b (⟨(List.set (List.set (dN 4 6 i [.slice (some ⟨d,0,none⟩) ((Int.toNat (i64.wrap (bH-a)))) ((Int.toNat (i64.wrap (bH-a)))),.int .i64 0,.slice (some ⟨g,0,none⟩) a.toNat a.toNat,.int .i64 0,.int .i64 0,.float .f32 0,.float .f32 0,.float .f32 0,.float .f32 0,.float .f32 0,.float .f32 0,.float .f32 0]) 10 (.float .f32 kt)) 11 (.float .f32 lg))⟩) λSu=>
 LDA 12 Su b λz=>
 aa (.tuple ⟨[.agg z,.int .i64 0]⟩) Su) IL) Jl)∧(ae ai iN #[.float .f32 c] (λA TG=>
 asA A λj=>
 MKS fh au a a (λk Qg=>
 SIZ (Array.size (⟨[.slice (some ⟨d,0,none⟩) ((Int.toNat (i64.wrap (bH-a)))) ((Int.toNat (i64.wrap (bH-a)))),.int .i64 0]⟩:Array Value)) 2 <|
 SIZ (Array.size (⟨[.slice (some ⟨k,0,none⟩) a.toNat a.toNat,.int .i64 0]⟩:Array Value)) 2 <|
 SIZ (Array.size j) 6 <|
 STA 12 Qg b (⟨(List.set (List.set (dN 4 6 j [.slice (some ⟨d,0,none⟩) ((Int.toNat (i64.wrap (bH-a)))) ((Int.toNat (i64.wrap (bH-a)))),.int .i64 0,.slice (some ⟨k,0,none⟩) a.toNat a.toNat,.int .i64 0,.int .i64 0,.float .f32 0,.float .f32 0,.float .f32 0,.float .f32 0,.float .f32 0,.float .f32 0,.float .f32 0]) 10 (.float .f32 kt)) 11 (.float .f32 lg))⟩) λZa=>
 LDA 12 Za b λB=>
 aa (.tuple ⟨[.agg B,.int .i64 0]⟩) Za) TG) Jl)) tA)∧((MKS fh au a a (λe Us=>
 (MKS fh au (i64.wrap (bH-a)) (i64.wrap (bH-a)) (λl JZ=>
 ae ai iN #[.float .f32 c] (λC Zb=>
 asA C λm=>
 SIZ (Array.size (⟨[.slice (some ⟨l,0,none⟩) ((Int.toNat (i64.wrap (bH-a)))) ((Int.toNat (i64.wrap (bH-a)))),.int .i64 0]⟩:Array Value)) 2 <|
 SIZ (Array.size (⟨[.slice (some ⟨e,0,none⟩) a.toNat a.toNat,.int .i64 0]⟩:Array Value)) 2 <|
 SIZ (Array.size m) 6 <|
 STA 12 Zb b (⟨(List.set (List.set (dN 4 6 m [.slice (some ⟨l,0,none⟩) ((Int.toNat (i64.wrap (bH-a)))) ((Int.toNat (i64.wrap (bH-a)))),.int .i64 0,.slice (some ⟨e,0,none⟩) a.toNat a.toNat,.int .i64 0,.int .i64 0,.float .f32 0,.float .f32 0,.float .f32 0,.float .f32 0,.float .f32 0,.float .f32 0,.float .f32 0]) 10 (.float .f32 kt)) 11 (.float .f32 lg))⟩) λn=>
 LDA 12 n b λD=>
 aa (.tuple ⟨[.agg D,.int .i64 0]⟩) n) JZ) Us)∧(ae ai iN #[.float .f32 c] (λE Pe=>
 asA E λo=>
 MKS fh au (i64.wrap (bH-a)) (i64.wrap (bH-a)) (λp TH=>
 SIZ (Array.size (⟨[.slice (some ⟨p,0,none⟩) ((Int.toNat (i64.wrap (bH-a)))) ((Int.toNat (i64.wrap (bH-a)))),.int .i64 0]⟩:Array Value)) 2 <|
 SIZ (Array.size (⟨[.slice (some ⟨e,0,none⟩) a.toNat a.toNat,.int .i64 0]⟩:Array Value)) 2 <|
 SIZ (Array.size o) 6 <|
 STA 12 TH b (⟨(List.set (List.set (dN 4 6 o [.slice (some ⟨p,0,none⟩) ((Int.toNat (i64.wrap (bH-a)))) ((Int.toNat (i64.wrap (bH-a)))),.int .i64 0,.slice (some ⟨e,0,none⟩) a.toNat a.toNat,.int .i64 0,.int .i64 0,.float .f32 0,.float .f32 0,.float .f32 0,.float .f32 0,.float .f32 0,.float .f32 0,.float .f32 0]) 10 (.float .f32 kt)) 11 (.float .f32 lg))⟩) λq=>
 LDA 12 q b λF=>
 aa (.tuple ⟨[.agg F,.int .i64 0]⟩) q) Pe) Us)) tA)∧(ae ai iN #[.float .f32 c] (λG Oi=>
 asA G λf=>
 (MKS fh au (i64.wrap (bH-a)) (i64.wrap (bH-a)) (λr Ll=>
 MKS fh au a a (λs H=>
 SIZ (Array.size (⟨[.slice (some ⟨r,0,none⟩) ((Int.toNat (i64.wrap (bH-a)))) ((Int.toNat (i64.wrap (bH-a)))),.int .i64 0]⟩:Array Value)) 2 <|
 SIZ (Array.size (⟨[.slice (some ⟨s,0,none⟩) a.toNat a.toNat,.int .i64 0]⟩:Array Value)) 2 <|
 SIZ (Array.size f) 6 <|
 STA 12 H b (⟨(List.set (List.set (dN 4 6 f [.slice (some ⟨r,0,none⟩) ((Int.toNat (i64.wrap (bH-a)))) ((Int.toNat (i64.wrap (bH-a)))),.int .i64 0,.slice (some ⟨s,0,none⟩) a.toNat a.toNat,.int .i64 0,.int .i64 0,.float .f32 0,.float .f32 0,.float .f32 0,.float .f32 0,.float .f32 0,.float .f32 0,.float .f32 0]) 10 (.float .f32 kt)) 11 (.float .f32 lg))⟩) λKU=>
 LDA 12 KU b λI=>
 aa (.tuple ⟨[.agg I,.int .i64 0]⟩) KU) Ll) Oi)∧(MKS fh au a a (λt TJ=>
 MKS fh au (i64.wrap (bH-a)) (i64.wrap (bH-a)) (λu J=>
 SIZ (Array.size (⟨[.slice (some ⟨u,0,none⟩) ((Int.toNat (i64.wrap (bH-a)))) ((Int.toNat (i64.wrap (bH-a)))),.int .i64 0]⟩:Array Value)) 2 <|
 SIZ (Array.size (⟨[.slice (some ⟨t,0,none⟩) a.toNat a.toNat,.int .i64 0]⟩:Array Value)) 2 <|
 SIZ (Array.size f) 6 <|
 STA 12 J b (⟨(List.set (List.set (dN 4 6 f [.slice (some ⟨u,0,none⟩) ((Int.toNat (i64.wrap (bH-a)))) ((Int.toNat (i64.wrap (bH-a)))),.int .i64 0,.slice (some ⟨t,0,none⟩) a.toNat a.toNat,.int .i64 0,.int .i64 0,.float .f32 0,.float .f32 0,.float .f32 0,.float .f32 0,.float .f32 0,.float .f32 0,.float .f32 0]) 10 (.float .f32 kt)) 11 (.float .f32 lg))⟩) λv=>
 LDA 12 v b λK=>
 aa (.tuple ⟨[.agg K,.int .i64 0]⟩) v) TJ) Oi)) tA))) JY) uN) h
def kY.j3(aa:VH):=gg (kds 74 [(0,.i .i64),(1,.f .f32),(2,.f .f32),(3,.f .f32),(4,.f .f32),(10,.p)]) λfr=>kY.J3 aa (gI (ah fr 0)) (gF (ah fr 1)) (gF (ah fr 2)) (gF (ah fr 3)) (gF (ah fr 4)) (gP (ah fr 10))
def kY.S(bH:Int)(fg:Nat)(c:Nat)(lg:Nat)(kt:Nat)(aa:VH)(h:ab):=
 ALC ⟨cH⟩ dc (λa f=>
 ae ai eO #[.int .i64 bH,.int .i64 2,.int .i64 1024] (λg b=>
 asB g λi=>
 BIF (!i) (
 STA 12 b ⟨a,0,none⟩ ⟨cH⟩ λd=>
 LDA 12 d ⟨a,0,none⟩ λj=>
 aa (.tuple ⟨[.agg j,.int .i64 2]⟩) d) (
 BIF (f32.format.order fg 0==some .gt||f32.format.order fg 0==some .eq) (
 BIF (!(f32.format.order fg 1065353216==some .lt||f32.format.order fg 1065353216==some .eq)) (
 STA 12 b ⟨a,0,none⟩ ⟨cH⟩ λe=>
 LDA 12 e ⟨a,0,none⟩ λk=>
 aa (.tuple ⟨[.agg k,.int .i64 2]⟩) e) (
 BIF (f32.format.order c 0==some .gt||f32.format.order c 0==some .eq) (
 BIF (!(f32.format.order c 1065353216==some .lt)) (
 STA 12 b ⟨a,0,none⟩ ⟨cH⟩ λgd=>
 LDA 12 gd ⟨a,0,none⟩ λtq=>
 aa (.tuple ⟨[.agg tq,.int .i64 2]⟩) gd) (
 BIF (f32.format.order lg 0==some .gt||f32.format.order lg 0==some .eq) (
 BIF (!(f32.format.order lg 1065353216==some .lt||f32.format.order lg 1065353216==some .eq)) (
 STA 12 b ⟨a,0,none⟩ ⟨cH⟩ λiG=>
 LDA 12 iG ⟨a,0,none⟩ λOX=>
 aa (.tuple ⟨[.agg OX,.int .i64 2]⟩) iG) (
 ae ai fk #[.float .f32 kt] (λDb kB=>
 asB Db λl=>
 BIF (!l) (
 STA 12 kB ⟨a,0,none⟩ ⟨cH⟩ λoZ=>
 LDA 12 oZ ⟨a,0,none⟩ λm=>
 aa (.tuple ⟨[.agg m,.int .i64 2]⟩) oZ) (
 kY.J3 aa bH fg c lg kt ⟨a,0,none⟩ kB)) b)) (
 STA 12 b ⟨a,0,none⟩ ⟨cH⟩ λtz=>
 LDA 12 tz ⟨a,0,none⟩ λHu=>
 aa (.tuple ⟨[.agg Hu,.int .i64 2]⟩) tz))) (
 STA 12 b ⟨a,0,none⟩ ⟨cH⟩ λqz=>
 LDA 12 qz ⟨a,0,none⟩ λn=>
 aa (.tuple ⟨[.agg n,.int .i64 2]⟩) qz))) (
 STA 12 b ⟨a,0,none⟩ ⟨cH⟩ λmZ=>
 LDA 12 mZ ⟨a,0,none⟩ λo=>
 aa (.tuple ⟨[.agg o,.int .i64 2]⟩) mZ))) f) h
theorem kY.call{bH:Int}{fg:Nat}{a:Nat}{lg:Nat}{kt:Nat}{aa:VH}{h:ab}(H:kY.S bH fg a lg kt aa h):ae ai pX #[.int .i64 bH,.float .f32 fg,.float .f32 a,.float .f32 lg,.float .f32 kt] aa h:=
 qc (Λ:=an [(3,kY.j3 aa)]) Tryz.func163
 (qs qf (qj (kY.j3 aa) qf
 qf))
 (qe H)
def aZ.J12(aa:VH)(a:Addr)(v_6:Addr)(Yb:Addr)(c:Int)(h:ab):=
 LDA 15 h Yb λd=>
 STA 15 h (v_6.add 5) d λMj=>
 LDA 45 Mj v_6 λaub=>
 STA 45 Mj a aub λb=>
 LDA 45 b a λauc=>
 aa (.tuple ⟨[.agg auc,.bool (c==0)]⟩) b
def aZ.j12(aa:VH):=gg (kds 147 [(4,.p),(6,.p),(12,.p),(13,.i .i64)]) λfr=>aZ.J12 aa (gP (ah fr 4)) (gP (ah fr 6)) (gP (ah fr 12)) (gI (ah fr 13))
def aZ.J19(aa:VH)(e_1:Addr)(a:Addr)(v_6:Addr)(aiu:Addr)(ank:Int)(h:ab):=
 LDA 13 h aiu λauO=>
 STA 13 h (v_6.add 20) auO λb=>
 oF .f32 (cell b (e_1.add 5)) λe=>
 ST1 b (v_6.add 4) (.float .f32 e) λc=>
 LDA 45 c v_6 λauP=>
 STA 45 c a auP λd=>
 LDA 45 d a λauQ=>
 aa (.tuple ⟨[.agg auQ,.bool (ank==0)]⟩) d
def aZ.j19(aa:VH):=gg (kds 147 [(1,.p),(4,.p),(6,.p),(15,.p),(16,.i .i64)]) λfr=>aZ.J19 aa (gP (ah fr 1)) (gP (ah fr 4)) (gP (ah fr 6)) (gP (ah fr 15)) (gI (ah fr 16))
def aZ.J18(aa:VH)(e_1:Addr)(a:Addr)(v_6:Addr)(x_7:Addr)(p_8:Nat)(b:Nat)(h:ab):=
 oF .f32 (cell h (x_7.add 4)) λwj=>
 oF .f32 (cell h (x_7.add 2)) λuv=>
 oF .f32 (cell h (x_7.add 3)) λwk=>
 (FOP .f32 (TE p_8 b) λafA=>
 PIN h (x_7.add 3) 1 h <|
 PIN h (x_7.add 2) 1 h <|
 PIN h (x_7.add 4) 1 h <|
 (ae ai eA #[.float .f32 afA] (λi Sq=>
 asI .i64 i λc=>
 PIN h (x_7.add 3) 1 Sq <|
 PIN h (x_7.add 2) 1 Sq <|
 PIN h (x_7.add 4) 1 Sq <|
 (ALC ⟨[.int .i64 c]⟩ cp (λalq adA=>
 PIN h (x_7.add 3) 1 adA <|
 PIN h (x_7.add 2) 1 adA <|
 PIN h (x_7.add 4) 1 adA <|
 (ALC ⟨[]⟩ au (λapq WS=>
 PIN h (x_7.add 3) 1 WS <|
 PIN h (x_7.add 2) 1 WS <|
 PIN h (x_7.add 4) 1 WS <|
 (ae ai cG #[.slice (some ⟨alq,0,none⟩) 1 1,.slice (some ⟨apq,0,none⟩) 0 0,.bool (f32.format.order wj 1065353216==some .eq),.float .f32 uv,.float .f32 wk] (λanz KS=>
 iF anz λanA azc=>
 asA anA λagQ=>
 asI .i64 azc λj=>
 ALC ⟨aH⟩ av (λaps aaH=>
 PIN h (x_7.add 3) 1 aaH <|
 PIN h (x_7.add 2) 1 aaH <|
 PIN h (x_7.add 4) 1 aaH <|
 STA 13 aaH ⟨aps,0,none⟩ agQ λavL=>
 aZ.J19 aa e_1 a v_6 ⟨aps,0,none⟩ j avL) KS) WS)∧(ALC ⟨aH⟩ av (λapu aaI=>
 PIN h (x_7.add 3) 1 aaI <|
 PIN h (x_7.add 2) 1 aaI <|
 PIN h (x_7.add 4) 1 aaI <|
 ae ai cG #[.slice (some ⟨alq,0,none⟩) 1 1,.slice (some ⟨apq,0,none⟩) 0 0,.bool (f32.format.order wj 1065353216==some .eq),.float .f32 uv,.float .f32 wk] (λaze avN=>
 iF aze λanC azg=>
 asA anC λaui=>
 asI .i64 azg λk=>
 STA 13 avN ⟨apu,0,none⟩ aui λavQ=>
 aZ.J19 aa e_1 a v_6 ⟨apu,0,none⟩ k avQ) aaI) WS)) adA)∧(ALC ⟨aH⟩ av (λapw ahm=>
 PIN h (x_7.add 3) 1 ahm <|
 PIN h (x_7.add 2) 1 ahm <|
 PIN h (x_7.add 4) 1 ahm <|
 ALC ⟨[]⟩ au (λavf aaJ=>
 PIN h (x_7.add 3) 1 aaJ <|
 PIN h (x_7.add 2) 1 aaJ <|
 PIN h (x_7.add 4) 1 aaJ <|
 ae ai cG #[.slice (some ⟨alq,0,none⟩) 1 1,.slice (some ⟨avf,0,none⟩) 0 0,.bool (f32.format.order wj 1065353216==some .eq),.float .f32 uv,.float .f32 wk] (λanE alz=>
 iF anE λazh anF=>
 asA azh λauk=>
 asI .i64 anF λl=>
 STA 13 alz ⟨apw,0,none⟩ auk λWV=>
 aZ.J19 aa e_1 a v_6 ⟨apw,0,none⟩ l WV) aaJ) ahm) adA)) Sq)∧((ALC ⟨[]⟩ au (λalr WW=>
 PIN h (x_7.add 3) 1 WW <|
 PIN h (x_7.add 2) 1 WW <|
 PIN h (x_7.add 4) 1 WW <|
 (ALC ⟨[.int .i64 c]⟩ cp (λapy WX=>
 PIN h (x_7.add 3) 1 WX <|
 PIN h (x_7.add 2) 1 WX <|
 PIN h (x_7.add 4) 1 WX <|
 (ae ai cG #[.slice (some ⟨apy,0,none⟩) 1 1,.slice (some ⟨alr,0,none⟩) 0 0,.bool (f32.format.order wj 1065353216==some .eq),.float .f32 uv,.float .f32 wk] (λazl alA=>
 iF azl λanG azm=>
 asA anG λaun=>
 asI .i64 azm λm=>
 ALC ⟨aH⟩ av (λapz aaK=>
 PIN h (x_7.add 3) 1 aaK <|
 PIN h (x_7.add 2) 1 aaK <|
 PIN h (x_7.add 4) 1 aaK <|
 STA 13 aaK ⟨apz,0,none⟩ aun λavV=>
 aZ.J19 aa e_1 a v_6 ⟨apz,0,none⟩ m avV) alA) WX)∧(ALC ⟨aH⟩ av (λapA ahn=>
 PIN h (x_7.add 3) 1 ahn <|
 PIN h (x_7.add 2) 1 ahn <|
 PIN h (x_7.add 4) 1 ahn <|
 ae ai cG #[.slice (some ⟨apy,0,none⟩) 1 1,.slice (some ⟨alr,0,none⟩) 0 0,.bool (f32.format.order wj 1065353216==some .eq),.float .f32 uv,.float .f32 wk] (λazp avZ=>
 iF azp λazq azr=>
 asA azq λauo=>
 asI .i64 azr λaya=>
 STA 13 avZ ⟨apA,0,none⟩ auo λn=>
 aZ.J19 aa e_1 a v_6 ⟨apA,0,none⟩ aya n) ahn) WX)) WW)∧(ALC ⟨aH⟩ av (λapB aho=>
 PIN h (x_7.add 3) 1 aho <|
 PIN h (x_7.add 2) 1 aho <|
 PIN h (x_7.add 4) 1 aho <|
 ALC ⟨[.int .i64 c]⟩ cp (λavg ahp=>
 PIN h (x_7.add 3) 1 ahp <|
 PIN h (x_7.add 2) 1 ahp <|
 PIN h (x_7.add 4) 1 ahp <|
 ae ai cG #[.slice (some ⟨avg,0,none⟩) 1 1,.slice (some ⟨alr,0,none⟩) 0 0,.bool (f32.format.order wj 1065353216==some .eq),.float .f32 uv,.float .f32 wk] (λazs o=>
 iF azs λazt azu=>
 asA azt λaup=>
 asI .i64 azu λayb=>
 STA 13 o ⟨apB,0,none⟩ aup λp=>
 aZ.J19 aa e_1 a v_6 ⟨apB,0,none⟩ ayb p) ahp) aho) WW)) Sq)∧(ALC ⟨aH⟩ av (λahg adC=>
 PIN h (x_7.add 3) 1 adC <|
 PIN h (x_7.add 2) 1 adC <|
 PIN h (x_7.add 4) 1 adC <|
 (ALC ⟨[.int .i64 c]⟩ cp (λavh ahq=>
 PIN h (x_7.add 3) 1 ahq <|
 PIN h (x_7.add 2) 1 ahq <|
 PIN h (x_7.add 4) 1 ahq <|
 ALC ⟨[]⟩ au (λavi ahr=>
 PIN h (x_7.add 3) 1 ahr <|
 PIN h (x_7.add 2) 1 ahr <|
 PIN h (x_7.add 4) 1 ahr <|
 ae ai cG #[.slice (some ⟨avh,0,none⟩) 1 1,.slice (some ⟨avi,0,none⟩) 0 0,.bool (f32.format.order wj 1065353216==some .eq),.float .f32 uv,.float .f32 wk] (λazv q=>
 iF azv λazw azx=>
 asA azw λauq=>
 asI .i64 azx λayc=>
 STA 13 q ⟨ahg,0,none⟩ auq λr=>
 aZ.J19 aa e_1 a v_6 ⟨ahg,0,none⟩ ayc r) ahr) ahq) adC)∧(ALC ⟨[]⟩ au (λavk ahs=>
 PIN h (x_7.add 3) 1 ahs <|
 PIN h (x_7.add 2) 1 ahs <|
 PIN h (x_7.add 4) 1 ahs <|
 ALC ⟨[.int .i64 c]⟩ cp (λavl aht=>
 PIN h (x_7.add 3) 1 aht <|
 PIN h (x_7.add 2) 1 aht <|
 PIN h (x_7.add 4) 1 aht <|
 ae ai cG #[.slice (some ⟨avl,0,none⟩) 1 1,.slice (some ⟨avk,0,none⟩) 0 0,.bool (f32.format.order wj 1065353216==some .eq),.float .f32 uv,.float .f32 wk] (λazy s=>
 iF azy λazz azA=>
 asA azz λaur=>
 asI .i64 azA λayd=>
 STA 13 s ⟨ahg,0,none⟩ aur λt=>
 aZ.J19 aa e_1 a v_6 ⟨ahg,0,none⟩ ayd t) aht) ahs) adC)) Sq))) h)∧((ALC ⟨[]⟩ au (λahh adD=>
 PIN h (x_7.add 3) 1 adD <|
 PIN h (x_7.add 2) 1 adD <|
 PIN h (x_7.add 4) 1 adD <|
 (ae ai eA #[.float .f32 afA] (λazB adE=>
 asI .i64 azB λe=>
 PIN h (x_7.add 3) 1 adE <|
 PIN h (x_7.add 2) 1 adE <|
 PIN h (x_7.add 4) 1 adE <|
 (ALC ⟨[.int .i64 e]⟩ cp (λapC adF=>
 PIN h (x_7.add 3) 1 adF <|
 PIN h (x_7.add 2) 1 adF <|
 PIN h (x_7.add 4) 1 adF <|
 (ae ai cG #[.slice (some ⟨apC,0,none⟩) 1 1,.slice (some ⟨ahh,0,none⟩) 0 0,.bool (f32.format.order wj 1065353216==some .eq),.float .f32 uv,.float .f32 wk] (λazC u=>
 iF azC λazD azE=>
 asA azD λaus=>
 asI .i64 azE λaye=>
 ALC ⟨aH⟩ av (λapD ahu=>
 PIN h (x_7.add 3) 1 ahu <|
 PIN h (x_7.add 2) 1 ahu <|
 PIN h (x_7.add 4) 1 ahu <|
 STA 13 ahu ⟨apD,0,none⟩ aus λv=>
 aZ.J19 aa e_1 a v_6 ⟨apD,0,none⟩ aye v) u) adF)∧(ALC ⟨aH⟩ av (λapE ahv=>
 PIN h (x_7.add 3) 1 ahv <|
 PIN h (x_7.add 2) 1 ahv <|
 PIN h (x_7.add 4) 1 ahv <|
 ae ai cG #[.slice (some ⟨apC,0,none⟩) 1 1,.slice (some ⟨ahh,0,none⟩) 0 0,.bool (f32.format.order wj 1065353216==some .eq),.float .f32 uv,.float .f32 wk] (λazF awa=>
 iF azF λazG azH=>
 asA azG λaut=>
 asI .i64 azH λayf=>
 STA 13 awa ⟨apE,0,none⟩ aut λawb=>
 aZ.J19 aa e_1 a v_6 ⟨apE,0,none⟩ ayf awb) ahv) adF)) adE)∧(ALC ⟨aH⟩ av (λapF ahw=>
 PIN h (x_7.add 3) 1 ahw <|
 PIN h (x_7.add 2) 1 ahw <|
 PIN h (x_7.add 4) 1 ahw <|
 ALC ⟨[.int .i64 e]⟩ cp (λavn ahx=>
 PIN h (x_7.add 3) 1 ahx <|
 PIN h (x_7.add 2) 1 ahx <|
 PIN h (x_7.add 4) 1 ahx <|
 ae ai cG #[.slice (some ⟨avn,0,none⟩) 1 1,.slice (some ⟨ahh,0,none⟩) 0 0,.bool (f32.format.order wj 1065353216==some .eq),.float .f32 uv,.float .f32 wk] (λazI awc=>
 iF azI λazJ azK=>
 asA azJ λauu=>
 asI .i64 azK λayg=>
 STA 13 awc ⟨apF,0,none⟩ auu λawd=>
 aZ.J19 aa e_1 a v_6 ⟨apF,0,none⟩ ayg awd) ahx) ahw) adE)) adD)∧(ALC ⟨aH⟩ av (λapG ahy=>
 PIN h (x_7.add 3) 1 ahy <|
 PIN h (x_7.add 2) 1 ahy <|
 PIN h (x_7.add 4) 1 ahy <|
 ae ai eA #[.float .f32 afA] (λazL ahz=>
 asI .i64 azL λayh=>
 PIN h (x_7.add 3) 1 ahz <|
 PIN h (x_7.add 2) 1 ahz <|
 PIN h (x_7.add 4) 1 ahz <|
 ALC ⟨[.int .i64 ayh]⟩ cp (λavo ahA=>
 PIN h (x_7.add 3) 1 ahA <|
 PIN h (x_7.add 2) 1 ahA <|
 PIN h (x_7.add 4) 1 ahA <|
 ae ai cG #[.slice (some ⟨avo,0,none⟩) 1 1,.slice (some ⟨ahh,0,none⟩) 0 0,.bool (f32.format.order wj 1065353216==some .eq),.float .f32 uv,.float .f32 wk] (λazM awe=>
 iF azM λazN azO=>
 asA azN λauv=>
 asI .i64 azO λayi=>
 STA 13 awe ⟨apG,0,none⟩ auv λawf=>
 aZ.J19 aa e_1 a v_6 ⟨apG,0,none⟩ ayi awf) ahA) ahz) ahy) adD)) h)∧(ALC ⟨aH⟩ av (λaaA adG=>
 PIN h (x_7.add 3) 1 adG <|
 PIN h (x_7.add 2) 1 adG <|
 PIN h (x_7.add 4) 1 adG <|
 (ae ai eA #[.float .f32 afA] (λazP adH=>
 asI .i64 azP λf=>
 PIN h (x_7.add 3) 1 adH <|
 PIN h (x_7.add 2) 1 adH <|
 PIN h (x_7.add 4) 1 adH <|
 (ALC ⟨[.int .i64 f]⟩ cp (λavp ahB=>
 PIN h (x_7.add 3) 1 ahB <|
 PIN h (x_7.add 2) 1 ahB <|
 PIN h (x_7.add 4) 1 ahB <|
 ALC ⟨[]⟩ au (λavq ahC=>
 PIN h (x_7.add 3) 1 ahC <|
 PIN h (x_7.add 2) 1 ahC <|
 PIN h (x_7.add 4) 1 ahC <|
 ae ai cG #[.slice (some ⟨avp,0,none⟩) 1 1,.slice (some ⟨avq,0,none⟩) 0 0,.bool (f32.format.order wj 1065353216==some .eq),.float .f32 uv,.float .f32 wk] (λazQ awg=>
 iF azQ λazR azS=>
 asA azR λauw=>
 asI .i64 azS λayj=>
 STA 13 awg ⟨aaA,0,none⟩ auw λawh=>
 aZ.J19 aa e_1 a v_6 ⟨aaA,0,none⟩ ayj awh) ahC) ahB) adH)∧(ALC ⟨[]⟩ au (λavr ahD=>
 PIN h (x_7.add 3) 1 ahD <|
 PIN h (x_7.add 2) 1 ahD <|
 PIN h (x_7.add 4) 1 ahD <|
 ALC ⟨[.int .i64 f]⟩ cp (λavs ahE=>
 PIN h (x_7.add 3) 1 ahE <|
 PIN h (x_7.add 2) 1 ahE <|
 PIN h (x_7.add 4) 1 ahE <|
 ae ai cG #[.slice (some ⟨avs,0,none⟩) 1 1,.slice (some ⟨avr,0,none⟩) 0 0,.bool (f32.format.order wj 1065353216==some .eq),.float .f32 uv,.float .f32 wk] (λazT awi=>
 iF azT λazU azV=>
 asA azU λauy=>
 asI .i64 azV λayk=>
 STA 13 awi ⟨aaA,0,none⟩ auy λawj=>
 aZ.J19 aa e_1 a v_6 ⟨aaA,0,none⟩ ayk awj) ahE) ahD) adH)) adG)∧(ALC ⟨[]⟩ au (λavt ahF=>
 PIN h (x_7.add 3) 1 ahF <|
 PIN h (x_7.add 2) 1 ahF <|
 PIN h (x_7.add 4) 1 ahF <|
 ae ai eA #[.float .f32 afA] (λazW ahG=>
 asI .i64 azW λayl=>
 PIN h (x_7.add 3) 1 ahG <|
 PIN h (x_7.add 2) 1 ahG <|
 PIN h (x_7.add 4) 1 ahG <|
 ALC ⟨[.int .i64 ayl]⟩ cp (λavu ahH=>
 PIN h (x_7.add 3) 1 ahH <|
 PIN h (x_7.add 2) 1 ahH <|
 PIN h (x_7.add 4) 1 ahH <|
 ae ai cG #[.slice (some ⟨avu,0,none⟩) 1 1,.slice (some ⟨avt,0,none⟩) 0 0,.bool (f32.format.order wj 1065353216==some .eq),.float .f32 uv,.float .f32 wk] (λazX awk=>
 iF azX λazY azZ=>
 asA azY λauz=>
 asI .i64 azZ λayn=>
 STA 13 awk ⟨aaA,0,none⟩ auz λawl=>
 aZ.J19 aa e_1 a v_6 ⟨aaA,0,none⟩ ayn awl) ahH) ahG) ahF) adG)) h)))∧((ALC ⟨[]⟩ au (λadw Sr=>
 PIN h (x_7.add 3) 1 Sr <|
 PIN h (x_7.add 2) 1 Sr <|
 PIN h (x_7.add 4) 1 Sr <|
 (FOP .f32 (TE p_8 b) λasp=>
 PIN h (x_7.add 3) 1 Sr <|
 PIN h (x_7.add 2) 1 Sr <|
 PIN h (x_7.add 4) 1 Sr <|
 (ae ai eA #[.float .f32 asp] (λw adI=>
 asI .i64 w λg=>
 PIN h (x_7.add 3) 1 adI <|
 PIN h (x_7.add 2) 1 adI <|
 PIN h (x_7.add 4) 1 adI <|
 (ALC ⟨[.int .i64 g]⟩ cp (λapH adJ=>
 PIN h (x_7.add 3) 1 adJ <|
 PIN h (x_7.add 2) 1 adJ <|
 PIN h (x_7.add 4) 1 adJ <|
 (ae ai cG #[.slice (some ⟨apH,0,none⟩) 1 1,.slice (some ⟨adw,0,none⟩) 0 0,.bool (f32.format.order wj 1065353216==some .eq),.float .f32 uv,.float .f32 wk] (λx awm=>
 iF x λy z=>
 asA y λauB=>
 asI .i64 z λayp=>
 ALC ⟨aH⟩ av (λapJ ahJ=>
 PIN h (x_7.add 3) 1 ahJ <|
 PIN h (x_7.add 2) 1 ahJ <|
 PIN h (x_7.add 4) 1 ahJ <|
 STA 13 ahJ ⟨apJ,0,none⟩ auB λawn=>
 aZ.J19 aa e_1 a v_6 ⟨apJ,0,none⟩ ayp awn) awm) adJ)∧(ALC ⟨aH⟩ av (λapK ahK=>
 PIN h (x_7.add 3) 1 ahK <|
 PIN h (x_7.add 2) 1 ahK <|
 PIN h (x_7.add 4) 1 ahK <|
 ae ai cG #[.slice (some ⟨apH,0,none⟩) 1 1,.slice (some ⟨adw,0,none⟩) 0 0,.bool (f32.format.order wj 1065353216==some .eq),.float .f32 uv,.float .f32 wk] (λA awo=>
 iF A λB C=>
 asA B λauC=>
 asI .i64 C λayq=>
 STA 13 awo ⟨apK,0,none⟩ auC λawp=>
 aZ.J19 aa e_1 a v_6 ⟨apK,0,none⟩ ayq awp) ahK) adJ)) adI)∧(ALC ⟨aH⟩ av (λapL ahL=>
 PIN h (x_7.add 3) 1 ahL <|
 PIN h (x_7.add 2) 1 ahL <|
 PIN h (x_7.add 4) 1 ahL <|
 ALC ⟨[.int .i64 g]⟩ cp (λavv ahM=>
 PIN h (x_7.add 3) 1 ahM <|
 PIN h (x_7.add 2) 1 ahM <|
 PIN h (x_7.add 4) 1 ahM <|
 ae ai cG #[.slice (some ⟨avv,0,none⟩) 1 1,.slice (some ⟨adw,0,none⟩) 0 0,.bool (f32.format.order wj 1065353216==some .eq),.float .f32 uv,.float .f32 wk] (λD awq=>
 iF D λE F=>
 asA E λauE=>
 asI .i64 F λayr=>
 STA 13 awq ⟨apL,0,none⟩ auE λawr=>
 aZ.J19 aa e_1 a v_6 ⟨apL,0,none⟩ ayr awr) ahM) ahL) adI)) Sr)∧(ALC ⟨aH⟩ av (λapM ahN=>
 PIN h (x_7.add 3) 1 ahN <|
 PIN h (x_7.add 2) 1 ahN <|
 PIN h (x_7.add 4) 1 ahN <|
 ae ai eA #[.float .f32 asp] (λaAa ahO=>
 asI .i64 aAa λays=>
 PIN h (x_7.add 3) 1 ahO <|
 PIN h (x_7.add 2) 1 ahO <|
 PIN h (x_7.add 4) 1 ahO <|
 ALC ⟨[.int .i64 ays]⟩ cp (λavw ahP=>
 PIN h (x_7.add 3) 1 ahP <|
 PIN h (x_7.add 2) 1 ahP <|
 PIN h (x_7.add 4) 1 ahP <|
 ae ai cG #[.slice (some ⟨avw,0,none⟩) 1 1,.slice (some ⟨adw,0,none⟩) 0 0,.bool (f32.format.order wj 1065353216==some .eq),.float .f32 uv,.float .f32 wk] (λaAb aws=>
 iF aAb λaAc aAd=>
 asA aAc λauF=>
 asI .i64 aAd λayu=>
 STA 13 aws ⟨apM,0,none⟩ auF λawt=>
 aZ.J19 aa e_1 a v_6 ⟨apM,0,none⟩ ayu awt) ahP) ahO) ahN) Sr))∧(ALC ⟨aH⟩ av (λapN WY=>
 PIN h (x_7.add 3) 1 WY <|
 PIN h (x_7.add 2) 1 WY <|
 PIN h (x_7.add 4) 1 WY <|
 FOP .f32 (TE p_8 b) λG=>
 PIN h (x_7.add 3) 1 WY <|
 PIN h (x_7.add 2) 1 WY <|
 PIN h (x_7.add 4) 1 WY <|
 ae ai eA #[.float .f32 G] (λaAe ahQ=>
 asI .i64 aAe λayv=>
 PIN h (x_7.add 3) 1 ahQ <|
 PIN h (x_7.add 2) 1 ahQ <|
 PIN h (x_7.add 4) 1 ahQ <|
 ALC ⟨[.int .i64 ayv]⟩ cp (λavx ahR=>
 PIN h (x_7.add 3) 1 ahR <|
 PIN h (x_7.add 2) 1 ahR <|
 PIN h (x_7.add 4) 1 ahR <|
 ae ai cG #[.slice (some ⟨avx,0,none⟩) 1 1,.slice (some ⟨adw,0,none⟩) 0 0,.bool (f32.format.order wj 1065353216==some .eq),.float .f32 uv,.float .f32 wk] (λaAg awu=>
 iF aAg λaAh aAi=>
 asA aAh λauG=>
 asI .i64 aAi λayw=>
 STA 13 awu ⟨apN,0,none⟩ auG λawv=>
 aZ.J19 aa e_1 a v_6 ⟨apN,0,none⟩ ayw awv) ahR) ahQ) WY) Sr)) h)∧(ALC ⟨aH⟩ av (λUq Ss=>
 PIN h (x_7.add 3) 1 Ss <|
 PIN h (x_7.add 2) 1 Ss <|
 PIN h (x_7.add 4) 1 Ss <|
 (FOP .f32 (TE p_8 b) λasq=>
 PIN h (x_7.add 3) 1 Ss <|
 PIN h (x_7.add 2) 1 Ss <|
 PIN h (x_7.add 4) 1 Ss <|
 (ae ai eA #[.float .f32 asq] (λaAj adK=>
 asI .i64 aAj λarb=>
 PIN h (x_7.add 3) 1 adK <|
 PIN h (x_7.add 2) 1 adK <|
 PIN h (x_7.add 4) 1 adK <|
 (ALC ⟨[.int .i64 arb]⟩ cp (λavy ahS=>
 PIN h (x_7.add 3) 1 ahS <|
 PIN h (x_7.add 2) 1 ahS <|
 PIN h (x_7.add 4) 1 ahS <|
 ALC ⟨[]⟩ au (λavz ahT=>
 PIN h (x_7.add 3) 1 ahT <|
 PIN h (x_7.add 2) 1 ahT <|
 PIN h (x_7.add 4) 1 ahT <|
 ae ai cG #[.slice (some ⟨avy,0,none⟩) 1 1,.slice (some ⟨avz,0,none⟩) 0 0,.bool (f32.format.order wj 1065353216==some .eq),.float .f32 uv,.float .f32 wk] (λaAk aww=>
 iF aAk λaAl aAm=>
 asA aAl λauH=>
 asI .i64 aAm λayx=>
 STA 13 aww ⟨Uq,0,none⟩ auH λawx=>
 aZ.J19 aa e_1 a v_6 ⟨Uq,0,none⟩ ayx awx) ahT) ahS) adK)∧(ALC ⟨[]⟩ au (λavA ahU=>
 PIN h (x_7.add 3) 1 ahU <|
 PIN h (x_7.add 2) 1 ahU <|
 PIN h (x_7.add 4) 1 ahU <|
 ALC ⟨[.int .i64 arb]⟩ cp (λavB ahV=>
 PIN h (x_7.add 3) 1 ahV <|
 PIN h (x_7.add 2) 1 ahV <|
 PIN h (x_7.add 4) 1 ahV <|
 ae ai cG #[.slice (some ⟨avB,0,none⟩) 1 1,.slice (some ⟨avA,0,none⟩) 0 0,.bool (f32.format.order wj 1065353216==some .eq),.float .f32 uv,.float .f32 wk] (λaAn awy=>
 iF aAn λaAo aAp=>
 asA aAo λauI=>
 asI .i64 aAp λayy=>
 STA 13 awy ⟨Uq,0,none⟩ auI λawz=>
 aZ.J19 aa e_1 a v_6 ⟨Uq,0,none⟩ ayy awz) ahV) ahU) adK)) Ss)∧(ALC ⟨[]⟩ au (λavC ahW=>
 PIN h (x_7.add 3) 1 ahW <|
 PIN h (x_7.add 2) 1 ahW <|
 PIN h (x_7.add 4) 1 ahW <|
 ae ai eA #[.float .f32 asq] (λaAq ahX=>
 asI .i64 aAq λayz=>
 PIN h (x_7.add 3) 1 ahX <|
 PIN h (x_7.add 2) 1 ahX <|
 PIN h (x_7.add 4) 1 ahX <|
 ALC ⟨[.int .i64 ayz]⟩ cp (λavD ahY=>
 PIN h (x_7.add 3) 1 ahY <|
 PIN h (x_7.add 2) 1 ahY <|
 PIN h (x_7.add 4) 1 ahY <|
 ae ai cG #[.slice (some ⟨avD,0,none⟩) 1 1,.slice (some ⟨avC,0,none⟩) 0 0,.bool (f32.format.order wj 1065353216==some .eq),.float .f32 uv,.float .f32 wk] (λaAr awA=>
 iF aAr λaAs aAt=>
 asA aAs λauJ=>
 asI .i64 aAt λayA=>
 STA 13 awA ⟨Uq,0,none⟩ auJ λawB=>
 aZ.J19 aa e_1 a v_6 ⟨Uq,0,none⟩ ayA awB) ahY) ahX) ahW) Ss))∧(ALC ⟨[]⟩ au (λavE WZ=>
 PIN h (x_7.add 3) 1 WZ <|
 PIN h (x_7.add 2) 1 WZ <|
 PIN h (x_7.add 4) 1 WZ <|
 FOP .f32 (TE p_8 b) λH=>
 PIN h (x_7.add 3) 1 WZ <|
 PIN h (x_7.add 2) 1 WZ <|
 PIN h (x_7.add 4) 1 WZ <|
 ae ai eA #[.float .f32 H] (λaAu ahZ=>
 asI .i64 aAu λayB=>
 PIN h (x_7.add 3) 1 ahZ <|
 PIN h (x_7.add 2) 1 ahZ <|
 PIN h (x_7.add 4) 1 ahZ <|
 ALC ⟨[.int .i64 ayB]⟩ cp (λavF d=>
 PIN h (x_7.add 3) 1 d <|
 PIN h (x_7.add 2) 1 d <|
 PIN h (x_7.add 4) 1 d <|
 ae ai cG #[.slice (some ⟨avF,0,none⟩) 1 1,.slice (some ⟨avE,0,none⟩) 0 0,.bool (f32.format.order wj 1065353216==some .eq),.float .f32 uv,.float .f32 wk] (λaAv awD=>
 iF aAv λaAw aAx=>
 asA aAw λauK=>
 asI .i64 aAx λayC=>
 STA 13 awD ⟨Uq,0,none⟩ auK λawE=>
 aZ.J19 aa e_1 a v_6 ⟨Uq,0,none⟩ ayC awE) d) ahZ) WZ) Ss)) h))
def aZ.j18(aa:VH):=gg (kds 147 [(1,.p),(4,.p),(6,.p),(7,.p),(8,.f .f32),(14,.f .f32)]) λfr=>aZ.J18 aa (gP (ah fr 1)) (gP (ah fr 4)) (gP (ah fr 6)) (gP (ah fr 7)) (gF (ah fr 8)) (gF (ah fr 14))
def aZ.J23(aa:VH)(e_1:Addr)(a:Addr)(v_6:Addr)(aiv:Addr)(anl:Int)(h:ab):=
 LDA 12 h aiv λauL=>
 STA 12 h (v_6.add 33) auL λb=>
 oF .f32 (cell b (e_1.add 5)) λe=>
 ST1 b (v_6.add 4) (.float .f32 e) λc=>
 LDA 45 c v_6 λauM=>
 STA 45 c a auM λd=>
 LDA 45 d a λauN=>
 aa (.tuple ⟨[.agg auN,.bool (anl==0)]⟩) d
def aZ.j23(aa:VH):=gg (kds 147 [(1,.p),(4,.p),(6,.p),(17,.p),(18,.i .i64)]) λfr=>aZ.J23 aa (gP (ah fr 1)) (gP (ah fr 4)) (gP (ah fr 6)) (gP (ah fr 17)) (gI (ah fr 18))
def aZ.S(s_0:Addr)(e_1:Addr)(aa:VH)(h:ab):=
 ALC ⟨aW⟩ ao (λa c=>
 oI .i64 (cell c (e_1.add 2)) λx=>
 oI .i64 (cell c (e_1.add 3)) λy=>
 oI .i64 (cell c e_1) λz=>
 ALC ⟨aW⟩ ao (λb g=>
 PIN c e_1 1 g <|
 PIN c (e_1.add 3) 1 g <|
 PIN c (e_1.add 2) 1 g <|
 STA 45 g ⟨b,0,none⟩ ⟨[.int .i64 x,.int .i64 y,.int .i64 z,.bool false,.float .f32 0,.slice none 0 0,.int .i64 0,.int .i64 0,.float .f32 0,.float .f32 0,.float .f32 0,.float .f32 0,.float .f32 0,.int .i64 0,.float .f32 0,.float .f32 0,.float .f32 0,.float .f32 0,.float .f32 0,.float .f32 0,.slice none 0 0,.slice none 0 0,.slice none 0 0,.int .i64 0,.float .f32 0,.float .f32 0,.float .f32 0,.float .f32 0,.float .f32 0,.bool false,.float .f32 0,.float .f32 0,.float .f32 0,.slice none 0 0,.int .i64 0,.slice none 0 0,.int .i64 0,.int .i64 0,.float .f32 0,.float .f32 0,.float .f32 0,.float .f32 0,.float .f32 0,.float .f32 0,.float .f32 0]⟩ λd=>
 oL (cell d (s_0.add 4)) λA B c0=>
 oI .i64 (cell d (e_1.add 3)) λrD=>
 bg A rD B λWc=>
 LDA 5 d ((Addr.add Wc (rD.toNat*5))) λGu=>
 ALC ⟨gY⟩ bk (λBQ ke=>
 PIN d ((Addr.add Wc (rD.toNat*5))) 5 ke <|
 PIN d (e_1.add 3) 1 ke <|
 PIN d (s_0.add 4) 1 ke <|
 STA 5 ke ⟨BQ,0,none⟩ Gu λkB=>
 LDA 3 kB (s_0.add 1) λIK=>
 oI .i64 (cell kB (e_1.add 4)) λWa=>
 oF .f32 (cell kB s_0) λzf=>
 ae ai qU #[.agg IK,.int .i64 Wa,.float .f32 zf] (λFH jZ=>
 iF FH λKi GW=>
 asF .f32 Ki λe=>
 asI .i64 GW λC=>
 BIF (C != 0) (
 STA 45 jZ ⟨a,0,none⟩ ⟨aW⟩ λoJ=>
 LDA 45 oJ ⟨a,0,none⟩ λD=>
 aa (.tuple ⟨[.agg D,.bool false]⟩) oJ) (
 oI .i64 (cell jZ ⟨BQ,1,none⟩) λZt=>
 BIF (Zt==1) (
 oF .f32 (cell jZ ⟨BQ,2,none⟩) λE=>
 oF .f32 (cell jZ ⟨BQ,3,none⟩) λKk=>
 ae ai tV #[.float .f32 e,.float .f32 E,.float .f32 Kk] (λVq DL=>
 iF Vq λF G=>
 asA F λH=>
 asI .i64 G λI=>
 ALC ⟨aL⟩ aB (λi CW=>
 STA 15 CW ⟨i,0,none⟩ H λJl=>
 BIF (I != 0) (
 STA 45 Jl ⟨a,0,none⟩ ⟨aW⟩ λDM=>
 LDA 45 DM ⟨a,0,none⟩ λJ=>
 aa (.tuple ⟨[.agg J,.bool false]⟩) DM) (
 LDA 15 Jl ⟨i,0,none⟩ λo=>
 oF .f32 (cell Jl ⟨BQ,4,none⟩) λp=>
 oF .f32 (cell Jl (e_1.add 5)) λq=>
 (ae ai ld #[.agg o,.float .f32 p,.float .f32 q] (λK L=>
 iF K λM N=>
 asA M λO=>
 asI .i64 N λP=>
 ALC ⟨aL⟩ aB (λr Za=>
 PIN Jl (e_1.add 5) 1 Za <|
 PIN Jl ⟨BQ,4,none⟩ 1 Za <|
 PIN Jl ⟨i,0,none⟩ 15 Za <|
 STA 15 Za ⟨r,0,none⟩ O λQ=>
 aZ.J12 aa ⟨a,0,none⟩ ⟨b,0,none⟩ ⟨r,0,none⟩ P Q) L) Jl)∧(ALC ⟨aL⟩ aB (λs Us=>
 PIN Jl (e_1.add 5) 1 Us <|
 PIN Jl ⟨BQ,4,none⟩ 1 Us <|
 PIN Jl ⟨i,0,none⟩ 15 Us <|
 ae ai ld #[.agg o,.float .f32 p,.float .f32 q] (λR JZ=>
 iF R λT U=>
 asA T λV=>
 asI .i64 U λW=>
 STA 15 JZ ⟨s,0,none⟩ V λHc=>
 aZ.J12 aa ⟨a,0,none⟩ ⟨b,0,none⟩ ⟨s,0,none⟩ W Hc) Us) Jl))) DL) jZ) (
 BIF (Zt==2) (
 oF .f32 (cell jZ ⟨BQ,4,none⟩) λX=>
 BIF (f32.format.order X 1065353216==some .eq) (
 aZ.J18 aa e_1 ⟨a,0,none⟩ ⟨b,0,none⟩ ⟨BQ,0,none⟩ e 1073741824 jZ) (
 aZ.J18 aa e_1 ⟨a,0,none⟩ ⟨b,0,none⟩ ⟨BQ,0,none⟩ e 1082130432 jZ)) (
 oF .f32 (cell jZ ⟨BQ,2,none⟩) λl=>
 oF .f32 (cell jZ ⟨BQ,3,none⟩) λm=>
 oF .f32 (cell jZ ⟨BQ,4,none⟩) λn=>
 (ae ai eA #[.float .f32 e] (λY f=>
 asI .i64 Y λt=>
 PIN jZ ⟨BQ,4,none⟩ 1 f <|
 PIN jZ ⟨BQ,3,none⟩ 1 f <|
 PIN jZ ⟨BQ,2,none⟩ 1 f <|
 (ae ai pX #[.int .i64 t,.float .f32 1040187392,.float .f32 l,.float .f32 m,.float .f32 n] (λZ Oi=>
 iF Z λa0 a1=>
 asA a0 λa2=>
 asI .i64 a1 λa3=>
 ALC ⟨cH⟩ dc (λu KU=>
 PIN jZ ⟨BQ,4,none⟩ 1 KU <|
 PIN jZ ⟨BQ,3,none⟩ 1 KU <|
 PIN jZ ⟨BQ,2,none⟩ 1 KU <|
 STA 12 KU ⟨u,0,none⟩ a2 λa4=>
 aZ.J23 aa e_1 ⟨a,0,none⟩ ⟨b,0,none⟩ ⟨u,0,none⟩ a3 a4) Oi) f)∧(ALC ⟨cH⟩ dc (λv TJ=>
 PIN jZ ⟨BQ,4,none⟩ 1 TJ <|
 PIN jZ ⟨BQ,3,none⟩ 1 TJ <|
 PIN jZ ⟨BQ,2,none⟩ 1 TJ <|
 ae ai pX #[.int .i64 t,.float .f32 1040187392,.float .f32 l,.float .f32 m,.float .f32 n] (λa5 a6=>
 iF a5 λa7 a8=>
 asA a7 λa9=>
 asI .i64 a8 λb0=>
 STA 12 a6 ⟨v,0,none⟩ a9 λTK=>
 aZ.J23 aa e_1 ⟨a,0,none⟩ ⟨b,0,none⟩ ⟨v,0,none⟩ b0 TK) TJ) f)) jZ)∧(ALC ⟨cH⟩ dc (λw j=>
 PIN jZ ⟨BQ,4,none⟩ 1 j <|
 PIN jZ ⟨BQ,3,none⟩ 1 j <|
 PIN jZ ⟨BQ,2,none⟩ 1 j <|
 ae ai eA #[.float .f32 e] (λb1 k=>
 asI .i64 b1 λb2=>
 PIN jZ ⟨BQ,4,none⟩ 1 k <|
 PIN jZ ⟨BQ,3,none⟩ 1 k <|
 PIN jZ ⟨BQ,2,none⟩ 1 k <|
 ae ai pX #[.int .i64 b2,.float .f32 1040187392,.float .f32 l,.float .f32 m,.float .f32 n] (λb3 b4=>
 iF b3 λb5 b6=>
 asA b5 λb7=>
 asI .i64 b6 λb8=>
 STA 12 b4 ⟨w,0,none⟩ b7 λb9=>
 aZ.J23 aa e_1 ⟨a,0,none⟩ ⟨b,0,none⟩ ⟨w,0,none⟩ b8 b9) k) j) jZ))))) kB) d) c) h
theorem aZ.call{s_0:Addr}{e_1:Addr}{aa:VH}{h:ab}(H:aZ.S s_0 e_1 aa h):ae ai zM #[.pointer (some s_0),.pointer (some e_1)] aa h:=
 qc (Λ:=an [(12,aZ.j12 aa),(18,aZ.j18 aa),(19,aZ.j19 aa),(23,aZ.j23 aa)]) Tryz.func96
 (qs qf (qs qf (qs qf (qs qf (qs qf (qs (qs qf (Rq.block (qs qf (Rq.cond (qs qf (qs qf (qj (aZ.j12 aa) qf
 qf))) (qs qf (Rq.cond (qs qf (qj (aZ.j18 aa) qf
 (qj (aZ.j19 aa) qf
 qf))) qf)))))) (qj (aZ.j23 aa) qf
 qf)))))))
 (qe H)
def hZ.J3(aa:VH)(eX:Nat)(a:Addr)(h:ab):=
 FOP .f32 (wv 1065353216 eX) λc=>
 FOP .f32 (CT 1065353216 eX) λd=>
 FOP .f32 (TE c d) λb=>
 SIZ (Array.size (⟨[.float .f32 b,.float .f32 0,.float .f32 0]⟩:Array Value)) 3 <|
 STA 6 h a ⟨[.int .i64 3,.float .f32 b,.float .f32 0,.float .f32 0,.float .f32 0,.float .f32 0]⟩ λgd=>
 LDA 6 gd a λtq=>
 aa (.tuple ⟨[.agg tq,.int .i64 0]⟩) gd
def hZ.j3(aa:VH):=gg (kds 19 [(0,.f .f32),(2,.p)]) λfr=>hZ.J3 aa (gF (ah fr 0)) (gP (ah fr 2))
def hZ.S(eX:Nat)(aa:VH)(h:ab):=
 ALC ⟨fH⟩ db (λa b=>
 BIF (f32.format.order eX 0==some .gt||f32.format.order eX 0==some .eq) (
 BIF (!(f32.format.order eX 1073741824==some .lt||f32.format.order eX 1073741824==some .eq)) (
 STA 6 b ⟨a,0,none⟩ ⟨[.int .i64 0,.float .f32 0,.float .f32 0,.float .f32 0,.float .f32 0,.float .f32 0]⟩ λc=>
 LDA 6 c ⟨a,0,none⟩ λe=>
 aa (.tuple ⟨[.agg e,.int .i64 2]⟩) c) (
 hZ.J3 aa eX ⟨a,0,none⟩ b)) (
 STA 6 b ⟨a,0,none⟩ ⟨[.int .i64 0,.float .f32 0,.float .f32 0,.float .f32 0,.float .f32 0,.float .f32 0]⟩ λd=>
 LDA 6 d ⟨a,0,none⟩ λf=>
 aa (.tuple ⟨[.agg f,.int .i64 2]⟩) d)) h
theorem hZ.call{eX:Nat}{aa:VH}{h:ab}(H:hZ.S eX aa h):ae ai sa #[.float .f32 eX] aa h:=
 qc (Λ:=an [(3,hZ.j3 aa)]) Tryz.func233
 (qs qf (qj (hZ.j3 aa) qf
 qf))
 (qe H)
def BV.S(AQ:Nat)(aa:VH)(h:ab):=
 ALC ⟨fH⟩ db (λa d=>
 FOP .f32 (wv 1065353216 AQ) λb=>
 SIZ (Array.size (⟨[.float .f32 b,.float .f32 AQ,.float .f32 0]⟩:Array Value)) 3 <|
 STA 6 d ⟨a,0,none⟩ ⟨[.int .i64 2,.float .f32 b,.float .f32 AQ,.float .f32 0,.float .f32 0,.float .f32 0]⟩ λc=>
 LDA 6 c ⟨a,0,none⟩ λe=>
 aa (.agg e) c) h
theorem BV.call{AQ:Nat}{aa:VH}{h:ab}(H:BV.S AQ aa h):ae ai xz #[.float .f32 AQ] aa h:=
 qc (Λ:=an []) Tryz.func234
 qf
 (qe H)
def dA.J7(aa:VH)(mu:Nat)(kC:Nat)(d:Addr)(d_8:Nat)(n_9:Nat)(h:ab):=
 FIC .f32 n_9 .i64 λXV=>
 ae ai jX #[.int .i64 XV] (λTj uN=>
 iF Tj λVp Vq=>
 asA Vp λi=>
 asI .i64 Vq λp=>
 ALC ⟨fO⟩ aq (λb wQ=>
 STA 2 wQ ⟨b,0,none⟩ i λtA=>
 FOP .f32 (wv d_8 n_9) λTP=>
 ae ai sa #[.float .f32 TP] (λj Jl=>
 iF j λk l=>
 asA k λm=>
 asI .i64 l λq=>
 ALC ⟨fH⟩ db (λc Su=>
 STA 6 Su ⟨c,0,none⟩ m λa=>
 LDA 2 a ⟨b,0,none⟩ λe=>
 LDA 6 a ⟨c,0,none⟩ λf=>
 ae ai xz #[.float .f32 mu] (λn Sw=>
 asA n λg=>
 PIN a ⟨c,0,none⟩ 6 Sw <|
 PIN a ⟨b,0,none⟩ 2 Sw <|
 SIZ (Array.size e) 2 <|
 SIZ (Array.size f) 6 <|
 SIZ (Array.size g) 6 <|
 STA 15 Sw d ⟨(List.set (dN 8 6 g (dN 2 6 f (dN 0 2 e aL))) 14 (.float .f32 kC))⟩ λZa=>
 LDA 15 Za d λo=>
 aa (.tuple ⟨[.agg o,.int .i64 0]⟩) Za) a) Jl) tA) uN) h
def dA.j7(aa:VH):=gg (kds 60 [(1,.f .f32),(2,.f .f32),(6,.p),(8,.f .f32),(9,.f .f32)]) λfr=>dA.J7 aa (gF (ah fr 1)) (gF (ah fr 2)) (gP (ah fr 6)) (gF (ah fr 8)) (gF (ah fr 9))
def dA.J3(aa:VH)(bH:Nat)(mu:Nat)(kC:Nat)(b:Addr)(h:ab):=
 FOP .f32 (wv bH mu) λzf=>
 FFC .f32 zf .f64 λZE=>
 ae ai lQ #[.float .f64 ZE] (λc qz=>
 asF .f64 c λPG=>
 FFC .f64 PG .f32 λa=>
 FOP .f32 (wv zf a) λIN=>
 BIF (f32.format.order IN 1048576000==some .lt) (
 FOP .f32 (wv a 1065353216) λQL=>
 dA.J7 aa mu kC b zf QL qz) (
 dA.J7 aa mu kC b zf a qz)) h
def dA.j3(aa:VH):=gg (kds 60 [(0,.f .f32),(1,.f .f32),(2,.f .f32),(6,.p)]) λfr=>dA.J3 aa (gF (ah fr 0)) (gF (ah fr 1)) (gF (ah fr 2)) (gP (ah fr 6))
def dA.S(bH:Nat)(mu:Nat)(kC:Nat)(aa:VH)(h:ab):=
 ALC ⟨aL⟩ aB (λa e=>
 ae ai eQ #[.float .f32 bH,.float .f32 1077936128,.float .f32 1149239296] (λf b=>
 asB f λg=>
 BIF (!g) (
 STA 15 b ⟨a,0,none⟩ ⟨aL⟩ λc=>
 LDA 15 c ⟨a,0,none⟩ λi=>
 aa (.tuple ⟨[.agg i,.int .i64 2]⟩) c) (
 ae ai eQ #[.float .f32 mu,.float .f32 0,.float .f32 1056964608] (λj d=>
 asB j λHw=>
 BIF (!Hw) (
 STA 15 d ⟨a,0,none⟩ ⟨aL⟩ λkc=>
 LDA 15 kc ⟨a,0,none⟩ λGu=>
 aa (.tuple ⟨[.agg Gu,.int .i64 2]⟩) kc) (
 ae ai eQ #[.float .f32 kC,.float .f32 0,.float .f32 1065353216] (λyM ke=>
 asB yM λk=>
 BIF (!k) (
 STA 15 ke ⟨a,0,none⟩ ⟨aL⟩ λiJ=>
 LDA 15 iJ ⟨a,0,none⟩ λHt=>
 aa (.tuple ⟨[.agg Ht,.int .i64 2]⟩) iJ) (
 dA.J3 aa bH mu kC ⟨a,0,none⟩ ke)) d)) b)) e) h
theorem dA.call{bH:Nat}{mu:Nat}{kC:Nat}{aa:VH}{h:ab}(H:dA.S bH mu kC aa h):ae ai tN #[.float .f32 bH,.float .f32 mu,.float .f32 kC] aa h:=
 qc (Λ:=an [(3,dA.j3 aa),(7,dA.j7 aa)]) Tryz.func165
 (qs qf (qj (dA.j3 aa) qf
 (qs qf (qs qf (qj (dA.j7 aa) qf
 qf)))))
 (qe H)
def pR.S(i_0:Int)(a_1:Nat)(a:Addr)(b:Addr)(c:Addr)(aa:VH)(h:ab):=
 oF .f32 (cell h a) λd=>
 BIF (f32.format.order (f32.nearest i_0) d==some .lt) (
 oF .f32 (cell h b) λe=>
 oF .f32 (cell h a) λf=>
 FOP .f32 (TE (f32.nearest i_0) f) λg=>
 FOP .f32 (od e g) λi=>
 FOP .f32 (CT a_1 i) λj=>
 aa (.float .f32 j) h) (
 oF .f32 (cell h b) λk=>
 oF .f32 (cell h c) λl=>
 FOP .f32 (wv l (f32.nearest i_0)) λm=>
 oF .f32 (cell h c) λAg=>
 oF .f32 (cell h a) λDg=>
 FOP .f32 (wv Ag Dg) λwX=>
 FOP .f32 (TE m wX) λCu=>
 FOP .f32 (od k Cu) λFJ=>
 FOP .f32 (CT a_1 FJ) λuQ=>
 aa (.float .f32 uQ) h)
theorem pR.call{i_0:Int}{a_1:Nat}{a:Addr}{b:Addr}{c:Addr}{aa:VH}{h:ab}(H:pR.S i_0 a_1 a b c aa h):ae ai nU #[.int .i64 i_0,.float .f32 a_1,.pointer (some a),.pointer (some b),.pointer (some c)] aa h:=
 qc (Λ:=an []) Tryz.func238
 qf
 (qe H)
def sN.S(x_0:Array Value)(aa:VH)(h:ab):=
 ALC x_0 aB (λa e=>
 ALC ⟨aL⟩ aB (λb c=>
 LDA 2 c ⟨a,0,none⟩ λf=>
 ae ai kg #[.agg f] (λg i=>
 asA g λj=>
 STA 2 i ⟨a,0,none⟩ j λd=>
 LDA 15 d ⟨a,0,none⟩ λAz=>
 STA 15 d ⟨b,0,none⟩ Az λkc=>
 LDA 15 kc ⟨b,0,none⟩ λGu=>
 aa (.agg Gu) kc) c) e) h
theorem sN.call{x_0:Array Value}{aa:VH}{h:ab}(H:sN.S x_0 aa h):ae ai mf #[.agg x_0] aa h:=
 qc (Λ:=an []) Tryz.func278
 qf
 (qe H)
def dG.B4(aa:VH)(e:(Value×Addr×Addr×Int×Int×Int)->ab->Prop):Value×Addr×Addr×Int×Int×Int->ab->Prop
 | (do_1,x_2,b,n_5,c,a),h=>
 BIF (decide (a<c)) (
 oI .i64 (cell h (x_2.add 1)) λQw=>
 NZ n_5 <|
 oL (cell h x_2) λFC DX Jt=>
 oL (cell h x_2) λFD f HX=>
 bg FD ((Int.tmod (i64.wrap (Qw+a)) n_5)) f λg=>
 oF .f32 (cell h ((Addr.add g ((Int.toNat ((Int.tmod (i64.wrap (Qw+a)) n_5)))*1)))) λi=>
 oc ai do_1 #[.int .i64 a,.float .f32 i] (λTi tz=>
 asF .f32 Ti λIk=>
 PIN h x_2 1 tz <|
 bg FC ((Int.tmod (i64.wrap (Qw+a)) n_5)) DX λj=>
 ST1 tz ((Addr.add j ((Int.toNat ((Int.tmod (i64.wrap (Qw+a)) n_5)))*1))) (.float .f32 Ik) λrM=>
 e (do_1,x_2,b,n_5,c,((i64.wrap (a+1)))) rM) h) (
 LDA 15 h x_2 λk=>
 STA 15 h b k λd=>
 LDA 15 d b λWt=>
 aa (.agg Wt) d)
def dG.g4(fr:Frame):Value×Addr×Addr×Int×Int×Int:=((ah fr 1),(gP (ah fr 2)),(gP (ah fr 4)),(gI (ah fr 5)),(gI (ah fr 14)),(gI (ah fr 15)))
def dG.l4(aa:VH):=gg (kds 41 [(1,.v),(2,.p),(4,.p),(5,.i .i64),(14,.i .i64),(15,.i .i64)]) λfr=>bh (dG.B4 aa) (dG.g4 fr)
def dG.S(x_0:Array Value)(do_1:Value)(aa:VH)(h:ab):=
 ALC x_0 aB (λa d=>
 ALC ⟨aL⟩ aB (λe b=>
 LDA 15 b ⟨a,0,none⟩ λf=>
 ae ai mf #[.agg f] (λg i=>
 asA g λj=>
 STA 15 i ⟨a,0,none⟩ j λc=>
 oL (cell c ⟨a,0,none⟩) λuY rj yg=>
 bh (dG.B4 aa) (do_1,⟨a,0,none⟩,⟨e,0,none⟩,(rj:Int),(rj:Int),0) c) b) d) h
theorem dG.call{x_0:Array Value}{do_1:Value}{aa:VH}{h:ab}(H:dG.S x_0 do_1 aa h):ae ai nW #[.agg x_0,do_1] aa h:=
 qc (Λ:=an [(1000004,dG.l4 aa)]) Tryz.func237
 (qs qf (qs qf (qs qf (qs (qs qf (Rq.block (ql (dG.l4 aa) (qg (g:=dG.g4) (Λ:=λa=>an []) (λ_ _ _=>by kernel_rfl) (λa=>qf))))) qf))))
 (qe H)
def gO.J5(aa:VH)(fg:Nat)(x_3:Addr)(ahc:Addr)(b:Addr)(h:ab):=
 oL (cell h x_3) λUO Pv abf=>
 ALC ⟨IV⟩ au (λa uN=>
 ST1 uN ⟨a,0,none⟩ (.float .f32 (f32.nearest (Pv:Int))) λry=>
 oF .f32 (cell ry ⟨a,0,none⟩) λQM=>
 FOP .f32 (od fg QM) λYj=>
 ALC ⟨IV⟩ au (λc Lk=>
 ST1 Lk ⟨c,0,none⟩ (.float .f32 Yj) λwQ=>
 LDA 15 wQ x_3 λRQ=>
 ae ai nW #[.agg RQ,.func (.func 238) #[] #[.pointer (some ⟨c,0,none⟩),.pointer (some ahc),.pointer (some ⟨a,0,none⟩)]] (λYf CW=>
 asA Yf λd=>
 STA 15 CW b d λDM=>
 LDA 15 DM b λe=>
 aa (.tuple ⟨[.agg e,.int .i64 0]⟩) DM) wQ) ry) h
def gO.j5(aa:VH):=gg (kds 36 [(1,.f .f32),(3,.p),(5,.p),(6,.p)]) λfr=>gO.J5 aa (gF (ah fr 1)) (gP (ah fr 3)) (gP (ah fr 5)) (gP (ah fr 6))
def gO.S(x_0:Array Value)(fg:Nat)(lR:Nat)(aa:VH)(h:ab):=
 ALC x_0 aB (λb f=>
 ALC #[.float .f32 lR] au (λc g=>
 ALC ⟨aL⟩ aB (λa d=>
 LDA 15 d ⟨b,0,none⟩ λi=>
 ae ai mQ #[.agg i] (λj e=>
 asB j λHw=>
 BIF (!Hw) (
 STA 15 e ⟨a,0,none⟩ ⟨aL⟩ λkc=>
 LDA 15 kc ⟨a,0,none⟩ λGu=>
 aa (.tuple ⟨[.agg Gu,.int .i64 1]⟩) kc) (
 ae ai sj #[.float .f32 fg] (λyM ke=>
 asB yM λk=>
 BIF (!k) (
 STA 15 ke ⟨a,0,none⟩ ⟨aL⟩ λiJ=>
 LDA 15 iJ ⟨a,0,none⟩ λHt=>
 aa (.tuple ⟨[.agg Ht,.int .i64 2]⟩) iJ) (
 oF .f32 (cell ke ⟨c,0,none⟩) λzf=>
 ae ai gC #[.float .f32 zf] (λFH jZ=>
 asB FH λl=>
 BIF (!l) (
 STA 15 jZ ⟨a,0,none⟩ ⟨aL⟩ λrM=>
 LDA 15 rM ⟨a,0,none⟩ λm=>
 aa (.tuple ⟨[.agg m,.int .i64 2]⟩) rM) (
 gO.J5 aa fg ⟨b,0,none⟩ ⟨c,0,none⟩ ⟨a,0,none⟩ jZ)) ke)) e)) d) g) f) h
theorem gO.call{x_0:Array Value}{fg:Nat}{lR:Nat}{aa:VH}{h:ab}(H:gO.S x_0 fg lR aa h):ae ai qJ #[.agg x_0,.float .f32 fg,.float .f32 lR] aa h:=
 qc (Λ:=an [(5,gO.j5 aa)]) Tryz.func166
 (qs qf (qj (gO.j5 aa) qf
 qf))
 (qe H)
def wS.S(a_0:Nat)(aa:VH)(h:ab):=
 BIF (!(f32.format.order a_0 1232348160==some .lt)) (
 aa (.int .i64 0) h) (
 FFC .f32 a_0 .f64 λa=>
 ae ai lQ #[.float .f64 a] (λb c=>
 asF .f64 b λd=>
 FIC .f64 d .i64 λe=>
 aa (.int .i64 e) c) h)
theorem wS.call{a_0:Nat}{aa:VH}{h:ab}(H:wS.S a_0 aa h):ae ai si #[.float .f32 a_0] aa h:=
 qc (Λ:=an []) Tryz.func168
 qf
 (qe H)
def sT.S(aF:Option Addr)(ax aN:Nat)(aa:VH)(h:ab):=
 aa (.int .i64 (ax:Int)) h
theorem sT.call{aF:Option Addr}{ax aN:Nat}{aa:VH}{h:ab}(H:sT.S aF ax aN aa h):ae ai pI #[.slice aF ax aN] aa h:=
 qc (Λ:=an []) Tryz.func239
 qf
 (qe H)
def BU.S(ug:Nat)(aa:VH)(h:ab):=
 ALC ⟨fH⟩ db (λa d=>
 FOP .f32 (wv 1065353216 ug) λb=>
 SIZ (Array.size (⟨[.float .f32 b,.float .f32 ug,.float .f32 0]⟩:Array Value)) 3 <|
 STA 6 d ⟨a,0,none⟩ ⟨[.int .i64 1,.float .f32 b,.float .f32 ug,.float .f32 0,.float .f32 0,.float .f32 0]⟩ λc=>
 LDA 6 c ⟨a,0,none⟩ λe=>
 aa (.agg e) c) h
theorem BU.call{ug:Nat}{aa:VH}{h:ab}(H:BU.S ug aa h):ae ai sd #[.float .f32 ug] aa h:=
 qc (Λ:=an []) Tryz.func241
 qf
 (qe H)
def bJ.J13(i:(Addr×Bool×Addr×Option Addr×Nat×Nat×Int×Int)->ab->Prop)(aa:VH)(j:Addr)(nG:Bool)(nI:Addr)(ard:Int)(k:Option Addr)(l:Nat)(m:Nat)(n:Int)(o:Int)(h:ab):=
 ae ai jX #[.int .i64 ard] (λr s=>
 iF r λt u=>
 asA t λv=>
 asI .i64 u λR=>
 ALC ⟨fO⟩ aq (λc Zb=>
 STA 2 Zb ⟨c,0,none⟩ v λw=>
 ae ai jX #[.int .i64 ard] (λYg Hc=>
 iF Yg λx y=>
 asA x λz=>
 asI .i64 y λS=>
 ALC ⟨fO⟩ aq (λa A=>
 STA 2 A ⟨a,0,none⟩ z λyH=>
 oL (cell yH nI) λaeB aeC ain=>
 LDA 2 yH ⟨c,0,none⟩ λe=>
 oL (cell yH (nI.add 1)) λXF XH XG=>
 LDA 2 yH ⟨a,0,none⟩ λb=>
 (SIZ (Array.size e) 2 <|
 ALC ⟨(dN 0 2 e [.slice none 0 0,.int .i64 0])⟩ aq (λq d=>
 PIN yH ⟨a,0,none⟩ 2 d <|
 PIN yH (nI.add 1) 1 d <|
 PIN yH nI 1 d <|
 (iA ai (Builtin.append_ #[bG,bG] bG #[.slice aeB aeC ain,.slice (some ⟨q,0,none⟩) 1 1]) (λB KU=>
 asL B λaxG axI axH=>
 PIN yH ⟨a,0,none⟩ 2 KU <|
 PIN yH (nI.add 1) 1 KU <|
 SIZ (Array.size b) 2 <|
 ALC ⟨(dN 0 2 b [.slice none 0 0,.int .i64 0])⟩ aq (λC TJ=>
 PIN yH (nI.add 1) 1 TJ <|
 PIN yH ⟨c,0,none⟩ 2 TJ <|
 PIN yH nI 1 TJ <|
 iA ai (Builtin.append_ #[bG,bG] bG #[.slice XF XH XG,.slice (some ⟨C,0,none⟩) 1 1]) (λD E=>
 asL D λaxJ axL axK=>
 ST1 E nI (.slice axG axI axH) λF=>
 ST1 F (nI.add 1) (.slice axJ axL axK) λG=>
 i (j,nG,nI,k,l,m,n,((i64.wrap (o+1)))) G) TJ) KU) d)∧(SIZ (Array.size b) 2 <|
 ALC ⟨(dN 0 2 b [.slice none 0 0,.int .i64 0])⟩ aq (λH TK=>
 PIN yH (nI.add 1) 1 TK <|
 PIN yH ⟨c,0,none⟩ 2 TK <|
 PIN yH nI 1 TK <|
 iA ai (Builtin.append_ #[bG,bG] bG #[.slice aeB aeC ain,.slice (some ⟨q,0,none⟩) 1 1]) (λI p=>
 asL I λaxM axO axN=>
 PIN yH ⟨a,0,none⟩ 2 p <|
 PIN yH (nI.add 1) 1 p <|
 iA ai (Builtin.append_ #[bG,bG] bG #[.slice XF XH XG,.slice (some ⟨H,0,none⟩) 1 1]) (λJ K=>
 asL J λaxP axR axQ=>
 ST1 K nI (.slice axM axO axN) λL=>
 ST1 L (nI.add 1) (.slice axP axR axQ) λM=>
 i (j,nG,nI,k,l,m,n,((i64.wrap (o+1)))) M) p) TK) d)) yH)∧(SIZ (Array.size b) 2 <|
 ALC ⟨(dN 0 2 b [.slice none 0 0,.int .i64 0])⟩ aq (λN f=>
 PIN yH (nI.add 1) 1 f <|
 PIN yH ⟨c,0,none⟩ 2 f <|
 PIN yH nI 1 f <|
 SIZ (Array.size e) 2 <|
 ALC ⟨(dN 0 2 e [.slice none 0 0,.int .i64 0])⟩ aq (λO g=>
 PIN yH ⟨a,0,none⟩ 2 g <|
 PIN yH (nI.add 1) 1 g <|
 PIN yH nI 1 g <|
 iA ai (Builtin.append_ #[bG,bG] bG #[.slice aeB aeC ain,.slice (some ⟨O,0,none⟩) 1 1]) (λP Mj=>
 asL P λaqO aqQ aqP=>
 PIN yH ⟨a,0,none⟩ 2 Mj <|
 PIN yH (nI.add 1) 1 Mj <|
 iA ai (Builtin.append_ #[bG,bG] bG #[.slice XF XH XG,.slice (some ⟨N,0,none⟩) 1 1]) (λQ Pd=>
 asL Q λaqR aqT aqS=>
 ST1 Pd nI (.slice aqO aqQ aqP) λSp=>
 ST1 Sp (nI.add 1) (.slice aqR aqT aqS) λadz=>
 i (j,nG,nI,k,l,m,n,((i64.wrap (o+1)))) adz) Mj) g) f) yH)) Hc) w) s) h
def bJ.j13(a:(Addr×Bool×Addr×Option Addr×Nat×Nat×Int×Int)->ab->Prop)(aa:VH):=gg (kds 101 [(10,.p),(12,.b),(15,.p),(17,.i .i64),(60,.l),(61,.i .i64),(62,.i .i64)]) λfr=>bJ.J13 a aa (gP (ah fr 10)) (gB (ah fr 12)) (gP (ah fr 15)) (gI (ah fr 17)) (gLb (ah fr 60)) (gLl (ah fr 60)) (gLc (ah fr 60)) (gI (ah fr 61)) (gI (ah fr 62))
def bJ.B9(aa:VH)(g:(Addr×Bool×Addr×Option Addr×Nat×Nat×Int×Int)->ab->Prop):Addr×Bool×Addr×Option Addr×Nat×Nat×Int×Int->ab->Prop
 | (a,nG,nI,c,d,i,e,b),h=>
 BIF (decide (b<e)) (
 bg c b d λj=>
 oI .i64 (cell h ((Addr.add j (b.toNat*1)))) λf=>
 BIF (!nG) (
 STA 13 h a ⟨aH⟩ λDM=>
 LDA 13 DM a λk=>
 aa (.tuple ⟨[.agg k,.int .i64 2]⟩) DM) (
 ae ai dY #[.int .i64 f,.int .i64 1,.int .i64 1024] (λl KT=>
 asB l λm=>
 BIF (!m) (
 STA 13 KT a ⟨aH⟩ λSu=>
 LDA 13 Su a λn=>
 aa (.tuple ⟨[.agg n,.int .i64 2]⟩) Su) (
 bJ.J13 g aa a nG nI f c d i e b KT)) h)) (
 BIF (!nG) (
 STA 13 h a ⟨aH⟩ λSv=>
 LDA 13 Sv a λo=>
 aa (.tuple ⟨[.agg o,.int .i64 2]⟩) Sv) (
 LDA 13 h nI λp=>
 STA 13 h a p λSw=>
 LDA 13 Sw a λq=>
 aa (.tuple ⟨[.agg q,.int .i64 0]⟩) Sw))
def bJ.g9(fr:Frame):Addr×Bool×Addr×Option Addr×Nat×Nat×Int×Int:=((gP (ah fr 10)),(gB (ah fr 12)),(gP (ah fr 15)),(gLb (ah fr 60)),(gLl (ah fr 60)),(gLc (ah fr 60)),(gI (ah fr 61)),(gI (ah fr 62)))
def bJ.l9(aa:VH):=gg (kds 101 [(10,.p),(12,.b),(15,.p),(60,.l),(61,.i .i64),(62,.i .i64)]) λfr=>bh (bJ.B9 aa) (bJ.g9 fr)
def bJ.B3(aa:VH)(f:(Option Addr×Nat×Nat×Option Addr×Nat×Nat×Bool×Nat×Nat×Addr×Bool×Option Addr×Nat×Nat×Int×Int)->ab->Prop):Option Addr×Nat×Nat×Option Addr×Nat×Nat×Bool×Nat×Nat×Addr×Bool×Option Addr×Nat×Nat×Int×Int->ab->Prop
 | (bZ,bN,cw,cx,bY,cI,gH,fN,fI,b,nG,c,d,g,e,a),h=>
 BIF (decide (a<e)) (
 bg c a d λk=>
 oF .f32 (cell h ((Addr.add k (a.toNat*1)))) λPG=>
 BIF nG (
 ae ai eQ #[.float .f32 PG,.float .f32 3212836864,.float .f32 1065353216] (λl m=>
 asB l λn=>
 f (bZ,bN,cw,cx,bY,cI,gH,fN,fI,b,n,c,d,g,e,((i64.wrap (a+1)))) m) h) (
 f (bZ,bN,cw,cx,bY,cI,gH,fN,fI,b,false,c,d,g,e,((i64.wrap (a+1)))) h)) (
 ae ai eo #[.slice cx bY cI] (λo wP=>
 asL o λSO SP abg=>
 ae ai sd #[.float .f32 fN] (λVp GD=>
 asA Vp λi=>
 SIZ (Array.size i) 6 <|
 ALC ⟨aH⟩ av (λj Lk=>
 STA 13 Lk ⟨j,0,none⟩ ⟨(List.set (List.set (List.set (List.set (dN 3 6 i [.slice none 0 0,.slice none 0 0,.slice SO SP abg,.int .i64 0,.float .f32 0,.float .f32 0,.float .f32 0,.float .f32 0,.float .f32 0,.bool false,.float .f32 0,.float .f32 0,.float .f32 0]) 9 (.bool gH)) 10 (.float .f32 fI)) 11 (.float .f32 1061158912)) 12 (.float .f32 3200253952))⟩ λwQ=>
 bh (bJ.B9 aa) (b,nG,⟨j,0,none⟩,bZ,bN,cw,(bN:Int),0) wQ) GD) wP) h)
def bJ.g3(fr:Frame):Option Addr×Nat×Nat×Option Addr×Nat×Nat×Bool×Nat×Nat×Addr×Bool×Option Addr×Nat×Nat×Int×Int:=((gLb (ah fr 0)),(gLl (ah fr 0)),(gLc (ah fr 0)),(gLb (ah fr 1)),(gLl (ah fr 1)),(gLc (ah fr 1)),(gB (ah fr 2)),(gF (ah fr 3)),(gF (ah fr 4)),(gP (ah fr 10)),(gB (ah fr 12)),(gLb (ah fr 41)),(gLl (ah fr 41)),(gLc (ah fr 41)),(gI (ah fr 42)),(gI (ah fr 43)))
def bJ.l3(aa:VH):=gg (kds 101 [(0,.l),(1,.l),(2,.b),(3,.f .f32),(4,.f .f32),(10,.p),(12,.b),(41,.l),(42,.i .i64),(43,.i .i64)]) λfr=>bh (bJ.B3 aa) (bJ.g3 fr)
def bJ.J2(aa:VH)(bZ:Option Addr)(bN:Nat)(cw:Nat)(cx:Option Addr)(bY:Nat)(cI:Nat)(gH:Bool)(fN:Nat)(fI:Nat)(a:Addr)(nG:Bool)(h:ab):=
 bh (bJ.B3 aa) (bZ,bN,cw,cx,bY,cI,gH,fN,fI,a,nG,cx,bY,cI,(bY:Int),0) h
def bJ.j2(aa:VH):=gg (kds 101 [(0,.l),(1,.l),(2,.b),(3,.f .f32),(4,.f .f32),(10,.p),(12,.b)]) λfr=>bJ.J2 aa (gLb (ah fr 0)) (gLl (ah fr 0)) (gLc (ah fr 0)) (gLb (ah fr 1)) (gLl (ah fr 1)) (gLc (ah fr 1)) (gB (ah fr 2)) (gF (ah fr 3)) (gF (ah fr 4)) (gP (ah fr 10)) (gB (ah fr 12))
def bJ.S(bZ:Option Addr)(bN cw:Nat)(cx:Option Addr)(bY cI:Nat)(gH:Bool)(fN:Nat)(fI:Nat)(aa:VH)(h:ab):=
 ALC ⟨aH⟩ av (λa c=>
 ae ai pI #[.slice bZ bN cw] (λd e=>
 asI .i64 d λf=>
 ae ai dY #[.int .i64 f,.int .i64 1,.int .i64 3] (λg b=>
 asB g λi=>
 BIF i (
 BIF (((bY:Int)==(i64.wrap ((bN:Int)-1)))) (
 ae ai nK #[.float .f32 fN] (λyM ke=>
 asB yM λj=>
 BIF j (
 ae ai eQ #[.float .f32 fI,.float .f32 0,.float .f32 1065353216] (λk oZ=>
 asB k λWz=>
 bJ.J2 aa bZ bN cw cx bY cI gH fN fI ⟨a,0,none⟩ Wz oZ) ke) (
 bJ.J2 aa bZ bN cw cx bY cI gH fN fI ⟨a,0,none⟩ false ke)) b) (
 bJ.J2 aa bZ bN cw cx bY cI gH fN fI ⟨a,0,none⟩ false b)) (
 bJ.J2 aa bZ bN cw cx bY cI gH fN fI ⟨a,0,none⟩ false b)) e) c) h
theorem bJ.call{bZ:Option Addr}{bN cw:Nat}{cx:Option Addr}{bY cI:Nat}{gH:Bool}{fN:Nat}{fI:Nat}{aa:VH}{h:ab}(H:bJ.S bZ bN cw cx bY cI gH fN fI aa h):ae ai xy #[.slice bZ bN cw,.slice cx bY cI,.bool gH,.float .f32 fN,.float .f32 fI] aa h:=
 qc (Λ:=an [(2,bJ.j2 aa),(1000003,bJ.l3 aa),(1000009,bJ.l9 aa)]) Tryz.func167
 (qs qf (qj (bJ.j2 aa) qf
 (qs (qs qf (Rq.block (ql (bJ.l3 aa) (qg (g:=bJ.g3) (Λ:=λb=>an []) (λ_ _ _=>by kernel_rfl) (λb=>qf))))) (qs qf (qs (qs qf (Rq.block (ql (bJ.l9 aa) (qg (g:=bJ.g9) (Λ:=λa=>an [(13,bJ.j13 a aa)]) (λ_ _ _=>by kernel_rfl) (λa=>(qs qf (qs qf (qs (Rq.block (qs qf (qj (bJ.j13 a aa) qf
 qf))) qf)))))))) qf)))))
 (qe H)
def kW.J3(aa:VH)(bH:Int)(fg:Nat)(i:Nat)(lg:Nat)(kt:Nat)(c:Addr)(h:ab):=
 FOP .f32 (f32.format.mul (f32.nearest bH) fg) λj=>
 FFC .f32 j .f64 λKk=>
 ae ai lQ #[.float .f64 Kk] (λVq DL=>
 asF .f64 Vq λWe=>
 FIC .f64 We .i64 λZu=>
 lK ai (builtin .max #[cp,cp] cp #[false,true] #[.int .i64 Zu,.int .i64 1]) (λWd tA=>
 asI .i64 Wd λk=>
 lK ai (builtin .min #[cp,cp] cp #[false,false] #[.int .i64 k,.int .i64 ((i64.wrap (bH-1)))]) (λl Jl=>
 asI .i64 l λd=>
 ae ai jX #[.int .i64 (i64.wrap (bH-d))] (λm TF=>
 iF m λn o=>
 asA n λp=>
 asI .i64 o λw=>
 ALC ⟨fO⟩ aq (λa TG=>
 STA 2 TG ⟨a,0,none⟩ p λq=>
 ae ai jX #[.int .i64 d] (λr Qg=>
 iF r λs t=>
 asA s λu=>
 asI .i64 t λx=>
 ALC ⟨fO⟩ aq (λb JZ=>
 STA 2 JZ ⟨b,0,none⟩ u λUt=>
 LDA 2 Ut ⟨a,0,none⟩ λe=>
 LDA 2 Ut ⟨b,0,none⟩ λf=>
 ae ai sd #[.float .f32 i] (λYg Hc=>
 asA Yg λg=>
 PIN Ut ⟨b,0,none⟩ 2 Hc <|
 PIN Ut ⟨a,0,none⟩ 2 Hc <|
 SIZ (Array.size e) 2 <|
 SIZ (Array.size f) 2 <|
 SIZ (Array.size g) 6 <|
 STA 12 Hc c ⟨(List.set (List.set (dN 4 6 g (dN 2 2 f (dN 0 2 e cH))) 10 (.float .f32 kt)) 11 (.float .f32 lg))⟩ λPe=>
 LDA 12 Pe c λv=>
 aa (.tuple ⟨[.agg v,.int .i64 0]⟩) Pe) Ut) Qg) q) TF) Jl) tA) DL) h
def kW.j3(aa:VH):=gg (kds 72 [(0,.i .i64),(1,.f .f32),(2,.f .f32),(3,.f .f32),(4,.f .f32),(10,.p)]) λfr=>kW.J3 aa (gI (ah fr 0)) (gF (ah fr 1)) (gF (ah fr 2)) (gF (ah fr 3)) (gF (ah fr 4)) (gP (ah fr 10))
def kW.S(bH:Int)(fg:Nat)(b:Nat)(lg:Nat)(kt:Nat)(aa:VH)(h:ab):=
 ALC ⟨cH⟩ dc (λa g=>
 ae ai dY #[.int .i64 bH,.int .i64 2,.int .i64 1024] (λi c=>
 asB i λj=>
 BIF (!j) (
 STA 12 c ⟨a,0,none⟩ ⟨cH⟩ λd=>
 LDA 12 d ⟨a,0,none⟩ λk=>
 aa (.tuple ⟨[.agg k,.int .i64 2]⟩) d) (
 ae ai eQ #[.float .f32 fg,.float .f32 0,.float .f32 1065353216] (λl e=>
 asB l λHw=>
 BIF (!Hw) (
 STA 12 e ⟨a,0,none⟩ ⟨cH⟩ λkc=>
 LDA 12 kc ⟨a,0,none⟩ λGu=>
 aa (.tuple ⟨[.agg Gu,.int .i64 2]⟩) kc) (
 ae ai nK #[.float .f32 b] (λyM ke=>
 asB yM λm=>
 BIF (!m) (
 STA 12 ke ⟨a,0,none⟩ ⟨cH⟩ λiJ=>
 LDA 12 iJ ⟨a,0,none⟩ λHt=>
 aa (.tuple ⟨[.agg Ht,.int .i64 2]⟩) iJ) (
 ae ai eQ #[.float .f32 lg,.float .f32 0,.float .f32 1065353216] (λTi tz=>
 asB Ti λn=>
 BIF (!n) (
 STA 12 tz ⟨a,0,none⟩ ⟨cH⟩ λqz=>
 LDA 12 qz ⟨a,0,none⟩ λo=>
 aa (.tuple ⟨[.agg o,.int .i64 2]⟩) qz) (
 ae ai gC #[.float .f32 kt] (λp f=>
 asB p λq=>
 BIF (!q) (
 STA 12 f ⟨a,0,none⟩ ⟨cH⟩ λwO=>
 LDA 12 wO ⟨a,0,none⟩ λr=>
 aa (.tuple ⟨[.agg r,.int .i64 2]⟩) wO) (
 kW.J3 aa bH fg b lg kt ⟨a,0,none⟩ f)) tz)) ke)) e)) c)) g) h
theorem kW.call{bH:Int}{fg:Nat}{a:Nat}{lg:Nat}{kt:Nat}{aa:VH}{h:ab}(H:kW.S bH fg a lg kt aa h):ae ai zx #[.int .i64 bH,.float .f32 fg,.float .f32 a,.float .f32 lg,.float .f32 kt] aa h:=
 qc (Λ:=an [(3,kW.j3 aa)]) Tryz.func169
 (qs qf (qj (kW.j3 aa) qf
 qf))
 (qe H)
def de.J19(aa:VH)(a:Addr)(v_6:Addr)(ala:Int)(h:ab):=
 BIF (ala != 0) (
 STA 45 h a ⟨aW⟩ λb=>
 LDA 45 b a λc=>
 aa (.tuple ⟨[.agg c,.int .i64 2]⟩) b) (
 LDA 45 h v_6 λd=>
 STA 45 h a d λOi=>
 LDA 45 Oi a λe=>
 aa (.tuple ⟨[.agg e,.int .i64 0]⟩) Oi)
def de.j19(aa:VH):=gg (kds 109 [(4,.p),(6,.p),(9,.i .i64)]) λfr=>de.J19 aa (gP (ah fr 4)) (gP (ah fr 6)) (gI (ah fr 9))
def de.J17(aa:VH)(e_3:Addr)(b:Addr)(v_6:Addr)(x_7:Addr)(afn:Nat)(aiG:Bool)(aph:Nat)(h:ab):=
 oF .f32 (cell h (e_3.add 5)) λc=>
 ST1 h (v_6.add 4) (.float .f32 c) λLl=>
 oF .f32 (cell Ll (x_7.add 2)) λd=>
 oF .f32 (cell Ll (x_7.add 3)) λe=>
 FOP .f32 (TE afn aph) λf=>
 PIN Ll (x_7.add 3) 1 Ll <|
 PIN Ll (x_7.add 2) 1 Ll <|
 ae ai si #[.float .f32 f] (λg Uu=>
 asI .i64 g λi=>
 PIN Ll (x_7.add 3) 1 Uu <|
 PIN Ll (x_7.add 2) 1 Uu <|
 ALC ⟨[.int .i64 i]⟩ cp (λj a=>
 PIN Ll (x_7.add 3) 1 a <|
 PIN Ll (x_7.add 2) 1 a <|
 ae ai xy #[.slice (some ⟨j,0,none⟩) 1 1,.slice none 0 0,.bool aiG,.float .f32 d,.float .f32 e] (λk l=>
 iF k λm n=>
 asA m λo=>
 asI .i64 n λp=>
 STA 13 l (v_6.add 20) o λq=>
 de.J19 aa b v_6 p q) a) Uu) Ll
def de.j17(aa:VH):=gg (kds 109 [(3,.p),(4,.p),(6,.p),(7,.p),(8,.f .f32),(10,.b),(11,.f .f32)]) λfr=>de.J17 aa (gP (ah fr 3)) (gP (ah fr 4)) (gP (ah fr 6)) (gP (ah fr 7)) (gF (ah fr 8)) (gB (ah fr 10)) (gF (ah fr 11))
def de.S(s_0:Array Value)(e_1:Array Value)(aa:VH)(h:ab):=
 ALC s_0 bt (λg l=>
 ALC e_1 bq (λc m=>
 ALC ⟨aW⟩ ao (λd f=>
 oI .i64 (cell f ⟨c,2,none⟩) λn=>
 oI .i64 (cell f ⟨c,3,none⟩) λo=>
 oI .i64 (cell f ⟨c,0,none⟩) λp=>
 ALC ⟨aW⟩ ao (λa kc=>
 STA 45 kc ⟨a,0,none⟩ ⟨[.int .i64 n,.int .i64 o,.int .i64 p,.bool false,.float .f32 0,.slice none 0 0,.int .i64 0,.int .i64 0,.float .f32 0,.float .f32 0,.float .f32 0,.float .f32 0,.float .f32 0,.int .i64 0,.float .f32 0,.float .f32 0,.float .f32 0,.float .f32 0,.float .f32 0,.float .f32 0,.slice none 0 0,.slice none 0 0,.slice none 0 0,.int .i64 0,.float .f32 0,.float .f32 0,.float .f32 0,.float .f32 0,.float .f32 0,.bool false,.float .f32 0,.float .f32 0,.float .f32 0,.slice none 0 0,.int .i64 0,.slice none 0 0,.int .i64 0,.int .i64 0,.float .f32 0,.float .f32 0,.float .f32 0,.float .f32 0,.float .f32 0,.float .f32 0,.float .f32 0]⟩ λiG=>
 oL (cell iG ⟨g,4,none⟩) λHV HW Mw=>
 oI .i64 (cell iG ⟨c,3,none⟩) λi=>
 bg HV i HW λq=>
 LDA 5 iG ((Addr.add q (i.toNat*5))) λIK=>
 ALC ⟨gY⟩ bk (λDK jn=>
 STA 5 jn ⟨DK,0,none⟩ IK λtz=>
 LDA 3 tz ⟨g,1,none⟩ λHu=>
 oI .i64 (cell tz ⟨c,4,none⟩) λr=>
 oF .f32 (cell tz ⟨g,0,none⟩) λPG=>
 ae ai qI #[.agg Hu,.int .i64 r,.float .f32 PG] (λs b=>
 iF s λPF t=>
 asF .f32 PF λNq=>
 asI .i64 t λu=>
 BIF (u != 0) (
 STA 45 b ⟨d,0,none⟩ ⟨aW⟩ λry=>
 LDA 45 ry ⟨d,0,none⟩ λv=>
 aa (.tuple ⟨[.agg v,.int .i64 2]⟩) ry) (
 oI .i64 (cell b ⟨DK,1,none⟩) λj=>
 BIF (j==1) (
 oF .f32 (cell b ⟨DK,2,none⟩) λWe=>
 oF .f32 (cell b ⟨DK,3,none⟩) λw=>
 ae ai tN #[.float .f32 Nq,.float .f32 We,.float .f32 w] (λWd tA=>
 iF Wd λYf x=>
 asA Yf λy=>
 asI .i64 x λk=>
 STA 15 tA ⟨a,5,none⟩ y λIL=>
 BIF (k==0) (
 LDA 15 IL ⟨a,5,none⟩ λz=>
 oF .f32 (cell IL ⟨DK,4,none⟩) λA=>
 oF .f32 (cell IL ⟨c,5,none⟩) λB=>
 ae ai qJ #[.agg z,.float .f32 A,.float .f32 B] (λC D=>
 iF C λE F=>
 asA E λG=>
 asI .i64 F λH=>
 STA 15 D ⟨a,5,none⟩ G λQg=>
 de.J19 aa ⟨d,0,none⟩ ⟨a,0,none⟩ H Qg) IL) (
 de.J19 aa ⟨d,0,none⟩ ⟨a,0,none⟩ k IL)) b) (
 BIF (j==2) (
 oF .f32 (cell b ⟨DK,4,none⟩) λZG=>
 BIF (f32.format.order ZG 1065353216==some .eq) (
 de.J17 aa ⟨c,0,none⟩ ⟨d,0,none⟩ ⟨a,0,none⟩ ⟨DK,0,none⟩ Nq (f32.format.order ZG 1065353216==some .eq) 1073741824 b) (
 de.J17 aa ⟨c,0,none⟩ ⟨d,0,none⟩ ⟨a,0,none⟩ ⟨DK,0,none⟩ Nq (f32.format.order ZG 1065353216==some .eq) 1082130432 b)) (
 oF .f32 (cell b ⟨c,5,none⟩) λI=>
 ST1 b ⟨a,4,none⟩ (.float .f32 I) λe=>
 oF .f32 (cell e ⟨DK,2,none⟩) λJ=>
 oF .f32 (cell e ⟨DK,3,none⟩) λK=>
 oF .f32 (cell e ⟨DK,4,none⟩) λL=>
 ae ai si #[.float .f32 Nq] (λM Zb=>
 asI .i64 M λN=>
 PIN e ⟨DK,4,none⟩ 1 Zb <|
 PIN e ⟨DK,3,none⟩ 1 Zb <|
 PIN e ⟨DK,2,none⟩ 1 Zb <|
 ae ai zx #[.int .i64 N,.float .f32 1040187392,.float .f32 J,.float .f32 K,.float .f32 L] (λYg Hc=>
 iF Yg λO P=>
 asA O λQ=>
 asI .i64 P λR=>
 STA 12 Hc ⟨a,33,none⟩ Q λTH=>
 de.J19 aa ⟨d,0,none⟩ ⟨a,0,none⟩ R TH) Zb) e)))) tz) iG) f) m) l) h
theorem de.call{s_0:Array Value}{e_1:Array Value}{aa:VH}{h:ab}(H:de.S s_0 e_1 aa h):ae ai nB #[.agg s_0,.agg e_1] aa h:=
 qc (Λ:=an [(19,de.j19 aa),(17,de.j17 aa)]) Tryz.func99
 (qs qf (qs qf (qs qf (qs qf (qs qf (qj (de.j19 aa) (qs qf (Rq.block (qs qf (Rq.cond qf (qs qf (Rq.cond (qs qf (qj (de.j17 aa) qf
 qf)) qf))))))
 qf))))))
 (qe H)
end Go.Sx
