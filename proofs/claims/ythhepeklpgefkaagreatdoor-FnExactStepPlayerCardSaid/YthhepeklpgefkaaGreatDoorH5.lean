/- Lemmas. -/
import Derived.Test.YthhepeklpgefkaaGreatDoorTab
set_option linter.unusedVariables false
set_option linter.unusedSimpArgs false
namespace Go.Sx
open FloatKind (f32 f64)
open IntKind (i64)
open Go.Proofs
set_option maxRecDepth 100000
def wc.S(a_0:Array Value)(k_1:Int)(aa:VH)(h:ab):=
 ALC a_0 ey (λb a=>
 oL (cell a ⟨b,2,none⟩) λKa Hd c=>
 ae ai gT #[.slice Ka Hd c,.int .i64 k_1] (λd e=>
 asI .i64 d λf=>
 aa (.int .i64 f) e) a) h
theorem wc.call{a_0:Array Value}{k_1:Int}{aa:VH}{h:ab}(H:wc.S a_0 k_1 aa h):ae ai su #[.agg a_0,.int .i64 k_1] aa h:=
 qc (Λ:=an []) Tryz.func74
 qf
 (qe H)
def ic.B4(aa:VH)(b:(Int×ByteArray)->ab->Prop):Int×ByteArray->ab->Prop
 | (k_0,mI),h=>
 BIF ((decide (0<k_0))) (
 NZ 10 <|
 ALC ⟨[.int .u8 ((IntKind.u8.wrap ((i64.wrap (48+(Int.tmod k_0 10))))))]⟩ YK (λc d=>
 iA ai (convert Gn Dn (.slice (some ⟨c,0,none⟩) 1 1)) (λe f=>
 asS e λa=>
 ((ByteArray.size a+ByteArray.size mI:Nat):Int)≤9223372036854775807∧(
 NZ 10 <|
 b (((i64.wrap (Int.tdiv k_0 10))),(a++mI)) f)) d) h) (
 ((ByteArray.size (⟨#[109]⟩:ByteArray)+ByteArray.size mI:Nat):Int)≤9223372036854775807∧(
 aa (.string ((⟨#[109]⟩:ByteArray)++mI)) h))
def ic.g4(fr:Frame):Int×ByteArray:=((gI (ah fr 0)),(gS (ah fr 3)))
def ic.l4(aa:VH):=gg (kds 20 [(0,.i .i64),(3,.s)]) λfr=>bh (ic.B4 aa) (ic.g4 fr)
def ic.S(k_0:Int)(aa:VH)(h:ab):=
 BIF ((decide (k_0≤0))) (
 aa (.string (⟨#[109,48]⟩:ByteArray)) h) (
 bh (ic.B4 aa) (k_0,(⟨#[]⟩:ByteArray)) h)
theorem ic.call{k_0:Int}{aa:VH}{h:ab}(H:ic.S k_0 aa h):ae ai qv #[.int .i64 k_0] aa h:=
 qc (Λ:=an [(1000004,ic.l4 aa)]) Tryz.func141
 (qs qf (qs qf (qs qf (qs (Rq.block (ql (ic.l4 aa) (qg (g:=ic.g4) (Λ:=λa=>an []) (λ_ _ _=>by kernel_rfl) (λa=>qf)))) qf))))
 (qe H)
def dJ.B2(aa:VH)(a:(Option Addr×Nat×Nat×Int×Int)->ab->Prop):Option Addr×Nat×Nat×Int×Int->ab->Prop
 | (aQ,aD,bC,k_1,i_5),h=>
 BIF ((decide (i_5<(aD:Int)))) (
 ae ai qv #[.int .i64 k_1] (λb c=>
 asS b λd=>
 bg aQ i_5 aD λe=>
 ST1 c ((Addr.add e (i_5.toNat*5))) (.string d) λf=>
 bg aQ i_5 aD λg=>
 ST1 f ((Addr.add ((Addr.add g (i_5.toNat*5))) 1)) (.int .i64 ((i64.wrap (k_1+1)))) λi=>
 bg aQ i_5 aD λj=>
 ST1 i ((Addr.add ((Addr.add j (i_5.toNat*5))) 2)) (.float .f32 ((f32.nearest ((i64.wrap ((i64.wrap (k_1+1))+1)))))) λkc=>
 bg aQ i_5 aD λOo=>
 ST1 kc ((Addr.add ((Addr.add Oo (i_5.toNat*5))) 3)) (.float .f32 ((f32.nearest ((i64.wrap ((i64.wrap ((i64.wrap (k_1+1))+1))+1)))))) λgf=>
 bg aQ i_5 aD λk=>
 ST1 gf ((Addr.add ((Addr.add k (i_5.toNat*5))) 4)) (.float .f32 ((f32.nearest ((i64.wrap ((i64.wrap ((i64.wrap ((i64.wrap (k_1+1))+1))+1))+1)))))) λkB=>
 a (aQ,aD,bC,((i64.wrap ((i64.wrap ((i64.wrap ((i64.wrap ((i64.wrap (k_1+1))+1))+1))+1))+1))),((i64.wrap (i_5+1)))) kB) h) (
 aa (.int .i64 k_1) h)
def dJ.g2(fr:Frame):Option Addr×Nat×Nat×Int×Int:=((gLb (ah fr 0)),(gLl (ah fr 0)),(gLc (ah fr 0)),(gI (ah fr 1)),(gI (ah fr 5)))
def dJ.l2(aa:VH):=gg (kds 52 [(0,.l),(1,.i .i64),(5,.i .i64)]) λfr=>bh (dJ.B2 aa) (dJ.g2 fr)
def dJ.S(aQ:Option Addr)(aD bC:Nat)(k_1:Int)(aa:VH)(h:ab):=
 bh (dJ.B2 aa) (aQ,aD,bC,k_1,0) h
theorem dJ.call{aQ:Option Addr}{aD bC:Nat}{k_1:Int}{aa:VH}{h:ab}(H:dJ.S aQ aD bC k_1 aa h):ae ai mU #[.slice aQ aD bC,.int .i64 k_1] aa h:=
 qc (Λ:=an [(1000002,dJ.l2 aa)]) Tryz.func75
 (qs qf (qs (qs qf (Rq.block (ql (dJ.l2 aa) (qg (g:=dJ.g2) (Λ:=λa=>an []) (λ_ _ _=>by kernel_rfl) (λa=>qf))))) qf))
 (qe H)
def fW.B2(aa:VH)(a:(Option Addr×Nat×Nat×Int×Int)->ab->Prop):Option Addr×Nat×Nat×Int×Int->ab->Prop
 | (aQ,aD,bC,k_1,i_5),h=>
 BIF ((decide (i_5<(aD:Int)))) (
 bg aQ i_5 aD λb=>
 ST1 h ((Addr.add b (i_5.toNat*6))) (.int .i64 k_1) λc=>
 bg aQ i_5 aD λd=>
 ST1 c ((Addr.add ((Addr.add d (i_5.toNat*6))) 1)) (.int .i64 ((i64.wrap (k_1+1)))) λe=>
 bg aQ i_5 aD λf=>
 ST1 e ((Addr.add ((Addr.add f (i_5.toNat*6))) 2)) (.int .i64 ((i64.wrap ((i64.wrap (k_1+1))+1)))) λg=>
 bg aQ i_5 aD λi=>
 ST1 g ((Addr.add ((Addr.add i (i_5.toNat*6))) 3)) (.int .i64 ((i64.wrap ((i64.wrap ((i64.wrap (k_1+1))+1))+1)))) λgd=>
 bg aQ i_5 aD λWc=>
 ST1 gd ((Addr.add ((Addr.add Wc (i_5.toNat*6))) 4)) (.int .i64 ((i64.wrap ((i64.wrap ((i64.wrap ((i64.wrap (k_1+1))+1))+1))+1)))) λiG=>
 bg aQ i_5 aD λj=>
 ST1 iG ((Addr.add ((Addr.add j (i_5.toNat*6))) 5)) (.float .f32 ((f32.nearest ((i64.wrap ((i64.wrap ((i64.wrap ((i64.wrap ((i64.wrap (k_1+1))+1))+1))+1))+1)))))) λke=>
 a (aQ,aD,bC,((i64.wrap ((i64.wrap ((i64.wrap ((i64.wrap ((i64.wrap ((i64.wrap (k_1+1))+1))+1))+1))+1))+1))),((i64.wrap (i_5+1)))) ke) (
 aa (.int .i64 k_1) h)
def fW.g2(fr:Frame):Option Addr×Nat×Nat×Int×Int:=((gLb (ah fr 0)),(gLl (ah fr 0)),(gLc (ah fr 0)),(gI (ah fr 1)),(gI (ah fr 5)))
def fW.l2(aa:VH):=gg (kds 56 [(0,.l),(1,.i .i64),(5,.i .i64)]) λfr=>bh (fW.B2 aa) (fW.g2 fr)
def fW.S(aQ:Option Addr)(aD bC:Nat)(k_1:Int)(aa:VH)(h:ab):=
 bh (fW.B2 aa) (aQ,aD,bC,k_1,0) h
theorem fW.call{aQ:Option Addr}{aD bC:Nat}{k_1:Int}{aa:VH}{h:ab}(H:fW.S aQ aD bC k_1 aa h):ae ai ss #[.slice aQ aD bC,.int .i64 k_1] aa h:=
 qc (Λ:=an [(1000002,fW.l2 aa)]) Tryz.func76
 (qs qf (qs (qs qf (Rq.block (ql (fW.l2 aa) (qg (g:=fW.g2) (Λ:=λa=>an []) (λ_ _ _=>by kernel_rfl) (λa=>qf))))) qf))
 (qe H)
def yi.S(a_0:Array Value)(k_1:Int)(aa:VH)(h:ab):=
 ALC a_0 bt (λa b=>
 LDA 3 b ⟨a,1,none⟩ λe=>
 ae ai su #[.agg e,.int .i64 k_1] (λf c=>
 asI .i64 f λg=>
 oL (cell c ⟨a,4,none⟩) λAu yL AN=>
 ae ai mU #[.slice Au yL AN,.int .i64 g] (λi d=>
 asI .i64 i λrD=>
 oL (cell d ⟨a,5,none⟩) λrN qd ui=>
 ae ai ss #[.slice rN qd ui,.int .i64 rD] (λuu gf=>
 asI .i64 uu λj=>
 aa (.int .i64 j) gf) d) c) b) h
theorem yi.call{a_0:Array Value}{k_1:Int}{aa:VH}{h:ab}(H:yi.S a_0 k_1 aa h):ae ai tR #[.agg a_0,.int .i64 k_1] aa h:=
 qc (Λ:=an []) Tryz.func18
 qf
 (qe H)
def ak.B80(a:(Option Addr×Nat×Nat×Int×Int)->ab->Prop)(aa:VH)(b:(Option Addr×Nat×Nat×Int×Int×Int)->ab->Prop):Option Addr×Nat×Nat×Int×Int×Int->ab->Prop
 | (aQ,aD,bC,k_1,i_5,SG),h=>
 BIF ((decide (SG<2))) (
 bg aQ i_5 aD λc=>
 IDX SG 2 <|
 ST1 h ((Addr.add ((Addr.add ((Addr.add ((Addr.add ((Addr.add c (i_5.toNat*45))) 33)) 4)) 4)) (SG.toNat*1))) (.float .f32 (f32.nearest k_1)) λd=>
 b (aQ,aD,bC,((i64.wrap (k_1+1))),i_5,((i64.wrap (SG+1)))) d) (
 bg aQ i_5 aD λe=>
 ST1 h ((Addr.add ((Addr.add ((Addr.add e (i_5.toNat*45))) 33)) 10)) (.float .f32 (f32.nearest k_1)) λf=>
 bg aQ i_5 aD λg=>
 ST1 f ((Addr.add ((Addr.add ((Addr.add g (i_5.toNat*45))) 33)) 11)) (.float .f32 ((f32.nearest ((i64.wrap (k_1+1)))))) λTK=>
 a (aQ,aD,bC,((i64.wrap ((i64.wrap (k_1+1))+1))),((i64.wrap (i_5+1)))) TK)
def ak.g80(fr:Frame):Option Addr×Nat×Nat×Int×Int×Int:=((gLb (ah fr 0)),(gLl (ah fr 0)),(gLc (ah fr 0)),(gI (ah fr 1)),(gI (ah fr 5)),(gI (ah fr 13)))
def ak.l80(a:(Option Addr×Nat×Nat×Int×Int)->ab->Prop)(aa:VH):=gg (kds 365 [(0,.l),(1,.i .i64),(5,.i .i64),(13,.i .i64)]) λfr=>bh (ak.B80 a aa) (ak.g80 fr)
def ak.B75(a:(Option Addr×Nat×Nat×Int×Int)->ab->Prop)(aa:VH)(b:(Option Addr×Nat×Nat×Int×Int×Int)->ab->Prop):Option Addr×Nat×Nat×Int×Int×Int->ab->Prop
 | (aQ,aD,bC,k_1,i_5,SF),h=>
 BIF ((decide (SF<3))) (
 bg aQ i_5 aD λc=>
 IDX SF 3 <|
 ST1 h ((Addr.add ((Addr.add ((Addr.add ((Addr.add ((Addr.add c (i_5.toNat*45))) 33)) 4)) 1)) (SF.toNat*1))) (.float .f32 (f32.nearest k_1)) λd=>
 b (aQ,aD,bC,((i64.wrap (k_1+1))),i_5,((i64.wrap (SF+1)))) d) (
 bh (ak.B80 a aa) (aQ,aD,bC,k_1,i_5,0) h)
def ak.g75(fr:Frame):Option Addr×Nat×Nat×Int×Int×Int:=((gLb (ah fr 0)),(gLl (ah fr 0)),(gLc (ah fr 0)),(gI (ah fr 1)),(gI (ah fr 5)),(gI (ah fr 12)))
def ak.l75(a:(Option Addr×Nat×Nat×Int×Int)->ab->Prop)(aa:VH):=gg (kds 365 [(0,.l),(1,.i .i64),(5,.i .i64),(12,.i .i64)]) λfr=>bh (ak.B75 a aa) (ak.g75 fr)
def ak.B54(e:(Option Addr×Nat×Nat×Int×Int)->ab->Prop)(aa:VH)(f:(Option Addr×Nat×Nat×Int×Int×Int)->ab->Prop):Option Addr×Nat×Nat×Int×Int×Int->ab->Prop
 | (aQ,aD,bC,k_1,i_5,SE),h=>
 BIF ((decide (SE<2))) (
 bg aQ i_5 aD λg=>
 IDX SE 2 <|
 ST1 h ((Addr.add ((Addr.add ((Addr.add ((Addr.add ((Addr.add g (i_5.toNat*45))) 20)) 3)) 4)) (SE.toNat*1))) (.float .f32 (f32.nearest k_1)) λUs=>
 f (aQ,aD,bC,((i64.wrap (k_1+1))),i_5,((i64.wrap (SE+1)))) Us) (
 NZ 3 <|
 bg aQ i_5 aD λi=>
 ST1 h ((Addr.add ((Addr.add ((Addr.add i (i_5.toNat*45))) 20)) 9)) (.bool (((Int.tmod k_1 3)==0))) λJZ=>
 bg aQ i_5 aD λj=>
 ST1 JZ ((Addr.add ((Addr.add ((Addr.add j (i_5.toNat*45))) 20)) 10)) (.float .f32 ((f32.nearest ((i64.wrap (k_1+1)))))) λZb=>
 bg aQ i_5 aD λk=>
 ST1 Zb ((Addr.add ((Addr.add ((Addr.add k (i_5.toNat*45))) 20)) 11)) (.float .f32 ((f32.nearest ((i64.wrap ((i64.wrap (k_1+1))+1)))))) λl=>
 bg aQ i_5 aD λm=>
 ST1 l ((Addr.add ((Addr.add ((Addr.add m (i_5.toNat*45))) 20)) 12)) (.float .f32 ((f32.nearest ((i64.wrap ((i64.wrap ((i64.wrap (k_1+1))+1))+1)))))) λb=>
 bg aQ i_5 aD λn=>
 oL (cell b ((Addr.add ((Addr.add n (i_5.toNat*45))) 33))) λaey aeA aez=>
 ae ai gT #[.slice aey aeA aez,.int .i64 ((i64.wrap ((i64.wrap ((i64.wrap ((i64.wrap (k_1+1))+1))+1))+1)))] (λo TH=>
 asI .i64 o λc=>
 bg aQ i_5 aD λp=>
 ST1 TH ((Addr.add ((Addr.add ((Addr.add p (i_5.toNat*45))) 33)) 1)) (.int .i64 c) λd=>
 bg aQ i_5 aD λq=>
 oL (cell d ((Addr.add ((Addr.add ((Addr.add q (i_5.toNat*45))) 33)) 2))) λXF XH XG=>
 ae ai gT #[.slice XF XH XG,.int .i64 ((i64.wrap (c+1)))] (λr Ll=>
 asI .i64 r λa=>
 bg aQ i_5 aD λs=>
 ST1 Ll ((Addr.add ((Addr.add ((Addr.add ((Addr.add s (i_5.toNat*45))) 33)) 2)) 1)) (.int .i64 a) λKU=>
 bg aQ i_5 aD λt=>
 ST1 KU ((Addr.add ((Addr.add ((Addr.add t (i_5.toNat*45))) 33)) 4)) (.int .i64 ((i64.wrap (a+1)))) λUu=>
 bh (ak.B75 e aa) (aQ,aD,bC,((i64.wrap ((i64.wrap (a+1))+1))),i_5,0) Uu) d) b)
def ak.g54(fr:Frame):Option Addr×Nat×Nat×Int×Int×Int:=((gLb (ah fr 0)),(gLl (ah fr 0)),(gLc (ah fr 0)),(gI (ah fr 1)),(gI (ah fr 5)),(gI (ah fr 11)))
def ak.l54(a:(Option Addr×Nat×Nat×Int×Int)->ab->Prop)(aa:VH):=gg (kds 365 [(0,.l),(1,.i .i64),(5,.i .i64),(11,.i .i64)]) λfr=>bh (ak.B54 a aa) (ak.g54 fr)
def ak.B49(a:(Option Addr×Nat×Nat×Int×Int)->ab->Prop)(aa:VH)(b:(Option Addr×Nat×Nat×Int×Int×Int)->ab->Prop):Option Addr×Nat×Nat×Int×Int×Int->ab->Prop
 | (aQ,aD,bC,k_1,i_5,SD),h=>
 BIF ((decide (SD<3))) (
 bg aQ i_5 aD λc=>
 IDX SD 3 <|
 ST1 h ((Addr.add ((Addr.add ((Addr.add ((Addr.add ((Addr.add c (i_5.toNat*45))) 20)) 3)) 1)) (SD.toNat*1))) (.float .f32 (f32.nearest k_1)) λd=>
 b (aQ,aD,bC,((i64.wrap (k_1+1))),i_5,((i64.wrap (SD+1)))) d) (
 bh (ak.B54 a aa) (aQ,aD,bC,k_1,i_5,0) h)
def ak.g49(fr:Frame):Option Addr×Nat×Nat×Int×Int×Int:=((gLb (ah fr 0)),(gLl (ah fr 0)),(gLc (ah fr 0)),(gI (ah fr 1)),(gI (ah fr 5)),(gI (ah fr 10)))
def ak.l49(a:(Option Addr×Nat×Nat×Int×Int)->ab->Prop)(aa:VH):=gg (kds 365 [(0,.l),(1,.i .i64),(5,.i .i64),(10,.i .i64)]) λfr=>bh (ak.B49 a aa) (ak.g49 fr)
def ak.B37(b:(Option Addr×Nat×Nat×Int×Int)->ab->Prop)(aa:VH)(c:(Option Addr×Nat×Nat×Int×Int×Int)->ab->Prop):Option Addr×Nat×Nat×Int×Int×Int->ab->Prop
 | (aQ,aD,bC,k_1,i_5,j_9),h=>
 BIF ((decide (j_9<2))) (
 bg aQ i_5 aD λd=>
 IDX j_9 2 <|
 ST1 h ((Addr.add ((Addr.add ((Addr.add ((Addr.add ((Addr.add d (i_5.toNat*45))) 5)) 8)) 4)) (j_9.toNat*1))) (.float .f32 (f32.nearest k_1)) λDL=>
 c (aQ,aD,bC,((i64.wrap (k_1+1))),i_5,((i64.wrap (j_9+1)))) DL) (
 bg aQ i_5 aD λe=>
 ST1 h ((Addr.add ((Addr.add ((Addr.add e (i_5.toNat*45))) 5)) 14)) (.float .f32 (f32.nearest k_1)) λLk=>
 bg aQ i_5 aD λf=>
 oL (cell Lk ((Addr.add ((Addr.add f (i_5.toNat*45))) 20))) λaes aet aij=>
 ae ai pk #[.slice aes aet aij,.int .i64 ((i64.wrap (k_1+1)))] (λYf CW=>
 asI .i64 Yf λg=>
 bg aQ i_5 aD λi=>
 oL (cell CW ((Addr.add ((Addr.add ((Addr.add i (i_5.toNat*45))) 20)) 1))) λXD XE abi=>
 ae ai pk #[.slice XD XE abi,.int .i64 g] (λj KT=>
 asI .i64 j λk=>
 bg aQ i_5 aD λl=>
 oL (cell KT ((Addr.add ((Addr.add ((Addr.add l (i_5.toNat*45))) 20)) 2))) λail aex aim=>
 ae ai gT #[.slice ail aex aim,.int .i64 k] (λm TG=>
 asI .i64 m λa=>
 bg aQ i_5 aD λn=>
 ST1 TG ((Addr.add ((Addr.add ((Addr.add n (i_5.toNat*45))) 20)) 3)) (.int .i64 a) λQg=>
 bh (ak.B49 b aa) (aQ,aD,bC,((i64.wrap (a+1))),i_5,0) Qg) KT) CW) Lk)
def ak.g37(fr:Frame):Option Addr×Nat×Nat×Int×Int×Int:=((gLb (ah fr 0)),(gLl (ah fr 0)),(gLc (ah fr 0)),(gI (ah fr 1)),(gI (ah fr 5)),(gI (ah fr 9)))
def ak.l37(a:(Option Addr×Nat×Nat×Int×Int)->ab->Prop)(aa:VH):=gg (kds 365 [(0,.l),(1,.i .i64),(5,.i .i64),(9,.i .i64)]) λfr=>bh (ak.B37 a aa) (ak.g37 fr)
def ak.B32(a:(Option Addr×Nat×Nat×Int×Int)->ab->Prop)(aa:VH)(b:(Option Addr×Nat×Nat×Int×Int×Int)->ab->Prop):Option Addr×Nat×Nat×Int×Int×Int->ab->Prop
 | (aQ,aD,bC,k_1,i_5,j_8),h=>
 BIF ((decide (j_8<3))) (
 bg aQ i_5 aD λc=>
 IDX j_8 3 <|
 ST1 h ((Addr.add ((Addr.add ((Addr.add ((Addr.add ((Addr.add c (i_5.toNat*45))) 5)) 8)) 1)) (j_8.toNat*1))) (.float .f32 (f32.nearest k_1)) λry=>
 b (aQ,aD,bC,((i64.wrap (k_1+1))),i_5,((i64.wrap (j_8+1)))) ry) (
 bh (ak.B37 a aa) (aQ,aD,bC,k_1,i_5,0) h)
def ak.g32(fr:Frame):Option Addr×Nat×Nat×Int×Int×Int:=((gLb (ah fr 0)),(gLl (ah fr 0)),(gLc (ah fr 0)),(gI (ah fr 1)),(gI (ah fr 5)),(gI (ah fr 8)))
def ak.l32(a:(Option Addr×Nat×Nat×Int×Int)->ab->Prop)(aa:VH):=gg (kds 365 [(0,.l),(1,.i .i64),(5,.i .i64),(8,.i .i64)]) λfr=>bh (ak.B32 a aa) (ak.g32 fr)
def ak.B25(a:(Option Addr×Nat×Nat×Int×Int)->ab->Prop)(aa:VH)(Lv:(Option Addr×Nat×Nat×Int×Int×Int)->ab->Prop):Option Addr×Nat×Nat×Int×Int×Int->ab->Prop
 | (aQ,aD,bC,k_1,i_5,j_7),h=>
 BIF ((decide (j_7<2))) (
 bg aQ i_5 aD λb=>
 IDX j_7 2 <|
 ST1 h ((Addr.add ((Addr.add ((Addr.add ((Addr.add ((Addr.add b (i_5.toNat*45))) 5)) 2)) 4)) (j_7.toNat*1))) (.float .f32 (f32.nearest k_1)) λoJ=>
 Lv (aQ,aD,bC,((i64.wrap (k_1+1))),i_5,((i64.wrap (j_7+1)))) oJ) (
 bg aQ i_5 aD λc=>
 ST1 h ((Addr.add ((Addr.add ((Addr.add c (i_5.toNat*45))) 5)) 8)) (.int .i64 k_1) λwP=>
 bh (ak.B32 a aa) (aQ,aD,bC,((i64.wrap (k_1+1))),i_5,0) wP)
def ak.g25(fr:Frame):Option Addr×Nat×Nat×Int×Int×Int:=((gLb (ah fr 0)),(gLl (ah fr 0)),(gLc (ah fr 0)),(gI (ah fr 1)),(gI (ah fr 5)),(gI (ah fr 7)))
def ak.l25(a:(Option Addr×Nat×Nat×Int×Int)->ab->Prop)(aa:VH):=gg (kds 365 [(0,.l),(1,.i .i64),(5,.i .i64),(7,.i .i64)]) λfr=>bh (ak.B25 a aa) (ak.g25 fr)
def ak.B20(a:(Option Addr×Nat×Nat×Int×Int)->ab->Prop)(aa:VH)(b:(Option Addr×Nat×Nat×Int×Int×Int)->ab->Prop):Option Addr×Nat×Nat×Int×Int×Int->ab->Prop
 | (aQ,aD,bC,k_1,i_5,j_6),h=>
 BIF ((decide (j_6<3))) (
 bg aQ i_5 aD λc=>
 IDX j_6 3 <|
 ST1 h ((Addr.add ((Addr.add ((Addr.add ((Addr.add ((Addr.add c (i_5.toNat*45))) 5)) 2)) 1)) (j_6.toNat*1))) (.float .f32 (f32.nearest k_1)) λmZ=>
 b (aQ,aD,bC,((i64.wrap (k_1+1))),i_5,((i64.wrap (j_6+1)))) mZ) (
 bh (ak.B25 a aa) (aQ,aD,bC,k_1,i_5,0) h)
def ak.g20(fr:Frame):Option Addr×Nat×Nat×Int×Int×Int:=((gLb (ah fr 0)),(gLl (ah fr 0)),(gLc (ah fr 0)),(gI (ah fr 1)),(gI (ah fr 5)),(gI (ah fr 6)))
def ak.l20(a:(Option Addr×Nat×Nat×Int×Int)->ab->Prop)(aa:VH):=gg (kds 365 [(0,.l),(1,.i .i64),(5,.i .i64),(6,.i .i64)]) λfr=>bh (ak.B20 a aa) (ak.g20 fr)
def ak.B2(aa:VH)(a:(Option Addr×Nat×Nat×Int×Int)->ab->Prop):Option Addr×Nat×Nat×Int×Int->ab->Prop
 | (aQ,aD,bC,k_1,i_5),h=>
 BIF ((decide (i_5<(aD:Int)))) (
 bg aQ i_5 aD λb=>
 ST1 h ((Addr.add b (i_5.toNat*45))) (.int .i64 k_1) λc=>
 bg aQ i_5 aD λd=>
 ST1 c ((Addr.add ((Addr.add d (i_5.toNat*45))) 1)) (.int .i64 ((i64.wrap (k_1+1)))) λe=>
 bg aQ i_5 aD λf=>
 ST1 e ((Addr.add ((Addr.add f (i_5.toNat*45))) 2)) (.int .i64 ((i64.wrap ((i64.wrap (k_1+1))+1)))) λg=>
 NZ 3 <|
 bg aQ i_5 aD λi=>
 ST1 g ((Addr.add ((Addr.add i (i_5.toNat*45))) 3)) (.bool (((Int.tmod ((i64.wrap ((i64.wrap ((i64.wrap (k_1+1))+1))+1))) 3)==0))) λgd=>
 bg aQ i_5 aD λWc=>
 ST1 gd ((Addr.add ((Addr.add Wc (i_5.toNat*45))) 4)) (.float .f32 ((f32.nearest ((i64.wrap ((i64.wrap ((i64.wrap ((i64.wrap (k_1+1))+1))+1))+1)))))) λiG=>
 bg aQ i_5 aD λj=>
 oL (cell iG ((Addr.add ((Addr.add j (i_5.toNat*45))) 5))) λFC DX Jt=>
 ae ai gT #[.slice FC DX Jt,.int .i64 ((i64.wrap ((i64.wrap ((i64.wrap ((i64.wrap ((i64.wrap (k_1+1))+1))+1))+1))+1)))] (λDc iJ=>
 asI .i64 Dc λWa=>
 bg aQ i_5 aD λk=>
 ST1 iJ ((Addr.add ((Addr.add ((Addr.add k (i_5.toNat*45))) 5)) 1)) (.int .i64 Wa) λtz=>
 bg aQ i_5 aD λl=>
 ST1 tz ((Addr.add ((Addr.add ((Addr.add l (i_5.toNat*45))) 5)) 2)) (.int .i64 ((i64.wrap (Wa+1)))) λqz=>
 bh (ak.B20 a aa) (aQ,aD,bC,((i64.wrap ((i64.wrap (Wa+1))+1))),i_5,0) qz) iG) (
 aa (.int .i64 k_1) h)
def ak.g2(fr:Frame):Option Addr×Nat×Nat×Int×Int:=((gLb (ah fr 0)),(gLl (ah fr 0)),(gLc (ah fr 0)),(gI (ah fr 1)),(gI (ah fr 5)))
def ak.l2(aa:VH):=gg (kds 365 [(0,.l),(1,.i .i64),(5,.i .i64)]) λfr=>bh (ak.B2 aa) (ak.g2 fr)
def ak.S(aQ:Option Addr)(aD bC:Nat)(k_1:Int)(aa:VH)(h:ab):=
 bh (ak.B2 aa) (aQ,aD,bC,k_1,0) h
theorem ak.call{aQ:Option Addr}{aD bC:Nat}{k_1:Int}{aa:VH}{h:ab}(H:ak.S aQ aD bC k_1 aa h):ae ai sw #[.slice aQ aD bC,.int .i64 k_1] aa h:=
 qc (Λ:=an [(1000002,ak.l2 aa)]) Tryz.func77
 (qs qf (qs (qs qf (Rq.block (ql (ak.l2 aa) (qg (g:=ak.g2) (Λ:=λa=>an [(1000020,ak.l20 a aa),(1000025,ak.l25 a aa),(1000032,ak.l32 a aa),(1000037,ak.l37 a aa),(1000049,ak.l49 a aa),(1000054,ak.l54 a aa),(1000075,ak.l75 a aa),(1000080,ak.l80 a aa)]) (λ_ _ _=>by kernel_rfl) (λa=>(qs qf (qs (Rq.block (qs qf (qs qf (qs qf (qs qf (qs qf (qs qf (qs qf (qs qf (qs qf (qs qf (qs qf (qs qf (qs qf (qs qf (qs qf (qs (qs qf (Rq.block (ql (ak.l20 a aa) (qg (g:=ak.g20) (Λ:=λb=>an []) (λ_ _ _=>by kernel_rfl) (λb=>qf))))) (qs (qs qf (Rq.block (ql (ak.l25 a aa) (qg (g:=ak.g25) (Λ:=λLv=>an []) (λ_ _ _=>by kernel_rfl) (λLv=>qf))))) (qs qf (qs qf (qs (qs qf (Rq.block (ql (ak.l32 a aa) (qg (g:=ak.g32) (Λ:=λc=>an []) (λ_ _ _=>by kernel_rfl) (λc=>qf))))) (qs (qs qf (Rq.block (ql (ak.l37 a aa) (qg (g:=ak.g37) (Λ:=λd=>an []) (λ_ _ _=>by kernel_rfl) (λd=>qf))))) (qs qf (qs qf (qs qf (qs qf (qs qf (qs qf (qs qf (qs (qs qf (Rq.block (ql (ak.l49 a aa) (qg (g:=ak.g49) (Λ:=λe=>an []) (λ_ _ _=>by kernel_rfl) (λe=>qf))))) (qs (qs qf (Rq.block (ql (ak.l54 a aa) (qg (g:=ak.g54) (Λ:=λf=>an []) (λ_ _ _=>by kernel_rfl) (λf=>qf))))) (qs qf (qs qf (qs qf (qs qf (qs qf (qs qf (qs qf (qs qf (qs qf (qs qf (qs qf (qs qf (qs qf (qs qf (qs qf (qs qf (qs (qs qf (Rq.block (ql (ak.l75 a aa) (qg (g:=ak.g75) (Λ:=λi=>an []) (λ_ _ _=>by kernel_rfl) (λi=>qf))))) (qs (qs qf (Rq.block (ql (ak.l80 a aa) (qg (g:=ak.g80) (Λ:=λj=>an []) (λ_ _ _=>by kernel_rfl) (λj=>qf))))) qf))))))))))))))))))))))))))))))))))))))))))))))))) qf))))))) qf))
 (qe H)
def wb.S(a_0:Array Value)(k_1:Int)(aa:VH)(h:ab):=
 ALC a_0 aE (λa b=>
 LDA 6 b ⟨a,0,none⟩ λd=>
 ae ai tR #[.agg d,.int .i64 k_1] (λe c=>
 asI .i64 e λf=>
 oL (cell c ⟨a,6,none⟩) λAu yL AN=>
 ae ai sw #[.slice Au yL AN,.int .i64 f] (λg i=>
 asI .i64 g λrD=>
 aa (.int .i64 rD) i) c) b) h
theorem wb.call{a_0:Array Value}{k_1:Int}{aa:VH}{h:ab}(H:wb.S a_0 k_1 aa h):ae ai km #[.agg a_0,.int .i64 k_1] aa h:=
 qc (Λ:=an []) Tryz.func19
 qf
 (qe H)
def wa.S(a_0:Array Value)(k_1:Int)(aa:VH)(h:ab):=
 ALC a_0 ey (λd a=>
 oL (cell a ⟨d,2,none⟩) λKa Hd e=>
 ae ai gR #[.slice Ka Hd e,.int .i64 k_1] (λf b=>
 asI .i64 f λc=>
 BIF ((decide (c<0))) (
 aa (.int .i64 (-1)) b) (
 aa (.int .i64 c) b)) a) h
theorem wa.call{a_0:Array Value}{k_1:Int}{aa:VH}{h:ab}(H:wa.S a_0 k_1 aa h):ae ai sq #[.agg a_0,.int .i64 k_1] aa h:=
 qc (Λ:=an []) Tryz.func92
 qf
 (qe H)
def dI.B2(aa:VH)(c:(Option Addr×Nat×Nat×Int×Int)->ab->Prop):Option Addr×Nat×Nat×Int×Int->ab->Prop
 | (aQ,aD,bC,k_1,i_5),h=>
 BIF ((decide (i_5<(aD:Int)))) (
 bg aQ i_5 aD λb=>
 oS (cell h ((Addr.add b (i_5.toNat*5)))) λd=>
 ae ai qv #[.int .i64 k_1] (λe a=>
 asS e λf=>
 PIN h ((Addr.add b (i_5.toNat*5))) 1 a <|
 BIF (!(ByteArray.toList d==ByteArray.toList f)) (
 aa (.int .i64 (-1)) a) (
 bg aQ i_5 aD λg=>
 oI .i64 (cell a ((Addr.add ((Addr.add g (i_5.toNat*5))) 1))) λi=>
 BIF ((i != (i64.wrap (k_1+1)))) (
 aa (.int .i64 (-1)) a) (
 bg aQ i_5 aD λj=>
 oF .f32 (cell a ((Addr.add ((Addr.add j (i_5.toNat*5))) 2))) λDg=>
 BIF ((f32.format.order Dg ((f32.nearest ((i64.wrap ((i64.wrap (k_1+1))+1))))) != some .eq)) (
 aa (.int .i64 (-1)) a) (
 bg aQ i_5 aD λOo=>
 oF .f32 (cell a ((Addr.add ((Addr.add Oo (i_5.toNat*5))) 3))) λCu=>
 BIF ((f32.format.order Cu ((f32.nearest ((i64.wrap ((i64.wrap ((i64.wrap (k_1+1))+1))+1))))) != some .eq)) (
 aa (.int .i64 (-1)) a) (
 bg aQ i_5 aD λk=>
 oF .f32 (cell a ((Addr.add ((Addr.add k (i_5.toNat*5))) 4))) λuQ=>
 BIF ((f32.format.order uQ ((f32.nearest ((i64.wrap ((i64.wrap ((i64.wrap ((i64.wrap (k_1+1))+1))+1))+1))))) != some .eq)) (
 aa (.int .i64 (-1)) a) (
 c (aQ,aD,bC,((i64.wrap ((i64.wrap ((i64.wrap ((i64.wrap ((i64.wrap (k_1+1))+1))+1))+1))+1))),((i64.wrap (i_5+1)))) a)))))) h) (
 aa (.int .i64 k_1) h)
def dI.g2(fr:Frame):Option Addr×Nat×Nat×Int×Int:=((gLb (ah fr 0)),(gLl (ah fr 0)),(gLc (ah fr 0)),(gI (ah fr 1)),(gI (ah fr 5)))
def dI.l2(aa:VH):=gg (kds 62 [(0,.l),(1,.i .i64),(5,.i .i64)]) λfr=>bh (dI.B2 aa) (dI.g2 fr)
def dI.S(aQ:Option Addr)(aD bC:Nat)(k_1:Int)(aa:VH)(h:ab):=
 bh (dI.B2 aa) (aQ,aD,bC,k_1,0) h
theorem dI.call{aQ:Option Addr}{aD bC:Nat}{k_1:Int}{aa:VH}{h:ab}(H:dI.S aQ aD bC k_1 aa h):ae ai mT #[.slice aQ aD bC,.int .i64 k_1] aa h:=
 qc (Λ:=an [(1000002,dI.l2 aa)]) Tryz.func93
 (qs qf (qs (qs qf (Rq.block (ql (dI.l2 aa) (qg (g:=dI.g2) (Λ:=λa=>an []) (λ_ _ _=>by kernel_rfl) (λa=>qf))))) qf))
 (qe H)
def fV.B2(aa:VH)(a:(Option Addr×Nat×Nat×Int×Int)->ab->Prop):Option Addr×Nat×Nat×Int×Int->ab->Prop
 | (aQ,aD,bC,k_1,i_5),h=>
 BIF ((decide (i_5<(aD:Int)))) (
 bg aQ i_5 aD λb=>
 oI .i64 (cell h ((Addr.add b (i_5.toNat*6)))) λc=>
 BIF (c != k_1) (
 aa (.int .i64 (-1)) h) (
 bg aQ i_5 aD λd=>
 oI .i64 (cell h ((Addr.add ((Addr.add d (i_5.toNat*6))) 1))) λe=>
 BIF ((e != (i64.wrap (k_1+1)))) (
 aa (.int .i64 (-1)) h) (
 bg aQ i_5 aD λf=>
 oI .i64 (cell h ((Addr.add ((Addr.add f (i_5.toNat*6))) 2))) λg=>
 BIF ((g != (i64.wrap ((i64.wrap (k_1+1))+1)))) (
 aa (.int .i64 (-1)) h) (
 bg aQ i_5 aD λi=>
 oI .i64 (cell h ((Addr.add ((Addr.add i (i_5.toNat*6))) 3))) λrD=>
 BIF ((rD != (i64.wrap ((i64.wrap ((i64.wrap (k_1+1))+1))+1)))) (
 aa (.int .i64 (-1)) h) (
 bg aQ i_5 aD λWc=>
 oI .i64 (cell h ((Addr.add ((Addr.add Wc (i_5.toNat*6))) 4))) λj=>
 BIF ((j != (i64.wrap ((i64.wrap ((i64.wrap ((i64.wrap (k_1+1))+1))+1))+1)))) (
 aa (.int .i64 (-1)) h) (
 bg aQ i_5 aD λk=>
 oF .f32 (cell h ((Addr.add ((Addr.add k (i_5.toNat*6))) 5))) λFJ=>
 BIF ((f32.format.order FJ ((f32.nearest ((i64.wrap ((i64.wrap ((i64.wrap ((i64.wrap ((i64.wrap (k_1+1))+1))+1))+1))+1))))) != some .eq)) (
 aa (.int .i64 (-1)) h) (
 a (aQ,aD,bC,((i64.wrap ((i64.wrap ((i64.wrap ((i64.wrap ((i64.wrap ((i64.wrap (k_1+1))+1))+1))+1))+1))+1))),((i64.wrap (i_5+1)))) h))))))) (
 aa (.int .i64 k_1) h)
def fV.g2(fr:Frame):Option Addr×Nat×Nat×Int×Int:=((gLb (ah fr 0)),(gLl (ah fr 0)),(gLc (ah fr 0)),(gI (ah fr 1)),(gI (ah fr 5)))
def fV.l2(aa:VH):=gg (kds 68 [(0,.l),(1,.i .i64),(5,.i .i64)]) λfr=>bh (fV.B2 aa) (fV.g2 fr)
def fV.S(aQ:Option Addr)(aD bC:Nat)(k_1:Int)(aa:VH)(h:ab):=
 bh (fV.B2 aa) (aQ,aD,bC,k_1,0) h
theorem fV.call{aQ:Option Addr}{aD bC:Nat}{k_1:Int}{aa:VH}{h:ab}(H:fV.S aQ aD bC k_1 aa h):ae ai so #[.slice aQ aD bC,.int .i64 k_1] aa h:=
 qc (Λ:=an [(1000002,fV.l2 aa)]) Tryz.func94
 (qs qf (qs (qs qf (Rq.block (ql (fV.l2 aa) (qg (g:=fV.g2) (Λ:=λa=>an []) (λ_ _ _=>by kernel_rfl) (λa=>qf))))) qf))
 (qe H)
def yh.S(a_0:Array Value)(k_1:Int)(aa:VH)(h:ab):=
 ALC a_0 bt (λa d=>
 LDA 3 d ⟨a,1,none⟩ λg=>
 ae ai sq #[.agg g,.int .i64 k_1] (λi b=>
 asI .i64 i λe=>
 BIF ((decide (e<0))) (
 aa (.int .i64 (-1)) b) (
 oL (cell b ⟨a,4,none⟩) λAu yL AN=>
 ae ai mT #[.slice Au yL AN,.int .i64 e] (λj c=>
 asI .i64 j λrD=>
 BIF ((decide (rD<0))) (
 aa (.int .i64 (-1)) c) (
 oL (cell c ⟨a,5,none⟩) λrN qd ui=>
 ae ai so #[.slice rN qd ui,.int .i64 rD] (λuu gf=>
 asI .i64 uu λf=>
 BIF ((decide (f<0))) (
 aa (.int .i64 (-1)) gf) (
 aa (.int .i64 f) gf)) c)) b)) d) h
theorem yh.call{a_0:Array Value}{k_1:Int}{aa:VH}{h:ab}(H:yh.S a_0 k_1 aa h):ae ai tQ #[.agg a_0,.int .i64 k_1] aa h:=
 qc (Λ:=an []) Tryz.func23
 qf
 (qe H)
def aj.agK(a:(Option Addr×Nat×Nat×Int×Int)->ab->Prop)(aa:VH)(akK:(Option Addr×Nat×Nat×Int×Int×Int)->ab->Prop):Option Addr×Nat×Nat×Int×Int×Int->ab->Prop
 | (aQ,aD,bC,k_1,i_5,SG),h=>
 BIF ((decide (SG<2))) (
 bg aQ i_5 aD λb=>
 IDX SG 2 <|
 oF .f32 (cell h ((Addr.add ((Addr.add ((Addr.add ((Addr.add ((Addr.add b (i_5.toNat*45))) 33)) 4)) 4)) (SG.toNat*1)))) λc=>
 BIF (f32.format.order c (f32.nearest k_1) != some .eq) (
 aa (.int .i64 (-1)) h) (
 akK (aQ,aD,bC,((i64.wrap (k_1+1))),i_5,((i64.wrap (SG+1)))) h)) (
 bg aQ i_5 aD λd=>
 oF .f32 (cell h ((Addr.add ((Addr.add ((Addr.add d (i_5.toNat*45))) 33)) 10))) λe=>
 BIF (f32.format.order e (f32.nearest k_1) != some .eq) (
 aa (.int .i64 (-1)) h) (
 bg aQ i_5 aD λf=>
 oF .f32 (cell h ((Addr.add ((Addr.add ((Addr.add f (i_5.toNat*45))) 33)) 11))) λg=>
 BIF ((f32.format.order g ((f32.nearest ((i64.wrap (k_1+1))))) != some .eq)) (
 aa (.int .i64 (-1)) h) (
 a (aQ,aD,bC,((i64.wrap ((i64.wrap (k_1+1))+1))),((i64.wrap (i_5+1)))) h)))
def aj.apr(fr:Frame):Option Addr×Nat×Nat×Int×Int×Int:=((gLb (ah fr 0)),(gLl (ah fr 0)),(gLc (ah fr 0)),(gI (ah fr 1)),(gI (ah fr 5)),(gI (ah fr 13)))
def aj.aqV(a:(Option Addr×Nat×Nat×Int×Int)->ab->Prop)(aa:VH):=gg (kds 431 [(0,.l),(1,.i .i64),(5,.i .i64),(13,.i .i64)]) λfr=>bh (aj.agK a aa) (aj.apr fr)
def aj.agJ(a:(Option Addr×Nat×Nat×Int×Int)->ab->Prop)(aa:VH)(akJ:(Option Addr×Nat×Nat×Int×Int×Int)->ab->Prop):Option Addr×Nat×Nat×Int×Int×Int->ab->Prop
 | (aQ,aD,bC,k_1,i_5,SF),h=>
 BIF ((decide (SF<3))) (
 bg aQ i_5 aD λb=>
 IDX SF 3 <|
 oF .f32 (cell h ((Addr.add ((Addr.add ((Addr.add ((Addr.add ((Addr.add b (i_5.toNat*45))) 33)) 4)) 1)) (SF.toNat*1)))) λc=>
 BIF (f32.format.order c (f32.nearest k_1) != some .eq) (
 aa (.int .i64 (-1)) h) (
 akJ (aQ,aD,bC,((i64.wrap (k_1+1))),i_5,((i64.wrap (SF+1)))) h)) (
 bh (aj.agK a aa) (aQ,aD,bC,k_1,i_5,0) h)
def aj.apo(fr:Frame):Option Addr×Nat×Nat×Int×Int×Int:=((gLb (ah fr 0)),(gLl (ah fr 0)),(gLc (ah fr 0)),(gI (ah fr 1)),(gI (ah fr 5)),(gI (ah fr 12)))
def aj.aqU(a:(Option Addr×Nat×Nat×Int×Int)->ab->Prop)(aa:VH):=gg (kds 431 [(0,.l),(1,.i .i64),(5,.i .i64),(12,.i .i64)]) λfr=>bh (aj.agJ a aa) (aj.apo fr)
def aj.B77(c:(Option Addr×Nat×Nat×Int×Int)->ab->Prop)(aa:VH)(d:(Option Addr×Nat×Nat×Int×Int×Int)->ab->Prop):Option Addr×Nat×Nat×Int×Int×Int->ab->Prop
 | (aQ,aD,bC,k_1,i_5,SE),h=>
 BIF ((decide (SE<2))) (
 bg aQ i_5 aD λe=>
 IDX SE 2 <|
 oF .f32 (cell h ((Addr.add ((Addr.add ((Addr.add ((Addr.add ((Addr.add e (i_5.toNat*45))) 20)) 3)) 4)) (SE.toNat*1)))) λf=>
 BIF (f32.format.order f (f32.nearest k_1) != some .eq) (
 aa (.int .i64 (-1)) h) (
 d (aQ,aD,bC,((i64.wrap (k_1+1))),i_5,((i64.wrap (SE+1)))) h)) (
 bg aQ i_5 aD λg=>
 oB (cell h ((Addr.add ((Addr.add ((Addr.add g (i_5.toNat*45))) 20)) 9))) λi=>
 NZ 3 <|
 BIF ((!(i==((Int.tmod k_1 3)==0)))) (
 aa (.int .i64 (-1)) h) (
 bg aQ i_5 aD λj=>
 oF .f32 (cell h ((Addr.add ((Addr.add ((Addr.add j (i_5.toNat*45))) 20)) 10))) λk=>
 BIF ((f32.format.order k ((f32.nearest ((i64.wrap (k_1+1))))) != some .eq)) (
 aa (.int .i64 (-1)) h) (
 bg aQ i_5 aD λl=>
 oF .f32 (cell h ((Addr.add ((Addr.add ((Addr.add l (i_5.toNat*45))) 20)) 11))) λm=>
 BIF ((f32.format.order m ((f32.nearest ((i64.wrap ((i64.wrap (k_1+1))+1))))) != some .eq)) (
 aa (.int .i64 (-1)) h) (
 bg aQ i_5 aD λn=>
 oF .f32 (cell h ((Addr.add ((Addr.add ((Addr.add n (i_5.toNat*45))) 20)) 12))) λo=>
 BIF ((f32.format.order o ((f32.nearest ((i64.wrap ((i64.wrap ((i64.wrap (k_1+1))+1))+1))))) != some .eq)) (
 aa (.int .i64 (-1)) h) (
 bg aQ i_5 aD λp=>
 oL (cell h ((Addr.add ((Addr.add p (i_5.toNat*45))) 33))) λaey aeA aez=>
 ae ai gR #[.slice aey aeA aez,.int .i64 ((i64.wrap ((i64.wrap ((i64.wrap ((i64.wrap (k_1+1))+1))+1))+1)))] (λq TH=>
 asI .i64 q λb=>
 BIF ((decide (b<0))) (
 aa (.int .i64 (-1)) TH) (
 bg aQ i_5 aD λr=>
 oI .i64 (cell TH ((Addr.add ((Addr.add ((Addr.add r (i_5.toNat*45))) 33)) 1))) λs=>
 BIF (s != b) (
 aa (.int .i64 (-1)) TH) (
 bg aQ i_5 aD λt=>
 oL (cell TH ((Addr.add ((Addr.add ((Addr.add t (i_5.toNat*45))) 33)) 2))) λXF XH XG=>
 ae ai gR #[.slice XF XH XG,.int .i64 ((i64.wrap (b+1)))] (λu Ll=>
 asI .i64 u λa=>
 BIF ((decide (a<0))) (
 aa (.int .i64 (-1)) Ll) (
 bg aQ i_5 aD λv=>
 oI .i64 (cell Ll ((Addr.add ((Addr.add ((Addr.add ((Addr.add v (i_5.toNat*45))) 33)) 2)) 1))) λw=>
 BIF (w != a) (
 aa (.int .i64 (-1)) Ll) (
 bg aQ i_5 aD λx=>
 oI .i64 (cell Ll ((Addr.add ((Addr.add ((Addr.add x (i_5.toNat*45))) 33)) 4))) λy=>
 BIF ((y != (i64.wrap (a+1)))) (
 aa (.int .i64 (-1)) Ll) (
 bh (aj.agJ c aa) (aQ,aD,bC,((i64.wrap ((i64.wrap (a+1))+1))),i_5,0) Ll)))) TH))) h)))))
def aj.g77(fr:Frame):Option Addr×Nat×Nat×Int×Int×Int:=((gLb (ah fr 0)),(gLl (ah fr 0)),(gLc (ah fr 0)),(gI (ah fr 1)),(gI (ah fr 5)),(gI (ah fr 11)))
def aj.l77(a:(Option Addr×Nat×Nat×Int×Int)->ab->Prop)(aa:VH):=gg (kds 431 [(0,.l),(1,.i .i64),(5,.i .i64),(11,.i .i64)]) λfr=>bh (aj.B77 a aa) (aj.g77 fr)
def aj.B71(a:(Option Addr×Nat×Nat×Int×Int)->ab->Prop)(aa:VH)(b:(Option Addr×Nat×Nat×Int×Int×Int)->ab->Prop):Option Addr×Nat×Nat×Int×Int×Int->ab->Prop
 | (aQ,aD,bC,k_1,i_5,SD),h=>
 BIF ((decide (SD<3))) (
 bg aQ i_5 aD λc=>
 IDX SD 3 <|
 oF .f32 (cell h ((Addr.add ((Addr.add ((Addr.add ((Addr.add ((Addr.add c (i_5.toNat*45))) 20)) 3)) 1)) (SD.toNat*1)))) λd=>
 BIF (f32.format.order d (f32.nearest k_1) != some .eq) (
 aa (.int .i64 (-1)) h) (
 b (aQ,aD,bC,((i64.wrap (k_1+1))),i_5,((i64.wrap (SD+1)))) h)) (
 bh (aj.B77 a aa) (aQ,aD,bC,k_1,i_5,0) h)
def aj.g71(fr:Frame):Option Addr×Nat×Nat×Int×Int×Int:=((gLb (ah fr 0)),(gLl (ah fr 0)),(gLc (ah fr 0)),(gI (ah fr 1)),(gI (ah fr 5)),(gI (ah fr 10)))
def aj.l71(a:(Option Addr×Nat×Nat×Int×Int)->ab->Prop)(aa:VH):=gg (kds 431 [(0,.l),(1,.i .i64),(5,.i .i64),(10,.i .i64)]) λfr=>bh (aj.B71 a aa) (aj.g71 fr)
def aj.B50(d:(Option Addr×Nat×Nat×Int×Int)->ab->Prop)(aa:VH)(e:(Option Addr×Nat×Nat×Int×Int×Int)->ab->Prop):Option Addr×Nat×Nat×Int×Int×Int->ab->Prop
 | (aQ,aD,bC,k_1,i_5,j_9),h=>
 BIF ((decide (j_9<2))) (
 bg aQ i_5 aD λf=>
 IDX j_9 2 <|
 oF .f32 (cell h ((Addr.add ((Addr.add ((Addr.add ((Addr.add ((Addr.add f (i_5.toNat*45))) 5)) 8)) 4)) (j_9.toNat*1)))) λYj=>
 BIF (f32.format.order Yj (f32.nearest k_1) != some .eq) (
 aa (.int .i64 (-1)) h) (
 e (aQ,aD,bC,((i64.wrap (k_1+1))),i_5,((i64.wrap (j_9+1)))) h)) (
 bg aQ i_5 aD λg=>
 oF .f32 (cell h ((Addr.add ((Addr.add ((Addr.add g (i_5.toNat*45))) 5)) 14))) λi=>
 BIF (f32.format.order i (f32.nearest k_1) != some .eq) (
 aa (.int .i64 (-1)) h) (
 bg aQ i_5 aD λj=>
 oL (cell h ((Addr.add ((Addr.add j (i_5.toNat*45))) 20))) λaes aet aij=>
 ae ai pj #[.slice aes aet aij,.int .i64 ((i64.wrap (k_1+1)))] (λYf CW=>
 asI .i64 Yf λb=>
 BIF ((decide (b<0))) (
 aa (.int .i64 (-1)) CW) (
 bg aQ i_5 aD λk=>
 oL (cell CW ((Addr.add ((Addr.add ((Addr.add k (i_5.toNat*45))) 20)) 1))) λXD XE abi=>
 ae ai pj #[.slice XD XE abi,.int .i64 b] (λl KT=>
 asI .i64 l λc=>
 BIF ((decide (c<0))) (
 aa (.int .i64 (-1)) KT) (
 bg aQ i_5 aD λm=>
 oL (cell KT ((Addr.add ((Addr.add ((Addr.add m (i_5.toNat*45))) 20)) 2))) λail aex aim=>
 ae ai gR #[.slice ail aex aim,.int .i64 c] (λn TG=>
 asI .i64 n λa=>
 BIF ((decide (a<0))) (
 aa (.int .i64 (-1)) TG) (
 bg aQ i_5 aD λo=>
 oI .i64 (cell TG ((Addr.add ((Addr.add ((Addr.add o (i_5.toNat*45))) 20)) 3))) λp=>
 BIF (p != a) (
 aa (.int .i64 (-1)) TG) (
 bh (aj.B71 d aa) (aQ,aD,bC,((i64.wrap (a+1))),i_5,0) TG))) KT)) CW)) h))
def aj.g50(fr:Frame):Option Addr×Nat×Nat×Int×Int×Int:=((gLb (ah fr 0)),(gLl (ah fr 0)),(gLc (ah fr 0)),(gI (ah fr 1)),(gI (ah fr 5)),(gI (ah fr 9)))
def aj.l50(a:(Option Addr×Nat×Nat×Int×Int)->ab->Prop)(aa:VH):=gg (kds 431 [(0,.l),(1,.i .i64),(5,.i .i64),(9,.i .i64)]) λfr=>bh (aj.B50 a aa) (aj.g50 fr)
def aj.B44(a:(Option Addr×Nat×Nat×Int×Int)->ab->Prop)(aa:VH)(b:(Option Addr×Nat×Nat×Int×Int×Int)->ab->Prop):Option Addr×Nat×Nat×Int×Int×Int->ab->Prop
 | (aQ,aD,bC,k_1,i_5,j_8),h=>
 BIF ((decide (j_8<3))) (
 bg aQ i_5 aD λc=>
 IDX j_8 3 <|
 oF .f32 (cell h ((Addr.add ((Addr.add ((Addr.add ((Addr.add ((Addr.add c (i_5.toNat*45))) 5)) 8)) 1)) (j_8.toNat*1)))) λKk=>
 BIF (f32.format.order Kk (f32.nearest k_1) != some .eq) (
 aa (.int .i64 (-1)) h) (
 b (aQ,aD,bC,((i64.wrap (k_1+1))),i_5,((i64.wrap (j_8+1)))) h)) (
 bh (aj.B50 a aa) (aQ,aD,bC,k_1,i_5,0) h)
def aj.g44(fr:Frame):Option Addr×Nat×Nat×Int×Int×Int:=((gLb (ah fr 0)),(gLl (ah fr 0)),(gLc (ah fr 0)),(gI (ah fr 1)),(gI (ah fr 5)),(gI (ah fr 8)))
def aj.l44(a:(Option Addr×Nat×Nat×Int×Int)->ab->Prop)(aa:VH):=gg (kds 431 [(0,.l),(1,.i .i64),(5,.i .i64),(8,.i .i64)]) λfr=>bh (aj.B44 a aa) (aj.g44 fr)
def aj.B35(a:(Option Addr×Nat×Nat×Int×Int)->ab->Prop)(aa:VH)(b:(Option Addr×Nat×Nat×Int×Int×Int)->ab->Prop):Option Addr×Nat×Nat×Int×Int×Int->ab->Prop
 | (aQ,aD,bC,k_1,i_5,j_7),h=>
 BIF ((decide (j_7<2))) (
 bg aQ i_5 aD λc=>
 IDX j_7 2 <|
 oF .f32 (cell h ((Addr.add ((Addr.add ((Addr.add ((Addr.add ((Addr.add c (i_5.toNat*45))) 5)) 2)) 4)) (j_7.toNat*1)))) λQL=>
 BIF (f32.format.order QL (f32.nearest k_1) != some .eq) (
 aa (.int .i64 (-1)) h) (
 b (aQ,aD,bC,((i64.wrap (k_1+1))),i_5,((i64.wrap (j_7+1)))) h)) (
 bg aQ i_5 aD λd=>
 oI .i64 (cell h ((Addr.add ((Addr.add ((Addr.add d (i_5.toNat*45))) 5)) 8))) λZt=>
 BIF (Zt != k_1) (
 aa (.int .i64 (-1)) h) (
 bh (aj.B44 a aa) (aQ,aD,bC,((i64.wrap (k_1+1))),i_5,0) h))
def aj.g35(fr:Frame):Option Addr×Nat×Nat×Int×Int×Int:=((gLb (ah fr 0)),(gLl (ah fr 0)),(gLc (ah fr 0)),(gI (ah fr 1)),(gI (ah fr 5)),(gI (ah fr 7)))
def aj.l35(a:(Option Addr×Nat×Nat×Int×Int)->ab->Prop)(aa:VH):=gg (kds 431 [(0,.l),(1,.i .i64),(5,.i .i64),(7,.i .i64)]) λfr=>bh (aj.B35 a aa) (aj.g35 fr)
def aj.B29(a:(Option Addr×Nat×Nat×Int×Int)->ab->Prop)(aa:VH)(b:(Option Addr×Nat×Nat×Int×Int×Int)->ab->Prop):Option Addr×Nat×Nat×Int×Int×Int->ab->Prop
 | (aQ,aD,bC,k_1,i_5,j_6),h=>
 BIF ((decide (j_6<3))) (
 bg aQ i_5 aD λc=>
 IDX j_6 3 <|
 oF .f32 (cell h ((Addr.add ((Addr.add ((Addr.add ((Addr.add ((Addr.add c (i_5.toNat*45))) 5)) 2)) 1)) (j_6.toNat*1)))) λd=>
 BIF (f32.format.order d (f32.nearest k_1) != some .eq) (
 aa (.int .i64 (-1)) h) (
 b (aQ,aD,bC,((i64.wrap (k_1+1))),i_5,((i64.wrap (j_6+1)))) h)) (
 bh (aj.B35 a aa) (aQ,aD,bC,k_1,i_5,0) h)
def aj.g29(fr:Frame):Option Addr×Nat×Nat×Int×Int×Int:=((gLb (ah fr 0)),(gLl (ah fr 0)),(gLc (ah fr 0)),(gI (ah fr 1)),(gI (ah fr 5)),(gI (ah fr 6)))
def aj.l29(a:(Option Addr×Nat×Nat×Int×Int)->ab->Prop)(aa:VH):=gg (kds 431 [(0,.l),(1,.i .i64),(5,.i .i64),(6,.i .i64)]) λfr=>bh (aj.B29 a aa) (aj.g29 fr)
def aj.B2(aa:VH)(a:(Option Addr×Nat×Nat×Int×Int)->ab->Prop):Option Addr×Nat×Nat×Int×Int->ab->Prop
 | (aQ,aD,bC,k_1,i_5),h=>
 BIF ((decide (i_5<(aD:Int)))) (
 bg aQ i_5 aD λb=>
 oI .i64 (cell h ((Addr.add b (i_5.toNat*45)))) λc=>
 BIF (c != k_1) (
 aa (.int .i64 (-1)) h) (
 bg aQ i_5 aD λd=>
 oI .i64 (cell h ((Addr.add ((Addr.add d (i_5.toNat*45))) 1))) λe=>
 BIF ((e != (i64.wrap (k_1+1)))) (
 aa (.int .i64 (-1)) h) (
 bg aQ i_5 aD λf=>
 oI .i64 (cell h ((Addr.add ((Addr.add f (i_5.toNat*45))) 2))) λg=>
 BIF ((g != (i64.wrap ((i64.wrap (k_1+1))+1)))) (
 aa (.int .i64 (-1)) h) (
 bg aQ i_5 aD λi=>
 oB (cell h ((Addr.add ((Addr.add i (i_5.toNat*45))) 3))) λHw=>
 NZ 3 <|
 BIF ((!(Hw==((Int.tmod ((i64.wrap ((i64.wrap ((i64.wrap (k_1+1))+1))+1))) 3)==0)))) (
 aa (.int .i64 (-1)) h) (
 bg aQ i_5 aD λWc=>
 oF .f32 (cell h ((Addr.add ((Addr.add Wc (i_5.toNat*45))) 4))) λwX=>
 BIF ((f32.format.order wX ((f32.nearest ((i64.wrap ((i64.wrap ((i64.wrap ((i64.wrap (k_1+1))+1))+1))+1))))) != some .eq)) (
 aa (.int .i64 (-1)) h) (
 bg aQ i_5 aD λj=>
 oL (cell h ((Addr.add ((Addr.add j (i_5.toNat*45))) 5))) λFC DX Jt=>
 ae ai gR #[.slice FC DX Jt,.int .i64 ((i64.wrap ((i64.wrap ((i64.wrap ((i64.wrap ((i64.wrap (k_1+1))+1))+1))+1))+1)))] (λDc iJ=>
 asI .i64 Dc λWa=>
 BIF ((decide (Wa<0))) (
 aa (.int .i64 (-1)) iJ) (
 bg aQ i_5 aD λk=>
 oI .i64 (cell iJ ((Addr.add ((Addr.add ((Addr.add k (i_5.toNat*45))) 5)) 1))) λl=>
 BIF (l != Wa) (
 aa (.int .i64 (-1)) iJ) (
 bg aQ i_5 aD λm=>
 oI .i64 (cell iJ ((Addr.add ((Addr.add ((Addr.add m (i_5.toNat*45))) 5)) 2))) λn=>
 BIF ((n != (i64.wrap (Wa+1)))) (
 aa (.int .i64 (-1)) iJ) (
 bh (aj.B29 a aa) (aQ,aD,bC,((i64.wrap ((i64.wrap (Wa+1))+1))),i_5,0) iJ)))) h)))))) (
 aa (.int .i64 k_1) h)
def aj.g2(fr:Frame):Option Addr×Nat×Nat×Int×Int:=((gLb (ah fr 0)),(gLl (ah fr 0)),(gLc (ah fr 0)),(gI (ah fr 1)),(gI (ah fr 5)))
def aj.l2(aa:VH):=gg (kds 431 [(0,.l),(1,.i .i64),(5,.i .i64)]) λfr=>bh (aj.B2 aa) (aj.g2 fr)
def aj.S(aQ:Option Addr)(aD bC:Nat)(k_1:Int)(aa:VH)(h:ab):=
 bh (aj.B2 aa) (aQ,aD,bC,k_1,0) h
theorem aj.call{aQ:Option Addr}{aD bC:Nat}{k_1:Int}{aa:VH}{h:ab}(H:aj.S aQ aD bC k_1 aa h):ae ai sr #[.slice aQ aD bC,.int .i64 k_1] aa h:=
 qc (Λ:=an [(1000002,aj.l2 aa)]) Tryz.func78
 (qs qf (qs (qs qf (Rq.block (ql (aj.l2 aa) (qg (g:=aj.g2) (Λ:=λa=>an [(1000029,aj.l29 a aa),(1000035,aj.l35 a aa),(1000044,aj.l44 a aa),(1000050,aj.l50 a aa),(1000071,aj.l71 a aa),(1000077,aj.l77 a aa),(1000110,aj.aqU a aa),(1000116,aj.aqV a aa)]) (λ_ _ _=>by kernel_rfl) (λa=>(qs qf (qs (Rq.block (qs qf (qs qf (qs qf (qs qf (qs qf (qs qf (qs qf (qs qf (qs qf (qs qf (qs qf (qs qf (qs qf (qs qf (qs qf (qs qf (qs (qs qf (Rq.block (ql (aj.l29 a aa) (qg (g:=aj.g29) (Λ:=λb=>an []) (λ_ _ _=>by kernel_rfl) (λb=>qf))))) (qs (qs qf (Rq.block (ql (aj.l35 a aa) (qg (g:=aj.g35) (Λ:=λc=>an []) (λ_ _ _=>by kernel_rfl) (λc=>qf))))) (qs qf (qs qf (qs (qs qf (Rq.block (ql (aj.l44 a aa) (qg (g:=aj.g44) (Λ:=λd=>an []) (λ_ _ _=>by kernel_rfl) (λd=>qf))))) (qs (qs qf (Rq.block (ql (aj.l50 a aa) (qg (g:=aj.g50) (Λ:=λe=>an []) (λ_ _ _=>by kernel_rfl) (λe=>qf))))) (qs qf (qs qf (qs qf (qs qf (qs qf (qs qf (qs qf (qs qf (qs qf (qs qf (qs (qs qf (Rq.block (ql (aj.l71 a aa) (qg (g:=aj.g71) (Λ:=λf=>an []) (λ_ _ _=>by kernel_rfl) (λf=>qf))))) (qs (qs qf (Rq.block (ql (aj.l77 a aa) (qg (g:=aj.g77) (Λ:=λi=>an []) (λ_ _ _=>by kernel_rfl) (λi=>qf))))) (qs qf (qs qf (qs qf (qs qf (qs qf (qs qf (qs qf (qs qf (qs qf (qs qf (qs qf (qs qf (qs qf (qs qf (qs qf (qs qf (qs qf (qs qf (qs (qs qf (Rq.block (ql (aj.aqU a aa) (qg (g:=aj.apo) (Λ:=λakJ=>an []) (λ_ _ _=>by kernel_rfl) (λakJ=>qf))))) (qs (qs qf (Rq.block (ql (aj.aqV a aa) (qg (g:=aj.apr) (Λ:=λakK=>an []) (λ_ _ _=>by kernel_rfl) (λakK=>qf))))) qf))))))))))))))))))))))))))))))))))))))))))))))))))))))) qf))))))) qf))
 (qe H)
def w9.S(a_0:Array Value)(k_1:Int)(aa:VH)(h:ab):=
 ALC a_0 aE (λb c=>
 LDA 6 c ⟨b,0,none⟩ λf=>
 ae ai tQ #[.agg f,.int .i64 k_1] (λg a=>
 asI .i64 g λd=>
 BIF ((decide (d<0))) (
 aa (.int .i64 (-1)) a) (
 oL (cell a ⟨b,6,none⟩) λAu yL AN=>
 ae ai sr #[.slice Au yL AN,.int .i64 d] (λi e=>
 asI .i64 i λrD=>
 BIF ((decide (rD<0))) (
 aa (.int .i64 (-1)) e) (
 aa (.int .i64 rD) e)) a)) c) h
theorem w9.call{a_0:Array Value}{k_1:Int}{aa:VH}{h:ab}(H:w9.S a_0 k_1 aa h):ae ai kj #[.agg a_0,.int .i64 k_1] aa h:=
 qc (Λ:=an []) Tryz.func20
 qf
 (qe H)
end Go.Sx
