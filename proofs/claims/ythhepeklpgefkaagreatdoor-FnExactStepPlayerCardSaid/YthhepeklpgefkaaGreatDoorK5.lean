/- Lemmas. -/
import Derived.Test.YthhepeklpgefkaaGreatDoorTab
set_option linter.unusedVariables false
set_option linter.unusedSimpArgs false
namespace Go.Sx
open FloatKind (f32 f64)
open IntKind (i64)
open Go.Proofs
set_option maxRecDepth 100000
def xd.S(Gx:Nat)(aa:VH)(h:ab):=
 BIF (f32.format.order Gx 1065353216==some .gt||f32.format.order Gx 1065353216==some .eq) (
 aa (.bool (f32.format.order Gx 1184645120==some .lt||f32.format.order Gx 1184645120==some .eq)) h) (
 aa (.bool false) h)
theorem xd.call{Gx:Nat}{aa:VH}{h:ab}(H:xd.S Gx aa h):ae ai xS #[.float .f32 Gx] aa h:=
 qc (Λ:=an []) Tryz.func292
 qf
 (qe H)
def gV.B5(aa:VH)(a:(Addr×Int×Int)->ab->Prop):Addr×Int×Int->ab->Prop
 | (t_0,n_3,i_4),h=>
 BIF (decide (i_4<n_3)) (
 BIF ((decide (0<i_4))) (
 oL (cell h (t_0.add 2)) λDY DZ FE=>
 bg DY i_4 DZ λb=>
 oF .f32 (cell h ((Addr.add b (i_4.toNat*1)))) λzf=>
 oL (cell h (t_0.add 2)) λUN SN Xu=>
 bg UN ((i64.wrap (i_4-1))) SN λc=>
 oF .f32 (cell h ((Addr.add c ((Int.toNat ((i64.wrap (i_4-1))))*1)))) λIl=>
 BIF (!(f32.format.order zf Il==some .gt)) (
 aa (.bool false) h) (
 oL (cell h (t_0.add 2)) λXx Xy ael=>
 bg Xx i_4 Xy λd=>
 oF .f32 (cell h ((Addr.add d (i_4.toNat*1)))) λIN=>
 oF .f32 (cell h (t_0.add 1)) λQL=>
 BIF (!(f32.format.order IN QL==some .lt)) (
 aa (.bool false) h) (
 a (t_0,n_3,((i64.wrap (i_4+1)))) h))) (
 oL (cell h (t_0.add 2)) λaen aeo alR=>
 bg aen i_4 aeo λe=>
 oF .f32 (cell h ((Addr.add e (i_4.toNat*1)))) λf=>
 oF .f32 (cell h (t_0.add 1)) λKk=>
 BIF (!(f32.format.order f Kk==some .lt)) (
 aa (.bool false) h) (
 a (t_0,n_3,((i64.wrap (i_4+1)))) h))) (
 aa (.bool true) h)
def gV.g5(fr:Frame):Addr×Int×Int:=((gP (ah fr 0)),(gI (ah fr 3)),(gI (ah fr 4)))
def gV.l5(aa:VH):=gg (kds 90 [(0,.p),(3,.i .i64),(4,.i .i64)]) λfr=>bh (gV.B5 aa) (gV.g5 fr)
def gV.J4(aa:VH)(t_0:Addr)(n_3:Int)(h:ab):=
 bh (gV.B5 aa) (t_0,n_3,0) h
def gV.j4(aa:VH):=gg (kds 90 [(0,.p),(3,.i .i64)]) λfr=>gV.J4 aa (gP (ah fr 0)) (gI (ah fr 3))
def gV.S(t_0:Addr)(aa:VH)(h:ab):=
 oL (cell h (t_0.add 2)) λj b Qn=>
 oF .f32 (cell h t_0) λe=>
 ae ai xS #[.float .f32 e] (λf a=>
 asB f λg=>
 BIF (!g) (
 aa (.bool false) a) (
 oF .f32 (cell a (t_0.add 1)) λc=>
 BIF (f32.format.order c 1065353216==some .gt||f32.format.order c 1065353216==some .eq) (
 oF .f32 (cell a (t_0.add 1)) λd=>
 BIF (!(f32.format.order d 1167458304==some .lt||f32.format.order d 1167458304==some .eq)) (
 aa (.bool false) a) (
 BIF ((decide ((b:Int)<1))) (
 aa (.bool false) a) (
 BIF ((decide (31<(b:Int)))) (
 aa (.bool false) a) (
 oL (cell a (t_0.add 2)) λuY rj yg=>
 bg uY 0 rj λWc=>
 oF .f32 (cell a Wc) λwX=>
 ae ai eL #[.float .f32 wX,.float .f32 0] (λyM ke=>
 asB yM λi=>
 BIF (!i) (
 aa (.bool false) ke) (
 gV.J4 aa t_0 (b:Int) ke)) a)))) (
 aa (.bool false) a))) h
theorem gV.call{t_0:Addr}{aa:VH}{h:ab}(H:gV.S t_0 aa h):ae ai wN #[.pointer (some t_0)] aa h:=
 qc (Λ:=an [(4,gV.j4 aa),(1000005,gV.l5 aa)]) Tryz.func193
 (qs qf (qs qf (qj (gV.j4 aa) qf
 (qs (qs qf (Rq.block (ql (gV.l5 aa) (qg (g:=gV.g5) (Λ:=λa=>an []) (λ_ _ _=>by kernel_rfl) (λa=>qf))))) qf))))
 (qe H)
def uz.S(t_0:Array Value)(aa:VH)(h:ab):=
 ALC t_0 ey (λa b=>
 ae ai wN #[.pointer (some ⟨a,0,none⟩)] (λc d=>
 asB c λe=>
 aa (.bool e) d) b) h
theorem uz.call{t_0:Array Value}{aa:VH}{h:ab}(H:uz.S t_0 aa h):ae ai qV #[.agg t_0] aa h:=
 qc (Λ:=an []) Tryz.func126
 qf
 (qe H)
def iY.B2(aa:VH)(a:(ByteArray×Int)->ab->Prop):ByteArray×Int->ab->Prop
 | (wu,i_3),h=>
 BIF ((decide (i_3<((ByteArray.size wu):Int)))) (
 IDX i_3 (ByteArray.size wu) <|
 BIF ((decide ((jB wu i_3)<97))) (
 aa (.bool false) h) (
 IDX i_3 (ByteArray.size wu) <|
 BIF ((decide (122<(jB wu i_3)))) (
 aa (.bool false) h) (
 a (wu,((i64.wrap (i_3+1)))) h))) (
 ae ai eO #[.int .i64 ((ByteArray.size wu):Int),.int .i64 1,.int .i64 12] (λb c=>
 asB b λd=>
 aa (.bool d) c) h)
def iY.g2(fr:Frame):ByteArray×Int:=((gS (ah fr 0)),(gI (ah fr 3)))
def iY.l2(aa:VH):=gg (kds 23 [(0,.s),(3,.i .i64)]) λfr=>bh (iY.B2 aa) (iY.g2 fr)
def iY.S(wu:ByteArray)(aa:VH)(h:ab):=
 bh (iY.B2 aa) (wu,0) h
theorem iY.call{wu:ByteArray}{aa:VH}{h:ab}(H:iY.S wu aa h):ae ai xU #[.string wu] aa h:=
 qc (Λ:=an [(1000002,iY.l2 aa)]) Tryz.func194
 (qs qf (qs (qs qf (Rq.block (ql (iY.l2 aa) (qg (g:=iY.g2) (Λ:=λa=>an []) (λ_ _ _=>by kernel_rfl) (λa=>qf))))) qf))
 (qe H)
def lJ.S(a_0:Nat)(JB:Nat)(SU:Bool)(aa:VH)(h:ab):=
 BIF SU (
 BIF (f32.format.order a_0 0==some .gt||f32.format.order a_0 0==some .eq) (
 aa (.bool (f32.format.order a_0 JB==some .lt)) h) (
 aa (.bool false) h)) (
 BIF (f32.format.order a_0 0==some .gt||f32.format.order a_0 0==some .eq) (
 aa (.bool (f32.format.order a_0 JB==some .lt||f32.format.order a_0 JB==some .eq)) h) (
 aa (.bool false) h))
theorem lJ.call{a_0:Nat}{JB:Nat}{SU:Bool}{aa:VH}{h:ab}(H:lJ.S a_0 JB SU aa h):ae ai iD #[.float .f32 a_0,.float .f32 JB,.bool SU] aa h:=
 qc (Λ:=an []) Tryz.func195
 qf
 (qe H)
def gu.J3(aa:VH)(x_0:Addr)(h:ab):=
 oI .i64 (cell h (x_0.add 1)) λa=>
 BIF (a==1) (
 oF .f32 (cell h (x_0.add 2)) λAg=>
 ae ai iD #[.float .f32 Ag,.float .f32 1056964608,.bool false] (λwi iG=>
 asB wi λHb=>
 BIF Hb (
 oF .f32 (cell iG (x_0.add 4)) λFJ=>
 ae ai iD #[.float .f32 FJ,.float .f32 1065353216,.bool true] (λDc iJ=>
 asB Dc λOY=>
 aa (.bool OY) iJ) iG) (
 aa (.bool false) iG)) h) (
 BIF (a==2) (
 oF .f32 (cell h (x_0.add 2)) λzf=>
 ae ai iD #[.float .f32 zf,.float .f32 1065353216,.bool true] (λFH jZ=>
 asB FH λb=>
 BIF b (
 oF .f32 (cell jZ (x_0.add 4)) λPG=>
 BIF (f32.format.order PG 0==some .eq) (
 aa (.bool true) jZ) (
 oF .f32 (cell jZ (x_0.add 4)) λc=>
 aa (.bool (f32.format.order c 1065353216==some .eq)) jZ)) (
 aa (.bool false) jZ)) h) (
 BIF (a==3) (
 oF .f32 (cell h (x_0.add 2)) λIN=>
 ae ai iD #[.float .f32 IN,.float .f32 1065353216,.bool true] (λPF wO=>
 asB PF λd=>
 BIF d (
 oF .f32 (cell wO (x_0.add 4)) λe=>
 ae ai fk #[.float .f32 e] (λVp GD=>
 asB Vp λf=>
 aa (.bool f) GD) wO) (
 aa (.bool false) wO)) h) (
 aa (.bool false) h)))
def gu.j3(aa:VH):=gg (kds 70 [(0,.p)]) λfr=>gu.J3 aa (gP (ah fr 0))
def gu.S(x_0:Addr)(aa:VH)(h:ab):=
 oS (cell h x_0) λc=>
 ae ai xU #[.string c] (λd a=>
 asB d λe=>
 BIF (!e) (
 aa (.bool false) a) (
 oF .f32 (cell a (x_0.add 3)) λf=>
 ae ai iD #[.float .f32 f,.float .f32 1065353216,.bool false] (λg b=>
 asB g λi=>
 BIF (!i) (
 aa (.bool false) b) (
 gu.J3 aa x_0 b)) a)) h
theorem gu.call{x_0:Addr}{aa:VH}{h:ab}(H:gu.S x_0 aa h):ae ai oE #[.pointer (some x_0)] aa h:=
 qc (Λ:=an [(3,gu.j3 aa)]) Tryz.func127
 (qs qf (qj (gu.j3 aa) qf
 qf))
 (qe H)
def il.B2(aa:VH)(a:(Option Addr×Nat×Nat×Int×Int)->ab->Prop):Option Addr×Nat×Nat×Int×Int->ab->Prop
 | (aF,ax,aN,kO,i_5),h=>
 BIF ((decide (i_5<(ax:Int)))) (
 bg aF i_5 ax λb=>
 oI .i64 (cell h ((Addr.add ((Addr.add b (i_5.toNat*6))) 1))) λc=>
 BIF (c==2) (
 bg aF i_5 ax λd=>
 oI .i64 (cell h ((Addr.add ((Addr.add d (i_5.toNat*6))) 2))) λe=>
 BIF (e==kO) (
 bg aF i_5 ax λf=>
 oI .i64 (cell h ((Addr.add f (i_5.toNat*6)))) λg=>
 aa (.int .i64 g) h) (
 a (aF,ax,aN,kO,((i64.wrap (i_5+1)))) h)) (
 a (aF,ax,aN,kO,((i64.wrap (i_5+1)))) h)) (
 aa (.int .i64 (-1)) h)
def il.g2(fr:Frame):Option Addr×Nat×Nat×Int×Int:=((gLb (ah fr 0)),(gLl (ah fr 0)),(gLc (ah fr 0)),(gI (ah fr 1)),(gI (ah fr 5)))
def il.l2(aa:VH):=gg (kds 32 [(0,.l),(1,.i .i64),(5,.i .i64)]) λfr=>bh (il.B2 aa) (il.g2 fr)
def il.S(aF:Option Addr)(ax aN:Nat)(kO:Int)(aa:VH)(h:ab):=
 bh (il.B2 aa) (aF,ax,aN,kO,0) h
theorem il.call{aF:Option Addr}{ax aN:Nat}{kO:Int}{aa:VH}{h:ab}(H:il.S aF ax aN kO aa h):ae ai lG #[.slice aF ax aN,.int .i64 kO] aa h:=
 qc (Λ:=an [(1000002,il.l2 aa)]) Tryz.func197
 (qs qf (qs (qs qf (Rq.block (ql (il.l2 aa) (qg (g:=il.g2) (Λ:=λa=>an []) (λ_ _ _=>by kernel_rfl) (λa=>qf))))) qf))
 (qe H)
def zg.S(e_0:Addr)(tj:Int)(aa:VH)(h:ab):=
 ALC ⟨dF⟩ dE (λa c=>
 oI .i64 (cell c e_0) λg=>
 oI .i64 (cell c (e_0.add 2)) λi=>
 ALC ⟨dF⟩ dE (λb f=>
 PIN c (e_0.add 2) 1 f <|
 PIN c e_0 1 f <|
 STA 4 f ⟨b,0,none⟩ ⟨[.int .i64 g,.int .i64 1,.int .i64 i,.int .i64 0]⟩ λd=>
 oI .i64 (cell d (e_0.add 1)) λj=>
 BIF (j==1) (
 IDX 3 4 <|
 ST1 d ⟨b,3,none⟩ (.int .i64 1) λe=>
 oI .i64 (cell e e_0) λrD=>
 BIF (decide (tj<rD)) (
 IDX 1 4 <|
 ST1 e ⟨b,1,none⟩ (.int .i64 0) λkc=>
 LDA 4 kc ⟨b,0,none⟩ λGu=>
 STA 4 kc ⟨a,0,none⟩ Gu λgf=>
 LDA 4 gf ⟨a,0,none⟩ λk=>
 aa (.agg k) gf) (
 LDA 4 e ⟨b,0,none⟩ λRP=>
 STA 4 e ⟨a,0,none⟩ RP λiJ=>
 LDA 4 iJ ⟨a,0,none⟩ λHt=>
 aa (.agg Ht) iJ)) (
 LDA 4 d ⟨b,0,none⟩ λl=>
 STA 4 d ⟨a,0,none⟩ l λtz=>
 LDA 4 tz ⟨a,0,none⟩ λHu=>
 aa (.agg Hu) tz)) c) h
theorem zg.call{e_0:Addr}{tj:Int}{aa:VH}{h:ab}(H:zg.S e_0 tj aa h):ae ai kV #[.pointer (some e_0),.int .i64 tj] aa h:=
 qc (Λ:=an []) Tryz.func147
 qf
 (qe H)
def iX.B2(aa:VH)(a:(Addr×Addr×Int)->ab->Prop):Addr×Addr×Int->ab->Prop
 | (a_2,b_3,i_5),h=>
 BIF ((decide (i_5<4))) (
 IDX i_5 4 <|
 oI .i64 (cell h ((Addr.add a_2 (i_5.toNat*1)))) λb=>
 IDX i_5 4 <|
 oI .i64 (cell h ((Addr.add b_3 (i_5.toNat*1)))) λc=>
 BIF (b != c) (
 IDX i_5 4 <|
 oI .i64 (cell h ((Addr.add a_2 (i_5.toNat*1)))) λd=>
 IDX i_5 4 <|
 oI .i64 (cell h ((Addr.add b_3 (i_5.toNat*1)))) λe=>
 aa (.bool (decide (d<e))) h) (
 a (a_2,b_3,((i64.wrap (i_5+1)))) h)) (
 aa (.bool false) h)
def iX.g2(fr:Frame):Addr×Addr×Int:=((gP (ah fr 2)),(gP (ah fr 3)),(gI (ah fr 5)))
def iX.l2(aa:VH):=gg (kds 24 [(2,.p),(3,.p),(5,.i .i64)]) λfr=>bh (iX.B2 aa) (iX.g2 fr)
def iX.S(a_0:Array Value)(b_1:Array Value)(aa:VH)(h:ab):=
 ALC a_0 dE (λa b=>
 ALC b_1 dE (λc d=>
 bh (iX.B2 aa) (⟨a,0,none⟩,⟨c,0,none⟩,0) d) b) h
theorem iX.call{a_0:Array Value}{b_1:Array Value}{aa:VH}{h:ab}(H:iX.S a_0 b_1 aa h):ae ai xT #[.agg a_0,.agg b_1] aa h:=
 qc (Λ:=an [(1000002,iX.l2 aa)]) Tryz.func148
 (qs qf (qs (qs qf (Rq.block (ql (iX.l2 aa) (qg (g:=iX.g2) (Λ:=λa=>an []) (λ_ _ _=>by kernel_rfl) (λa=>qf))))) qf))
 (qe H)
def aA.J22(f:(Option Addr×Nat×Nat×Int×Int×Option Addr×Nat×Nat×Option Addr×Nat×Nat×Int)->ab->Prop)(aa:VH)(aF:Option Addr)(ax:Nat)(aN:Nat)(dZ:Int)(n_5:Int)(a:Option Addr)(b:Nat)(uC:Nat)(c:Option Addr)(ma:Nat)(uD:Nat)(i_8:Int)(e_9:Addr)(h:ab):=
 oI .i64 (cell h (e_9.add 2)) λd=>
 bg a d b λg=>
 oI .i64 (cell h ((Addr.add g (d.toNat*1)))) λi=>
 BIF ((decide (1<i))) (
 aa (.bool false) h) (
 oI .i64 (cell h (e_9.add 2)) λe=>
 bg c e ma λj=>
 oI .i64 (cell h ((Addr.add j (e.toNat*1)))) λk=>
 BIF ((decide (1<k))) (
 aa (.bool false) h) (
 f (aF,ax,aN,dZ,n_5,a,b,uC,c,ma,uD,((i64.wrap (i_8+1)))) h))
def aA.j22(a:(Option Addr×Nat×Nat×Int×Int×Option Addr×Nat×Nat×Option Addr×Nat×Nat×Int)->ab->Prop)(aa:VH):=gg (kds 196 [(0,.l),(1,.i .i64),(5,.i .i64),(6,.l),(7,.l),(8,.i .i64),(9,.p)]) λfr=>aA.J22 a aa (gLb (ah fr 0)) (gLl (ah fr 0)) (gLc (ah fr 0)) (gI (ah fr 1)) (gI (ah fr 5)) (gLb (ah fr 6)) (gLl (ah fr 6)) (gLc (ah fr 6)) (gLb (ah fr 7)) (gLl (ah fr 7)) (gLc (ah fr 7)) (gI (ah fr 8)) (gP (ah fr 9))
def aA.J12(g:(Option Addr×Nat×Nat×Int×Int×Option Addr×Nat×Nat×Option Addr×Nat×Nat×Int)->ab->Prop)(aa:VH)(aF:Option Addr)(ax:Nat)(aN:Nat)(dZ:Int)(n_5:Int)(b:Option Addr)(c:Nat)(uC:Nat)(d:Option Addr)(ma:Nat)(uD:Nat)(i_8:Int)(e_9:Addr)(h:ab):=
 oI .i64 (cell h (e_9.add 1)) λi=>
 BIF (i==2) (
 oI .i64 (cell h (e_9.add 2)) λe=>
 bg b e c λl=>
 oI .i64 (cell h ((Addr.add l (e.toNat*1)))) λm=>
 bg b e c λn=>
 ST1 h ((Addr.add n (e.toNat*1))) (.int .i64 ((i64.wrap (m+1)))) λoJ=>
 oI .i64 (cell oJ (e_9.add 2)) λXV=>
 bg d XV ma λo=>
 oI .i64 (cell oJ ((Addr.add o (XV.toNat*1)))) λp=>
 BIF ((decide (0<p))) (
 aa (.bool false) oJ) (
 oI .i64 (cell oJ (e_9.add 3)) λq=>
 ae ai eO #[.int .i64 q,.int .i64 0,.int .i64 ((i64.wrap (dZ-1)))] (λVq DL=>
 asB Vq λr=>
 BIF (!r) (
 aa (.bool false) DL) (
 oI .i64 (cell DL (e_9.add 4)) λZu=>
 ae ai eO #[.int .i64 Zu,.int .i64 (-100),.int .i64 100] (λWd tA=>
 asB Wd λs=>
 BIF (!s) (
 aa (.bool false) tA) (
 oF .f32 (cell tA (e_9.add 5)) λWf=>
 ae ai fk #[.float .f32 Wf] (λt DM=>
 asB t λu=>
 BIF (!u) (
 aa (.bool false) DM) (
 aA.J22 g aa aF ax aN dZ n_5 b c uC d ma uD i_8 e_9 DM)) tA)) DL)) oJ)) (
 BIF (i==1) (
 oI .i64 (cell h (e_9.add 2)) λf=>
 bg d f ma λv=>
 oI .i64 (cell h ((Addr.add v (f.toNat*1)))) λw=>
 bg d f ma λx=>
 ST1 h ((Addr.add x (f.toNat*1))) (.int .i64 ((i64.wrap (w+1)))) λa=>
 oI .i64 (cell a (e_9.add 2)) λj=>
 bg b j c λy=>
 oI .i64 (cell a ((Addr.add y (j.toNat*1)))) λz=>
 BIF (z==0) (
 aa (.bool false) a) (
 oI .i64 (cell a (e_9.add 3)) λA=>
 BIF (A != 0) (
 aa (.bool false) a) (
 oI .i64 (cell a (e_9.add 4)) λB=>
 BIF (B != 0) (
 aa (.bool false) a) (
 oF .f32 (cell a (e_9.add 5)) λZG=>
 ae ai eL #[.float .f32 ZG,.float .f32 0] (λC k=>
 asB C λD=>
 BIF (!D) (
 aa (.bool false) k) (
 aA.J22 g aa aF ax aN dZ n_5 b c uC d ma uD i_8 e_9 k)) a)))) (
 aa (.bool false) h))
def aA.j12(a:(Option Addr×Nat×Nat×Int×Int×Option Addr×Nat×Nat×Option Addr×Nat×Nat×Int)->ab->Prop)(aa:VH):=gg (kds 196 [(0,.l),(1,.i .i64),(5,.i .i64),(6,.l),(7,.l),(8,.i .i64),(9,.p)]) λfr=>aA.J12 a aa (gLb (ah fr 0)) (gLl (ah fr 0)) (gLc (ah fr 0)) (gI (ah fr 1)) (gI (ah fr 5)) (gLb (ah fr 6)) (gLl (ah fr 6)) (gLc (ah fr 6)) (gLb (ah fr 7)) (gLl (ah fr 7)) (gLc (ah fr 7)) (gI (ah fr 8)) (gP (ah fr 9))
def aA.J29(Lv:(Option Addr×Nat×Nat×Int)->ab->Prop)(aa:VH)(aF:Option Addr)(ax:Nat)(aN:Nat)(tr:Int)(a:Addr)(b:Addr)(h:ab):=
 LDA 4 h a λauf=>
 LDA 4 h b λaug=>
 ae ai xT #[.agg auf,.agg aug] (λanB ahl=>
 asB anB λauW=>
 BIF (!auW) (
 aa (.bool false) ahl) (
 Lv (aF,ax,aN,((i64.wrap (tr+1)))) ahl)) h
def aA.j29(Lv:(Option Addr×Nat×Nat×Int)->ab->Prop)(aa:VH):=gg (kds 196 [(0,.l),(10,.i .i64),(11,.p),(12,.p)]) λfr=>aA.J29 Lv aa (gLb (ah fr 0)) (gLl (ah fr 0)) (gLc (ah fr 0)) (gI (ah fr 10)) (gP (ah fr 11)) (gP (ah fr 12))
def aA.J28(Lv:(Option Addr×Nat×Nat×Int)->ab->Prop)(aa:VH)(aF:Option Addr)(ax:Nat)(aN:Nat)(tr:Int)(b:Addr)(h:ab):=
 bg aF tr ax λc=>
 bg aF tr ax λa=>
 oI .i64 (cell h ((Addr.add ((Addr.add a (tr.toNat*6))) 2))) λd=>
 (ae ai lG #[.slice aF ax aN,.int .i64 d] (λi e=>
 asI .i64 i λf=>
 (ae ai kV #[.pointer (some ((Addr.add c (tr.toNat*6)))),.int .i64 f] (λj k=>
 asA j λl=>
 ALC ⟨dF⟩ dE (λg Mj=>
 PIN h ((Addr.add ((Addr.add a (tr.toNat*6))) 2)) 1 Mj <|
 STA 4 Mj ⟨g,0,none⟩ l λavH=>
 aA.J29 Lv aa aF ax aN tr b ⟨g,0,none⟩ avH) k) e)∧(ALC ⟨dF⟩ dE (λadv Pd=>
 PIN h ((Addr.add ((Addr.add a (tr.toNat*6))) 2)) 1 Pd <|
 ae ai kV #[.pointer (some ((Addr.add c (tr.toNat*6)))),.int .i64 f] (λanx Sp=>
 asA anx λm=>
 STA 4 Sp ⟨adv,0,none⟩ m λavI=>
 aA.J29 Lv aa aF ax aN tr b ⟨adv,0,none⟩ avI) Pd) e)) h)∧(ALC ⟨dF⟩ dE (λapn Sq=>
 PIN h ((Addr.add ((Addr.add a (tr.toNat*6))) 2)) 1 Sq <|
 ae ai lG #[.slice aF ax aN,.int .i64 d] (λn alv=>
 asI .i64 n λo=>
 ae ai kV #[.pointer (some ((Addr.add c (tr.toNat*6)))),.int .i64 o] (λazb WS=>
 asA azb λaue=>
 STA 4 WS ⟨apn,0,none⟩ aue λKS=>
 aA.J29 Lv aa aF ax aN tr b ⟨apn,0,none⟩ KS) alv) Sq) h)
def aA.j28(Lv:(Option Addr×Nat×Nat×Int)->ab->Prop)(aa:VH):=gg (kds 196 [(0,.l),(10,.i .i64),(11,.p)]) λfr=>aA.J28 Lv aa (gLb (ah fr 0)) (gLl (ah fr 0)) (gLc (ah fr 0)) (gI (ah fr 10)) (gP (ah fr 11))
def aA.B25(aa:VH)(Lv:(Option Addr×Nat×Nat×Int)->ab->Prop):Option Addr×Nat×Nat×Int->ab->Prop
 | (aF,ax,aN,tr),h=>
 BIF ((decide (tr<(ax:Int)))) (
 bg aF ((i64.wrap (tr-1))) ax λb=>
 bg aF ((i64.wrap (tr-1))) ax λa=>
 oI .i64 (cell h ((Addr.add ((Addr.add a ((Int.toNat ((i64.wrap (tr-1))))*6))) 2))) λc=>
 (ae ai lG #[.slice aF ax aN,.int .i64 c] (λYg Hc=>
 asI .i64 Yg λd=>
 (ae ai kV #[.pointer (some ((Addr.add b ((Int.toNat ((i64.wrap (tr-1))))*6)))),.int .i64 d] (λj k=>
 asA j λl=>
 ALC ⟨dF⟩ dE (λe f=>
 PIN h ((Addr.add ((Addr.add a ((Int.toNat ((i64.wrap (tr-1))))*6))) 2)) 1 f <|
 STA 4 f ⟨e,0,none⟩ l λyH=>
 aA.J28 Lv aa aF ax aN tr ⟨e,0,none⟩ yH) k) Hc)∧(ALC ⟨dF⟩ dE (λg Oi=>
 PIN h ((Addr.add ((Addr.add a ((Int.toNat ((i64.wrap (tr-1))))*6))) 2)) 1 Oi <|
 ae ai kV #[.pointer (some ((Addr.add b ((Int.toNat ((i64.wrap (tr-1))))*6)))),.int .i64 d] (λm n=>
 asA m λo=>
 STA 4 n ⟨g,0,none⟩ o λp=>
 aA.J28 Lv aa aF ax aN tr ⟨g,0,none⟩ p) Oi) Hc)) h)∧(ALC ⟨dF⟩ dE (λi KU=>
 PIN h ((Addr.add ((Addr.add a ((Int.toNat ((i64.wrap (tr-1))))*6))) 2)) 1 KU <|
 ae ai lG #[.slice aF ax aN,.int .i64 c] (λq Uu=>
 asI .i64 q λr=>
 ae ai kV #[.pointer (some ((Addr.add b ((Int.toNat ((i64.wrap (tr-1))))*6)))),.int .i64 r] (λs t=>
 asA s λu=>
 STA 4 t ⟨i,0,none⟩ u λv=>
 aA.J28 Lv aa aF ax aN tr ⟨i,0,none⟩ v) Uu) KU) h)) (
 aa (.bool true) h)
def aA.g25(fr:Frame):Option Addr×Nat×Nat×Int:=((gLb (ah fr 0)),(gLl (ah fr 0)),(gLc (ah fr 0)),(gI (ah fr 10)))
def aA.l25(aa:VH):=gg (kds 196 [(0,.l),(10,.i .i64)]) λfr=>bh (aA.B25 aa) (aA.g25 fr)
def aA.B7(aa:VH)(a:(Option Addr×Nat×Nat×Int×Int×Option Addr×Nat×Nat×Option Addr×Nat×Nat×Int)->ab->Prop):Option Addr×Nat×Nat×Int×Int×Option Addr×Nat×Nat×Option Addr×Nat×Nat×Int->ab->Prop
 | (aF,ax,aN,dZ,n_5,b,c,uC,d,ma,uD,i_8),h=>
 BIF ((decide (i_8<(ax:Int)))) (
 bg aF i_8 ax λWc=>
 oI .i64 (cell h ((Addr.add Wc (i_8.toNat*6)))) λe=>
 ae ai eO #[.int .i64 e,.int .i64 0,.int .i64 100000] (λyM ke=>
 asB yM λf=>
 BIF (!f) (
 aa (.bool false) ke) (
 oI .i64 (cell ke ((Addr.add ((Addr.add Wc (i_8.toNat*6))) 2))) λXU=>
 ae ai eO #[.int .i64 XU,.int .i64 0,.int .i64 ((i64.wrap (n_5-1)))] (λGV jn=>
 asB GV λLJ=>
 BIF (!LJ) (
 aa (.bool false) jn) (
 aA.J12 a aa aF ax aN dZ n_5 b c uC d ma uD i_8 ((Addr.add Wc (i_8.toNat*6))) jn)) ke)) h) (
 bh (aA.B25 aa) (aF,ax,aN,1) h)
def aA.g7(fr:Frame):Option Addr×Nat×Nat×Int×Int×Option Addr×Nat×Nat×Option Addr×Nat×Nat×Int:=((gLb (ah fr 0)),(gLl (ah fr 0)),(gLc (ah fr 0)),(gI (ah fr 1)),(gI (ah fr 5)),(gLb (ah fr 6)),(gLl (ah fr 6)),(gLc (ah fr 6)),(gLb (ah fr 7)),(gLl (ah fr 7)),(gLc (ah fr 7)),(gI (ah fr 8)))
def aA.l7(aa:VH):=gg (kds 196 [(0,.l),(1,.i .i64),(5,.i .i64),(6,.l),(7,.l),(8,.i .i64)]) λfr=>bh (aA.B7 aa) (aA.g7 fr)
def aA.J4(aa:VH)(aF:Option Addr)(ax:Nat)(aN:Nat)(dZ:Int)(n_5:Int)(h:ab):=
 MKS IC cp n_5 n_5 (λa b=>
 MKS IC cp n_5 n_5 (λc d=>
 bh (aA.B7 aa) (aF,ax,aN,dZ,n_5,(some ⟨a,0,none⟩),n_5.toNat,n_5.toNat,(some ⟨c,0,none⟩),n_5.toNat,n_5.toNat,0) d) b) h
def aA.j4(aa:VH):=gg (kds 196 [(0,.l),(1,.i .i64),(5,.i .i64)]) λfr=>aA.J4 aa (gLb (ah fr 0)) (gLl (ah fr 0)) (gLc (ah fr 0)) (gI (ah fr 1)) (gI (ah fr 5))
def aA.S(aF:Option Addr)(ax aN:Nat)(dZ:Int)(aa:VH)(h:ab):=
 NZ 2 <|
 BIF (((ax:Int) != (i64.wrap (2*(i64.wrap (Int.tdiv (ax:Int) 2)))))) (
 aa (.bool false) h) (
 BIF ((decide (64<(i64.wrap (Int.tdiv (ax:Int) 2))))) (
 aa (.bool false) h) (
 aA.J4 aa aF ax aN dZ ((i64.wrap (Int.tdiv (ax:Int) 2))) h))
theorem aA.call{aF:Option Addr}{ax aN:Nat}{dZ:Int}{aa:VH}{h:ab}(H:aA.S aF ax aN dZ aa h):ae ai tY #[.slice aF ax aN,.int .i64 dZ] aa h:=
 qc (Λ:=an [(4,aA.j4 aa),(1000007,aA.l7 aa),(1000025,aA.l25 aa)]) Tryz.func128
 (qs qf (qs qf (qj (aA.j4 aa) qf
 (qs qf (qs qf (qs (qs qf (Rq.block (ql (aA.l7 aa) (qg (g:=aA.g7) (Λ:=λa=>an [(12,aA.j12 a aa),(22,aA.j22 a aa)]) (λ_ _ _=>by kernel_rfl) (λa=>(qs qf (qs (Rq.block (qs qf (qj (aA.j12 a aa) qf
 (qj (aA.j22 a aa) qf
 qf)))) qf))))))) (qs (qs qf (Rq.block (ql (aA.l25 aa) (qg (g:=aA.g25) (Λ:=λLv=>an [(28,aA.j28 Lv aa),(29,aA.j29 Lv aa)]) (λ_ _ _=>by kernel_rfl) (λLv=>(qs qf (qs (Rq.block (qj (aA.j28 Lv aa) qf
 (qj (aA.j29 Lv aa) qf
 qf))) qf))))))) qf)))))))
 (qe H)
def dM.B9(a:(Addr×Int)->ab->Prop)(aa:VH)(b:(Addr×Int×Int)->ab->Prop):Addr×Int×Int->ab->Prop
 | (s_0,i_3,k_4),h=>
 BIF (decide (k_4<i_3)) (
 oL (cell h (s_0.add 4)) λXA Pw aem=>
 bg XA k_4 Pw λc=>
 oS (cell h ((Addr.add c (k_4.toNat*5)))) λd=>
 oL (cell h (s_0.add 4)) λSO SP abg=>
 bg SO i_3 SP λe=>
 oS (cell h ((Addr.add e (i_3.toNat*5)))) λf=>
 BIF (ByteArray.toList d==ByteArray.toList f) (
 aa (.bool false) h) (
 b (s_0,i_3,((i64.wrap (k_4+1)))) h)) (
 a (s_0,((i64.wrap (i_3+1)))) h)
def dM.g9(fr:Frame):Addr×Int×Int:=((gP (ah fr 0)),(gI (ah fr 3)),(gI (ah fr 4)))
def dM.l9(a:(Addr×Int)->ab->Prop)(aa:VH):=gg (kds 83 [(0,.p),(3,.i .i64),(4,.i .i64)]) λfr=>bh (dM.B9 a aa) (dM.g9 fr)
def dM.B4(aa:VH)(a:(Addr×Int)->ab->Prop):Addr×Int->ab->Prop
 | (s_0,i_3),h=>
 oL (cell h (s_0.add 4)) λuY rj yg=>
 BIF ((decide (i_3<(rj:Int)))) (
 oL (cell h (s_0.add 4)) λHV HW Mw=>
 bg HV i_3 HW λb=>
 ae ai oE #[.pointer (some ((Addr.add b (i_3.toNat*5))))] (λDc iJ=>
 asB Dc λOY=>
 BIF (!OY) (
 aa (.bool false) iJ) (
 bh (dM.B9 a aa) (s_0,i_3,0) iJ)) h) (
 oL (cell h (s_0.add 5)) λSM Mx Xt=>
 oL (cell h (s_0.add 4)) λUN SN Xu=>
 ae ai tY #[.slice SM Mx Xt,.int .i64 (SN:Int)] (λGW mZ=>
 asB GW λc=>
 aa (.bool c) mZ) h)
def dM.g4(fr:Frame):Addr×Int:=((gP (ah fr 0)),(gI (ah fr 3)))
def dM.l4(aa:VH):=gg (kds 83 [(0,.p),(3,.i .i64)]) λfr=>bh (dM.B4 aa) (dM.g4 fr)
def dM.J3(aa:VH)(s_0:Addr)(h:ab):=
 bh (dM.B4 aa) (s_0,0) h
def dM.j3(aa:VH):=gg (kds 83 [(0,.p)]) λfr=>dM.J3 aa (gP (ah fr 0))
def dM.S(s_0:Addr)(aa:VH)(h:ab):=
 oF .f32 (cell h s_0) λb=>
 BIF (f32.format.order b 1065353216==some .gt||f32.format.order b 1065353216==some .eq) (
 oF .f32 (cell h s_0) λc=>
 BIF (!(f32.format.order c 1232348160==some .lt||f32.format.order c 1232348160==some .eq)) (
 aa (.bool false) h) (
 LDA 3 h (s_0.add 1) λd=>
 ae ai qV #[.agg d] (λe a=>
 asB e λf=>
 BIF (!f) (
 aa (.bool false) a) (
 oL (cell a (s_0.add 4)) λAu yL AN=>
 BIF ((decide (6<(yL:Int)))) (
 aa (.bool false) a) (
 dM.J3 aa s_0 a))) h)) (
 aa (.bool false) h)
theorem dM.call{s_0:Addr}{aa:VH}{h:ab}(H:dM.S s_0 aa h):ae ai BM #[.pointer (some s_0)] aa h:=
 qc (Λ:=an [(3,dM.j3 aa),(1000004,dM.l4 aa)]) Tryz.func59
 (qs qf (qj (dM.j3 aa) qf
 (qs (qs qf (Rq.block (ql (dM.l4 aa) (qg (g:=dM.g4) (Λ:=λa=>an [(1000009,dM.l9 a aa)]) (λ_ _ _=>by kernel_rfl) (λa=>(qs qf (qs (Rq.block (qs qf (qs qf (Rq.block (ql (dM.l9 a aa) (qg (g:=dM.g9) (Λ:=λb=>an []) (λ_ _ _=>by kernel_rfl) (λb=>qf))))))) qf))))))) qf)))
 (qe H)
def DR.S(a_0:Nat)(aa:VH)(h:ab):=
 ae ai eQ #[.float .f32 a_0,.float .f32 1065353216,.float .f32 1232348160] (λa b=>
 asB a λc=>
 aa (.bool c) b) h
theorem DR.call{a_0:Nat}{aa:VH}{h:ab}(H:DR.S a_0 aa h):ae ai zC #[.float .f32 a_0] aa h:=
 qc (Λ:=an []) Tryz.func131
 qf
 (qe H)
def DP.S(a_0:Nat)(aa:VH)(h:ab):=
 ae ai eQ #[.float .f32 a_0,.float .f32 1065353216,.float .f32 1184645120] (λa b=>
 asB a λc=>
 aa (.bool c) b) h
theorem DP.call{a_0:Nat}{aa:VH}{h:ab}(H:DP.S a_0 aa h):ae ai zA #[.float .f32 a_0] aa h:=
 qc (Λ:=an []) Tryz.func199
 qf
 (qe H)
def cZ.B4(aa:VH)(e:(Addr×Option Addr×Nat×Nat×Int×Int)->ab->Prop):Addr×Option Addr×Nat×Nat×Int×Int->ab->Prop
 | (t_1,b,c,f,d,a),h=>
 BIF (decide (a<d)) (
 bg b a c λi=>
 oF .f32 (cell h ((Addr.add i (a.toNat*1)))) λg=>
 oF .f32 (cell h (t_1.add 1)) λKk=>
 BIF (!(f32.format.order g Kk==some .lt)) (
 aa (.bool false) h) (
 BIF ((decide (0<a))) (
 oL (cell h (t_1.add 2)) λSQ Px aeq=>
 bg SQ ((i64.wrap (a-1))) Px λj=>
 oF .f32 (cell h ((Addr.add j ((Int.toNat ((i64.wrap (a-1))))*1)))) λWe=>
 BIF (!(f32.format.order g We==some .gt)) (
 aa (.bool false) h) (
 e (t_1,b,c,f,d,((i64.wrap (a+1)))) h)) (
 e (t_1,b,c,f,d,((i64.wrap (a+1)))) h))) (
 aa (.bool true) h)
def cZ.g4(fr:Frame):Addr×Option Addr×Nat×Nat×Int×Int:=((gP (ah fr 1)),(gLb (ah fr 31)),(gLl (ah fr 31)),(gLc (ah fr 31)),(gI (ah fr 32)),(gI (ah fr 33)))
def cZ.l4(aa:VH):=gg (kds 59 [(1,.p),(31,.l),(32,.i .i64),(33,.i .i64)]) λfr=>bh (cZ.B4 aa) (cZ.g4 fr)
def cZ.J3(aa:VH)(t_1:Addr)(h:ab):=
 oL (cell h (t_1.add 2)) λUO Pv abf=>
 bh (cZ.B4 aa) (t_1,UO,Pv,abf,(Pv:Int),0) h
def cZ.j3(aa:VH):=gg (kds 59 [(1,.p)]) λfr=>cZ.J3 aa (gP (ah fr 1))
def cZ.S(t_0:Array Value)(aa:VH)(h:ab):=
 ALC t_0 ey (λa d=>
 oF .f32 (cell d ⟨a,0,none⟩) λe=>
 ae ai zA #[.float .f32 e] (λf b=>
 asB f λg=>
 BIF (!g) (
 aa (.bool false) b) (
 oF .f32 (cell b ⟨a,1,none⟩) λi=>
 ae ai eQ #[.float .f32 i,.float .f32 1065353216,.float .f32 1167458304] (λj c=>
 asB j λHw=>
 BIF (!Hw) (
 aa (.bool false) c) (
 oL (cell c ⟨a,2,none⟩) λrN qd ui=>
 ae ai dR #[.slice rN qd ui] (λuu gf=>
 asI .i64 uu λk=>
 ae ai dY #[.int .i64 k,.int .i64 1,.int .i64 31] (λDc iJ=>
 asB Dc λOY=>
 BIF (!OY) (
 aa (.bool false) iJ) (
 oL (cell iJ ⟨a,2,none⟩) λSM Mx Xt=>
 bg SM 0 Mx λl=>
 oF .f32 (cell iJ l) λIk=>
 ae ai kU #[.float .f32 Ik] (λKi rM=>
 asI .u32 Ki λm=>
 BIF (m != 0) (
 aa (.bool false) rM) (
 cZ.J3 aa ⟨a,0,none⟩ rM)) iJ)) gf) c)) b)) d) h
theorem cZ.call{t_0:Array Value}{aa:VH}{h:ab}(H:cZ.S t_0 aa h):ae ai mR #[.agg t_0] aa h:=
 qc (Λ:=an [(3,cZ.j3 aa),(1000004,cZ.l4 aa)]) Tryz.func132
 (qs qf (qj (cZ.j3 aa) qf
 (qs (qs qf (Rq.block (ql (cZ.l4 aa) (qg (g:=cZ.g4) (Λ:=λa=>an []) (λ_ _ _=>by kernel_rfl) (λa=>qf))))) qf)))
 (qe H)
def dL.B2(aa:VH)(c:(ByteArray×Addr×Int)->ab->Prop):ByteArray×Addr×Int->ab->Prop
 | (rY,a,i_4),h=>
 BIF ((decide (i_4<((ByteArray.size rY):Int)))) (
 IDX i_4 (ByteArray.size rY) <|
 BIF ((decide (128≤(jB rY i_4)))) (
 LDA 256 h a λd=>
 STA 256 h a d λb=>
 LDA 256 b a λe=>
 aa (.tuple ⟨[.agg e,.bool false]⟩) b) (
 IDX (jB rY i_4) 256 <|
 ST1 h ((Addr.add a ((Int.toNat (jB rY i_4))*1))) (.bool true) λf=>
 c (rY,a,((i64.wrap (i_4+1)))) f)) (
 LDA 256 h a λg=>
 STA 256 h a g λgd=>
 LDA 256 gd a λtq=>
 aa (.tuple ⟨[.agg tq,.bool true]⟩) gd)
def dL.g2(fr:Frame):ByteArray×Addr×Int:=((gS (ah fr 0)),(gP (ah fr 2)),(gI (ah fr 4)))
def dL.l2(aa:VH):=gg (kds 21 [(0,.s),(2,.p),(4,.i .i64)]) λfr=>bh (dL.B2 aa) (dL.g2 fr)
def dL.S(rY:ByteArray)(aa:VH)(h:ab):=
 ALC ⟨mL⟩ qE (λa b=>
 bh (dL.B2 aa) (rY,⟨a,0,none⟩,0) b) h
theorem dL.call{rY:ByteArray}{aa:VH}{h:ab}(H:dL.S rY aa h):ae ai mX #[.string rY] aa h:=
 qc (Λ:=an [(1000002,dL.l2 aa)]) Tryz.func381
 (qs qf (qs (qs qf (Rq.block (ql (dL.l2 aa) (qg (g:=dL.g2) (Λ:=λa=>an []) (λ_ _ _=>by kernel_rfl) (λa=>qf))))) qf))
 (qe H)
def kP.S(agY:Addr)(c_1:Int)(aa:VH)(h:ab):=
 IDX c_1 256 <|
 oB (cell h ((Addr.add agY (c_1.toNat*1)))) λa=>
 aa (.bool a) h
theorem kP.call{agY:Addr}{c_1:Int}{aa:VH}{h:ab}(H:kP.S agY c_1 aa h):ae ai iC #[.pointer (some agY),.int .u8 c_1] aa h:=
 qc (Λ:=an []) Tryz.func394
 qf
 (qe H)
def dk.B1(aa:VH)(b:(ByteArray×Addr)->ab->Prop):ByteArray×Addr->ab->Prop
 | (s_0,Gv),h=>
 BIF ((decide (0<((ByteArray.size s_0):Int)))) (
 IDX ((i64.wrap (((ByteArray.size s_0):Int)-1))) (ByteArray.size s_0) <|
 ae ai iC #[.pointer (some Gv),.int .u8 ((jB s_0 ((i64.wrap (((ByteArray.size s_0):Int)-1)))))] (λc a=>
 asB c λd=>
 BIF (!d) (
 aa (.string s_0) a) (
 SLB 0 ((i64.wrap (((ByteArray.size s_0):Int)-1))) ((ByteArray.size s_0):Int) <|
 b (((ByteArray.extract s_0 0 (Int.toNat ((i64.wrap (((ByteArray.size s_0):Int)-1)))))),Gv) a)) h) (
 aa (.string s_0) h)
def dk.g1(fr:Frame):ByteArray×Addr:=((gS (ah fr 0)),(gP (ah fr 1)))
def dk.l1(aa:VH):=gg (kds 22 [(0,.s),(1,.p)]) λfr=>bh (dk.B1 aa) (dk.g1 fr)
def dk.S(s_0:ByteArray)(Gv:Addr)(aa:VH)(h:ab):=
 bh (dk.B1 aa) (s_0,Gv) h
theorem dk.call{s_0:ByteArray}{Gv:Addr}{aa:VH}{h:ab}(H:dk.S s_0 Gv aa h):ae ai m5 #[.string s_0,.pointer (some Gv)] aa h:=
 qc (Λ:=an [(1000001,dk.l1 aa)]) Tryz.func383
 (qs qf (qs (Rq.block (ql (dk.l1 aa) (qg (g:=dk.g1) (Λ:=λa=>an []) (λ_ _ _=>by kernel_rfl) (λa=>qf)))) qf))
 (qe H)
def dt.B1(aa:VH)(b:(ByteArray×Addr)->ab->Prop):ByteArray×Addr->ab->Prop
 | (s_0,Gv),h=>
 BIF ((decide (0<((ByteArray.size s_0):Int)))) (
 IDX 0 (ByteArray.size s_0) <|
 ae ai iC #[.pointer (some Gv),.int .u8 (jB s_0 0)] (λc a=>
 asB c λd=>
 BIF (!d) (
 aa (.string s_0) a) (
 SLB 1 ((ByteArray.size s_0):Int) ((ByteArray.size s_0):Int) <|
 b ((ByteArray.extract s_0 1 (ByteArray.size s_0)),Gv) a)) h) (
 aa (.string s_0) h)
def dt.g1(fr:Frame):ByteArray×Addr:=((gS (ah fr 0)),(gP (ah fr 1)))
def dt.l1(aa:VH):=gg (kds 16 [(0,.s),(1,.p)]) λfr=>bh (dt.B1 aa) (dt.g1 fr)
def dt.S(s_0:ByteArray)(Gv:Addr)(aa:VH)(h:ab):=
 bh (dt.B1 aa) (s_0,Gv) h
theorem dt.call{s_0:ByteArray}{Gv:Addr}{aa:VH}{h:ab}(H:dt.S s_0 Gv aa h):ae ai mr #[.string s_0,.pointer (some Gv)] aa h:=
 qc (Λ:=an [(1000001,dt.l1 aa)]) Tryz.func382
 (qs qf (qs (Rq.block (ql (dt.l1 aa) (qg (g:=dt.g1) (Λ:=λa=>an []) (λ_ _ _=>by kernel_rfl) (λa=>qf)))) qf))
 (qe H)
def dd.J5(aa:VH)(s_0:ByteArray)(iL:ByteArray)(h:ab):=
 ae ai mX #[.string iL] (λb gd=>
 iF b λwi uu=>
 asA wi λOX=>
 asB uu λFv=>
 ALC ⟨mL⟩ qE (λa iJ=>
 STA 256 iJ ⟨a,0,none⟩ OX λoZ=>
 BIF Fv (
 ae ai m5 #[.string s_0,.pointer (some ⟨a,0,none⟩)] (λTi tz=>
 asS Ti λc=>
 ae ai mr #[.string c,.pointer (some ⟨a,0,none⟩)] (λKi rM=>
 asS Ki λd=>
 aa (.string d) rM) tz) oZ) (
 ae ai xX #[.string s_0,.string iL] (λVo oJ=>
 asS Vo λe=>
 ae ai yK #[.string e,.string iL] (λTj uN=>
 asS Tj λf=>
 aa (.string f) uN) oJ) oZ)) gd) h
def dd.j5(aa:VH):=gg (kds 43 [(0,.s),(1,.s)]) λfr=>dd.J5 aa (gS (ah fr 0)) (gS (ah fr 1))
def dd.J4(aa:VH)(s_0:ByteArray)(iL:ByteArray)(a:Bool)(h:ab):=
 BIF a (
 IDX 0 (ByteArray.size iL) <|
 IDX 0 (ByteArray.size iL) <|
 ae ai AI #[.string s_0,.int .u8 (jB iL 0)] (λb c=>
 asS b λd=>
 ae ai BO #[.string d,.int .u8 (jB iL 0)] (λe f=>
 asS e λg=>
 aa (.string g) f) c) h) (
 dd.J5 aa s_0 iL h)
def dd.j4(aa:VH):=gg (kds 43 [(0,.s),(1,.s),(21,.b)]) λfr=>dd.J4 aa (gS (ah fr 0)) (gS (ah fr 1)) (gB (ah fr 21))
def dd.J3(aa:VH)(s_0:ByteArray)(iL:ByteArray)(h:ab):=
 BIF ((((ByteArray.size iL):Int)==1)) (
 IDX 0 (ByteArray.size iL) <|
 dd.J4 aa s_0 iL ((decide ((jB iL 0)<128))) h) (
 dd.J4 aa s_0 iL false h)
def dd.j3(aa:VH):=gg (kds 43 [(0,.s),(1,.s)]) λfr=>dd.J3 aa (gS (ah fr 0)) (gS (ah fr 1))
def dd.S(s_0:ByteArray)(iL:ByteArray)(aa:VH)(h:ab):=
 BIF (ByteArray.toList s_0==ByteArray.toList (⟨#[]⟩:ByteArray)) (
 aa (.string s_0) h) (
 BIF (ByteArray.toList iL==ByteArray.toList (⟨#[]⟩:ByteArray)) (
 aa (.string s_0) h) (
 dd.J3 aa s_0 iL h))
theorem dd.call{s_0:ByteArray}{iL:ByteArray}{aa:VH}{h:ab}(H:dd.S s_0 iL aa h):ae ai DB #[.string s_0,.string iL] aa h:=
 qc (Λ:=an [(3,dd.j3 aa),(5,dd.j5 aa),(4,dd.j4 aa)]) Tryz.func355
 (qs qf (qj (dd.j3 aa) qf
 (qj (dd.j5 aa) (qj (dd.j4 aa) qf
 qf)
 qf)))
 (qe H)
def DQ.S(s_0:ByteArray)(aa:VH)(h:ab):=
 ae ai dY #[.int .i64 ((ByteArray.size s_0):Int),.int .i64 1,.int .i64 12] (λb a=>
 asB b λc=>
 BIF c (
 ae ai DB #[.string s_0,.string (⟨#[97,98,99,100,101,102,103,104,105,106,107,108,109,110,111,112,113,114,115,116,117,118,119,120,121,122]⟩:ByteArray)] (λd e=>
 asS d λf=>
 aa (.bool (ByteArray.toList f==ByteArray.toList (⟨#[]⟩:ByteArray))) e) a) (
 aa (.bool false) a)) h
theorem DQ.call{s_0:ByteArray}{aa:VH}{h:ab}(H:DQ.S s_0 aa h):ae ai zB #[.string s_0] aa h:=
 qc (Λ:=an []) Tryz.func293
 qf
 (qe H)
def wT.S(a:Nat)(aa:VH)(h:ab):=
 BIF (f32.format.order a 0==some .gt||f32.format.order a 0==some .eq) (
 aa (.bool (f32.format.order a 1065353216==some .lt)) h) (
 aa (.bool false) h)
theorem wT.call{a:Nat}{aa:VH}{h:ab}(H:wT.S a aa h):ae ai sj #[.float .f32 a] aa h:=
 qc (Λ:=an []) Tryz.func236
 qf
 (qe H)
def z9.S(a_0:Nat)(aa:VH)(h:ab):=
 BIF (f32.format.order a_0 0==some .gt||f32.format.order a_0 0==some .eq) (
 aa (.bool (f32.format.order a_0 1065353216==some .lt)) h) (
 aa (.bool false) h)
theorem z9.call{a_0:Nat}{aa:VH}{h:ab}(H:z9.S a_0 aa h):ae ai nK #[.float .f32 a_0] aa h:=
 qc (Λ:=an []) Tryz.func240
 qf
 (qe H)
def fz.J3(aa:VH)(x_1:Addr)(h:ab):=
 oI .i64 (cell h (x_1.add 1)) λBq=>
 BIF (Bq==1) (
 oF .f32 (cell h (x_1.add 2)) λwX=>
 ae ai eQ #[.float .f32 wX,.float .f32 0,.float .f32 1056964608] (λyM ke=>
 asB yM λa=>
 BIF a (
 oF .f32 (cell ke (x_1.add 4)) λHe=>
 ae ai sj #[.float .f32 He] (λGV jn=>
 asB GV λLJ=>
 aa (.bool LJ) jn) ke) (
 aa (.bool false) ke)) h) (
 BIF (Bq==2) (
 oF .f32 (cell h (x_1.add 2)) λIk=>
 ae ai nK #[.float .f32 Ik] (λKi rM=>
 asB Ki λb=>
 BIF b (
 oF .f32 (cell rM (x_1.add 4)) λIN=>
 BIF (f32.format.order IN 0==some .eq) (
 aa (.bool true) rM) (
 oF .f32 (cell rM (x_1.add 4)) λQL=>
 aa (.bool (f32.format.order QL 1065353216==some .eq)) rM)) (
 aa (.bool false) rM)) h) (
 BIF (Bq==3) (
 oF .f32 (cell h (x_1.add 2)) λYi=>
 ae ai nK #[.float .f32 Yi] (λTj uN=>
 asB Tj λc=>
 BIF c (
 oF .f32 (cell uN (x_1.add 4)) λQM=>
 ae ai gC #[.float .f32 QM] (λd JY=>
 asB d λe=>
 aa (.bool e) JY) uN) (
 aa (.bool false) uN)) h) (
 aa (.bool false) h)))
def fz.j3(aa:VH):=gg (kds 50 [(1,.p)]) λfr=>fz.J3 aa (gP (ah fr 1))
def fz.S(x_0:Array Value)(aa:VH)(h:ab):=
 ALC x_0 bk (λa c=>
 oS (cell c ⟨a,0,none⟩) λe=>
 ae ai zB #[.string e] (λf b=>
 asB f λg=>
 BIF (!g) (
 aa (.bool false) b) (
 oF .f32 (cell b ⟨a,3,none⟩) λi=>
 ae ai eQ #[.float .f32 i,.float .f32 0,.float .f32 1065353216] (λj d=>
 asB j λHw=>
 BIF (!Hw) (
 aa (.bool false) d) (
 fz.J3 aa ⟨a,0,none⟩ d)) b)) c) h
theorem fz.call{x_0:Array Value}{aa:VH}{h:ab}(H:fz.S x_0 aa h):ae ai mP #[.agg x_0] aa h:=
 qc (Λ:=an [(3,fz.j3 aa)]) Tryz.func202
 (qs qf (qj (fz.j3 aa) qf
 qf))
 (qe H)
def yf.S(x_0:Array Value)(b:Addr)(aa:VH)(h:ab):=
 ALC x_0 bk (λc a=>
 oS (cell a ⟨c,0,none⟩) λd=>
 oS (cell a b) λe=>
 aa (.bool (ByteArray.toList d==ByteArray.toList e)) a) h
theorem yf.call{x_0:Array Value}{a:Addr}{aa:VH}{h:ab}(H:yf.S x_0 a aa h):ae ai tP #[.agg x_0,.pointer (some a)] aa h:=
 qc (Λ:=an []) Tryz.func295
 qf
 (qe H)
def aV.B2(aa:VH)(d:(Option Addr×Nat×Nat×Value×Int×Int)->ab->Prop):Option Addr×Nat×Nat×Value×Int×Int->ab->Prop
 | (hO,gx,iz,f_1,b,a),h=>
 BIF (decide (a<b)) (
 bg hO a gx λe=>
 LDA 5 h ((Addr.add e (a.toNat*5))) λf=>
 oc ai f_1 #[.agg f] (λg c=>
 asB g λi=>
 BIF i (
 aa (.int .i64 a) c) (
 d (hO,gx,iz,f_1,b,((i64.wrap (a+1)))) c)) h) (
 aa (.int .i64 (-1)) h)
def aV.g2(fr:Frame):Option Addr×Nat×Nat×Value×Int×Int:=((gLb (ah fr 0)),(gLl (ah fr 0)),(gLc (ah fr 0)),(ah fr 1),(gI (ah fr 7)),(gI (ah fr 8)))
def aV.l2(aa:VH):=gg (kds 19 [(0,.l),(1,.v),(7,.i .i64),(8,.i .i64)]) λfr=>bh (aV.B2 aa) (aV.g2 fr)
def aV.S(hO:Option Addr)(gx iz:Nat)(f_1:Value)(aa:VH)(h:ab):=
 bh (aV.B2 aa) (hO,gx,iz,f_1,(gx:Int),0) h
theorem aV.call{hO:Option Addr}{gx iz:Nat}{f_1:Value}{aa:VH}{h:ab}(H:aV.S hO gx iz f_1 aa h):ae ai eK #[.slice hO gx iz,f_1] aa h:=
 qc (Λ:=an [(1000002,aV.l2 aa)]) Tryz.func294
 (qs qf (qs (qs qf (Rq.block (ql (aV.l2 aa) (qg (g:=aV.g2) (Λ:=λa=>an []) (λ_ _ _=>by kernel_rfl) (λa=>qf))))) qf))
 (qe H)
def DU.S(aF:Option Addr)(ax aN:Nat)(a:ByteArray)(aa:VH)(h:ab):=
 ALC #[.string a] Dn (λb c=>
 ae ai eK #[.slice aF ax aN,.func (.func 295) #[] #[.pointer (some ⟨b,0,none⟩)]] (λd e=>
 asI .i64 d λf=>
 aa (.int .i64 f) e) c) h
theorem DU.call{aF:Option Addr}{ax aN:Nat}{a:ByteArray}{aa:VH}{h:ab}(H:DU.S aF ax aN a aa h):ae ai zE #[.slice aF ax aN,.string a] aa h:=
 qc (Λ:=an []) Tryz.func203
 qf
 (qe H)
def dV.B4(aa:VH)(g:(Option Addr×Nat×Nat×Option Addr×Nat×Nat×Int×Int)->ab->Prop):Option Addr×Nat×Nat×Option Addr×Nat×Nat×Int×Int->ab->Prop
 | (aF,ax,aN,c,d,i,e,a),h=>
 BIF (decide (a<e)) (
 bg c a d λj=>
 LDA 5 h ((Addr.add j (a.toNat*5))) λk=>
 ALC ⟨gY⟩ bk (λb l=>
 STA 5 l ⟨b,0,none⟩ k λf=>
 LDA 5 f ⟨b,0,none⟩ λAz=>
 ae ai mP #[.agg Az] (λwi iG=>
 asB wi λHb=>
 BIF (!Hb) (
 aa (.bool false) iG) (
 SLB 0 a (aN:Int) <|
 oS (cell iG ⟨b,0,none⟩) λm=>
 ae ai zE #[.slice (slA aF aN 0 5) (a.toNat-0) (aN-0),.string m] (λDc iJ=>
 asI .i64 Dc λWa=>
 BIF ((decide (0≤Wa))) (
 aa (.bool false) iJ) (
 g (aF,ax,aN,c,d,i,e,((i64.wrap (a+1)))) iJ)) iG)) f) h) (
 aa (.bool true) h)
def dV.g4(fr:Frame):Option Addr×Nat×Nat×Option Addr×Nat×Nat×Int×Int:=((gLb (ah fr 0)),(gLl (ah fr 0)),(gLc (ah fr 0)),(gLb (ah fr 8)),(gLl (ah fr 8)),(gLc (ah fr 8)),(gI (ah fr 9)),(gI (ah fr 10)))
def dV.l4(aa:VH):=gg (kds 28 [(0,.l),(8,.l),(9,.i .i64),(10,.i .i64)]) λfr=>bh (dV.B4 aa) (dV.g4 fr)
def dV.S(aF:Option Addr)(ax aN:Nat)(aa:VH)(h:ab):=
 BIF ((decide (6<(ax:Int)))) (
 aa (.bool false) h) (
 bh (dV.B4 aa) (aF,ax,aN,aF,ax,aN,(ax:Int),0) h)
theorem dV.call{aF:Option Addr}{ax aN:Nat}{aa:VH}{h:ab}(H:dV.S aF ax aN aa h):ae ai nX #[.slice aF ax aN] aa h:=
 qc (Λ:=an [(1000004,dV.l4 aa)]) Tryz.func133
 (qs qf (qs qf (qs (qs qf (Rq.block (ql (dV.l4 aa) (qg (g:=dV.g4) (Λ:=λa=>an []) (λ_ _ _=>by kernel_rfl) (λa=>qf))))) qf)))
 (qe H)
def nd.S(aF:Option Addr)(ax aN:Nat)(aa:VH)(h:ab):=
 aa (.int .i64 (ax:Int)) h
theorem nd.call{aF:Option Addr}{ax aN:Nat}{aa:VH}{h:ab}(H:nd.S aF ax aN aa h):ae ai iM #[.slice aF ax aN] aa h:=
 qc (Λ:=an []) Tryz.func88
 qf
 (qe H)
def jz.B3(aa:VH)(g:(Value×Option Addr×Nat×Nat×Int×Int)->ab->Prop):Value×Option Addr×Nat×Nat×Int×Int->ab->Prop
 | (mI,d,e,i,f,a),h=>
 BIF (decide (a<f)) (
 bg d a e λj=>
 LDA 6 h ((Addr.add j (a.toNat*6))) λk=>
 ALC ⟨gX⟩ bq (λc l=>
 STA 6 l ⟨c,0,none⟩ k λb=>
 oI .i64 (cell b ⟨c,1,none⟩) λrD=>
 BIF (rD==2) (
 oI .i64 (cell b ⟨c,2,none⟩) λBq=>
 oI .i64 (cell b ⟨c,0,none⟩) λm=>
 lK ai (do Instr.mapUpdate jk mI (.int .i64 Bq) (.int .i64 m);pure .skip) (λyM ke=>
 g (mI,d,e,i,f,((i64.wrap (a+1)))) ke) b) (
 g (mI,d,e,i,f,((i64.wrap (a+1)))) b)) h) (
 aa (mI) h)
def jz.g3(fr:Frame):Value×Option Addr×Nat×Nat×Int×Int:=((ah fr 3),(gLb (ah fr 7)),(gLl (ah fr 7)),(gLc (ah fr 7)),(gI (ah fr 8)),(gI (ah fr 9)))
def jz.l3(aa:VH):=gg (kds 23 [(3,.v),(7,.l),(8,.i .i64),(9,.i .i64)]) λfr=>bh (jz.B3 aa) (jz.g3 fr)
def jz.S(aF:Option Addr)(ax aN:Nat)(aa:VH)(h:ab):=
 iA ai (Instr.makeMap jk none) (λa b=>
 bh (jz.B3 aa) (a,aF,ax,aN,(ax:Int),0) b) h
theorem jz.call{aF:Option Addr}{ax aN:Nat}{aa:VH}{h:ab}(H:jz.S aF ax aN aa h):ae ai zF #[.slice aF ax aN] aa h:=
 qc (Λ:=an [(1000003,jz.l3 aa)]) Tryz.func91
 (qs qf (qs qf (qs (qs qf (Rq.block (ql (jz.l3 aa) (qg (g:=jz.g3) (Λ:=λa=>an []) (λ_ _ _=>by kernel_rfl) (λa=>qf))))) qf)))
 (qe H)
def dT.J7(aa:VH)(e_2:Addr)(a:Addr)(b:Int)(c:Int)(h:ab):=
 oI .i64 (cell h e_2) λd=>
 oI .i64 (cell h (e_2.add 2)) λKh=>
 STA 4 h a ⟨[.int .i64 d,.int .i64 b,.int .i64 Kh,.int .i64 c]⟩ λiJ=>
 LDA 4 iJ a λHt=>
 aa (.agg Ht) iJ
def dT.j7(aa:VH):=gg (kds 33 [(2,.p),(4,.p),(5,.i .i64),(6,.i .i64)]) λfr=>dT.J7 aa (gP (ah fr 2)) (gP (ah fr 4)) (gI (ah fr 5)) (gI (ah fr 6))
def dT.S(e_0:Array Value)(tj:Value)(aa:VH)(h:ab):=
 ALC e_0 bq (λa e=>
 ALC ⟨dF⟩ dE (λb c=>
 oI .i64 (cell c ⟨a,1,none⟩) λf=>
 BIF (f==1) (
 oI .i64 (cell c ⟨a,2,none⟩) λg=>
 iA ai (Instr.lookup jk tj (.int .i64 g) true) (λi d=>
 iF i λj Af=>
 asI .i64 j λBq=>
 asB Af λLe=>
 BIF Le (
 oI .i64 (cell d ⟨a,0,none⟩) λQw=>
 BIF (decide (Bq<Qw)) (
 dT.J7 aa ⟨a,0,none⟩ ⟨b,0,none⟩ 0 1 d) (
 dT.J7 aa ⟨a,0,none⟩ ⟨b,0,none⟩ 1 1 d)) (
 dT.J7 aa ⟨a,0,none⟩ ⟨b,0,none⟩ 1 1 d)) c) (
 dT.J7 aa ⟨a,0,none⟩ ⟨b,0,none⟩ 1 0 c)) e) h
theorem dT.call{e_0:Array Value}{tj:Value}{aa:VH}{h:ab}(H:dT.S e_0 tj aa h):ae ai cu #[.agg e_0,tj] aa h:=
 qc (Λ:=an [(7,dT.j7 aa)]) Tryz.func156
 (qs qf (qs qf (qj (dT.j7 aa) qf
 qf)))
 (qe H)
def vn.S(x_0:Int)(aa:VH)(h:ab):=
 aa (.bool (x_0 != x_0)) h
theorem vn.call{x_0:Int}{aa:VH}{h:ab}(H:vn.S x_0 aa h):ae ai o5 #[.int .i64 x_0] aa h:=
 qc (Λ:=an []) Tryz.func302
 qf
 (qe H)
def rZ.S(x_0:Int)(y_1:Int)(aa:VH)(h:ab):=
 ae ai o5 #[.int .i64 x_0] (λc d=>
 asB c λe=>
 ae ai o5 #[.int .i64 y_1] (λf a=>
 asB f λb=>
 BIF e (
 BIF b (
 aa (.int .i64 0) a) (
 aa (.int .i64 (-1)) a)) (
 BIF b (
 aa (.int .i64 1) a) (
 BIF (decide (x_0<y_1)) (
 aa (.int .i64 (-1)) a) (
 BIF (decide (y_1<x_0)) (
 aa (.int .i64 1) a) (
 aa (.int .i64 0) a))))) d) h
theorem rZ.call{x_0:Int}{y_1:Int}{aa:VH}{h:ab}(H:rZ.S x_0 y_1 aa h):ae ai pC #[.int .i64 x_0,.int .i64 y_1] aa h:=
 qc (Λ:=an []) Tryz.func219
 qf
 (qe H)
def cj.B2(aa:VH)(e:(Option Addr×Nat×Nat×Option Addr×Nat×Nat×Option Addr×Nat×Nat×Int×Int)->ab->Prop):Option Addr×Nat×Nat×Option Addr×Nat×Nat×Option Addr×Nat×Nat×Int×Int->ab->Prop
 | (f,oU,va,oW,mA,rH,b,c,g,d,a),h=>
 BIF (decide (a<d)) (
 bg b a c λi=>
 oI .i64 (cell h ((Addr.add i (a.toNat*1)))) λj=>
 BIF ((decide ((mA:Int)≤a))) (
 aa (.int .i64 1) h) (
 bg oW a mA λk=>
 oI .i64 (cell h ((Addr.add k (a.toNat*1)))) λl=>
 ae ai pC #[.int .i64 j,.int .i64 l] (λm gd=>
 asI .i64 m λBq=>
 BIF (Bq != 0) (
 aa (.int .i64 Bq) gd) (
 e (f,oU,va,oW,mA,rH,b,c,g,d,((i64.wrap (a+1)))) gd)) h)) (
 BIF ((decide ((oU:Int)<(mA:Int)))) (
 aa (.int .i64 (-1)) h) (
 aa (.int .i64 0) h))
def cj.g2(fr:Frame):Option Addr×Nat×Nat×Option Addr×Nat×Nat×Option Addr×Nat×Nat×Int×Int:=((gLb (ah fr 0)),(gLl (ah fr 0)),(gLc (ah fr 0)),(gLb (ah fr 1)),(gLl (ah fr 1)),(gLc (ah fr 1)),(gLb (ah fr 9)),(gLl (ah fr 9)),(gLc (ah fr 9)),(gI (ah fr 10)),(gI (ah fr 11)))
def cj.l2(aa:VH):=gg (kds 36 [(0,.l),(1,.l),(9,.l),(10,.i .i64),(11,.i .i64)]) λfr=>bh (cj.B2 aa) (cj.g2 fr)
def cj.S(a:Option Addr)(oU va:Nat)(oW:Option Addr)(mA rH:Nat)(aa:VH)(h:ab):=
 bh (cj.B2 aa) (a,oU,va,oW,mA,rH,a,oU,va,(oU:Int),0) h
theorem cj.call{a:Option Addr}{oU va:Nat}{oW:Option Addr}{mA rH:Nat}{aa:VH}{h:ab}(H:cj.S a oU va oW mA rH aa h):ae ai bw #[.slice a oU va,.slice oW mA rH] aa h:=
 qc (Λ:=an [(1000002,cj.l2 aa)]) Tryz.func157
 (qs qf (qs (qs qf (Rq.block (ql (cj.l2 aa) (qg (g:=cj.g2) (Λ:=λb=>an []) (λ_ _ _=>by kernel_rfl) (λb=>qf))))) qf))
 (qe H)
def lj.S(a_0:Array Value)(b_1:Array Value)(b:Addr)(aa:VH)(h:ab):=
 ALC a_0 bq (λd z=>
 ALC b_1 bq (λc a=>
 LDA 6 a ⟨d,0,none⟩ λi=>
 oV (cell a b) λj=>
 LDA 6 a ⟨c,0,none⟩ λe=>
 oV (cell a b) λf=>
 (ae ai cu #[.agg i,j] (λA gd=>
 asA A λtq=>
 PIN a b 1 gd <|
 PIN a ⟨c,0,none⟩ 6 gd <|
 (ae ai cu #[.agg e,f] (λuu gf=>
 asA uu λo=>
 (ALC ⟨dF⟩ dE (λp iJ=>
 PIN a b 1 iJ <|
 PIN a ⟨c,0,none⟩ 6 iJ <|
 PIN a b 1 iJ <|
 PIN a ⟨d,0,none⟩ 6 iJ <|
 ALC ⟨dF⟩ dE (λDK jn=>
 PIN a b 1 jn <|
 PIN a ⟨c,0,none⟩ 6 jn <|
 PIN a b 1 jn <|
 PIN a ⟨d,0,none⟩ 6 jn <|
 STA 4 jn ⟨p,0,none⟩ tq λtz=>
 STA 4 tz ⟨DK,0,none⟩ o λjZ=>
 SLB 0 4 4 <|
 SLB 0 4 4 <|
 ae ai bw #[.slice (some (slP ⟨p,0,none⟩ 4 0 1)) (4-0) (4-0),.slice (some (slP ⟨DK,0,none⟩ 4 0 1)) (4-0) (4-0)] (λKi rM=>
 asI .i64 Ki λB=>
 aa (.int .i64 B) rM) jZ) iJ) gf)∧(ALC ⟨dF⟩ dE (λq oJ=>
 PIN a b 1 oJ <|
 PIN a ⟨c,0,none⟩ 6 oJ <|
 PIN a b 1 oJ <|
 PIN a ⟨d,0,none⟩ 6 oJ <|
 ALC ⟨dF⟩ dE (λr wP=>
 PIN a b 1 wP <|
 PIN a ⟨c,0,none⟩ 6 wP <|
 PIN a b 1 wP <|
 PIN a ⟨d,0,none⟩ 6 wP <|
 STA 4 wP ⟨r,0,none⟩ tq λuN=>
 STA 4 uN ⟨q,0,none⟩ o λry=>
 SLB 0 4 4 <|
 SLB 0 4 4 <|
 ae ai bw #[.slice (some (slP ⟨r,0,none⟩ 4 0 1)) (4-0) (4-0),.slice (some (slP ⟨q,0,none⟩ 4 0 1)) (4-0) (4-0)] (λVq DL=>
 asI .i64 Vq λC=>
 aa (.int .i64 C) DL) ry) oJ) gf)) gd)∧((ALC ⟨dF⟩ dE (λl wQ=>
 PIN a b 1 wQ <|
 PIN a ⟨c,0,none⟩ 6 wQ <|
 PIN a b 1 wQ <|
 PIN a ⟨d,0,none⟩ 6 wQ <|
 (ae ai cu #[.agg e,f] (λD Ur=>
 asA D λE=>
 ALC ⟨dF⟩ dE (λs DM=>
 PIN a b 1 DM <|
 PIN a ⟨c,0,none⟩ 6 DM <|
 PIN a b 1 DM <|
 PIN a ⟨d,0,none⟩ 6 DM <|
 STA 4 DM ⟨l,0,none⟩ tq λIL=>
 STA 4 IL ⟨s,0,none⟩ E λTF=>
 SLB 0 4 4 <|
 SLB 0 4 4 <|
 ae ai bw #[.slice (some (slP ⟨l,0,none⟩ 4 0 1)) (4-0) (4-0),.slice (some (slP ⟨s,0,none⟩ 4 0 1)) (4-0) (4-0)] (λF GF=>
 asI .i64 F λG=>
 aa (.int .i64 G) GF) TF) Ur) wQ)∧(ALC ⟨dF⟩ dE (λt Sv=>
 PIN a b 1 Sv <|
 PIN a ⟨c,0,none⟩ 6 Sv <|
 PIN a b 1 Sv <|
 PIN a ⟨d,0,none⟩ 6 Sv <|
 ae ai cu #[.agg e,f] (λH I=>
 asA H λJ=>
 STA 4 I ⟨l,0,none⟩ tq λQg=>
 STA 4 Qg ⟨t,0,none⟩ J λZa=>
 SLB 0 4 4 <|
 SLB 0 4 4 <|
 ae ai bw #[.slice (some (slP ⟨l,0,none⟩ 4 0 1)) (4-0) (4-0),.slice (some (slP ⟨t,0,none⟩ 4 0 1)) (4-0) (4-0)] (λK L=>
 asI .i64 K λM=>
 aa (.int .i64 M) L) Za) Sv) wQ)) gd)∧(ALC ⟨dF⟩ dE (λm JZ=>
 PIN a b 1 JZ <|
 PIN a ⟨c,0,none⟩ 6 JZ <|
 PIN a b 1 JZ <|
 PIN a ⟨d,0,none⟩ 6 JZ <|
 (ae ai cu #[.agg e,f] (λN Zb=>
 asA N λO=>
 ALC ⟨dF⟩ dE (λu Hc=>
 PIN a b 1 Hc <|
 PIN a ⟨c,0,none⟩ 6 Hc <|
 PIN a b 1 Hc <|
 PIN a ⟨d,0,none⟩ 6 Hc <|
 STA 4 Hc ⟨u,0,none⟩ tq λP=>
 STA 4 P ⟨m,0,none⟩ O λPe=>
 SLB 0 4 4 <|
 SLB 0 4 4 <|
 ae ai bw #[.slice (some (slP ⟨u,0,none⟩ 4 0 1)) (4-0) (4-0),.slice (some (slP ⟨m,0,none⟩ 4 0 1)) (4-0) (4-0)] (λQ R=>
 asI .i64 Q λT=>
 aa (.int .i64 T) R) Pe) Zb) JZ)∧(ALC ⟨dF⟩ dE (λv yH=>
 PIN a b 1 yH <|
 PIN a ⟨c,0,none⟩ 6 yH <|
 PIN a b 1 yH <|
 PIN a ⟨d,0,none⟩ 6 yH <|
 ae ai cu #[.agg e,f] (λU Oi=>
 asA U λV=>
 STA 4 Oi ⟨v,0,none⟩ tq λW=>
 STA 4 W ⟨m,0,none⟩ V λLl=>
 SLB 0 4 4 <|
 SLB 0 4 4 <|
 ae ai bw #[.slice (some (slP ⟨v,0,none⟩ 4 0 1)) (4-0) (4-0),.slice (some (slP ⟨m,0,none⟩ 4 0 1)) (4-0) (4-0)] (λX Y=>
 asI .i64 X λZ=>
 aa (.int .i64 Z) Y) Ll) yH) JZ)) gd))) a)∧((ALC ⟨dF⟩ dE (λg Uu=>
 PIN a b 1 Uu <|
 PIN a ⟨c,0,none⟩ 6 Uu <|
 PIN a b 1 Uu <|
 PIN a ⟨d,0,none⟩ 6 Uu <|
 (ae ai cu #[.agg i,j] (λa0 n=>
 asA a0 λw=>
 PIN a b 1 n <|
 PIN a ⟨c,0,none⟩ 6 n <|
 (ae ai cu #[.agg e,f] (λa1 a2=>
 asA a1 λa3=>
 ALC ⟨dF⟩ dE (λx TK=>
 PIN a b 1 TK <|
 PIN a ⟨c,0,none⟩ 6 TK <|
 PIN a b 1 TK <|
 PIN a ⟨d,0,none⟩ 6 TK <|
 STA 4 TK ⟨g,0,none⟩ w λa4=>
 STA 4 a4 ⟨x,0,none⟩ a3 λa6=>
 SLB 0 4 4 <|
 SLB 0 4 4 <|
 ae ai bw #[.slice (some (slP ⟨g,0,none⟩ 4 0 1)) (4-0) (4-0),.slice (some (slP ⟨x,0,none⟩ 4 0 1)) (4-0) (4-0)] (λa8 a9=>
 asI .i64 a8 λb0=>
 aa (.int .i64 b0) a9) a6) a2) n)∧(ALC ⟨dF⟩ dE (λy k=>
 PIN a b 1 k <|
 PIN a ⟨c,0,none⟩ 6 k <|
 PIN a b 1 k <|
 PIN a ⟨d,0,none⟩ 6 k <|
 ae ai cu #[.agg e,f] (λb1 b2=>
 asA b1 λb3=>
 STA 4 b2 ⟨g,0,none⟩ w λb4=>
 STA 4 b4 ⟨y,0,none⟩ b3 λb5=>
 SLB 0 4 4 <|
 SLB 0 4 4 <|
 ae ai bw #[.slice (some (slP ⟨g,0,none⟩ 4 0 1)) (4-0) (4-0),.slice (some (slP ⟨y,0,none⟩ 4 0 1)) (4-0) (4-0)] (λb6 Mj=>
 asI .i64 b6 λb7=>
 aa (.int .i64 b7) Mj) b5) k) n)) Uu)∧(ALC ⟨dF⟩ dE (λadv Pd=>
 PIN a b 1 Pd <|
 PIN a ⟨c,0,none⟩ 6 Pd <|
 PIN a b 1 Pd <|
 PIN a ⟨d,0,none⟩ 6 Pd <|
 ae ai cu #[.agg i,j] (λanx Sp=>
 asA anx λb8=>
 PIN a b 1 Sp <|
 PIN a ⟨c,0,none⟩ 6 Sp <|
 ae ai cu #[.agg e,f] (λafu WR=>
 asA afu λaud=>
 STA 4 WR ⟨g,0,none⟩ b8 λalu=>
 STA 4 alu ⟨adv,0,none⟩ aud λalv=>
 SLB 0 4 4 <|
 SLB 0 4 4 <|
 ae ai bw #[.slice (some (slP ⟨g,0,none⟩ 4 0 1)) (4-0) (4-0),.slice (some (slP ⟨adv,0,none⟩ 4 0 1)) (4-0) (4-0)] (λaza avJ=>
 asI .i64 aza λb9=>
 aa (.int .i64 b9) avJ) alv) Sp) Pd) Uu)) a)∧(ALC ⟨dF⟩ dE (λaaz KS=>
 PIN a b 1 KS <|
 PIN a ⟨c,0,none⟩ 6 KS <|
 PIN a b 1 KS <|
 PIN a ⟨d,0,none⟩ 6 KS <|
 (ae ai cu #[.agg i,j] (λanA aaG=>
 asA anA λagQ=>
 PIN a b 1 aaG <|
 PIN a ⟨c,0,none⟩ 6 aaG <|
 (ae ai cu #[.agg e,f] (λazd avK=>
 asA azd λauh=>
 ALC ⟨dF⟩ dE (λapt adB=>
 PIN a b 1 adB <|
 PIN a ⟨c,0,none⟩ 6 adB <|
 PIN a b 1 adB <|
 PIN a ⟨d,0,none⟩ 6 adB <|
 STA 4 adB ⟨apt,0,none⟩ agQ λaaI=>
 STA 4 aaI ⟨aaz,0,none⟩ auh λavM=>
 SLB 0 4 4 <|
 SLB 0 4 4 <|
 ae ai bw #[.slice (some (slP ⟨apt,0,none⟩ 4 0 1)) (4-0) (4-0),.slice (some (slP ⟨aaz,0,none⟩ 4 0 1)) (4-0) (4-0)] (λazf avO=>
 asI .i64 azf λc0=>
 aa (.int .i64 c0) avO) avM) avK) aaG)∧(ALC ⟨dF⟩ dE (λapv WT=>
 PIN a b 1 WT <|
 PIN a ⟨c,0,none⟩ 6 WT <|
 PIN a b 1 WT <|
 PIN a ⟨d,0,none⟩ 6 WT <|
 ae ai cu #[.agg e,f] (λanD alx=>
 asA anD λauj=>
 STA 4 alx ⟨apv,0,none⟩ agQ λaly=>
 STA 4 aly ⟨aaz,0,none⟩ auj λaaJ=>
 SLB 0 4 4 <|
 SLB 0 4 4 <|
 ae ai bw #[.slice (some (slP ⟨apv,0,none⟩ 4 0 1)) (4-0) (4-0),.slice (some (slP ⟨aaz,0,none⟩ 4 0 1)) (4-0) (4-0)] (λanE alz=>
 asI .i64 anE λc1=>
 aa (.int .i64 c1) alz) aaJ) WT) aaG)) KS)∧(ALC ⟨dF⟩ dE (λapx WU=>
 PIN a b 1 WU <|
 PIN a ⟨c,0,none⟩ 6 WU <|
 PIN a b 1 WU <|
 PIN a ⟨d,0,none⟩ 6 WU <|
 ae ai cu #[.agg i,j] (λazi WV=>
 asA azi λaul=>
 PIN a b 1 WV <|
 PIN a ⟨c,0,none⟩ 6 WV <|
 ae ai cu #[.agg e,f] (λazk avR=>
 asA azk λaum=>
 STA 4 avR ⟨apx,0,none⟩ aul λavS=>
 STA 4 avS ⟨aaz,0,none⟩ aum λalA=>
 SLB 0 4 4 <|
 SLB 0 4 4 <|
 ae ai bw #[.slice (some (slP ⟨apx,0,none⟩ 4 0 1)) (4-0) (4-0),.slice (some (slP ⟨aaz,0,none⟩ 4 0 1)) (4-0) (4-0)] (λanG avT=>
 asI .i64 anG λc2=>
 aa (.int .i64 c2) avT) alA) WV) WU) KS)) a))) z) h
theorem lj.call{a_0:Array Value}{b_1:Array Value}{a:Addr}{aa:VH}{h:ab}(H:lj.S a_0 b_1 a aa h):ae ai eu #[.agg a_0,.agg b_1,.pointer (some a)] aa h:=
 qc (Λ:=an []) Tryz.func155
 qf
 (qe H)
def rh.S(Iw:Value)(aa:VH)(h:ab):=
 ALC (Value.cells Iw) jk (λa b=>
 aa (.func (.func 155) #[] #[.pointer (some ⟨a,0,none⟩)]) b) h
theorem rh.call{Iw:Value}{aa:VH}{h:ab}(H:rh.S Iw aa h):ae ai ov #[Iw] aa h:=
 qc (Λ:=an []) Tryz.func90
 qf
 (qe H)
def kM.S(aF:Option Addr)(ax aN:Nat)(aa:VH)(h:ab):=
 aa (.int .i64 (ax:Int)) h
theorem kM.call{aF:Option Addr}{ax aN:Nat}{aa:VH}{h:ab}(H:kM.S aF ax aN aa h):ae ai jY #[.slice aF ax aN] aa h:=
 qc (Λ:=an []) Tryz.func135
 qf
 (qe H)
def GJ.S(HT:Int)(aa:VH)(h:ab):=
 ae ai dY #[.int .i64 HT,.int .i64 (-100),.int .i64 100] (λa b=>
 asB a λc=>
 aa (.bool c) b) h
theorem GJ.call{HT:Int}{aa:VH}{h:ab}(H:GJ.S HT aa h):ae ai wL #[.int .i64 HT] aa h:=
 qc (Λ:=an []) Tryz.func204
 qf
 (qe H)
def BX.S(e_0:Array Value)(dZ:Int)(aa:VH)(h:ab):=
 ALC e_0 bq (λb c=>
 oI .i64 (cell c ⟨b,0,none⟩) λd=>
 ae ai dY #[.int .i64 d,.int .i64 0,.int .i64 100000] (λe a=>
 asB e λf=>
 BIF (!f) (
 aa (.bool false) a) (
 oI .i64 (cell a ⟨b,1,none⟩) λg=>
 BIF (g==1) (
 oI .i64 (cell a ⟨b,3,none⟩) λi=>
 BIF (i==0) (
 oI .i64 (cell a ⟨b,4,none⟩) λj=>
 BIF (j==0) (
 oF .f32 (cell a ⟨b,5,none⟩) λAg=>
 ae ai kU #[.float .f32 Ag] (λwi iG=>
 asI .u32 wi λQw=>
 aa (.bool (Qw==0)) iG) a) (
 aa (.bool false) a)) (
 aa (.bool false) a)) (
 oI .i64 (cell a ⟨b,1,none⟩) λk=>
 BIF (k==2) (
 oI .i64 (cell a ⟨b,3,none⟩) λKh=>
 ae ai dY #[.int .i64 Kh,.int .i64 0,.int .i64 ((i64.wrap (dZ-1)))] (λl oZ=>
 asB l λWz=>
 BIF Wz (
 oI .i64 (cell oZ ⟨b,4,none⟩) λm=>
 ae ai wL #[.int .i64 m] (λn qz=>
 asB n λo=>
 BIF o (
 oF .f32 (cell qz ⟨b,5,none⟩) λp=>
 ae ai gC #[.float .f32 p] (λVo oJ=>
 asB Vo λq=>
 aa (.bool q) oJ) qz) (
 aa (.bool false) qz)) oZ) (
 aa (.bool false) oZ)) a) (
 aa (.bool false) a)))) c) h
theorem BX.call{e_0:Array Value}{dZ:Int}{aa:VH}{h:ab}(H:BX.S e_0 dZ aa h):ae ai xB #[.agg e_0,.int .i64 dZ] aa h:=
 qc (Λ:=an []) Tryz.func134
 qf
 (qe H)
end Go.Sx
