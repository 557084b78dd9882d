/- Lemmas. -/
import Derived.Test.YthhepeklpgefkaaGreatDoorTab
set_option linter.unusedVariables false
set_option linter.unusedSimpArgs false
namespace Go.Sx
open FloatKind (f32 f64)
open IntKind (i64)
open Go.Proofs
set_option maxRecDepth 100000
def CF.S(r_0:Addr)(aa:VH)(h:ab):=
 oL (cell h r_0) λi b Qn=>
 ae ai eO #[.int .i64 (b:Int),.int .i64 1,.int .i64 1024] (λc a=>
 asB c λd=>
 BIF d (
 oI .i64 (cell a (r_0.add 1)) λe=>
 ae ai eO #[.int .i64 e,.int .i64 0,.int .i64 ((i64.wrap ((b:Int)-1)))] (λf g=>
 asB f λHw=>
 aa (.bool Hw) g) a) (
 aa (.bool false) a)) h
theorem CF.call{r_0:Addr}{aa:VH}{h:ab}(H:CF.S r_0 aa h):ae ai sH #[.pointer (some r_0)] aa h:=
 qc (Λ:=an []) Tryz.func305
 qf
 (qe H)
def yd.S(r_0:Array Value)(aa:VH)(h:ab):=
 ALC r_0 aq (λb c=>
 oL (cell c ⟨b,0,none⟩) λKa Hd d=>
 ae ai dR #[.slice Ka Hd d] (λe f=>
 asI .i64 e λg=>
 ae ai dY #[.int .i64 g,.int .i64 1,.int .i64 1024] (λi a=>
 asB i λj=>
 BIF j (
 oI .i64 (cell a ⟨b,1,none⟩) λrD=>
 oL (cell a ⟨b,0,none⟩) λrN qd ui=>
 ae ai dR #[.slice rN qd ui] (λuu gf=>
 asI .i64 uu λk=>
 PIN a ⟨b,1,none⟩ 1 gf <|
 ae ai dY #[.int .i64 rD,.int .i64 0,.int .i64 ((i64.wrap (k-1)))] (λDc iJ=>
 asB Dc λOY=>
 aa (.bool OY) iJ) gf) a) (
 aa (.bool false) a)) f) c) h
theorem yd.call{r_0:Array Value}{aa:VH}{h:ab}(H:yd.S r_0 aa h):ae ai ph #[.agg r_0] aa h:=
 qc (Λ:=an []) Tryz.func311
 qf
 (qe H)
def jA.B2(aa:VH)(b:(Option Addr×Nat×Nat×Int)->ab->Prop):Option Addr×Nat×Nat×Int->ab->Prop
 | (aF,ax,aN,i_3),h=>
 BIF ((decide (i_3<(ax:Int)))) (
 bg aF i_3 ax λc=>
 oF .f32 (cell h ((Addr.add c (i_3.toNat*1)))) λd=>
 ae ai fk #[.float .f32 d] (λe a=>
 asB e λf=>
 BIF (!f) (
 aa (.bool false) a) (
 b (aF,ax,aN,((i64.wrap (i_3+1)))) a)) h) (
 aa (.bool true) h)
def jA.g2(fr:Frame):Option Addr×Nat×Nat×Int:=((gLb (ah fr 0)),(gLl (ah fr 0)),(gLc (ah fr 0)),(gI (ah fr 3)))
def jA.l2(aa:VH):=gg (kds 16 [(0,.l),(3,.i .i64)]) λfr=>bh (jA.B2 aa) (jA.g2 fr)
def jA.S(aF:Option Addr)(ax aN:Nat)(aa:VH)(h:ab):=
 bh (jA.B2 aa) (aF,ax,aN,0) h
theorem jA.call{aF:Option Addr}{ax aN:Nat}{aa:VH}{h:ab}(H:jA.S aF ax aN aa h):ae ai pZ #[.slice aF ax aN] aa h:=
 qc (Λ:=an [(1000002,jA.l2 aa)]) Tryz.func317
 (qs qf (qs (qs qf (Rq.block (ql (jA.l2 aa) (qg (g:=jA.g2) (Λ:=λa=>an []) (λ_ _ _=>by kernel_rfl) (λa=>qf))))) qf))
 (qe H)
def ye.S(aF:Option Addr)(ax aN:Nat)(aa:VH)(h:ab):=
 ae ai eZ #[.slice aF ax aN,.func (.func 371) #[] #[]] (λa b=>
 asB a λc=>
 aa (.bool (!c)) b) h
theorem ye.call{aF:Option Addr}{ax aN:Nat}{aa:VH}{h:ab}(H:ye.S aF ax aN aa h):ae ai ml #[.slice aF ax aN] aa h:=
 qc (Λ:=an []) Tryz.func325
 qf
 (qe H)
def sS.S(a_0:Nat)(aa:VH)(h:ab):=
 ae ai gC #[.float .f32 a_0] (λa b=>
 asB a λc=>
 aa (.bool (!c)) b) h
theorem sS.call{a_0:Nat}{aa:VH}{h:ab}(H:sS.S a_0 aa h):ae ai pH #[.float .f32 a_0] aa h:=
 qc (Λ:=an []) Tryz.func371
 qf
 (qe H)
def bK.B2(aa:VH)(d:(Option Addr×Nat×Nat×Value×Int×Int)->ab->Prop):Option Addr×Nat×Nat×Value×Int×Int->ab->Prop
 | (hO,gx,iz,f_1,b,a),h=>
 BIF (decide (a<b)) (
 bg hO a gx λe=>
 oF .f32 (cell h ((Addr.add e (a.toNat*1)))) λf=>
 oc ai f_1 #[.float .f32 f] (λg c=>
 asB g λi=>
 BIF i (
 aa (.int .i64 a) c) (
 d (hO,gx,iz,f_1,b,((i64.wrap (a+1)))) c)) h) (
 aa (.int .i64 (-1)) h)
def bK.g2(fr:Frame):Option Addr×Nat×Nat×Value×Int×Int:=((gLb (ah fr 0)),(gLl (ah fr 0)),(gLc (ah fr 0)),(ah fr 1),(gI (ah fr 7)),(gI (ah fr 8)))
def bK.l2(aa:VH):=gg (kds 19 [(0,.l),(1,.v),(7,.i .i64),(8,.i .i64)]) λfr=>bh (bK.B2 aa) (bK.g2 fr)
def bK.S(hO:Option Addr)(gx iz:Nat)(f_1:Value)(aa:VH)(h:ab):=
 bh (bK.B2 aa) (hO,gx,iz,f_1,(gx:Int),0) h
theorem bK.call{hO:Option Addr}{gx iz:Nat}{f_1:Value}{aa:VH}{h:ab}(H:bK.S hO gx iz f_1 aa h):ae ai ir #[.slice hO gx iz,f_1] aa h:=
 qc (Λ:=an [(1000002,bK.l2 aa)]) Tryz.func372
 (qs qf (qs (qs qf (Rq.block (ql (bK.l2 aa) (qg (g:=bK.g2) (Λ:=λa=>an []) (λ_ _ _=>by kernel_rfl) (λa=>qf))))) qf))
 (qe H)
def hY.S(hO:Option Addr)(gx iz:Nat)(f_1:Value)(aa:VH)(h:ab):=
 ae ai ir #[.slice hO gx iz,f_1] (λa b=>
 asI .i64 a λc=>
 aa (.bool ((decide (0≤c)))) b) h
theorem hY.call{hO:Option Addr}{gx iz:Nat}{f_1:Value}{aa:VH}{h:ab}(H:hY.S hO gx iz f_1 aa h):ae ai eZ #[.slice hO gx iz,f_1] aa h:=
 qc (Λ:=an []) Tryz.func327
 qf
 (qe H)
def DS.S(r_0:Array Value)(aa:VH)(h:ab):=
 ALC r_0 aq (λb c=>
 LDA 2 c ⟨b,0,none⟩ λd=>
 ae ai ph #[.agg d] (λe a=>
 asB e λf=>
 BIF f (
 oL (cell a ⟨b,0,none⟩) λAu yL AN=>
 ae ai ml #[.slice Au yL AN] (λg i=>
 asB g λHw=>
 aa (.bool Hw) i) a) (
 aa (.bool false) a)) c) h
theorem DS.call{r_0:Array Value}{aa:VH}{h:ab}(H:DS.S r_0 aa h):ae ai nM #[.agg r_0] aa h:=
 qc (Λ:=an []) Tryz.func326
 qf
 (qe H)
def ik.B2(aa:VH)(b:(Option Addr×Nat×Nat×Int)->ab->Prop):Option Addr×Nat×Nat×Int->ab->Prop
 | (aF,ax,aN,i_3),h=>
 BIF ((decide (i_3<(ax:Int)))) (
 bg aF i_3 ax λc=>
 ae ai sH #[.pointer (some ((Addr.add c (i_3.toNat*2))))] (λd a=>
 asB d λe=>
 BIF (!e) (
 aa (.bool false) a) (
 bg aF i_3 ax λf=>
 oL (cell a ((Addr.add f (i_3.toNat*2)))) λg i j=>
 ae ai pZ #[.slice g i j] (λk gd=>
 asB k λPX=>
 BIF (!PX) (
 aa (.bool false) gd) (
 b (aF,ax,aN,((i64.wrap (i_3+1)))) gd)) a)) h) (
 aa (.bool true) h)
def ik.g2(fr:Frame):Option Addr×Nat×Nat×Int:=((gLb (ah fr 0)),(gLl (ah fr 0)),(gLc (ah fr 0)),(gI (ah fr 3)))
def ik.l2(aa:VH):=gg (kds 24 [(0,.l),(3,.i .i64)]) λfr=>bh (ik.B2 aa) (ik.g2 fr)
def ik.S(aF:Option Addr)(ax aN:Nat)(aa:VH)(h:ab):=
 bh (ik.B2 aa) (aF,ax,aN,0) h
theorem ik.call{aF:Option Addr}{ax aN:Nat}{aa:VH}{h:ab}(H:ik.S aF ax aN aa h):ae ai nC #[.slice aF ax aN] aa h:=
 qc (Λ:=an [(1000002,ik.l2 aa)]) Tryz.func316
 (qs qf (qs (qs qf (Rq.block (ql (ik.l2 aa) (qg (g:=ik.g2) (Λ:=λa=>an []) (λ_ _ _=>by kernel_rfl) (λa=>qf))))) qf))
 (qe H)
def CC.S(r_0:Addr)(aa:VH)(h:ab):=
 ALC ⟨fO⟩ aq (λc a=>
 oL (cell a r_0) λKa Hd e=>
 oI .i64 (cell a (r_0.add 1)) λf=>
 ALC ⟨[]⟩ au (λg b=>
 PIN a (r_0.add 1) 1 b <|
 PIN a r_0 1 b <|
 iA ai (Builtin.append_ #[bI,bI] bI #[.slice (some ⟨g,0,none⟩) 0 0,.slice Ka Hd e]) (λi d=>
 asL i λj k l=>
 PIN a (r_0.add 1) 1 d <|
 STA 2 d ⟨c,0,none⟩ ⟨[.slice j k l,.int .i64 f]⟩ λgd=>
 LDA 2 gd ⟨c,0,none⟩ λtq=>
 aa (.agg tq) gd) b) a) h
theorem CC.call{r_0:Addr}{aa:VH}{h:ab}(H:CC.S r_0 aa h):ae ai mn #[.pointer (some r_0)] aa h:=
 qc (Λ:=an []) Tryz.func307
 qf
 (qe H)
def jD.S(hO:Option Addr)(gx iz:Nat)(aa:VH)(h:ab):=
 CMP ai .eql bI (.tmp 3) (.const (.slice none 0 0)) (.slice hO gx iz) (.slice none 0 0) (λb a=>
 BIF b (
 aa (.slice none 0 0) a) (
 ALC ⟨[]⟩ au (λc d=>
 iA ai (Builtin.append_ #[bI,bI] bI #[.slice (some ⟨c,0,none⟩) 0 0,.slice hO gx iz]) (λe f=>
 asL e λAu yL AN=>
 aa (.slice Au yL AN) f) d) a)) h
theorem jD.call{hO:Option Addr}{gx iz:Nat}{aa:VH}{h:ab}(H:jD.S hO gx iz aa h):ae ai eo #[.slice hO gx iz] aa h:=
 qc (Λ:=an []) Tryz.func136
 qf
 (qe H)
def vV.S(r_0:Array Value)(aa:VH)(h:ab):=
 ALC r_0 aq (λb e=>
 ALC ⟨fO⟩ aq (λc a=>
 oL (cell a ⟨b,0,none⟩) λEY Df HY=>
 oI .i64 (cell a ⟨b,1,none⟩) λf=>
 ae ai eo #[.slice EY Df HY] (λg d=>
 asL g λi j k=>
 PIN a ⟨b,1,none⟩ 1 d <|
 STA 2 d ⟨c,0,none⟩ ⟨[.slice i j k,.int .i64 f]⟩ λgd=>
 LDA 2 gd ⟨c,0,none⟩ λtq=>
 aa (.agg tq) gd) a) e) h
theorem vV.call{r_0:Array Value}{aa:VH}{h:ab}(H:vV.S r_0 aa h):ae ai kg #[.agg r_0] aa h:=
 qc (Λ:=an []) Tryz.func342
 qf
 (qe H)
def CE.S(r_0:Addr)(a_1:Nat)(aa:VH)(h:ab):=
 oL (cell h r_0) λd e Qn=>
 oI .i64 (cell h (r_0.add 1)) λb=>
 bg d b e λf=>
 oF .f32 (cell h ((Addr.add f (b.toNat*1)))) λg=>
 oL (cell h r_0) λEY Df HY=>
 oI .i64 (cell h (r_0.add 1)) λc=>
 bg EY c Df λi=>
 ST1 h ((Addr.add i (c.toNat*1))) (.float .f32 a_1) λa=>
 oI .i64 (cell a (r_0.add 1)) λj=>
 oL (cell a r_0) λuY rj yg=>
 NZ (rj:Int) <|
 ST1 a (r_0.add 1) (.int .i64 ((Int.tmod ((i64.wrap (j+1))) (rj:Int)))) λgf=>
 aa (.float .f32 g) gf
theorem CE.call{r_0:Addr}{a_1:Nat}{aa:VH}{h:ab}(H:CE.S r_0 a_1 aa h):ae ai jl #[.pointer (some r_0),.float .f32 a_1] aa h:=
 qc (Λ:=an []) Tryz.func333
 qf
 (qe H)
def ur.S(r_0:Addr)(a_1:Nat)(aa:VH)(h:ab):=
 oL (cell h r_0) λd e Qn=>
 oI .i64 (cell h (r_0.add 1)) λb=>
 bg d b e λf=>
 oF .f32 (cell h ((Addr.add f (b.toNat*1)))) λg=>
 oL (cell h r_0) λEY Df HY=>
 oI .i64 (cell h (r_0.add 1)) λc=>
 bg EY c Df λi=>
 ST1 h ((Addr.add i (c.toNat*1))) (.float .f32 a_1) λa=>
 oI .i64 (cell a (r_0.add 1)) λj=>
 oL (cell a r_0) λuY rj yg=>
 ae ai dR #[.slice uY rj yg] (λwi iG=>
 asI .i64 wi λQw=>
 PIN a (r_0.add 1) 1 iG <|
 NZ Qw <|
 ST1 iG (r_0.add 1) (.int .i64 ((Int.tmod ((i64.wrap (j+1))) Qw))) λke=>
 aa (.float .f32 g) ke) a
theorem ur.call{r_0:Addr}{a_1:Nat}{aa:VH}{h:ab}(H:ur.S r_0 a_1 aa h):ae ai gm #[.pointer (some r_0),.float .f32 a_1] aa h:=
 qc (Λ:=an []) Tryz.func346
 qf
 (qe H)
def u9.S(r_0:Array Value)(aa:VH)(h:ab):=
 ALC r_0 aq (λb a=>
 oL (cell a ⟨b,0,none⟩) λKa Hd f=>
 oI .i64 (cell a ⟨b,1,none⟩) λc=>
 bg Ka c Hd λd=>
 oF .f32 (cell a ((Addr.add d (c.toNat*1)))) λe=>
 aa (.float .f32 e) a) h
theorem u9.call{r_0:Array Value}{aa:VH}{h:ab}(H:u9.S r_0 aa h):ae ai hP #[.agg r_0] aa h:=
 qc (Λ:=an []) Tryz.func348
 qf
 (qe H)
def yc.S(r_0:Array Value)(k_1:Int)(aa:VH)(h:ab):=
 ALC r_0 aq (λc d=>
 oL (cell d ⟨c,0,none⟩) λKa Hd f=>
 ae ai dR #[.slice Ka Hd f] (λg b=>
 asI .i64 g λa=>
 oL (cell b ⟨c,0,none⟩) λAu yL AN=>
 oI .i64 (cell b ⟨c,1,none⟩) λe=>
 NZ a <|
 bg Au ((Int.tmod ((i64.wrap ((i64.wrap (e-k_1))+a))) a)) yL λi=>
 oF .f32 (cell b ((Addr.add i ((Int.toNat ((Int.tmod ((i64.wrap ((i64.wrap (e-k_1))+a))) a)))*1)))) λAg=>
 aa (.float .f32 Ag) b) d) h
theorem yc.call{r_0:Array Value}{k_1:Int}{aa:VH}{h:ab}(H:yc.S r_0 k_1 aa h):ae ai pg #[.agg r_0,.int .i64 k_1] aa h:=
 qc (Λ:=an []) Tryz.func344
 qf
 (qe H)
def xc.S(fY:Int)(aa:VH)(h:ab):=
 BIF (fY==1) (
 BIF (fY==1) (
 aa (.tuple ⟨[.int .i64 2,.int .i64 1]⟩) h) (
 BIF (fY==3) (
 BIF (fY==3) (
 aa (.tuple ⟨[.int .i64 1,.int .i64 2]⟩) h) (
 aa (.tuple ⟨[.int .i64 3,.int .i64 2]⟩) h)) (
 BIF (fY==5) (
 aa (.tuple ⟨[.int .i64 1,.int .i64 2]⟩) h) (
 aa (.tuple ⟨[.int .i64 3,.int .i64 2]⟩) h)))) (
 BIF (fY==2) (
 aa (.tuple ⟨[.int .i64 2,.int .i64 1]⟩) h) (
 BIF (fY==3) (
 BIF (fY==3) (
 aa (.tuple ⟨[.int .i64 1,.int .i64 2]⟩) h) (
 aa (.tuple ⟨[.int .i64 3,.int .i64 2]⟩) h)) (
 BIF (fY==5) (
 aa (.tuple ⟨[.int .i64 1,.int .i64 2]⟩) h) (
 aa (.tuple ⟨[.int .i64 3,.int .i64 2]⟩) h))))
theorem xc.call{fY:Int}{aa:VH}{h:ab}(H:xc.S fY aa h):ae ai xM #[.int .i64 fY] aa h:=
 qc (Λ:=an []) Tryz.func359
 qf
 (qe H)
def ES.S(fY:Int)(aa:VH)(h:ab):=
 BIF (fY==1) (
 BIF (fY==1) (
 aa (.tuple ⟨[.int .i64 2,.int .i64 1]⟩) h) (
 BIF (fY==3) (
 BIF (fY==3) (
 aa (.tuple ⟨[.int .i64 1,.int .i64 2]⟩) h) (
 BIF (fY==4) (
 aa (.tuple ⟨[.int .i64 3,.int .i64 2]⟩) h) (
 aa (.tuple ⟨[.int .i64 0,.int .i64 0]⟩) h))) (
 BIF (fY==5) (
 aa (.tuple ⟨[.int .i64 1,.int .i64 2]⟩) h) (
 BIF (fY==4) (
 aa (.tuple ⟨[.int .i64 3,.int .i64 2]⟩) h) (
 aa (.tuple ⟨[.int .i64 0,.int .i64 0]⟩) h))))) (
 BIF (fY==2) (
 aa (.tuple ⟨[.int .i64 2,.int .i64 1]⟩) h) (
 BIF (fY==3) (
 BIF (fY==3) (
 aa (.tuple ⟨[.int .i64 1,.int .i64 2]⟩) h) (
 BIF (fY==4) (
 aa (.tuple ⟨[.int .i64 3,.int .i64 2]⟩) h) (
 aa (.tuple ⟨[.int .i64 0,.int .i64 0]⟩) h))) (
 BIF (fY==5) (
 aa (.tuple ⟨[.int .i64 1,.int .i64 2]⟩) h) (
 BIF (fY==4) (
 aa (.tuple ⟨[.int .i64 3,.int .i64 2]⟩) h) (
 aa (.tuple ⟨[.int .i64 0,.int .i64 0]⟩) h)))))
theorem ES.call{fY:Int}{aa:VH}{h:ab}(H:ES.S fY aa h):ae ai DA #[.int .i64 fY] aa h:=
 qc (Λ:=an []) Tryz.func391
 qf
 (qe H)
def jy.B2(aa:VH)(g:(Int×Option Addr×Nat×Nat×Int×Int)->ab->Prop):Int×Option Addr×Nat×Nat×Int×Int->ab->Prop
 | (b,c,d,i,e,a),h=>
 BIF (decide (a<e)) (
 bg c a d λl=>
 oF .f32 (cell h ((Addr.add l (a.toNat*1)))) λj=>
 ae ai gC #[.float .f32 j] (λm f=>
 asB m λn=>
 BIF (!n) (
 aa (.bool false) f) (
 BIF (decide (b≤a)) (
 ae ai kU #[.float .f32 j] (λo k=>
 asI .u32 o λrD=>
 BIF (rD != 0) (
 aa (.bool false) k) (
 g (b,c,d,i,e,((i64.wrap (a+1)))) k)) f) (
 g (b,c,d,i,e,((i64.wrap (a+1)))) f))) h) (
 aa (.bool true) h)
def jy.g2(fr:Frame):Int×Option Addr×Nat×Nat×Int×Int:=((gI (ah fr 1)),(gLb (ah fr 7)),(gLl (ah fr 7)),(gLc (ah fr 7)),(gI (ah fr 8)),(gI (ah fr 9)))
def jy.l2(aa:VH):=gg (kds 28 [(1,.i .i64),(7,.l),(8,.i .i64),(9,.i .i64)]) λfr=>bh (jy.B2 aa) (jy.g2 fr)
def jy.S(aF:Option Addr)(ax aN:Nat)(a:Int)(aa:VH)(h:ab):=
 bh (jy.B2 aa) (a,aF,ax,aN,(ax:Int),0) h
theorem jy.call{aF:Option Addr}{ax aN:Nat}{a:Int}{aa:VH}{h:ab}(H:jy.S aF ax aN a aa h):ae ai uK #[.slice aF ax aN,.int .i64 a] aa h:=
 qc (Λ:=an [(1000002,jy.l2 aa)]) Tryz.func392
 (qs qf (qs (qs qf (Rq.block (ql (jy.l2 aa) (qg (g:=jy.g2) (Λ:=λb=>an []) (λ_ _ _=>by kernel_rfl) (λb=>qf))))) qf))
 (qe H)
def fJ.B10(aa:VH)(a:(Addr×Int×Int)->ab->Prop):Addr×Int×Int->ab->Prop
 | (f_0,s_4,i_6),h=>
 BIF ((decide (i_6<2))) (
 IDX i_6 2 <|
 oF .f32 (cell h ((Addr.add (f_0.add 4) (i_6.toNat*1)))) λIk=>
 ae ai fk #[.float .f32 Ik] (λKi rM=>
 asB Ki λb=>
 BIF (!b) (
 aa (.bool false) rM) (
 BIF (decide (s_4≤i_6)) (
 IDX i_6 2 <|
 oF .f32 (cell rM ((Addr.add (f_0.add 4) (i_6.toNat*1)))) λIN=>
 ae ai eL #[.float .f32 IN,.float .f32 0] (λPF wO=>
 asB PF λc=>
 BIF (!c) (
 aa (.bool false) wO) (
 a (f_0,s_4,((i64.wrap (i_6+1)))) wO)) rM) (
 a (f_0,s_4,((i64.wrap (i_6+1)))) rM))) h) (
 aa (.bool true) h)
def fJ.g10(fr:Frame):Addr×Int×Int:=((gP (ah fr 0)),(gI (ah fr 4)),(gI (ah fr 6)))
def fJ.l10(aa:VH):=gg (kds 75 [(0,.p),(4,.i .i64),(6,.i .i64)]) λfr=>bh (fJ.B10 aa) (fJ.g10 fr)
def fJ.B5(aa:VH)(a:(Addr×Int×Int×Int)->ab->Prop):Addr×Int×Int×Int->ab->Prop
 | (f_0,c_3,s_4,i_5),h=>
 BIF ((decide (i_5<3))) (
 IDX i_5 3 <|
 oF .f32 (cell h ((Addr.add (f_0.add 1) (i_5.toNat*1)))) λwX=>
 ae ai fk #[.float .f32 wX] (λyM ke=>
 asB yM λb=>
 BIF (!b) (
 aa (.bool false) ke) (
 BIF (decide (c_3≤i_5)) (
 IDX i_5 3 <|
 oF .f32 (cell ke ((Addr.add (f_0.add 1) (i_5.toNat*1)))) λHe=>
 ae ai eL #[.float .f32 He,.float .f32 0] (λGV jn=>
 asB GV λLJ=>
 BIF (!LJ) (
 aa (.bool false) jn) (
 a (f_0,c_3,s_4,((i64.wrap (i_5+1)))) jn)) ke) (
 a (f_0,c_3,s_4,((i64.wrap (i_5+1)))) ke))) h) (
 bh (fJ.B10 aa) (f_0,s_4,0) h)
def fJ.g5(fr:Frame):Addr×Int×Int×Int:=((gP (ah fr 0)),(gI (ah fr 3)),(gI (ah fr 4)),(gI (ah fr 5)))
def fJ.l5(aa:VH):=gg (kds 75 [(0,.p),(3,.i .i64),(4,.i .i64),(5,.i .i64)]) λfr=>bh (fJ.B5 aa) (fJ.g5 fr)
def fJ.S(f_0:Addr)(aa:VH)(h:ab):=
 oI .i64 (cell h f_0) λb=>
 ae ai eO #[.int .i64 b,.int .i64 1,.int .i64 5] (λc a=>
 asB c λd=>
 BIF (!d) (
 aa (.bool false) a) (
 oI .i64 (cell a f_0) λe=>
 ae ai xM #[.int .i64 e] (λf g=>
 iF f λi j=>
 asI .i64 i λrD=>
 asI .i64 j λBq=>
 bh (fJ.B5 aa) (f_0,rD,Bq,0) g) a)) h
theorem fJ.call{f_0:Addr}{aa:VH}{h:ab}(H:fJ.S f_0 aa h):ae ai pn #[.pointer (some f_0)] aa h:=
 qc (Λ:=an [(1000005,fJ.l5 aa),(1000010,fJ.l10 aa)]) Tryz.func306
 (qs qf (qs qf (qs qf (qs (qs qf (Rq.block (ql (fJ.l5 aa) (qg (g:=fJ.g5) (Λ:=λa=>an []) (λ_ _ _=>by kernel_rfl) (λa=>qf))))) (qs (qs qf (Rq.block (ql (fJ.l10 aa) (qg (g:=fJ.g10) (Λ:=λb=>an []) (λ_ _ _=>by kernel_rfl) (λb=>qf))))) qf)))))
 (qe H)
def ub.S(f_0:Array Value)(aa:VH)(h:ab):=
 ALC f_0 db (λa b=>
 oI .i64 (cell b ⟨a,0,none⟩) λe=>
 ae ai DA #[.int .i64 e] (λf c=>
 iF f λg i=>
 asI .i64 g λd=>
 asI .i64 i λj=>
 BIF ((decide (0<d))) (
 SLB 0 3 3 <|
 ae ai uK #[.slice (some (slP ⟨a,1,none⟩ 3 0 1)) (3-0) (3-0),.int .i64 d] (λAf kc=>
 asB Af λLe=>
 BIF Le (
 SLB 0 2 2 <|
 ae ai uK #[.slice (some (slP ⟨a,4,none⟩ 2 0 1)) (2-0) (2-0),.int .i64 j] (λyM ke=>
 asB yM λk=>
 aa (.bool k) ke) kc) (
 aa (.bool false) kc)) c) (
 aa (.bool false) c)) b) h
theorem ub.call{f_0:Array Value}{aa:VH}{h:ab}(H:ub.S f_0 aa h):ae ai qL #[.agg f_0] aa h:=
 qc (Λ:=an []) Tryz.func365
 qf
 (qe H)
def zU.S(f_0:Array Value)(zX:Int)(aa:VH)(h:ab):=
 ALC f_0 db (λb c=>
 LDA 6 c ⟨b,0,none⟩ λd=>
 ae ai qL #[.agg d] (λe a=>
 asB e λf=>
 BIF f (
 oI .i64 (cell a ⟨b,0,none⟩) λg=>
 aa (.bool (g==zX)) a) (
 aa (.bool false) a)) c) h
theorem zU.call{f_0:Array Value}{zX:Int}{aa:VH}{h:ab}(H:zU.S f_0 zX aa h):ae ai lx #[.agg f_0,.int .i64 zX] aa h:=
 qc (Λ:=an []) Tryz.func312
 qf
 (qe H)
def CG.S(f_0:Addr)(x_1:Nat)(aa:VH)(h:ab):=
 IDX 0 2 <|
 oF .f32 (cell h (f_0.add 4)) λa=>
 IDX 1 2 <|
 oF .f32 (cell h (f_0.add 5)) λb=>
 oI .i64 (cell h f_0) λe=>
 BIF (e==1) (
 IDX 0 3 <|
 oF .f32 (cell h (f_0.add 1)) λg=>
 IDX 1 3 <|
 oF .f32 (cell h (f_0.add 2)) λi=>
 (FOP .f32 (od g x_1) λs=>
 PIN h (f_0.add 2) 1 h <|
 FOP .f32 (od i a) λt=>
 PIN h (f_0.add 1) 1 h <|
 FOP .f32 (CT s t) λj=>
 ae ai bM #[.float .f32 j] (λu gd=>
 asF .f32 u λDg=>
 IDX 0 2 <|
 ST1 gd (f_0.add 4) (.float .f32 Dg) λiG=>
 aa (.float .f32 j) iG) h)∧(FOP .f32 (od i a) λCu=>
 PIN h (f_0.add 1) 1 h <|
 FOP .f32 (od g x_1) λFJ=>
 PIN h (f_0.add 2) 1 h <|
 FOP .f32 (CT FJ Cu) λuQ=>
 ae ai bM #[.float .f32 uQ] (λv oZ=>
 asF .f32 v λzf=>
 IDX 0 2 <|
 ST1 oZ (f_0.add 4) (.float .f32 zf) λtz=>
 aa (.float .f32 uQ) tz) h)) (
 BIF (e==2) (
 IDX 0 3 <|
 oF .f32 (cell h (f_0.add 1)) λIk=>
 IDX 1 3 <|
 oF .f32 (cell h (f_0.add 2)) λIl=>
 (FOP .f32 (od Ik x_1) λPG=>
 PIN h (f_0.add 2) 1 h <|
 FOP .f32 (od Il a) λw=>
 PIN h (f_0.add 1) 1 h <|
 FOP .f32 (CT PG w) λIN=>
 ae ai bM #[.float .f32 x_1] (λPF wO=>
 asF .f32 PF λNq=>
 IDX 0 2 <|
 ST1 wO (f_0.add 4) (.float .f32 Nq) λuN=>
 aa (.float .f32 IN) uN) h)∧(FOP .f32 (od Il a) λKk=>
 PIN h (f_0.add 1) 1 h <|
 FOP .f32 (od Ik x_1) λQM=>
 PIN h (f_0.add 2) 1 h <|
 FOP .f32 (CT QM Kk) λYj=>
 ae ai bM #[.float .f32 x_1] (λx Lk=>
 asF .f32 x λy=>
 IDX 0 2 <|
 ST1 Lk (f_0.add 4) (.float .f32 y) λtA=>
 aa (.float .f32 Yj) tA) h)) (
 BIF (e==3) (
 IDX 0 3 <|
 oF .f32 (cell h (f_0.add 1)) λTP=>
 FOP .f32 (wv x_1 b) λWf=>
 FOP .f32 (od TP Wf) λZF=>
 FOP .f32 (CT ZF a) λk=>
 ae ai bM #[.float .f32 x_1] (λz TF=>
 asF .f32 z λA=>
 IDX 0 2 <|
 ST1 TF (f_0.add 4) (.float .f32 A) λGF=>
 ae ai bM #[.float .f32 k] (λB C=>
 asF .f32 B λD=>
 IDX 1 2 <|
 ST1 C (f_0.add 5) (.float .f32 D) λTG=>
 aa (.float .f32 k) TG) GF) h) (
 BIF (e==4) (
 IDX 0 3 <|
 oF .f32 (cell h (f_0.add 1)) λc=>
 IDX 1 3 <|
 oF .f32 (cell h (f_0.add 2)) λd=>
 IDX 2 3 <|
 oF .f32 (cell h (f_0.add 3)) λWg=>
 (FOP .f32 (od c x_1) λZG=>
 PIN h (f_0.add 3) 1 h <|
 PIN h (f_0.add 2) 1 h <|
 (FOP .f32 (od d a) λl=>
 PIN h (f_0.add 3) 1 h <|
 PIN h (f_0.add 1) 1 h <|
 (FOP .f32 (wv ZG l) λE=>
 PIN h (f_0.add 3) 1 h <|
 FOP .f32 (od Wg b) λF=>
 PIN h (f_0.add 2) 1 h <|
 PIN h (f_0.add 1) 1 h <|
 FOP .f32 (wv E F) λm=>
 ae ai bM #[.float .f32 a] (λG Ut=>
 asF .f32 G λH=>
 IDX 1 2 <|
 ST1 Ut (f_0.add 5) (.float .f32 H) λI=>
 ae ai bM #[.float .f32 m] (λYg Hc=>
 asF .f32 Yg λJ=>
 IDX 0 2 <|
 ST1 Hc (f_0.add 4) (.float .f32 J) λPe=>
 aa (.float .f32 m) Pe) I) h)∧(FOP .f32 (od Wg b) λK=>
 PIN h (f_0.add 2) 1 h <|
 PIN h (f_0.add 1) 1 h <|
 FOP .f32 (wv ZG l) λL=>
 PIN h (f_0.add 3) 1 h <|
 FOP .f32 (wv L K) λn=>
 ae ai bM #[.float .f32 a] (λM yH=>
 asF .f32 M λN=>
 IDX 1 2 <|
 ST1 yH (f_0.add 5) (.float .f32 N) λOi=>
 ae ai bM #[.float .f32 n] (λO P=>
 asF .f32 O λQ=>
 IDX 0 2 <|
 ST1 P (f_0.add 4) (.float .f32 Q) λR=>
 aa (.float .f32 n) R) Oi) h))∧(FOP .f32 (od Wg b) λT=>
 PIN h (f_0.add 2) 1 h <|
 PIN h (f_0.add 1) 1 h <|
 FOP .f32 (od d a) λU=>
 PIN h (f_0.add 3) 1 h <|
 PIN h (f_0.add 1) 1 h <|
 FOP .f32 (wv ZG U) λV=>
 PIN h (f_0.add 3) 1 h <|
 FOP .f32 (wv V T) λo=>
 ae ai bM #[.float .f32 a] (λW X=>
 asF .f32 W λY=>
 IDX 1 2 <|
 ST1 X (f_0.add 5) (.float .f32 Y) λZ=>
 ae ai bM #[.float .f32 o] (λa0 a1=>
 asF .f32 a0 λa2=>
 IDX 0 2 <|
 ST1 a1 (f_0.add 4) (.float .f32 a2) λTK=>
 aa (.float .f32 o) TK) Z) h))∧((FOP .f32 (od d a) λf=>
 PIN h (f_0.add 3) 1 h <|
 PIN h (f_0.add 1) 1 h <|
 (FOP .f32 (od c x_1) λp=>
 PIN h (f_0.add 3) 1 h <|
 PIN h (f_0.add 2) 1 h <|
 (FOP .f32 (wv p f) λa3=>
 PIN h (f_0.add 3) 1 h <|
 FOP .f32 (od Wg b) λa4=>
 PIN h (f_0.add 2) 1 h <|
 PIN h (f_0.add 1) 1 h <|
 FOP .f32 (wv a3 a4) λq=>
 ae ai bM #[.float .f32 a] (λa5 a6=>
 asF .f32 a5 λa7=>
 IDX 1 2 <|
 ST1 a6 (f_0.add 5) (.float .f32 a7) λa8=>
 ae ai bM #[.float .f32 q] (λa9 b0=>
 asF .f32 a9 λb1=>
 IDX 0 2 <|
 ST1 b0 (f_0.add 4) (.float .f32 b1) λb2=>
 aa (.float .f32 q) b2) a8) h)∧(FOP .f32 (od Wg b) λaAK=>
 PIN h (f_0.add 2) 1 h <|
 PIN h (f_0.add 1) 1 h <|
 FOP .f32 (wv p f) λanO=>
 PIN h (f_0.add 3) 1 h <|
 FOP .f32 (wv anO aAK) λr=>
 ae ai bM #[.float .f32 a] (λanw WQ=>
 asF .f32 anw λuv=>
 IDX 1 2 <|
 ST1 WQ (f_0.add 5) (.float .f32 uv) λadz=>
 ae ai bM #[.float .f32 r] (λafu WR=>
 asF .f32 afu λaAL=>
 IDX 0 2 <|
 ST1 WR (f_0.add 4) (.float .f32 aAL) λalu=>
 aa (.float .f32 r) alu) adz) h))∧(FOP .f32 (od Wg b) λaAM=>
 PIN h (f_0.add 2) 1 h <|
 PIN h (f_0.add 1) 1 h <|
 FOP .f32 (od c x_1) λaAN=>
 PIN h (f_0.add 3) 1 h <|
 PIN h (f_0.add 2) 1 h <|
 FOP .f32 (wv aAN f) λaAO=>
 PIN h (f_0.add 3) 1 h <|
 FOP .f32 (wv aAO aAM) λasj=>
 ae ai bM #[.float .f32 a] (λanz KS=>
 asF .f32 anz λaAP=>
 IDX 1 2 <|
 ST1 KS (f_0.add 5) (.float .f32 aAP) λaaG=>
 ae ai bM #[.float .f32 asj] (λanB ahl=>
 asF .f32 anB λaAQ=>
 IDX 0 2 <|
 ST1 ahl (f_0.add 4) (.float .f32 aAQ) λaaH=>
 aa (.float .f32 asj) aaH) aaG) h))∧(FOP .f32 (od Wg b) λasl=>
 PIN h (f_0.add 2) 1 h <|
 PIN h (f_0.add 1) 1 h <|
 (FOP .f32 (od c x_1) λaAR=>
 PIN h (f_0.add 3) 1 h <|
 PIN h (f_0.add 2) 1 h <|
 FOP .f32 (od d a) λaAS=>
 PIN h (f_0.add 3) 1 h <|
 PIN h (f_0.add 1) 1 h <|
 FOP .f32 (wv aAR aAS) λaAT=>
 PIN h (f_0.add 3) 1 h <|
 FOP .f32 (wv aAT asl) λasm=>
 ae ai bM #[.float .f32 a] (λanC avP=>
 asF .f32 anC λaAU=>
 IDX 1 2 <|
 ST1 avP (f_0.add 5) (.float .f32 aAU) λWT=>
 ae ai bM #[.float .f32 asm] (λanD alx=>
 asF .f32 anD λaAV=>
 IDX 0 2 <|
 ST1 alx (f_0.add 4) (.float .f32 aAV) λaly=>
 aa (.float .f32 asm) aly) WT) h)∧(FOP .f32 (od d a) λaAW=>
 PIN h (f_0.add 3) 1 h <|
 PIN h (f_0.add 1) 1 h <|
 FOP .f32 (od c x_1) λaAX=>
 PIN h (f_0.add 3) 1 h <|
 PIN h (f_0.add 2) 1 h <|
 FOP .f32 (wv aAX aAW) λaAY=>
 PIN h (f_0.add 3) 1 h <|
 FOP .f32 (wv aAY asl) λasn=>
 ae ai bM #[.float .f32 a] (λanF WU=>
 asF .f32 anF λaAZ=>
 IDX 1 2 <|
 ST1 WU (f_0.add 5) (.float .f32 aAZ) λWV=>
 ae ai bM #[.float .f32 asn] (λazj WW=>
 asF .f32 azj λb3=>
 IDX 0 2 <|
 ST1 WW (f_0.add 4) (.float .f32 b3) λWX=>
 aa (.float .f32 asn) WX) WV) h)))) (
 FOP .f32 (wv x_1 a) λb4=>
 IDX 0 3 <|
 oF .f32 (cell h (f_0.add 1)) λb5=>
 FOP .f32 (od b5 b) λb6=>
 FOP .f32 (CT b4 b6) λaso=>
 ae ai bM #[.float .f32 x_1] (λazn avU=>
 asF .f32 azn λb7=>
 IDX 0 2 <|
 ST1 avU (f_0.add 4) (.float .f32 b7) λaaK=>
 ae ai bM #[.float .f32 aso] (λazo avW=>
 asF .f32 azo λb8=>
 IDX 1 2 <|
 ST1 avW (f_0.add 5) (.float .f32 b8) λavX=>
 aa (.float .f32 aso) avX) aaK) h))))
theorem CG.call{f_0:Addr}{x_1:Nat}{aa:VH}{h:ab}(H:CG.S f_0 x_1 aa h):ae ai mq #[.pointer (some f_0),.float .f32 x_1] aa h:=
 qc (Λ:=an []) Tryz.func332
 qf
 (qe H)
def eY.J2(aa:VH)(f_0:Addr)(x_1:Nat)(c_5:Addr)(s_6:Addr)(h:ab):=
 oI .i64 (cell h f_0) λKh=>
 BIF (Kh==1) (
 IDX 0 3 <|
 oF .f32 (cell h c_5) λHe=>
 FOP .f32 (od He x_1) λd=>
 IDX 1 3 <|
 oF .f32 (cell h (c_5.add 1)) λzf=>
 IDX 0 2 <|
 oF .f32 (cell h s_6) λZE=>
 FOP .f32 (od zf ZE) λIk=>
 FOP .f32 (CT d Ik) λIl=>
 ae ai gj #[.float .f32 Il] (λGW mZ=>
 asF .f32 GW λIN=>
 IDX 0 2 <|
 ST1 mZ (f_0.add 4) (.float .f32 IN) λoJ=>
 aa (.float .f32 Il) oJ) h) (
 BIF (Kh==2) (
 IDX 0 3 <|
 oF .f32 (cell h c_5) λYi=>
 FOP .f32 (od Yi x_1) λNq=>
 IDX 1 3 <|
 oF .f32 (cell h (c_5.add 1)) λe=>
 IDX 0 2 <|
 oF .f32 (cell h s_6) λKk=>
 FOP .f32 (od e Kk) λQM=>
 FOP .f32 (CT Nq QM) λYj=>
 ae ai gj #[.float .f32 x_1] (λf Lk=>
 asF .f32 f λg=>
 IDX 0 2 <|
 ST1 Lk (f_0.add 4) (.float .f32 g) λtA=>
 aa (.float .f32 Yj) tA) h) (
 BIF (Kh==3) (
 IDX 0 3 <|
 oF .f32 (cell h c_5) λTP=>
 IDX 1 2 <|
 oF .f32 (cell h (s_6.add 1)) λWf=>
 FOP .f32 (wv x_1 Wf) λZF=>
 FOP .f32 (od TP ZF) λi=>
 IDX 0 2 <|
 oF .f32 (cell h s_6) λj=>
 FOP .f32 (CT i j) λa=>
 ae ai gj #[.float .f32 x_1] (λk GF=>
 asF .f32 k λl=>
 ae ai gj #[.float .f32 a] (λm Sv=>
 asF .f32 m λn=>
 STA 2 Sv (f_0.add 4) ⟨[.float .f32 l,.float .f32 n]⟩ λo=>
 aa (.float .f32 a) o) GF) h) (
 BIF (Kh==4) (
 IDX 0 3 <|
 oF .f32 (cell h c_5) λp=>
 FOP .f32 (od p x_1) λWg=>
 IDX 1 3 <|
 oF .f32 (cell h (c_5.add 1)) λZG=>
 IDX 0 2 <|
 oF .f32 (cell h s_6) λq=>
 FOP .f32 (od ZG q) λr=>
 FOP .f32 (wv Wg r) λs=>
 IDX 2 3 <|
 oF .f32 (cell h (c_5.add 2)) λt=>
 IDX 1 2 <|
 oF .f32 (cell h (s_6.add 1)) λu=>
 FOP .f32 (od t u) λv=>
 FOP .f32 (wv s v) λb=>
 IDX 0 2 <|
 oF .f32 (cell h s_6) λw=>
 ae ai gj #[.float .f32 b] (λYg Hc=>
 asF .f32 Yg λx=>
 PIN h s_6 1 Hc <|
 ae ai gj #[.float .f32 w] (λy z=>
 asF .f32 y λA=>
 STA 2 z (f_0.add 4) ⟨[.float .f32 x,.float .f32 A]⟩ λTH=>
 aa (.float .f32 b) TH) Hc) h) (
 IDX 0 2 <|
 oF .f32 (cell h s_6) λB=>
 FOP .f32 (wv x_1 B) λC=>
 IDX 0 3 <|
 oF .f32 (cell h c_5) λD=>
 IDX 1 2 <|
 oF .f32 (cell h (s_6.add 1)) λE=>
 FOP .f32 (od D E) λF=>
 FOP .f32 (CT C F) λc=>
 ae ai gj #[.float .f32 x_1] (λG H=>
 asF .f32 G λI=>
 ae ai gj #[.float .f32 c] (λJ K=>
 asF .f32 J λL=>
 STA 2 K (f_0.add 4) ⟨[.float .f32 I,.float .f32 L]⟩ λTJ=>
 aa (.float .f32 c) TJ) H) h))))
def eY.j2(aa:VH):=gg (kds 122 [(0,.p),(1,.f .f32),(5,.p),(6,.p)]) λfr=>eY.J2 aa (gP (ah fr 0)) (gF (ah fr 1)) (gP (ah fr 5)) (gP (ah fr 6))
def eY.S(f_0:Addr)(x_1:Nat)(aa:VH)(h:ab):=
 LDA 3 h (f_0.add 1) λc=>
 LDA 2 h (f_0.add 4) λd=>
 (ALC ⟨jx⟩ dH (λe a=>
 PIN h (f_0.add 4) 2 a <|
 PIN h (f_0.add 1) 3 a <|
 ALC ⟨om⟩ jW (λf b=>
 PIN h (f_0.add 4) 2 b <|
 PIN h (f_0.add 1) 3 b <|
 STA 3 b ⟨e,0,none⟩ c λg=>
 PIN h (f_0.add 4) 2 g <|
 STA 2 g ⟨f,0,none⟩ d λk=>
 eY.J2 aa f_0 x_1 ⟨e,0,none⟩ ⟨f,0,none⟩ k) a) h)∧(ALC ⟨om⟩ jW (λi gd=>
 PIN h (f_0.add 4) 2 gd <|
 PIN h (f_0.add 1) 3 gd <|
 ALC ⟨jx⟩ dH (λj iG=>
 PIN h (f_0.add 4) 2 iG <|
 PIN h (f_0.add 1) 3 iG <|
 STA 3 iG ⟨j,0,none⟩ c λgf=>
 PIN h (f_0.add 4) 2 gf <|
 STA 2 gf ⟨i,0,none⟩ d λke=>
 eY.J2 aa f_0 x_1 ⟨j,0,none⟩ ⟨i,0,none⟩ ke) gd) h)
theorem eY.call{f_0:Addr}{x_1:Nat}{aa:VH}{h:ab}(H:eY.S f_0 x_1 aa h):ae ai jc #[.pointer (some f_0),.float .f32 x_1] aa h:=
 qc (Λ:=an [(2,eY.j2 aa)]) Tryz.func345
 (qs qf (qj (eY.j2 aa) qf
 qf))
 (qe H)
def Ai.S(f_0:Addr)(aa:VH)(h:ab):=
 IDX 0 2 <|
 oF .f32 (cell h (f_0.add 4)) λa=>
 BIF (f32.format.order a 0==some .eq) (
 IDX 1 2 <|
 oF .f32 (cell h (f_0.add 5)) λb=>
 aa (.bool (f32.format.order b 0==some .eq)) h) (
 aa (.bool false) h)
theorem Ai.call{f_0:Addr}{aa:VH}{h:ab}(H:Ai.S f_0 aa h):ae ai lF #[.pointer (some f_0)] aa h:=
 qc (Λ:=an []) Tryz.func339
 qf
 (qe H)
def pQ.S(f_0:Array Value)(aa:VH)(h:ab):=
 ALC f_0 db (λb a=>
 IDX 0 2 <|
 oF .f32 (cell a ⟨b,4,none⟩) λc=>
 BIF (f32.format.order c 0==some .eq) (
 IDX 1 2 <|
 oF .f32 (cell a ⟨b,5,none⟩) λd=>
 aa (.bool (f32.format.order d 0==some .eq)) a) (
 aa (.bool false) a)) h
theorem pQ.call{f_0:Array Value}{aa:VH}{h:ab}(H:pQ.S f_0 aa h):ae ai iI #[.agg f_0] aa h:=
 qc (Λ:=an []) Tryz.func289
 qf
 (qe H)
end Go.Sx
