/- Lemmas. -/
import Derived.Test.YthhepeklpgefkaaGreatDoorTab
set_option linter.unusedVariables false
set_option linter.unusedSimpArgs false
namespace Go.Sx
open FloatKind (f32 f64)
open IntKind (i64)
open Go.Proofs
set_option maxRecDepth 100000
def Et.S(p_0:Addr)(uJ:Int)(c:Int)(aa:VH)(h:ab):=
 ae ai BN #[.pointer (some p_0)] (λd b=>
 asB d λe=>
 BIF (!e) (
 aa (.int .i64 1) b) (
 ae ai eO #[.int .i64 uJ,.int .i64 0,.int .i64 c] (λf a=>
 asB f λg=>
 BIF (!g) (
 aa (.int .i64 2) a) (
 oI .i64 (cell a (p_0.add 7)) λi=>
 BIF ((decide (200000<(i64.wrap (i+uJ))))) (
 aa (.int .i64 3) a) (
 aa (.int .i64 0) a))) b)) h
theorem Et.call{p_0:Addr}{uJ:Int}{a:Int}{aa:VH}{h:ab}(H:Et.S p_0 uJ a aa h):ae ai zN #[.pointer (some p_0),.int .i64 uJ,.int .i64 a] aa h:=
 qc (Λ:=an []) Tryz.func119
 qf
 (qe H)
def wo.S(x_0:Addr)(aa:VH)(h:ab):=
 ALC ⟨cH⟩ dc (λc a=>
 LDA 6 a (x_0.add 4) λd=>
 oF .f32 (cell a (x_0.add 10)) λf=>
 oF .f32 (cell a (x_0.add 11)) λg=>
 ae ai mn #[.pointer (some x_0)] (λi b=>
 asA i λe=>
 PIN a (x_0.add 11) 1 b <|
 PIN a (x_0.add 10) 1 b <|
 PIN a (x_0.add 4) 6 b <|
 ae ai mn #[.pointer (some (x_0.add 2))] (λj gd=>
 asA j λtq=>
 PIN a (x_0.add 11) 1 gd <|
 PIN a (x_0.add 10) 1 gd <|
 PIN a (x_0.add 4) 6 gd <|
 SIZ (Array.size e) 2 <|
 SIZ (Array.size tq) 2 <|
 SIZ (Array.size d) 6 <|
 STA 12 gd ⟨c,0,none⟩ ⟨(List.set (List.set (dN 4 6 d (dN 2 2 tq (dN 0 2 e cH))) 10 (.float .f32 f)) 11 (.float .f32 g))⟩ λiG=>
 LDA 12 iG ⟨c,0,none⟩ λOX=>
 aa (.agg OX) iG) b) a) h
theorem wo.call{x_0:Addr}{aa:VH}{h:ab}(H:wo.S x_0 aa h):ae ai sJ #[.pointer (some x_0)] aa h:=
 qc (Λ:=an []) Tryz.func277
 qf
 (qe H)
def th.S(v_0:Addr)(aa:VH)(h:ab):=
 ALC ⟨aW⟩ ao (λb c=>
 LDA 45 c v_0 λd=>
 ALC ⟨aW⟩ ao (λa e=>
 STA 45 e ⟨a,0,none⟩ d λf=>
 ae ai sI #[.pointer (some (v_0.add 5))] (λg i=>
 asA g λj=>
 STA 15 i ⟨a,5,none⟩ j λgd=>
 ae ai xO #[.pointer (some (v_0.add 20))] (λwi iG=>
 asA wi λOX=>
 STA 13 iG ⟨a,20,none⟩ OX λke=>
 ae ai sJ #[.pointer (some (v_0.add 33))] (λDc iJ=>
 asA Dc λHt=>
 STA 12 iJ ⟨a,33,none⟩ Ht λjn=>
 LDA 45 jn ⟨a,0,none⟩ λk=>
 STA 45 jn ⟨b,0,none⟩ k λjZ=>
 LDA 45 jZ ⟨b,0,none⟩ λl=>
 aa (.agg l) jZ) ke) gd) f) c) h
theorem th.call{v_0:Addr}{aa:VH}{h:ab}(H:th.S v_0 aa h):ae ai pO #[.pointer (some v_0)] aa h:=
 qc (Λ:=an []) Tryz.func187
 qf
 (qe H)
def dQ.B3(aa:VH)(c:(Addr×Addr×Addr×Int)->ab->Prop):Addr×Addr×Addr×Int->ab->Prop
 | (p_0,a,mI,i_4),h=>
 oL (cell h (p_0.add 6)) λSM Mx Xt=>
 BIF ((decide (i_4<(Mx:Int)))) (
 oL (cell h (mI.add 6)) λabd Xw abe=>
 oL (cell h (p_0.add 6)) λXx Xy ael=>
 bg Xx i_4 Xy λd=>
 ae ai pO #[.pointer (some ((Addr.add d (i_4.toNat*45))))] (λVo oJ=>
 asA Vo λb=>
 PIN h (mI.add 6) 1 oJ <|
 SIZ (Array.size b) 45 <|
 ALC ⟨(dN 0 45 b aW)⟩ ao (λe uN=>
 PIN h (mI.add 6) 1 uN <|
 iA ai (Builtin.append_ #[gy,gy] gy #[.slice abd Xw abe,.slice (some ⟨e,0,none⟩) 1 1]) (λVp GD=>
 asL Vp λXB XC aer=>
 ST1 GD (mI.add 6) (.slice XB XC aer) λJY=>
 c (p_0,a,mI,((i64.wrap (i_4+1)))) JY) uN) oJ) h) (
 LDA 10 h mI λf=>
 STA 10 h a f λwQ=>
 LDA 10 wQ a λRQ=>
 aa (.agg RQ) wQ)
def dQ.g3(fr:Frame):Addr×Addr×Addr×Int:=((gP (ah fr 0)),(gP (ah fr 2)),(gP (ah fr 3)),(gI (ah fr 4)))
def dQ.l3(aa:VH):=gg (kds 44 [(0,.p),(2,.p),(3,.p),(4,.i .i64)]) λfr=>bh (dQ.B3 aa) (dQ.g3 fr)
def dQ.J2(aa:VH)(p_0:Addr)(a:Addr)(mI:Addr)(h:ab):=
 bh (dQ.B3 aa) (p_0,a,mI,0) h
def dQ.j2(aa:VH):=gg (kds 44 [(0,.p),(2,.p),(3,.p)]) λfr=>dQ.J2 aa (gP (ah fr 0)) (gP (ah fr 2)) (gP (ah fr 3))
def dQ.S(p_0:Addr)(aa:VH)(h:ab):=
 ALC ⟨bx⟩ aE (λc a=>
 oI .i64 (cell a (p_0.add 7)) λd=>
 oI .i64 (cell a (p_0.add 8)) λe=>
 oI .i64 (cell a (p_0.add 9)) λf=>
 (ae ai sL #[.pointer (some p_0)] (λk b=>
 asA k λg=>
 PIN a (p_0.add 9) 1 b <|
 PIN a (p_0.add 8) 1 b <|
 PIN a (p_0.add 7) 1 b <|
 SIZ (Array.size g) 6 <|
 ALC ⟨bx⟩ aE (λi gd=>
 PIN a (p_0.add 9) 1 gd <|
 PIN a (p_0.add 8) 1 gd <|
 PIN a (p_0.add 7) 1 gd <|
 STA 10 gd ⟨i,0,none⟩ ⟨(List.set (List.set (List.set (dN 0 6 g bx) 7 (.int .i64 d)) 8 (.int .i64 e)) 9 (.int .i64 f))⟩ λkc=>
 dQ.J2 aa p_0 ⟨c,0,none⟩ ⟨i,0,none⟩ kc) b) a)∧(ALC ⟨bx⟩ aE (λj gf=>
 PIN a (p_0.add 9) 1 gf <|
 PIN a (p_0.add 8) 1 gf <|
 PIN a (p_0.add 7) 1 gf <|
 ae ai sL #[.pointer (some p_0)] (λDb kB=>
 asA Db λIK=>
 PIN a (p_0.add 9) 1 kB <|
 PIN a (p_0.add 8) 1 kB <|
 PIN a (p_0.add 7) 1 kB <|
 SIZ (Array.size IK) 6 <|
 STA 10 kB ⟨j,0,none⟩ ⟨(List.set (List.set (List.set (dN 0 6 IK bx) 7 (.int .i64 d)) 8 (.int .i64 e)) 9 (.int .i64 f))⟩ λoZ=>
 dQ.J2 aa p_0 ⟨c,0,none⟩ ⟨j,0,none⟩ oZ) gf) a)) h
theorem dQ.call{p_0:Addr}{aa:VH}{h:ab}(H:dQ.S p_0 aa h):ae ai xV #[.pointer (some p_0)] aa h:=
 qc (Λ:=an [(2,dQ.j2 aa),(1000003,dQ.l3 aa)]) Tryz.func120
 (qs qf (qj (dQ.j2 aa) qf
 (qs (qs qf (Rq.block (ql (dQ.l3 aa) (qg (g:=dQ.g3) (Λ:=λa=>an []) (λ_ _ _=>by kernel_rfl) (λa=>qf))))) qf)))
 (qe H)
def im.B3(aa:VH)(a:(Option Addr×Nat×Nat×Int×Int)->ab->Prop):Option Addr×Nat×Nat×Int×Int->ab->Prop
 | (nS,mC,uF,agZ,i_4),h=>
 BIF ((decide (i_4<(mC:Int)))) (
 bg nS i_4 mC λb=>
 oI .i64 (cell h ((Addr.add b (i_4.toNat*45)))) λc=>
 BIF (c==(-1)) (
 aa (.int .i64 i_4) h) (
 bg nS i_4 mC λd=>
 oI .i64 (cell h ((Addr.add ((Addr.add d (i_4.toNat*45))) 2))) λe=>
 bg nS agZ mC λf=>
 oI .i64 (cell h ((Addr.add ((Addr.add f (agZ.toNat*45))) 2))) λg=>
 BIF (decide (e<g)) (
 a (nS,mC,uF,i_4,((i64.wrap (i_4+1)))) h) (
 a (nS,mC,uF,agZ,((i64.wrap (i_4+1)))) h))) (
 aa (.int .i64 agZ) h)
def im.g3(fr:Frame):Option Addr×Nat×Nat×Int×Int:=((gLb (ah fr 0)),(gLl (ah fr 0)),(gLc (ah fr 0)),(gI (ah fr 3)),(gI (ah fr 4)))
def im.l3(aa:VH):=gg (kds 31 [(0,.l),(3,.i .i64),(4,.i .i64)]) λfr=>bh (im.B3 aa) (im.g3 fr)
def im.S(nS:Option Addr)(mC uF:Nat)(aa:VH)(h:ab):=
 bh (im.B3 aa) (nS,mC,uF,0,0) h
theorem im.call{nS:Option Addr}{mC uF:Nat}{aa:VH}{h:ab}(H:im.S nS mC uF aa h):ae ai vL #[.slice nS mC uF] aa h:=
 qc (Λ:=an [(1000003,im.l3 aa)]) Tryz.func269
 (qs qf (qs qf (qs (qs qf (Rq.block (ql (im.l3 aa) (qg (g:=im.g3) (Λ:=λa=>an []) (λ_ _ _=>by kernel_rfl) (λa=>qf))))) qf)))
 (qe H)
def gM.B6(aa:VH)(b:(Addr×Addr×Int)->ab->Prop):Addr×Addr×Int->ab->Prop
 | (p_0,e_1,i_6),h=>
 oL (cell h (p_0.add 6)) λabd Xw abe=>
 BIF ((decide (i_6<(Xw:Int)))) (
 oL (cell h (p_0.add 6)) λUO Pv abf=>
 bg UO i_6 Pv λa=>
 oI .i64 (cell h ((Addr.add a (i_6.toNat*45)))) λXV=>
 oI .i64 (cell h (e_1.add 2)) λZt=>
 BIF (XV==Zt) (
 ST1 h ((Addr.add ((Addr.add a (i_6.toNat*45))) 3)) (.bool true) λuN=>
 ST1 uN ((Addr.add ((Addr.add a (i_6.toNat*45))) 4)) (.float .f32 0) λry=>
 oL (cell ry (p_0.add 4)) λSQ Px aeq=>
 oI .i64 (cell ry ((Addr.add ((Addr.add a (i_6.toNat*45))) 1))) λc=>
 bg SQ c Px λd=>
 oI .i64 (cell ry ((Addr.add ((Addr.add d (c.toNat*5))) 1))) λZu=>
 BIF (Zu==1) (
 oF .f32 (cell ry ((Addr.add ((Addr.add ((Addr.add a (i_6.toNat*45))) 5)) 14))) λe=>
 FOP .f32 (od e 1056964608) λf=>
 ST1 ry ((Addr.add ((Addr.add ((Addr.add a (i_6.toNat*45))) 5)) 14)) (.float .f32 f) λUr=>
 b (p_0,e_1,((i64.wrap (i_6+1)))) Ur) (
 b (p_0,e_1,((i64.wrap (i_6+1)))) ry)) (
 b (p_0,e_1,((i64.wrap (i_6+1)))) h)) (
 aa (.tuple ⟨[]⟩) h)
def gM.g6(fr:Frame):Addr×Addr×Int:=((gP (ah fr 0)),(gP (ah fr 1)),(gI (ah fr 6)))
def gM.l6(aa:VH):=gg (kds 93 [(0,.p),(1,.p),(6,.i .i64)]) λfr=>bh (gM.B6 aa) (gM.g6 fr)
def gM.S(p_0:Addr)(e_1:Addr)(aa:VH)(h:ab):=
 oI .i64 (cell h (e_1.add 1)) λb=>
 BIF (b==2) (
 ae ai zM #[.pointer (some p_0),.pointer (some e_1)] (λc d=>
 iF c λe f=>
 asA e λg=>
 asB f λi=>
 ALC ⟨aW⟩ ao (λa j=>
 STA 45 j ⟨a,0,none⟩ g λgd=>
 BIF i (
 oL (cell gd (p_0.add 6)) λrN qd ui=>
 oL (cell gd (p_0.add 6)) λKY Js KZ=>
 LDA 45 gd ⟨a,0,none⟩ λOX=>
 ae ai vL #[.slice KY Js KZ] (λDb kB=>
 asI .i64 Db λXU=>
 PIN gd ⟨a,0,none⟩ 45 kB <|
 PIN gd (p_0.add 6) 1 kB <|
 bg rN XU qd λk=>
 STA 45 kB ((Addr.add k (XU.toNat*45))) OX λjn=>
 aa (.tuple ⟨[]⟩) jn) gd) (
 oI .i64 (cell gd (p_0.add 9)) λl=>
 ST1 gd (p_0.add 9) (.int .i64 ((i64.wrap (l+1)))) λjZ=>
 aa (.tuple ⟨[]⟩) jZ)) d) h) (
 bh (gM.B6 aa) (p_0,e_1,0) h)
theorem gM.call{p_0:Addr}{e_1:Addr}{aa:VH}{h:ab}(H:gM.S p_0 e_1 aa h):ae ai tZ #[.pointer (some p_0),.pointer (some e_1)] aa h:=
 qc (Λ:=an [(1000006,gM.l6 aa)]) Tryz.func183
 (qs qf (qs qf (Rq.block (ql (gM.l6 aa) (qg (g:=gM.g6) (Λ:=λa=>an []) (λ_ _ _=>by kernel_rfl) (λa=>qf))))))
 (qe H)
def CI.S(x_0:Addr)(in_1:Nat)(aa:VH)(h:ab):=
 oL (cell h x_0) λd e Qn=>
 oI .i64 (cell h (x_0.add 1)) λa=>
 bg d a e λf=>
 oF .f32 (cell h ((Addr.add f (a.toNat*1)))) λb=>
 ae ai mq #[.pointer (some (x_0.add 2)),.float .f32 b] (λg i=>
 asF .f32 g λj=>
 ae ai mq #[.pointer (some (x_0.add 8)),.float .f32 j] (λk c=>
 asF .f32 k λAg=>
 oF .f32 (cell c (x_0.add 14)) λDg=>
 FOP .f32 (od Ag Dg) λwX=>
 FOP .f32 (CT wX in_1) λCu=>
 ae ai bM #[.float .f32 Cu] (λDb kB=>
 asF .f32 Db λHe=>
 ae ai jl #[.pointer (some x_0),.float .f32 He] (λGV jn=>
 asF .f32 GV λZE=>
 aa (.float .f32 b) jn) kB) c) i) h
theorem CI.call{x_0:Addr}{in_1:Nat}{aa:VH}{h:ab}(H:CI.S x_0 in_1 aa h):ae ai xN #[.pointer (some x_0),.float .f32 in_1] aa h:=
 qc (Λ:=an []) Tryz.func270
 qf
 (qe H)
def CL.S(x_0:Addr)(ku:Nat)(aa:VH)(h:ab):=
 oL (cell h (x_0.add 2)) λd e Qn=>
 oI .i64 (cell h (x_0.add 3)) λb=>
 bg d b e λf=>
 oF .f32 (cell h ((Addr.add f (b.toNat*1)))) λg=>
 ae ai mq #[.pointer (some (x_0.add 4)),.float .f32 g] (λi a=>
 asF .f32 i λj=>
 oF .f32 (cell a (x_0.add 11)) λk=>
 FOP .f32 (od k j) λc=>
 oL (cell a x_0) λuY rj yg=>
 oI .i64 (cell a (x_0.add 1)) λBq=>
 bg uY Bq rj λOo=>
 oF .f32 (cell a ((Addr.add Oo (Bq.toNat*1)))) λCu=>
 FOP .f32 (CT (Op.negFloat .f32 c) (Op.negFloat .f32 Cu)) λFJ=>
 FOP .f32 (wv ku FJ) λuQ=>
 aa (.tuple ⟨[.float .f32 (Op.negFloat .f32 c),.float .f32 (Op.negFloat .f32 Cu),.float .f32 uQ]⟩) a) h
theorem CL.call{x_0:Addr}{ku:Nat}{aa:VH}{h:ab}(H:CL.S x_0 ku aa h):ae ai xR #[.pointer (some x_0),.float .f32 ku] aa h:=
 qc (Λ:=an []) Tryz.func337
 qf
 (qe H)
def uA.S(wY:Nat)(d_1:Nat)(aa:VH)(h:ab):=
 FOP .f32 (od wY d_1) λe=>
 ae ai uL #[.float .f32 e] (λf a=>
 asF .f32 f λg=>
 FOP .f32 (CT g 1061158912) λb=>
 FOP .f32 (od b b) λc=>
 FOP .f32 (od c c) λi=>
 FOP .f32 (TE 1065353216 i) λd=>
 BIF (f32.format.order d 1065353216==some .gt) (
 aa (.float .f32 1065353216) a) (
 aa (.float .f32 d) a)) h
theorem uA.call{wY:Nat}{d_1:Nat}{aa:VH}{h:ab}(H:uA.S wY d_1 aa h):ae ai qW #[.float .f32 wY,.float .f32 d_1] aa h:=
 qc (Λ:=an []) Tryz.func338
 qf
 (qe H)
def wq.S(x_0:Addr)(ku:Nat)(aa:VH)(h:ab):=
 oL (cell h (x_0.add 2)) λd e Qn=>
 oI .i64 (cell h (x_0.add 3)) λa=>
 bg d a e λf=>
 oF .f32 (cell h ((Addr.add f (a.toNat*1)))) λg=>
 ae ai xR #[.pointer (some x_0),.float .f32 ku] (λi b=>
 OI i λj k l=>
 asF .f32 j λAg=>
 asF .f32 k λDg=>
 asF .f32 l λwX=>
 oF .f32 (cell b (x_0.add 10)) λCu=>
 ae ai qW #[.float .f32 Cu,.float .f32 wX] (λDb kB=>
 asF .f32 Db λHe=>
 FOP .f32 (od wX He) λc=>
 FOP .f32 (CT Ag c) λzf=>
 ae ai bM #[.float .f32 zf] (λFH jZ=>
 asF .f32 FH λIl=>
 ae ai jl #[.pointer (some x_0),.float .f32 Il] (λGW mZ=>
 asF .f32 GW λIN=>
 FOP .f32 (CT Dg c) λQL=>
 ae ai bM #[.float .f32 QL] (λm wP=>
 asF .f32 m λn=>
 ae ai jl #[.pointer (some (x_0.add 2)),.float .f32 n] (λVp GD=>
 asF .f32 Vp λYj=>
 aa (.float .f32 g) GD) wP) mZ) jZ) kB) b) h
theorem wq.call{x_0:Addr}{ku:Nat}{aa:VH}{h:ab}(H:wq.S x_0 ku aa h):ae ai sK #[.pointer (some x_0),.float .f32 ku] aa h:=
 qc (Λ:=an []) Tryz.func272
 qf
 (qe H)
def An.S(fY:Int)(v_1:Addr)(aa:VH)(h:ab):=
 BIF (fY==1) (
 ae ai xN #[.pointer (some (v_1.add 5)),.float .f32 0] (λa b=>
 asF .f32 a λc=>
 aa (.float .f32 c) b) h) (
 BIF (fY==2) (
 oF .f32 (cell h (v_1.add 4)) λd=>
 ae ai xQ #[.pointer (some (v_1.add 20)),.float .f32 d] (λe f=>
 asF .f32 e λg=>
 aa (.float .f32 g) f) h) (
 oF .f32 (cell h (v_1.add 4)) λi=>
 ae ai sK #[.pointer (some (v_1.add 33)),.float .f32 i] (λj gd=>
 asF .f32 j λDg=>
 aa (.float .f32 Dg) gd) h))
theorem An.call{fY:Int}{v_1:Addr}{aa:VH}{h:ab}(H:An.S fY v_1 aa h):ae ai vN #[.int .i64 fY,.pointer (some v_1)] aa h:=
 qc (Λ:=an []) Tryz.func184
 qf
 (qe H)
def gJ.B2(aa:VH)(b:(Addr×Int)->ab->Prop):Addr×Int->ab->Prop
 | (x_0,i_3),h=>
 oL (cell h x_0) λj c Qn=>
 BIF ((decide (i_3<(c:Int)))) (
 oL (cell h x_0) λPy d TN=>
 bg Py i_3 d λe=>
 oF .f32 (cell h ((Addr.add e (i_3.toNat*1)))) λf=>
 BIF (f32.format.order f 0 != some .eq) (
 aa (.bool false) h) (
 b (x_0,((i64.wrap (i_3+1)))) h)) (
 ae ai lF #[.pointer (some (x_0.add 2))] (λg a=>
 asB g λi=>
 BIF i (
 ae ai lF #[.pointer (some (x_0.add 8))] (λAf kc=>
 asB Af λLe=>
 aa (.bool Le) kc) a) (
 aa (.bool false) a)) h)
def gJ.g2(fr:Frame):Addr×Int:=((gP (ah fr 0)),(gI (ah fr 3)))
def gJ.l2(aa:VH):=gg (kds 33 [(0,.p),(3,.i .i64)]) λfr=>bh (gJ.B2 aa) (gJ.g2 fr)
def gJ.S(x_0:Addr)(aa:VH)(h:ab):=
 bh (gJ.B2 aa) (x_0,0) h
theorem gJ.call{x_0:Addr}{aa:VH}{h:ab}(H:gJ.S x_0 aa h):ae ai tW #[.pointer (some x_0)] aa h:=
 qc (Λ:=an [(1000002,gJ.l2 aa)]) Tryz.func273
 (qs qf (qs (qs qf (Rq.block (ql (gJ.l2 aa) (qg (g:=gJ.g2) (Λ:=λa=>an []) (λ_ _ _=>by kernel_rfl) (λa=>qf))))) qf))
 (qe H)
def yv.S(x_0:Addr)(aa:VH)(h:ab):=
 oL (cell h x_0) λc d Qn=>
 ae ai oD #[.slice c d Qn] (λe a=>
 asB e λf=>
 BIF f (
 oL (cell a (x_0.add 1)) λEY Df HY=>
 ae ai oD #[.slice EY Df HY] (λg b=>
 asB g λi=>
 BIF i (
 ae ai lF #[.pointer (some (x_0.add 3))] (λj gd=>
 asB j λPX=>
 aa (.bool PX) gd) b) (
 aa (.bool false) b)) a) (
 aa (.bool false) a)) h
theorem yv.call{x_0:Addr}{aa:VH}{h:ab}(H:yv.S x_0 aa h):ae ai tX #[.pointer (some x_0)] aa h:=
 qc (Λ:=an []) Tryz.func274
 qf
 (qe H)
def ux.S(x_0:Array Value)(aa:VH)(h:ab):=
 ALC x_0 dc (λa e=>
 ae ai uM #[.pointer (some ⟨a,0,none⟩)] (λf b=>
 asB f λg=>
 BIF (!g) (
 aa (.tuple ⟨[.bool false,.int .i64 1]⟩) b) (
 LDA 2 b ⟨a,0,none⟩ λc=>
 LDA 2 b ⟨a,2,none⟩ λd=>
 SIZ (Array.size c) 2 <|
 SIZ (Array.size d) 2 <|
 ALC ⟨(dN 2 2 d (dN 0 2 c [.slice none 0 0,.int .i64 0,.slice none 0 0,.int .i64 0]))⟩ aq (λi j=>
 ae ai oD #[.slice (some ⟨i,0,none⟩) 2 2] (λAf kc=>
 asB Af λLe=>
 BIF Le (
 ae ai lF #[.pointer (some ⟨a,4,none⟩)] (λyM ke=>
 asB yM λk=>
 aa (.tuple ⟨[.bool k,.int .i64 0]⟩) ke) kc) (
 aa (.tuple ⟨[.bool false,.int .i64 0]⟩) kc)) j) b)) e) h
theorem ux.call{x_0:Array Value}{aa:VH}{h:ab}(H:ux.S x_0 aa h):ae ai qT #[.agg x_0] aa h:=
 qc (Λ:=an []) Tryz.func275
 qf
 (qe H)
def Am.S(fY:Int)(v_1:Addr)(aa:VH)(h:ab):=
 BIF (fY==1) (
 ae ai tW #[.pointer (some (v_1.add 5))] (λa b=>
 asB a λc=>
 aa (.bool c) b) h) (
 BIF (fY==2) (
 ae ai tX #[.pointer (some (v_1.add 20))] (λd e=>
 asB d λf=>
 aa (.bool f) e) h) (
 LDA 12 h (v_1.add 33) λg=>
 ae ai qT #[.agg g] (λi j=>
 iF i λAf wi=>
 asB Af λLe=>
 asI .i64 wi λQw=>
 aa (.bool Le) j) h))
theorem Am.call{fY:Int}{v_1:Addr}{aa:VH}{h:ab}(H:Am.S fY v_1 aa h):ae ai vM #[.int .i64 fY,.pointer (some v_1)] aa h:=
 qc (Λ:=an []) Tryz.func185
 qf
 (qe H)
def bL.J2(a:Addr->ab->Prop)(aa:VH)(p_0:Addr)(h:ab):=
 oL (cell h (p_0.add 5)) λuY rj yg=>
 oI .i64 (cell h (p_0.add 8)) λBq=>
 bg uY Bq rj λOo=>
 ae ai tZ #[.pointer (some p_0),.pointer (some ((Addr.add Oo (Bq.toNat*6))))] (λyM ke=>
 oI .i64 (cell ke (p_0.add 8)) λKh=>
 ST1 ke (p_0.add 8) (.int .i64 ((i64.wrap (Kh+1)))) λiJ=>
 a p_0 iJ) h
def bL.j2(a:Addr->ab->Prop)(aa:VH):=gg (kds 118 [(0,.p)]) λfr=>bL.J2 a aa (gP (ah fr 0))
def bL.J13(a:(Addr×Nat×Int)->ab->Prop)(aa:VH)(p_0:Addr)(b:Nat)(i_4:Int)(c:Bool)(h:ab):=
 BIF c (
 oL (cell h (p_0.add 6)) λXD XE abi=>
 ae ai tU #[] (λd KT=>
 asA d λe=>
 PIN h (p_0.add 6) 1 KT <|
 bg XD i_4 XE λf=>
 STA 45 KT ((Addr.add f (i_4.toNat*45))) e λg=>
 a (p_0,b,((i64.wrap (i_4+1)))) g) h) (
 a (p_0,b,((i64.wrap (i_4+1)))) h)
def bL.j13(a:(Addr×Nat×Int)->ab->Prop)(aa:VH):=gg (kds 118 [(0,.p),(3,.f .f32),(4,.i .i64),(101,.b)]) λfr=>bL.J13 a aa (gP (ah fr 0)) (gF (ah fr 3)) (gI (ah fr 4)) (gB (ah fr 101))
def bL.B6(aa:VH)(b:(Addr×Nat×Int)->ab->Prop):Addr×Nat×Int->ab->Prop
 | (p_0,c,i_4),h=>
 oL (cell h (p_0.add 6)) λUM SL Xs=>
 BIF ((decide (i_4<(SL:Int)))) (
 oL (cell h (p_0.add 6)) λabb Xv aek=>
 bg abb i_4 Xv λa=>
 oI .i64 (cell h ((Addr.add a (i_4.toNat*45)))) λe=>
 BIF (e==(-1)) (
 b (p_0,c,((i64.wrap (i_4+1)))) h) (
 oL (cell h (p_0.add 4)) λPu My Xz=>
 oI .i64 (cell h ((Addr.add ((Addr.add a (i_4.toNat*45))) 1))) λd=>
 bg Pu d My λf=>
 oI .i64 (cell h ((Addr.add ((Addr.add f (d.toNat*5))) 1))) λXV=>
 ae ai vN #[.int .i64 XV,.pointer (some ((Addr.add a (i_4.toNat*45))))] (λTj uN=>
 asF .f32 Tj λKk=>
 FOP .f32 (CT c Kk) λQM=>
 oB (cell uN ((Addr.add ((Addr.add a (i_4.toNat*45))) 3))) λg=>
 BIF g (
 ae ai vM #[.int .i64 XV,.pointer (some ((Addr.add a (i_4.toNat*45))))] (λi Lk=>
 asB i λj=>
 bL.J13 b aa p_0 QM i_4 j Lk) uN) (
 bL.J13 b aa p_0 QM i_4 false uN)) h)) (
 oI .i64 (cell h (p_0.add 7)) λk=>
 ST1 h (p_0.add 7) (.int .i64 ((i64.wrap (k+1)))) λUr=>
 ae ai qx #[.float .f32 c,.float .f32 1065353216] (λl Jl=>
 asF .f32 l λm=>
 aa (.float .f32 m) Jl) Ur)
def bL.g6(fr:Frame):Addr×Nat×Int:=((gP (ah fr 0)),(gF (ah fr 3)),(gI (ah fr 4)))
def bL.l6(aa:VH):=gg (kds 118 [(0,.p),(3,.f .f32),(4,.i .i64)]) λfr=>bh (bL.B6 aa) (bL.g6 fr)
def bL.B1(aa:VH)(b:Addr->ab->Prop):Addr->ab->Prop
 | p_0,h=>
 oI .i64 (cell h (p_0.add 8)) λc=>
 oL (cell h (p_0.add 5)) λi d j=>
 BIF ((decide (c<(d:Int)))) (
 oL (cell h (p_0.add 5)) λEY Df HY=>
 oI .i64 (cell h (p_0.add 8)) λa=>
 bg EY a Df λe=>
 oI .i64 (cell h ((Addr.add e (a.toNat*6)))) λf=>
 oI .i64 (cell h (p_0.add 7)) λg=>
 BIF (f==g) (
 bL.J2 b aa p_0 h) (
 bh (bL.B6 aa) (p_0,0,0) h)) (
 bh (bL.B6 aa) (p_0,0,0) h)
def bL.g1(fr:Frame):Addr:=(gP (ah fr 0))
def bL.l1(aa:VH):=gg (kds 118 [(0,.p)]) λfr=>bh (bL.B1 aa) (bL.g1 fr)
def bL.S(p_0:Addr)(aa:VH)(h:ab):=
 bh (bL.B1 aa) p_0 h
theorem bL.call{p_0:Addr}{aa:VH}{h:ab}(H:bL.S p_0 aa h):ae ai xW #[.pointer (some p_0)] aa h:=
 qc (Λ:=an [(1000001,bL.l1 aa),(1000006,bL.l6 aa)]) Tryz.func118
 (qs qf (qs (Rq.block (ql (bL.l1 aa) (qg (g:=bL.g1) (Λ:=λa=>an [(2,bL.j2 a aa)]) (λ_ _ _=>by kernel_rfl) (λa=>(qj (bL.j2 a aa) qf
 qf))))) (qs qf (qs (qs qf (Rq.block (ql (bL.l6 aa) (qg (g:=bL.g6) (Λ:=λb=>an [(13,bL.j13 b aa)]) (λ_ _ _=>by kernel_rfl) (λb=>(qs qf (qs (Rq.block (qs qf (qs qf (qs qf (qs qf (qj (bL.j13 b aa) qf
 qf)))))) qf))))))) qf))))
 (qe H)
def re.S(p_0:Array Value)(uJ:Int)(aa:VH)(h:ab):=
 ALC p_0 aE (λb a=>
 oI .i64 (cell a ⟨b,7,none⟩) λc=>
 aa (.bool ((decide (200000<(i64.wrap (c+uJ)))))) a) h
theorem re.call{p_0:Array Value}{uJ:Int}{aa:VH}{h:ab}(H:re.S p_0 uJ aa h):ae ai ot #[.agg p_0,.int .i64 uJ] aa h:=
 qc (Λ:=an []) Tryz.func121
 qf
 (qe H)
def iy.S(hO:Option Addr)(gx iz:Nat)(aa:VH)(h:ab):=
 CMP ai .eql gy (.tmp 3) (.const (.slice none 0 0)) (.slice hO gx iz) (.slice none 0 0) (λb a=>
 BIF b (
 aa (.slice none 0 0) a) (
 ALC ⟨[]⟩ ao (λc d=>
 iA ai (Builtin.append_ #[gy,gy] gy #[.slice (some ⟨c,0,none⟩) 0 0,.slice hO gx iz]) (λe f=>
 asL e λAu yL AN=>
 aa (.slice Au yL AN) f) d) a)) h
theorem iy.call{hO:Option Addr}{gx iz:Nat}{aa:VH}{h:ab}(H:iy.S hO gx iz aa h):ae ai hH #[.slice hO gx iz] aa h:=
 qc (Λ:=an []) Tryz.func188
 qf
 (qe H)
def ya.S(x_0:Array Value)(aa:VH)(h:ab):=
 ALC x_0 dc (λa e=>
 ALC ⟨cH⟩ dc (λc b=>
 LDA 2 b ⟨a,0,none⟩ λf=>
 LDA 2 b ⟨a,2,none⟩ λg=>
 ae ai kg #[.agg f] (λi d=>
 asA i λj=>
 PIN b ⟨a,2,none⟩ 2 d <|
 ae ai kg #[.agg g] (λAf kc=>
 asA Af λGu=>
 STA 2 kc ⟨a,0,none⟩ j λgf=>
 STA 2 gf ⟨a,2,none⟩ Gu λke=>
 LDA 12 ke ⟨a,0,none⟩ λRP=>
 STA 12 ke ⟨c,0,none⟩ RP λiJ=>
 LDA 12 iJ ⟨c,0,none⟩ λHt=>
 aa (.agg Ht) iJ) d) b) e) h
theorem ya.call{x_0:Array Value}{aa:VH}{h:ab}(H:ya.S x_0 aa h):ae ai tL #[.agg x_0] aa h:=
 qc (Λ:=an []) Tryz.func280
 qf
 (qe H)
def ud.S(v_0:Array Value)(aa:VH)(h:ab):=
 ALC v_0 ao (λa e=>
 ALC ⟨aW⟩ ao (λd b=>
 LDA 15 b ⟨a,5,none⟩ λf=>
 LDA 13 b ⟨a,20,none⟩ λg=>
 LDA 12 b ⟨a,33,none⟩ λi=>
 ae ai mf #[.agg f] (λj c=>
 asA j λAz=>
 PIN b ⟨a,33,none⟩ 12 c <|
 PIN b ⟨a,20,none⟩ 13 c <|
 ae ai se #[.agg g] (λwi iG=>
 asA wi λOX=>
 PIN b ⟨a,33,none⟩ 12 iG <|
 ae ai tL #[.agg i] (λDb kB=>
 asA Db λIK=>
 STA 15 kB ⟨a,5,none⟩ Az λoZ=>
 STA 13 oZ ⟨a,20,none⟩ OX λjn=>
 STA 12 jn ⟨a,33,none⟩ IK λtz=>
 LDA 45 tz ⟨a,0,none⟩ λHu=>
 STA 45 tz ⟨d,0,none⟩ Hu λqz=>
 LDA 45 qz ⟨d,0,none⟩ λk=>
 aa (.agg k) qz) iG) c) b) e) h
theorem ud.call{v_0:Array Value}{aa:VH}{h:ab}(H:ud.S v_0 aa h):ae ai qN #[.agg v_0] aa h:=
 qc (Λ:=an []) Tryz.func189
 qf
 (qe H)
def ew.B3(aa:VH)(g:(Addr×Addr×Option Addr×Nat×Nat×Int×Int)->ab->Prop):Addr×Addr×Option Addr×Nat×Nat×Int×Int->ab->Prop
 | (p_1,b,c,d,i,e,a),h=>
 BIF (decide (a<e)) (
 bg c a d λj=>
 LDA 45 h ((Addr.add j (a.toNat*45))) λk=>
 ALC ⟨aW⟩ ao (λf qz=>
 STA 45 qz ⟨f,0,none⟩ k λrM=>
 oL (cell rM (p_1.add 6)) λPu My Xz=>
 LDA 45 rM ⟨f,0,none⟩ λl=>
 ae ai qN #[.agg l] (λPF wO=>
 asA PF λm=>
 PIN rM (p_1.add 6) 1 wO <|
 bg Pu a My λn=>
 STA 45 wO ((Addr.add n (a.toNat*45))) m λry=>
 g (p_1,b,c,d,i,e,((i64.wrap (a+1)))) ry) rM) h) (
 LDA 10 h p_1 λo=>
 STA 10 h b o λDL=>
 LDA 10 DL b λp=>
 aa (.agg p) DL)
def ew.g3(fr:Frame):Addr×Addr×Option Addr×Nat×Nat×Int×Int:=((gP (ah fr 1)),(gP (ah fr 2)),(gLb (ah fr 14)),(gLl (ah fr 14)),(gLc (ah fr 14)),(gI (ah fr 15)),(gI (ah fr 16)))
def ew.l3(aa:VH):=gg (kds 29 [(1,.p),(2,.p),(14,.l),(15,.i .i64),(16,.i .i64)]) λfr=>bh (ew.B3 aa) (ew.g3 fr)
def ew.S(p_0:Array Value)(aa:VH)(h:ab):=
 ALC p_0 aE (λa e=>
 ALC ⟨bx⟩ aE (λf b=>
 LDA 6 b ⟨a,0,none⟩ λg=>
 oL (cell b ⟨a,6,none⟩) λMz MA TO=>
 ae ai qK #[.agg g] (λi c=>
 asA i λj=>
 PIN b ⟨a,6,none⟩ 1 c <|
 ae ai hH #[.slice Mz MA TO] (λAf kc=>
 asL Af λKY Js KZ=>
 STA 6 kc ⟨a,0,none⟩ j λgf=>
 ST1 gf ⟨a,6,none⟩ (.slice KY Js KZ) λke=>
 oL (cell ke ⟨a,6,none⟩) λFD d HX=>
 bh (ew.B3 aa) (⟨a,0,none⟩,⟨f,0,none⟩,FD,d,HX,(d:Int),0) ke) c) b) e) h
theorem ew.call{p_0:Array Value}{aa:VH}{h:ab}(H:ew.S p_0 aa h):ae ai pD #[.agg p_0] aa h:=
 qc (Λ:=an [(1000003,ew.l3 aa)]) Tryz.func122
 (qs qf (qs qf (qs (qs qf (Rq.block (ql (ew.l3 aa) (qg (g:=ew.g3) (Λ:=λa=>an []) (λ_ _ _=>by kernel_rfl) (λa=>qf))))) qf)))
 (qe H)
def dX.B6(aa:VH)(e:(Addr×Int×Option Addr×Nat×Nat×Int×Int)->ab->Prop):Addr×Int×Option Addr×Nat×Nat×Int×Int->ab->Prop
 | (p_0,Hz,b,c,f,d,a),h=>
 BIF (decide (a<d)) (
 bg b a c λi=>
 LDA 45 h ((Addr.add i (a.toNat*45))) λj=>
 ALC ⟨aW⟩ ao (λg kc=>
 STA 45 kc ⟨g,0,none⟩ j λiG=>
 oI .i64 (cell iG ⟨g,2,none⟩) λQw=>
 oL (cell iG (p_0.add 6)) λFC DX Jt=>
 bg FC Hz DX λk=>
 oI .i64 (cell iG ((Addr.add ((Addr.add k (Hz.toNat*45))) 2))) λXU=>
 BIF (decide (Qw<XU)) (
 e (p_0,a,b,c,f,d,((i64.wrap (a+1)))) iG) (
 e (p_0,Hz,b,c,f,d,((i64.wrap (a+1)))) iG)) h) (
 aa (.int .i64 Hz) h)
def dX.g6(fr:Frame):Addr×Int×Option Addr×Nat×Nat×Int×Int:=((gP (ah fr 0)),(gI (ah fr 4)),(gLb (ah fr 18)),(gLl (ah fr 18)),(gLc (ah fr 18)),(gI (ah fr 19)),(gI (ah fr 20)))
def dX.l6(aa:VH):=gg (kds 39 [(0,.p),(4,.i .i64),(18,.l),(19,.i .i64),(20,.i .i64)]) λfr=>bh (dX.B6 aa) (dX.g6 fr)
def dX.S(p_0:Addr)(aa:VH)(h:ab):=
 oL (cell h (p_0.add 6)) λc d Qn=>
 ae ai eI #[.slice c d Qn,.func (.func 113) #[] #[]] (λe a=>
 asI .i64 e λb=>
 BIF ((decide (0≤b))) (
 aa (.int .i64 b) a) (
 oL (cell a (p_0.add 6)) λEY Df HY=>
 bh (dX.B6 aa) (p_0,0,EY,Df,HY,(Df:Int),0) a)) h
theorem dX.call{p_0:Addr}{aa:VH}{h:ab}(H:dX.S p_0 aa h):ae ai nY #[.pointer (some p_0)] aa h:=
 qc (Λ:=an [(1000006,dX.l6 aa)]) Tryz.func281
 (qs qf (qs qf (qs qf (qs (qs qf (Rq.block (ql (dX.l6 aa) (qg (g:=dX.g6) (Λ:=λa=>an []) (λ_ _ _=>by kernel_rfl) (λa=>qf))))) qf))))
 (qe H)
def mz.S(v_0:Array Value)(b:Addr)(aa:VH)(h:ab):=
 ALC v_0 ao (λc a=>
 oI .i64 (cell a ⟨c,0,none⟩) λd=>
 oI .i64 (cell a (b.add 2)) λe=>
 aa (.bool (d==e)) a) h
theorem mz.call{v_0:Array Value}{a:Addr}{aa:VH}{h:ab}(H:mz.S v_0 a aa h):ae ai lu #[.agg v_0,.pointer (some a)] aa h:=
 qc (Λ:=an []) Tryz.func283
 qf
 (qe H)
def dK.J3(aa:VH)(p_0:Addr)(v_4:Addr)(b:Int)(h:ab):=
 BIF (b != 0) (
 oI .i64 (cell h (p_0.add 9)) λc=>
 ST1 h (p_0.add 9) (.int .i64 ((i64.wrap (c+1)))) λIL=>
 aa (.tuple ⟨[]⟩) IL) (
 oL (cell h (p_0.add 6)) λaev aew aik=>
 LDA 45 h v_4 λd=>
 ae ai nY #[.pointer (some p_0)] (λe Su=>
 asI .i64 e λa=>
 PIN h v_4 45 Su <|
 PIN h (p_0.add 6) 1 Su <|
 bg aev a aew λf=>
 STA 45 Su ((Addr.add f (a.toNat*45))) d λTG=>
 aa (.tuple ⟨[]⟩) TG) h)
def dK.j3(aa:VH):=gg (kds 79 [(0,.p),(4,.p),(5,.i .i64)]) λfr=>dK.J3 aa (gP (ah fr 0)) (gP (ah fr 4)) (gI (ah fr 5))
def dK.S(p_0:Addr)(e_1:Array Value)(aa:VH)(h:ab):=
 ALC e_1 bq (λb a=>
 oI .i64 (cell a ⟨b,1,none⟩) λi=>
 BIF (i==2) (
 LDA 6 a p_0 λd=>
 LDA 6 a ⟨b,0,none⟩ λe=>
 (ae ai nB #[.agg d,.agg e] (λj k=>
 iF j λl m=>
 asA l λAz=>
 asI .i64 m λBq=>
 ALC ⟨aW⟩ ao (λf gf=>
 PIN a ⟨b,0,none⟩ 6 gf <|
 PIN a p_0 6 gf <|
 STA 45 gf ⟨f,0,none⟩ Az λke=>
 dK.J3 aa p_0 ⟨f,0,none⟩ Bq ke) k) a)∧(ALC ⟨aW⟩ ao (λg iJ=>
 PIN a ⟨b,0,none⟩ 6 iJ <|
 PIN a p_0 6 iJ <|
 ae ai nB #[.agg d,.agg e] (λGV jn=>
 iF GV λFH n=>
 asA FH λo=>
 asI .i64 n λp=>
 STA 45 jn ⟨g,0,none⟩ o λmZ=>
 dK.J3 aa p_0 ⟨g,0,none⟩ p mZ) iJ) a)) (
 oL (cell a (p_0.add 6)) λUO Pv abf=>
 ae ai eI #[.slice UO Pv abf,.func (.func 283) #[] #[.pointer (some ⟨b,0,none⟩)]] (λPF wO=>
 asI .i64 PF λZt=>
 BIF ((decide (Zt<0))) (
 aa (.tuple ⟨[]⟩) wO) (
 oL (cell wO (p_0.add 6)) λSO SP abg=>
 bg SO Zt SP λc=>
 ST1 wO ((Addr.add ((Addr.add c (Zt.toNat*45))) 3)) (.bool true) λGD=>
 ST1 GD ((Addr.add ((Addr.add c (Zt.toNat*45))) 4)) (.float .f32 0) λDL=>
 oL (cell DL (p_0.add 4)) λalU aii aqY=>
 oI .i64 (cell DL ((Addr.add ((Addr.add c (Zt.toNat*45))) 1))) λZu=>
 bg alU Zu aii λq=>
 oI .i64 (cell DL ((Addr.add ((Addr.add q (Zu.toNat*5))) 1))) λr=>
 BIF (r==1) (
 oF .f32 (cell DL ((Addr.add ((Addr.add ((Addr.add c (Zt.toNat*45))) 5)) 14))) λTP=>
 FOP .f32 (od TP 1056964608) λWf=>
 ST1 DL ((Addr.add ((Addr.add ((Addr.add c (Zt.toNat*45))) 5)) 14)) (.float .f32 Wf) λJl=>
 aa (.tuple ⟨[]⟩) Jl) (
 aa (.tuple ⟨[]⟩) DL))) a)) h
theorem dK.call{p_0:Addr}{e_1:Array Value}{aa:VH}{h:ab}(H:dK.S p_0 e_1 aa h):ae ai mW #[.pointer (some p_0),.agg e_1] aa h:=
 qc (Λ:=an [(3,dK.j3 aa)]) Tryz.func190
 (qs qf (qs (qs qf (Rq.cond (qj (dK.j3 aa) qf
 qf) qf)) qf))
 (qe H)
def rk.S(x_0:Addr)(in_1:Nat)(aa:VH)(h:ab):=
 LDA 2 h x_0 λc=>
 oL (cell h x_0) λd e f=>
 ae ai dR #[.slice d e f] (λg a=>
 asI .i64 g λi=>
 PIN h x_0 2 a <|
 ae ai pg #[.agg c,.int .i64 i] (λj k=>
 asF .f32 j λb=>
 ae ai jc #[.pointer (some (x_0.add 2)),.float .f32 b] (λl gd=>
 asF .f32 l λDg=>
 ae ai jc #[.pointer (some (x_0.add 8)),.float .f32 Dg] (λuu gf=>
 asF .f32 uu λFJ=>
 oF .f32 (cell gf (x_0.add 14)) λuQ=>
 FOP .f32 (od FJ uQ) λHe=>
 FOP .f32 (CT He in_1) λm=>
 ae ai gj #[.float .f32 m] (λTi tz=>
 asF .f32 Ti λIk=>
 ae ai gm #[.pointer (some x_0),.float .f32 Ik] (λKi rM=>
 asF .f32 Ki λn=>
 aa (.float .f32 b) rM) tz) gf) gd) k) a) h
theorem rk.call{x_0:Addr}{in_1:Nat}{aa:VH}{h:ab}(H:rk.S x_0 in_1 aa h):ae ai oC #[.pointer (some x_0),.float .f32 in_1] aa h:=
 qc (Λ:=an []) Tryz.func284
 qf
 (qe H)
def oK.S(x_0:Array Value)(aa:VH)(h:ab):=
 ALC x_0 aB (λa d=>
 LDA 2 d ⟨a,0,none⟩ λe=>
 ae ai jw #[.agg e] (λf b=>
 asB f λg=>
 BIF g (
 LDA 6 b ⟨a,2,none⟩ λi=>
 ae ai iI #[.agg i] (λj c=>
 asB j λHw=>
 BIF Hw (
 LDA 6 c ⟨a,8,none⟩ λtq=>
 ae ai iI #[.agg tq] (λuu gf=>
 asB uu λFv=>
 aa (.bool Fv) gf) c) (
 aa (.bool false) c)) b) (
 aa (.bool false) b)) d) h
theorem oK.call{x_0:Array Value}{aa:VH}{h:ab}(H:oK.S x_0 aa h):ae ai mO #[.agg x_0] aa h:=
 qc (Λ:=an []) Tryz.func285
 qf
 (qe H)
def eV.B3(aa:VH)(f:(Addr×Option Addr×Nat×Nat×Int×Int)->ab->Prop):Addr×Option Addr×Nat×Nat×Int×Int->ab->Prop
 | (x_0,b,c,d,e,a),h=>
 BIF (decide (a<e)) (
 oL (cell h x_0) λPy g TN=>
 bg Py a g λi=>
 oL (cell h (x_0.add 1)) λMz MA TO=>
 bg Mz a MA λj=>
 ALC ⟨[.pointer (some ((Addr.add i (a.toNat*2)))),.pointer (some ((Addr.add j (a.toNat*2))))]⟩ pU (λk l=>
 iA ai (Builtin.append_ #[pf,pf] pf #[.slice b c d,.slice (some ⟨k,0,none⟩) 2 2]) (λAf kc=>
 asL Af λKY Js KZ=>
 f (x_0,KY,Js,KZ,e,((i64.wrap (a+1)))) kc) l) h) (
 aa (.slice b c d) h)
def eV.g3(fr:Frame):Addr×Option Addr×Nat×Nat×Int×Int:=((gP (ah fr 0)),(gLb (ah fr 3)),(gLl (ah fr 3)),(gLc (ah fr 3)),(gI (ah fr 9)),(gI (ah fr 10)))
def eV.l3(aa:VH):=gg (kds 30 [(0,.p),(3,.l),(9,.i .i64),(10,.i .i64)]) λfr=>bh (eV.B3 aa) (eV.g3 fr)
def eV.S(x_0:Addr)(aa:VH)(h:ab):=
 oL (cell h x_0) λb a Qn=>
 bh (eV.B3 aa) (x_0,none,0,0,(a:Int),0) h
theorem eV.call{x_0:Addr}{aa:VH}{h:ab}(H:eV.S x_0 aa h):ae ai pM #[.pointer (some x_0)] aa h:=
 qc (Λ:=an [(1000003,eV.l3 aa)]) Tryz.func288
 (qs qf (qs qf (qs (qs qf (Rq.block (ql (eV.l3 aa) (qg (g:=eV.g3) (Λ:=λa=>an []) (λ_ _ _=>by kernel_rfl) (λa=>qf))))) qf)))
 (qe H)
def bp.B2(aa:VH)(d:(Option Addr×Nat×Nat×Value×Int×Int)->ab->Prop):Option Addr×Nat×Nat×Value×Int×Int->ab->Prop
 | (hO,gx,iz,f_1,b,a),h=>
 BIF (decide (a<b)) (
 bg hO a gx λe=>
 oP (cell h ((Addr.add e (a.toNat*1)))) λf=>
 oc ai f_1 #[.pointer (some f)] (λg c=>
 asB g λi=>
 BIF i (
 aa (.int .i64 a) c) (
 d (hO,gx,iz,f_1,b,((i64.wrap (a+1)))) c)) h) (
 aa (.int .i64 (-1)) h)
def bp.g2(fr:Frame):Option Addr×Nat×Nat×Value×Int×Int:=((gLb (ah fr 0)),(gLl (ah fr 0)),(gLc (ah fr 0)),(ah fr 1),(gI (ah fr 7)),(gI (ah fr 8)))
def bp.l2(aa:VH):=gg (kds 19 [(0,.l),(1,.v),(7,.i .i64),(8,.i .i64)]) λfr=>bh (bp.B2 aa) (bp.g2 fr)
def bp.S(hO:Option Addr)(gx iz:Nat)(f_1:Value)(aa:VH)(h:ab):=
 bh (bp.B2 aa) (hO,gx,iz,f_1,(gx:Int),0) h
theorem bp.call{hO:Option Addr}{gx iz:Nat}{f_1:Value}{aa:VH}{h:ab}(H:bp.S hO gx iz f_1 aa h):ae ai gD #[.slice hO gx iz,f_1] aa h:=
 qc (Λ:=an [(1000002,bp.l2 aa)]) Tryz.func377
 (qs qf (qs (qs qf (Rq.block (ql (bp.l2 aa) (qg (g:=bp.g2) (Λ:=λa=>an []) (λ_ _ _=>by kernel_rfl) (λa=>qf))))) qf))
 (qe H)
def gr.S(hO:Option Addr)(gx iz:Nat)(f_1:Value)(aa:VH)(h:ab):=
 ae ai gD #[.slice hO gx iz,f_1] (λa b=>
 asI .i64 a λc=>
 aa (.bool ((decide (0≤c)))) b) h
theorem gr.call{hO:Option Addr}{gx iz:Nat}{f_1:Value}{aa:VH}{h:ab}(H:gr.S hO gx iz f_1 aa h):ae ai jd #[.slice hO gx iz,f_1] aa h:=
 qc (Λ:=an []) Tryz.func350
 qf
 (qe H)
def ue.S(r_0:Addr)(aa:VH)(h:ab):=
 LDA 2 h r_0 λa=>
 ae ai jw #[.agg a] (λb c=>
 asB b λd=>
 aa (.bool (!d)) c) h
theorem ue.call{r_0:Addr}{aa:VH}{h:ab}(H:ue.S r_0 aa h):ae ai mS #[.pointer (some r_0)] aa h:=
 qc (Λ:=an []) Tryz.func351
 qf
 (qe H)
def zT.S(aF:Option Addr)(ax aN:Nat)(aa:VH)(h:ab):=
 ae ai jd #[.slice aF ax aN,.func (.func 351) #[] #[]] (λa b=>
 asB a λc=>
 aa (.bool (!c)) b) h
theorem zT.call{aF:Option Addr}{ax aN:Nat}{aa:VH}{h:ab}(H:zT.S aF ax aN aa h):ae ai vr #[.slice aF ax aN] aa h:=
 qc (Λ:=an []) Tryz.func287
 qf
 (qe H)
def wg.S(x_0:Addr)(ku:Nat)(aa:VH)(h:ab):=
 LDA 2 h (x_0.add 2) λe=>
 ae ai hP #[.agg e] (λf g=>
 asF .f32 f λi=>
 ae ai jc #[.pointer (some (x_0.add 4)),.float .f32 i] (λj a=>
 asF .f32 j λb=>
 oF .f32 (cell a (x_0.add 11)) λc=>
 LDA 2 a x_0 λd=>
 (FOP .f32 (od c b) λAg=>
 PIN a x_0 2 a <|
 ae ai hP #[.agg d] (λwi iG=>
 asF .f32 wi λCu=>
 PIN a (x_0.add 11) 1 iG <|
 FOP .f32 (CT (Op.negFloat .f32 Ag) (Op.negFloat .f32 Cu)) λFJ=>
 FOP .f32 (wv ku FJ) λuQ=>
 aa (.tuple ⟨[.float .f32 (Op.negFloat .f32 Ag),.float .f32 (Op.negFloat .f32 Cu),.float .f32 uQ]⟩) iG) a)∧(ae ai hP #[.agg d] (λk oZ=>
 asF .f32 k λzf=>
 PIN a (x_0.add 11) 1 oZ <|
 FOP .f32 (od c b) λZE=>
 PIN a x_0 2 oZ <|
 FOP .f32 (CT (Op.negFloat .f32 ZE) (Op.negFloat .f32 zf)) λIk=>
 FOP .f32 (wv ku Ik) λIl=>
 aa (.tuple ⟨[.float .f32 (Op.negFloat .f32 ZE),.float .f32 (Op.negFloat .f32 zf),.float .f32 Il]⟩) oZ) a)) g) h
theorem wg.call{x_0:Addr}{ku:Nat}{aa:VH}{h:ab}(H:wg.S x_0 ku aa h):ae ai sB #[.pointer (some x_0),.float .f32 ku] aa h:=
 qc (Λ:=an []) Tryz.func352
 qf
 (qe H)
def vS.S(wY:Nat)(wJ:Nat)(aa:VH)(h:ab):=
 FOP .f32 (od wY wJ) λe=>
 ae ai qu #[.float .f32 e] (λf a=>
 asF .f32 f λg=>
 FOP .f32 (CT g 1061158912) λb=>
 FOP .f32 (od b b) λc=>
 FOP .f32 (od c c) λi=>
 FOP .f32 (TE 1065353216 i) λd=>
 BIF (f32.format.order d 1065353216==some .gt) (
 aa (.float .f32 1065353216) a) (
 aa (.float .f32 d) a)) h
theorem vS.call{wY:Nat}{wJ:Nat}{aa:VH}{h:ab}(H:vS.S wY wJ aa h):ae ai sb #[.float .f32 wY,.float .f32 wJ] aa h:=
 qc (Λ:=an []) Tryz.func353
 qf
 (qe H)
def wh.S(x_0:Addr)(ku:Nat)(aa:VH)(h:ab):=
 LDA 2 h (x_0.add 2) λc=>
 ae ai hP #[.agg c] (λd e=>
 asF .f32 d λf=>
 ae ai sB #[.pointer (some x_0),.float .f32 ku] (λg a=>
 OI g λi j k=>
 asF .f32 i λAg=>
 asF .f32 j λDg=>
 asF .f32 k λwX=>
 oF .f32 (cell a (x_0.add 10)) λCu=>
 ae ai sb #[.float .f32 Cu,.float .f32 wX] (λDb kB=>
 asF .f32 Db λHe=>
 FOP .f32 (od wX He) λb=>
 FOP .f32 (CT Ag b) λzf=>
 ae ai gj #[.float .f32 zf] (λFH jZ=>
 asF .f32 FH λIl=>
 ae ai gm #[.pointer (some x_0),.float .f32 Il] (λGW mZ=>
 asF .f32 GW λIN=>
 FOP .f32 (CT Dg b) λQL=>
 ae ai gj #[.float .f32 QL] (λl wP=>
 asF .f32 l λm=>
 ae ai gm #[.pointer (some (x_0.add 2)),.float .f32 m] (λVp GD=>
 asF .f32 Vp λYj=>
 aa (.float .f32 f) GD) wP) mZ) jZ) kB) a) e) h
theorem wh.call{x_0:Addr}{ku:Nat}{aa:VH}{h:ab}(H:wh.S x_0 ku aa h):ae ai sC #[.pointer (some x_0),.float .f32 ku] aa h:=
 qc (Λ:=an []) Tryz.func290
 qf
 (qe H)
def tc.S(v_0:Addr)(zX:Int)(aa:VH)(h:ab):=
 BIF (zX==1) (
 ae ai oC #[.pointer (some (v_0.add 5)),.float .f32 0] (λc a=>
 asF .f32 c λb=>
 oB (cell a (v_0.add 3)) λd=>
 BIF d (
 LDA 15 a (v_0.add 5) λe=>
 ae ai mO #[.agg e] (λf g=>
 asB f λi=>
 aa (.tuple ⟨[.float .f32 b,.bool i]⟩) g) a) (
 aa (.tuple ⟨[.float .f32 b,.bool false]⟩) a)) h) (
 BIF (zX==2) (
 oF .f32 (cell h (v_0.add 4)) λj=>
 ae ai qS #[.pointer (some (v_0.add 20)),.float .f32 j] (λAf kc=>
 asF .f32 Af λwX=>
 oB (cell kc (v_0.add 3)) λHb=>
 BIF Hb (
 ae ai pM #[.pointer (some (v_0.add 20))] (λDb kB=>
 asL Db λDY DZ FE=>
 ae ai vr #[.slice DY DZ FE] (λGV jn=>
 asB GV λLJ=>
 BIF LJ (
 LDA 6 jn (v_0.add 23) λHu=>
 ae ai iI #[.agg Hu] (λKi rM=>
 asB Ki λk=>
 aa (.tuple ⟨[.float .f32 wX,.bool k]⟩) rM) jn) (
 aa (.tuple ⟨[.float .f32 wX,.bool false]⟩) jn)) kB) kc) (
 aa (.tuple ⟨[.float .f32 wX,.bool false]⟩) kc)) h) (
 oF .f32 (cell h (v_0.add 4)) λIN=>
 ae ai sC #[.pointer (some (v_0.add 33)),.float .f32 IN] (λPF wO=>
 asF .f32 PF λNq=>
 oB (cell wO (v_0.add 3)) λl=>
 BIF l (
 LDA 2 wO (v_0.add 33) λm=>
 ae ai jw #[.agg m] (λVq DL=>
 asB Vq λn=>
 BIF n (
 LDA 2 DL (v_0.add 35) λo=>
 ae ai jw #[.agg o] (λWd tA=>
 asB Wd λp=>
 BIF p (
 LDA 6 tA (v_0.add 37) λq=>
 ae ai iI #[.agg q] (λr DM=>
 asB r λs=>
 aa (.tuple ⟨[.float .f32 Nq,.bool s]⟩) DM) tA) (
 aa (.tuple ⟨[.float .f32 Nq,.bool false]⟩) tA)) DL) (
 aa (.tuple ⟨[.float .f32 Nq,.bool false]⟩) DL)) wO) (
 aa (.tuple ⟨[.float .f32 Nq,.bool false]⟩) wO)) h))
theorem tc.call{v_0:Addr}{zX:Int}{aa:VH}{h:ab}(H:tc.S v_0 zX aa h):ae ai pN #[.pointer (some v_0),.int .i64 zX] aa h:=
 qc (Λ:=an []) Tryz.func191
 qf
 (qe H)
def bj.J2(a:Addr->ab->Prop)(aa:VH)(p_0:Addr)(h:ab):=
 oL (cell h (p_0.add 5)) λUM SL Xs=>
 oI .i64 (cell h (p_0.add 8)) λVb=>
 bg UM Vb SL λb=>
 LDA 6 h ((Addr.add b (Vb.toNat*6))) λHu=>
 ae ai mW #[.pointer (some p_0),.agg Hu] (λKi rM=>
 oI .i64 (cell rM (p_0.add 8)) λc=>
 ST1 rM (p_0.add 8) (.int .i64 ((i64.wrap (c+1)))) λd=>
 a p_0 d) h
def bj.j2(a:Addr->ab->Prop)(aa:VH):=gg (kds 110 [(0,.p)]) λfr=>bj.J2 a aa (gP (ah fr 0))
def bj.B6(aa:VH)(d:(Addr×Nat×Int×Int)->ab->Prop):Addr×Nat×Int×Int->ab->Prop
 | (p_0,e,b,a),h=>
 BIF (decide (a<b)) (
 oL (cell h (p_0.add 6)) λXA Pw aem=>
 bg XA a Pw λc=>
 LDA 45 h ((Addr.add c (a.toNat*45))) λi=>
 ae ai iB #[.agg i] (λj ry=>
 asB j λk=>
 BIF k (
 d (p_0,e,b,((i64.wrap (a+1)))) ry) (
 oL (cell ry (p_0.add 4)) λXB XC aer=>
 oI .i64 (cell ry ((Addr.add ((Addr.add c (a.toNat*45))) 1))) λf=>
 bg XB f XC λl=>
 oI .i64 (cell ry ((Addr.add ((Addr.add l (f.toNat*5))) 1))) λm=>
 ae ai pN #[.pointer (some ((Addr.add c (a.toNat*45)))),.int .i64 m] (λn Ur=>
 iF n λo p=>
 asF .f32 o λq=>
 asB p λr=>
 FOP .f32 (CT e q) λg=>
 BIF r (
 ae ai tM #[] (λs GF=>
 asA s λt=>
 STA 45 GF ((Addr.add c (a.toNat*45))) t λu=>
 d (p_0,g,b,((i64.wrap (a+1)))) u) Ur) (
 d (p_0,g,b,((i64.wrap (a+1)))) Ur)) ry)) h) (
 oI .i64 (cell h (p_0.add 7)) λv=>
 ST1 h (p_0.add 7) (.int .i64 ((i64.wrap (v+1)))) λTG=>
 ae ai mN #[.float .f32 e,.float .f32 1065353216] (λw Sw=>
 asF .f32 w λWg=>
 aa (.float .f32 Wg) Sw) TG)
def bj.g6(fr:Frame):Addr×Nat×Int×Int:=((gP (ah fr 0)),(gF (ah fr 3)),(gI (ah fr 62)),(gI (ah fr 63)))
def bj.l6(aa:VH):=gg (kds 110 [(0,.p),(3,.f .f32),(62,.i .i64),(63,.i .i64)]) λfr=>bh (bj.B6 aa) (bj.g6 fr)
def bj.B1(aa:VH)(c:Addr->ab->Prop):Addr->ab->Prop
 | p_0,h=>
 oI .i64 (cell h (p_0.add 8)) λd=>
 oL (cell h (p_0.add 5)) λe f g=>
 ae ai iM #[.slice e f g] (λi a=>
 asI .i64 i λj=>
 PIN h (p_0.add 8) 1 a <|
 BIF (decide (d<j)) (
 oL (cell a (p_0.add 5)) λMz MA TO=>
 oI .i64 (cell a (p_0.add 8)) λb=>
 bg Mz b MA λk=>
 oI .i64 (cell a ((Addr.add k (b.toNat*6)))) λl=>
 oI .i64 (cell a (p_0.add 7)) λrD=>
 BIF (l==rD) (
 bj.J2 c aa p_0 a) (
 oL (cell a (p_0.add 6)) λrN qd ui=>
 bh (bj.B6 aa) (p_0,0,(qd:Int),0) a)) (
 oL (cell a (p_0.add 6)) λFC DX Jt=>
 bh (bj.B6 aa) (p_0,0,(DX:Int),0) a)) h
def bj.g1(fr:Frame):Addr:=(gP (ah fr 0))
def bj.l1(aa:VH):=gg (kds 110 [(0,.p)]) λfr=>bh (bj.B1 aa) (bj.g1 fr)
def bj.S(p_0:Addr)(aa:VH)(h:ab):=
 bh (bj.B1 aa) p_0 h
theorem bj.call{p_0:Addr}{aa:VH}{h:ab}(H:bj.S p_0 aa h):ae ai oA #[.pointer (some p_0)] aa h:=
 qc (Λ:=an [(1000001,bj.l1 aa),(1000006,bj.l6 aa)]) Tryz.func123
 (qs qf (qs (Rq.block (ql (bj.l1 aa) (qg (g:=bj.g1) (Λ:=λa=>an [(2,bj.j2 a aa)]) (λ_ _ _=>by kernel_rfl) (λa=>(qj (bj.j2 a aa) qf
 qf))))) (qs qf (qs (qs qf (Rq.block (ql (bj.l6 aa) (qg (g:=bj.g6) (Λ:=λb=>an []) (λ_ _ _=>by kernel_rfl) (λb=>qf))))) qf))))
 (qe H)
end Go.Sx
