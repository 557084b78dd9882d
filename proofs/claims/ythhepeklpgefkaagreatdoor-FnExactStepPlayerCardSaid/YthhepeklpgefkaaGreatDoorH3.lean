/- Lemmas. -/
import Derived.Test.YthhepeklpgefkaaGreatDoorTab
import Derived.Test.YthhepeklpgefkaaGreatDoorStepPlayer
import Derived.Test.YthhepeklpgefkaaGreatDoorLr3
import Derived.Test.YthhepeklpgefkaaGreatDoorLk15
set_option linter.unusedVariables false
set_option linter.unusedSimpArgs false
namespace Go.Sx
open Go.Proofs
set_option maxRecDepth 100000
def iu.B5(aa:VH)(c:(Option Addr×Nat×Nat×Int×Int)->ab->Prop):Option Addr×Nat×Nat×Int×Int->ab->Prop
 | (aQ,aD,bC,cq,i_5),h=>
 BIF ((decide (i_5<(aD:Int)))) (
 bg aQ i_5 aD λd=>
 LDA 2 h ((Addr.add d (i_5.toNat*2))) λe=>
 ae ai nO #[.agg e,.int .i64 cq] (λf a=>
 asI .i64 f λb=>
 BIF ((decide (b<0))) (
 aa (.int .i64 (-1)) a) (
 c (aQ,aD,bC,b,((IntKind.i64.wrap (i_5+1)))) a)) h) (
 aa (.int .i64 cq) h)
def iu.g5(fr:Frame):Option Addr×Nat×Nat×Int×Int:=((gLb (ah fr 0)),(gLl (ah fr 0)),(gLc (ah fr 0)),(gI (ah fr 1)),(gI (ah fr 5)))
def iu.l5(aa:VH):=gg (kds 27 [(0,.l),(1,.i .i64),(5,.i .i64)]) λfr=>bh (iu.B5 aa) (iu.g5 fr)
def iu.S(aQ:Option Addr)(aD bC:Nat)(cq:Int)(aa:VH)(h:ab):=
 BIF ((decide ((IntKind.i64.wrap (cq-(aD:Int)))<0))) (
 aa (.int .i64 (-1)) h) (
 bh (iu.B5 aa) (aQ,aD,bC,((IntKind.i64.wrap (cq-(aD:Int)))),0) h)
theorem iu.call{aQ:Option Addr}{aD bC:Nat}{cq:Int}{aa:VH}{h:ab}(H:iu.S aQ aD bC cq aa h):ae ai sx #[.slice aQ aD bC,.int .i64 cq] aa h:=
 qc (Λ:=an [(1000005,iu.l5 aa)]) Tryz.func314
 (qs qf (qs qf (qs qf (qs (qs qf (Rq.block (ql (iu.l5 aa) (qg (g:=iu.g5) (Λ:=λa=>an []) (λ_ _ _=>by kernel_rfl) (λa=>qf))))) qf))))
 (qe H)
def iU.B3(aa:VH)(d:(Option Addr×Nat×Nat×Option Addr×Nat×Nat×Int)->ab->Prop):Option Addr×Nat×Nat×Option Addr×Nat×Nat×Int->ab->Prop
 | (aQ,aD,bC,a,b,c,i_4),h=>
 BIF ((decide (i_4<(aD:Int)))) (
 bg aQ i_4 aD λe=>
 LDA 2 h ((Addr.add e (i_4.toNat*2))) λf=>
 ae ai nP #[.agg f] (λg gd=>
 asA g λtq=>
 bg a i_4 b λOo=>
 STA 2 gd ((Addr.add Oo (i_4.toNat*2))) tq λgf=>
 d (aQ,aD,bC,a,b,c,((IntKind.i64.wrap (i_4+1)))) gf) h) (
 aa (.slice a b c) h)
def iU.g3(fr:Frame):Option Addr×Nat×Nat×Option Addr×Nat×Nat×Int:=((gLb (ah fr 0)),(gLl (ah fr 0)),(gLc (ah fr 0)),(gLb (ah fr 3)),(gLl (ah fr 3)),(gLc (ah fr 3)),(gI (ah fr 4)))
def iU.l3(aa:VH):=gg (kds 23 [(0,.l),(3,.l),(4,.i .i64)]) λfr=>bh (iU.B3 aa) (iU.g3 fr)
def iU.S(aQ:Option Addr)(aD bC:Nat)(aa:VH)(h:ab):=
 MKS CO aq (aD:Int) (aD:Int) (λa b=>
 bh (iU.B3 aa) (aQ,aD,bC,(some ⟨a,0,none⟩),aD,aD,0) b) h
theorem iU.call{aQ:Option Addr}{aD bC:Nat}{aa:VH}{h:ab}(H:iU.S aQ aD bC aa h):ae ai sA #[.slice aQ aD bC] aa h:=
 qc (Λ:=an [(1000003,iU.l3 aa)]) Tryz.func320
 (qs qf (qs qf (qs (qs qf (Rq.block (ql (iU.l3 aa) (qg (g:=iU.g3) (Λ:=λa=>an []) (λ_ _ _=>by kernel_rfl) (λa=>qf))))) qf)))
 (qe H)
def iT.B4(aa:VH)(a:(Option Addr×Nat×Nat×Option Addr×Nat×Nat×Int)->ab->Prop):Option Addr×Nat×Nat×Option Addr×Nat×Nat×Int->ab->Prop
 | (aQ,aD,bC,lr,kE,mE,i_5),h=>
 BIF ((decide (i_5<(aD:Int)))) (
 bg aQ i_5 aD λb=>
 LDA 2 h ((Addr.add b (i_5.toNat*2))) λc=>
 bg lr i_5 kE λd=>
 LDA 2 h ((Addr.add d (i_5.toNat*2))) λAz=>
 ae ai nN #[.agg c,.agg Az] (λwi iG=>
 asB wi λHb=>
 BIF (!Hb) (
 aa (.bool false) iG) (
 a (aQ,aD,bC,lr,kE,mE,((IntKind.i64.wrap (i_5+1)))) iG)) h) (
 aa (.bool true) h)
def iT.g4(fr:Frame):Option Addr×Nat×Nat×Option Addr×Nat×Nat×Int:=((gLb (ah fr 0)),(gLl (ah fr 0)),(gLc (ah fr 0)),(gLb (ah fr 1)),(gLl (ah fr 1)),(gLc (ah fr 1)),(gI (ah fr 5)))
def iT.l4(aa:VH):=gg (kds 27 [(0,.l),(1,.l),(5,.i .i64)]) λfr=>bh (iT.B4 aa) (iT.g4 fr)
def iT.S(aQ:Option Addr)(aD bC:Nat)(lr:Option Addr)(kE mE:Nat)(aa:VH)(h:ab):=
 BIF ((aD:Int) != (kE:Int)) (
 aa (.bool false) h) (
 bh (iT.B4 aa) (aQ,aD,bC,lr,kE,mE,0) h)
theorem iT.call{aQ:Option Addr}{aD bC:Nat}{lr:Option Addr}{kE mE:Nat}{aa:VH}{h:ab}(H:iT.S aQ aD bC lr kE mE aa h):ae ai sn #[.slice aQ aD bC,.slice lr kE mE] aa h:=
 qc (Λ:=an [(1000004,iT.l4 aa)]) Tryz.func172
 (qs qf (qs qf (qs (qs qf (Rq.block (ql (iT.l4 aa) (qg (g:=iT.g4) (Λ:=λa=>an []) (λ_ _ _=>by kernel_rfl) (λa=>qf))))) qf)))
 (qe H)
def gG.B2(aa:VH)(b:(Option Addr×Nat×Nat×Int×Int)->ab->Prop):Option Addr×Nat×Nat×Int×Int->ab->Prop
 | (aQ,aD,bC,k_1,i_5),h=>
 BIF ((decide (i_5<(aD:Int)))) (
 bg aQ i_5 aD λc=>
 oL (cell h ((Addr.add c (i_5.toNat*2)))) λPy d TN=>
 ae ai gT #[.slice Py d TN,.int .i64 k_1] (λe f=>
 asI .i64 e λa=>
 bg aQ i_5 aD λg=>
 ST1 f ((Addr.add ((Addr.add g (i_5.toNat*2))) 1)) (.int .i64 a) λi=>
 b (aQ,aD,bC,((IntKind.i64.wrap (a+1))),((IntKind.i64.wrap (i_5+1)))) i) h) (
 aa (.int .i64 k_1) h)
def gG.g2(fr:Frame):Option Addr×Nat×Nat×Int×Int:=((gLb (ah fr 0)),(gLl (ah fr 0)),(gLc (ah fr 0)),(gI (ah fr 1)),(gI (ah fr 5)))
def gG.l2(aa:VH):=gg (kds 27 [(0,.l),(1,.i .i64),(5,.i .i64)]) λfr=>bh (gG.B2 aa) (gG.g2 fr)
def gG.S(aQ:Option Addr)(aD bC:Nat)(k_1:Int)(aa:VH)(h:ab):=
 bh (gG.B2 aa) (aQ,aD,bC,k_1,0) h
theorem gG.call{aQ:Option Addr}{aD bC:Nat}{k_1:Int}{aa:VH}{h:ab}(H:gG.S aQ aD bC k_1 aa h):ae ai pk #[.slice aQ aD bC,.int .i64 k_1] aa h:=
 qc (Λ:=an [(1000002,gG.l2 aa)]) Tryz.func142
 (qs qf (qs (qs qf (Rq.block (ql (gG.l2 aa) (qg (g:=gG.g2) (Λ:=λa=>an []) (λ_ _ _=>by kernel_rfl) (λa=>qf))))) qf))
 (qe H)
def gE.B2(aa:VH)(c:(Option Addr×Nat×Nat×Int×Int)->ab->Prop):Option Addr×Nat×Nat×Int×Int->ab->Prop
 | (aQ,aD,bC,k_1,i_5),h=>
 BIF ((decide (i_5<(aD:Int)))) (
 bg aQ i_5 aD λd=>
 oL (cell h ((Addr.add d (i_5.toNat*2)))) λPy e TN=>
 ae ai gR #[.slice Py e TN,.int .i64 k_1] (λf a=>
 asI .i64 f λb=>
 BIF ((decide (b<0))) (
 aa (.int .i64 (-1)) a) (
 bg aQ i_5 aD λg=>
 oI .i64 (cell a ((Addr.add ((Addr.add g (i_5.toNat*2))) 1))) λi=>
 BIF (i != b) (
 aa (.int .i64 (-1)) a) (
 c (aQ,aD,bC,((IntKind.i64.wrap (b+1))),((IntKind.i64.wrap (i_5+1)))) a))) h) (
 aa (.int .i64 k_1) h)
def gE.g2(fr:Frame):Option Addr×Nat×Nat×Int×Int:=((gLb (ah fr 0)),(gLl (ah fr 0)),(gLc (ah fr 0)),(gI (ah fr 1)),(gI (ah fr 5)))
def gE.l2(aa:VH):=gg (kds 31 [(0,.l),(1,.i .i64),(5,.i .i64)]) λfr=>bh (gE.B2 aa) (gE.g2 fr)
def gE.S(aQ:Option Addr)(aD bC:Nat)(k_1:Int)(aa:VH)(h:ab):=
 bh (gE.B2 aa) (aQ,aD,bC,k_1,0) h
theorem gE.call{aQ:Option Addr}{aD bC:Nat}{k_1:Int}{aa:VH}{h:ab}(H:gE.S aQ aD bC k_1 aa h):ae ai pj #[.slice aQ aD bC,.int .i64 k_1] aa h:=
 qc (Λ:=an [(1000002,gE.l2 aa)]) Tryz.func143
 (qs qf (qs (qs qf (Rq.block (ql (gE.l2 aa) (qg (g:=gE.g2) (Λ:=λa=>an []) (λ_ _ _=>by kernel_rfl) (λa=>qf))))) qf))
 (qe H)
def E4.S(a_0:Array Value)(cq:Int)(aa:VH)(h:ab):=
 ALC a_0 Dl (λa d=>
 oL (cell d ⟨a,0,none⟩) λKa Hd g=>
 ae ai sx #[.slice Ka Hd g,.int .i64 cq] (λi b=>
 asI .i64 i λe=>
 BIF ((decide (e<0))) (
 aa (.int .i64 (-1)) b) (
 oL (cell b ⟨a,1,none⟩) λAu yL AN=>
 ae ai sx #[.slice Au yL AN,.int .i64 e] (λj c=>
 asI .i64 j λrD=>
 BIF ((decide (rD<0))) (
 aa (.int .i64 (-1)) c) (
 oL (cell c ⟨a,2,none⟩) λrN qd ui=>
 ae ai lO #[.slice rN qd ui,.int .i64 rD] (λuu gf=>
 asI .i64 uu λf=>
 BIF ((decide (f<0))) (
 aa (.int .i64 (-1)) gf) (
 aa (.int .i64 f) gf)) c)) b)) d) h
theorem E4.call{a_0:Array Value}{cq:Int}{aa:VH}{h:ab}(H:E4.S a_0 cq aa h):ae ai zH #[.agg a_0,.int .i64 cq] aa h:=
 qc (Λ:=an []) Tryz.func245
 qf
 (qe H)
def E6.S(a_0:Array Value)(aa:VH)(h:ab):=
 ALC a_0 Dl (λb e=>
 ALC ⟨aH⟩ av (λc f=>
 ALC ⟨aH⟩ av (λa d=>
 oL (cell d ⟨b,0,none⟩) λAu yL AN=>
 ae ai sA #[.slice Au yL AN] (λg i=>
 asL g λuY rj yg=>
 ST1 i ⟨a,0,none⟩ (.slice uY rj yg) λkc=>
 oL (cell kc ⟨b,1,none⟩) λKY Js KZ=>
 ae ai sA #[.slice KY Js KZ] (λyM ke=>
 asL yM λFD j HX=>
 ST1 ke ⟨a,1,none⟩ (.slice FD j HX) λiJ=>
 oL (cell iJ ⟨b,2,none⟩) λUM SL Xs=>
 ae ai lP #[.slice UM SL Xs] (λTi tz=>
 asL Ti λabb Xv aek=>
 ST1 tz ⟨a,2,none⟩ (.slice abb Xv aek) λqz=>
 LDA 6 qz ⟨b,3,none⟩ λk=>
 ae ai lD #[.agg k] (λl m=>
 asA l λWt=>
 STA 6 m ⟨a,3,none⟩ Wt λwO=>
 oB (cell wO ⟨b,9,none⟩) λn=>
 ST1 wO ⟨a,9,none⟩ (.bool n) λuN=>
 oF .f32 (cell uN ⟨b,10,none⟩) λKk=>
 ST1 uN ⟨a,10,none⟩ (.float .f32 Kk) λGD=>
 oF .f32 (cell GD ⟨b,11,none⟩) λYj=>
 ST1 GD ⟨a,11,none⟩ (.float .f32 Yj) λJY=>
 oF .f32 (cell JY ⟨b,12,none⟩) λo=>
 ST1 JY ⟨a,12,none⟩ (.float .f32 o) λwQ=>
 LDA 13 wQ ⟨a,0,none⟩ λRQ=>
 STA 13 wQ ⟨c,0,none⟩ RQ λUr=>
 LDA 13 Ur ⟨c,0,none⟩ λp=>
 aa (.agg p) Ur) qz) iJ) kc) d) f) e) h
theorem E6.call{a_0:Array Value}{aa:VH}{h:ab}(H:E6.S a_0 aa h):ae ai zI #[.agg a_0] aa h:=
 qc (Λ:=an []) Tryz.func253
 qf
 (qe H)
def E1.S(a_0:Array Value)(b_1:Array Value)(aa:VH)(h:ab):=
 ALC a_0 av (λa e=>
 ALC b_1 av (λb d=>
 oL (cell d ⟨a,0,none⟩) λEY Df HY=>
 oL (cell d ⟨b,0,none⟩) λMz MA TO=>
 ae ai sn #[.slice EY Df HY,.slice Mz MA TO] (λf c=>
 asB f λg=>
 BIF (!g) (
 aa (.bool false) c) (
 oL (cell c ⟨a,1,none⟩) λuY rj yg=>
 oL (cell c ⟨b,1,none⟩) λrN qd ui=>
 ae ai sn #[.slice uY rj yg,.slice rN qd ui] (λuu gf=>
 asB uu λFv=>
 BIF (!Fv) (
 aa (.bool false) gf) (
 oL (cell gf ⟨a,2,none⟩) λFD i HX=>
 oL (cell gf ⟨b,2,none⟩) λDY DZ FE=>
 ae ai lN #[.slice FD i HX,.slice DY DZ FE] (λGV jn=>
 asB GV λLJ=>
 BIF (!LJ) (
 aa (.bool false) jn) (
 LDA 6 jn ⟨a,3,none⟩ λHu=>
 LDA 6 jn ⟨b,3,none⟩ λj=>
 ae ai ly #[.agg Hu,.agg j] (λGW mZ=>
 asB GW λk=>
 BIF (!k) (
 aa (.bool false) mZ) (
 oB (cell mZ ⟨a,9,none⟩) λl=>
 oB (cell mZ ⟨b,9,none⟩) λm=>
 BIF (!(l==m)) (
 aa (.bool false) mZ) (
 oF .f32 (cell mZ ⟨a,10,none⟩) λNq=>
 FFC .f32 Nq .f64 λn=>
 oF .f32 (cell mZ ⟨b,10,none⟩) λKk=>
 FFC .f32 Kk .f64 λQM=>
 ae ai bS #[.float .f64 n,.float .f64 QM] (λo JY=>
 asB o λp=>
 BIF (!p) (
 aa (.bool false) JY) (
 oF .f32 (cell JY ⟨a,11,none⟩) λq=>
 FFC .f32 q .f64 λr=>
 oF .f32 (cell JY ⟨b,11,none⟩) λTP=>
 FFC .f32 TP .f64 λWf=>
 ae ai bS #[.float .f64 r,.float .f64 Wf] (λs DM=>
 asB s λt=>
 BIF (!t) (
 aa (.bool false) DM) (
 oF .f32 (cell DM ⟨a,12,none⟩) λu=>
 FFC .f32 u .f64 λv=>
 oF .f32 (cell DM ⟨b,12,none⟩) λw=>
 FFC .f32 w .f64 λx=>
 ae ai bS #[.float .f64 v,.float .f64 x] (λy Sv=>
 asB y λz=>
 BIF (!z) (
 aa (.bool false) Sv) (
 aa (.bool true) Sv)) DM)) JY)) mZ))) jn)) gf)) c)) d) e) h
theorem E1.call{a_0:Array Value}{b_1:Array Value}{aa:VH}{h:ab}(H:E1.S a_0 b_1 aa h):ae ai zG #[.agg a_0,.agg b_1] aa h:=
 qc (Λ:=an []) Tryz.func101
 qf
 (qe H)
section
variable {h:ab}
theorem Be:0<bo.sz:=by decide
def du(xs:List bc):Nat:=xs.length+nL gW xs
theorem NM{b:Option Addr}{l c:Nat}{xs:List bc}(S:SlR bo h b l c xs)(left:Nat)(hl:left≤1048576):ae ai sx #[.slice b l c,.int .i64 (left:Int)] (λu h'=>u = .int .i64 (yN left (du xs))∧Ext h h') h:=by
 have hx:=S.len
 have h2:=S.2.1
 have h3:=S.2.2.1
 have hw:du xs=xs.length+nL gW xs:=rfl
 have:=bW
 refine iu.call ?_
 unfold iu.S
 rw[wrap64 (n:=(left:Int)-(l:Int)) (by omega) (by omega)]
 refine brd (λhc=>⟨by rw[gN (by omega)],Ext.refl _⟩) λhc=>?_
 refine loop (λx hh=>∃m:Nat,x=(b,l,c,((left-l-nL gW (xs.take m):Nat):Int),(m:Int))∧m≤l∧Ext h hh∧nL gW (xs.take m)≤left-l) (λx=>(l-x.2.2.2.2).toNat) ⟨0,by rw[show ((left:Int)-(l:Int))=((left-l:Nat):Int) by omega];rfl,by omega,Ext.refl _,Nat.zero_le _⟩ ?_
 rintro x hh ⟨m,rfl,hn,X,hm⟩
 refine brd (λhc=>?_) λhc=>?_
 ·have h4:=zb (n:=gW) (xs:=xs) (i:=m) (by omega)
  have h5:=oN (n:=gW) xs (m+1)
  refine (S.ext X).idx Be (by omega) (by omega) λa Ra=>Ra.gi rfl λc1 R1=>goX (Fh R1 _ (by omega)) λh' x'=>cX (np (λhb=>⟨by rw[Int.toNat_natCast] at hb;rw[gN (by omega)],X.trans x'⟩) λhb=>?_)
  rw[eM hb,ag (by omega)]
  rw[Int.toNat_natCast] at hb ⊢
  exact ⟨⟨m+1,by rw[h4,Nat.sub_sub],by omega,X.trans x',by omega⟩,by show _<_;simp;omega⟩
 ·obtain rfl:m=l:=by omega
  have e:xs.take m=xs:=by rw[← hx];exact List.take_length
  rw[e] at hm ⊢
  exact ⟨by rw[eM (by omega),hw,hx,Nat.sub_sub],X⟩
theorem NU{b:Option Addr}{l c:Nat}{xs:List bc}(S:SlR bo h b l c xs)(hl0:du xs≤1048576):ae ai sA #[.slice b l c] (λu h'=>∃b' c' B,u = .slice b' l c'∧SlO aq bo B b' l c' xs∧Mem h h' B) h:=by
 have Zj:=S.len
 have hw:du xs=xs.length+nL gW xs:=rfl
 have hl:l≤1048576:=by omega
 refine iU.call ?_
 refine wV (r:=bo) (z:=oY) (zc:=fO) qt rfl rfl (by decide) (Mem.start h) (by show 32*l≤2 ^ 48;omega) (Nat.le_trans hl (by decide)) λg h1 x1 M0 O0=>?_
 refine loop (λx hh=>∃(n:Nat) (B:List Blk),x=(b,l,c,some ⟨g,0,none⟩,l,l,(n:Int))∧n≤l∧SlO aq bo B (some ⟨g,0,none⟩) l l (xs.take n++List.replicate (l-n) oY)∧Mem h hh (B++[])) (λx=>(l-x.2.2.2.2.2.2).toNat) ⟨0,_,rfl,by omega,O0,M0⟩ ?_
 rintro x hh ⟨n,B,rfl,hn,O,M⟩
 refine brd (λhc=>?_) λhc=>?_
 ·have h5:gW xs[n]! ≤ nL gW xs:=GU (by omega)
  refine (S.ext M.ext).idx Be (by omega) (by omega) λa Ra=>Ra.gi rfl λc1 R1=>gw.go M (Fi R1 (by rw[Int.toNat_natCast];omega)) λh' c2 B2 M2 O2 ho=>fe ?_
  obtain⟨a0,F',C,e,op,close⟩:=O.Z2 (i:=n) (by omega)
  cases e
  have P:=(op _ _ B2 (M2.cnt (λp=>by simp only[bO,bz,cg] at *;omega))).cnt (W:=B2++(C++[])) (λp=>by simp only[bO,bz,cg] at *;omega)
  refine idxs (by omega) (by omega) ?_
  rw[Int.toNat_natCast] at O2
  rw[Int.toNat_natCast,show n*2=n*bo.sz from rfl]
  refine (ny ((⟨g,0,none⟩:Addr).add (n*bo.sz))) ▸ P.sts (Foc.here bo) rfl O2 λh'' P=>?_
  obtain⟨B',O',M'⟩:=close _ _ _ _ P
  have e:(xs.take n++List.replicate (l-n) oY).set n xs[n]! = xs.take (n+1)++List.replicate (l-(n+1)) oY:=by rw[getElem!_pos xs n (by omega)];exact tI Zj (by omega)
  rw[e] at O'
  rw[ag (by omega)]
  exact ⟨⟨n+1,B',rfl,by omega,O',M'⟩,by show _<_;simp;omega⟩
 ·obtain rfl:n=l:=by omega
  rw[show xs.take n++List.replicate (n-n) oY=xs by rw[← Zj];simp] at O
  rw[List.append_nil] at M
  exact ⟨_,_,B,rfl,O,M⟩
theorem LV{b1 b2:Option Addr}{l1 c1 l2 c2:Nat}{xs:List bc}(S1:SlR bo h b1 l1 c1 xs)(S2:SlR bo h b2 l2 c2 xs):ae ai sn #[.slice b1 l1 c1,.slice b2 l2 c2] (λu h'=>u = .bool true∧Ext h h') h:=by
 have e1:=S1.len
 have e2:=S2.len
 have h2:=S1.2.1
 have h3:=S1.2.2.1
 have:=bW
 obtain rfl:l1=l2:=by omega
 refine iT.call (dp (by simp) ?_)
 refine loop (λx hh=>∃n:Nat,x=(b1,l1,c1,b2,l1,c2,(n:Int))∧n≤l1∧Ext h hh) (λx=>(l1-x.2.2.2.2.2.2).toNat) ⟨0,rfl,by omega,Ext.refl _⟩ ?_
 rintro x hh ⟨n,rfl,hn,X⟩
 refine brd (λhc=>?_) λhc=>⟨rfl,X⟩
 refine (S1.ext X).idx Be (by omega) (by omega) λa Ra=>Ra.gi rfl λca R1=>(S2.ext X).idx Be (by omega) (by omega) λa' Rb=>Rb.gi rfl λcb R2=>goX (ER R1 R2) λh' x'=>bd (dp rfl ?_)
 rw[ag (by omega)]
 exact ⟨⟨n+1,rfl,by omega,X.trans x'⟩,by show _<_;simp;omega⟩
def ba(xs:List bc):Nat:=nL (λr=>r.af.length+1) xs
def AR(r:bc)(k:Nat):bc:=⟨fB r.af k,((k+r.af.length:Nat):Int)⟩
def sY(xs:List bc)(k:Nat):List bc:=mkL AR (λr=>r.af.length+1) xs k
theorem Vg(xs:List bc):ba xs≤8*du xs:=by
 unfold ba du
 induction xs with
 | nil=>simp[nL]
 | cons x xs ih=>
  have:gW x=x.af.length:=rfl
  simp only[nL,List.length_cons] at *;omega
theorem ZL(x:bc):gW x=x.af.length:=rfl
theorem I6{h0:ab}{B L:List Blk}{b:Option Addr}{l c:Nat}{xs:List bc}(O0:SlO aq bo B b l c xs)(M0:Mem h0 h (B++L))(k:Nat)(GI:du xs≤1048576)(hk:k+ba xs≤1073741824):
  ae ai pk #[.slice b l c,.int .i64 (k:Int)] (λu h'=>u = .int .i64 ((k+ba xs:Nat):Int)∧∃B',SlO aq bo B' b l c (sY xs k)∧Mem h0 h' (B'++L)) h:=by
 have hx:=O0.len
 have hw:du xs=xs.length+nL gW xs:=rfl
 refine gG.call ?_
 refine loop (λx hh=>∃(n:Nat) (B:List Blk),x=(b,l,c,((k+nL (λr=>r.af.length+1) (xs.take n):Nat):Int),(n:Int))∧n≤l∧SlO aq bo B b l c (mkL AR (λr=>r.af.length+1) (xs.take n) k++xs.drop n)∧Mem h0 hh (B++L)) (λx=>(l-x.2.2.2.2).toNat) ⟨0,B,rfl,by omega,by simpa [mkL] using O0,M0⟩ ?_
 rintro x hh ⟨n,B,rfl,hn,O,M⟩
 refine brd (λhc=>?_) λhc=>?_
 ·have h4:=zb (n:=λr:bc=>r.af.length+1) (xs:=xs) (i:=n) (by omega)
  have h5:nL (λr:bc=>r.af.length+1) (xs.take (n+1))≤ba xs:=oN xs (n+1)
  have h6:gW xs[n]! ≤ nL gW xs:=GU (by omega)
  rw[ZL] at h6
  obtain⟨a0,F',L',rfl,P,hs,close⟩:=O.elem M (i:=n) (by omega)
  rw[T0 (by omega)] at P
  refine idxs (by omega) (by omega) ?_
  rw[Int.toNat_natCast,show n*2=n*bo.sz from rfl]
  obtain⟨b2,l2,c2,Bs,N,eb,Ms,Os,Lm,back⟩:=P.sl1 pw
  refine o_l eb ((lI Os Ms (k+nL (λr=>r.af.length+1) (xs.take n)) (by unfold cD;omega) (by unfold aw;omega)).mono ?_)
  rintro _ h' ⟨rfl,B',O',M'⟩
  have P:=(back _ _ _ _ O' M').1
  refine cX (idxs (by omega) (by omega) ?_)
  refine P.stI λh'' P=>?_
  obtain⟨B',O',M'⟩:=close _ _ _ P
  have st:=I7 (mk:=AR) (n:=λr:bc=>r.af.length+1) (k:=k) (xs:=xs) (i:=n) (by omega)
  have O':SlO aq bo B' (some a0) l c ((mkL AR (λr=>r.af.length+1) (xs.take n) k++xs.drop n).set n (AR xs[n]! (k+nL (λr=>r.af.length+1) (xs.take n)))):=O'
  rw[st] at O'
  have e7:aw xs[n]!.af=xs[n]!.af.length:=rfl
  rw[ag (by omega),ag (by omega)]
  exact ⟨⟨n+1,B',by rw[h4,e7];simp only[Nat.add_assoc],by omega,O',M'⟩,by show _<_;simp;omega⟩
 ·obtain rfl:n=l:=by omega
  have e:xs.take n=xs:=by rw[← hx];exact List.take_length
  have e2:xs.drop n=[]:=List.drop_of_length_le (by omega)
  rw[e,e2,List.append_nil] at O
  rw[e]
  exact ⟨rfl,B,O,M⟩
theorem HO{b:Option Addr}{l c:Nat}{xs:List bc}(k:Nat)(S:SlR bo h b l c (sY xs k))(GI:du xs≤1048576)(hk:k+ba xs≤1073741824):
  ae ai pj #[.slice b l c,.int .i64 (k:Int)] (λu h'=>u = .int .i64 ((k+ba xs:Nat):Int)∧Ext h h') h:=by
 have hx:xs.length=l:=by have:=S.len;rwa [sY,Cl] at this
 have hw:du xs=xs.length+nL gW xs:=rfl
 refine gE.call ?_
 refine loop (λx hh=>∃n:Nat,x=(b,l,c,((k+nL (λr=>r.af.length+1) (xs.take n):Nat):Int),(n:Int))∧n≤l∧Ext h hh) (λx=>(l-x.2.2.2.2).toNat) ⟨0,rfl,by omega,Ext.refl _⟩ ?_
 rintro x hh ⟨n,rfl,hn,X⟩
 refine brd (λhc=>?_) λhc=>?_
 ·have h4:=zb (n:=λr:bc=>r.af.length+1) (xs:=xs) (i:=n) (by omega)
  have h5:nL (λr:bc=>r.af.length+1) (xs.take (n+1))≤ba xs:=oN xs (n+1)
  have h6:gW xs[n]! ≤ nL gW xs:=GU (by omega)
  rw[ZL] at h6
  have hm:(sY xs k)[n]! = AR xs[n]! (k+nL (λr=>r.af.length+1) (xs.take n)):=by unfold sY;rw[Lp (by omega)]
  have e7:aw xs[n]!.af=xs[n]!.af.length:=rfl
  refine (S.ext X).idx Be (by omega) (by omega) λa Ra=>?_
  rw[Int.toNat_natCast,hm] at Ra
  refine Ra.oL1 λb2 l2 c2 S2=>goX (lH (xs:=xs[n]!.af) _ S2 (by unfold cD;omega) (by unfold aw;omega)) λh' x'=>cX (dp (decide_eq_false (by omega)) ?_)
  refine ((S.ext X).ext x').idx Be (by omega) (by omega) λa Ra=>?_
  rw[Int.toNat_natCast,hm] at Ra
  refine Ra.oI (dp (bne_self_eq_false _) ?_)
  rw[ag (by omega),ag (by omega)]
  exact ⟨⟨n+1,by rw[h4,e7];simp only[Nat.add_assoc],by omega,X.trans x'⟩,by show _<_;simp;omega⟩
 ·obtain rfl:n=l:=by omega
  have e:xs.take n=xs:=by rw[← hx];exact List.take_length
  rw[e]
  exact ⟨rfl,X⟩
theorem aav{ca cb:Array Value}{x:cF}(Ra:ck.rd h ca.toList x)(Rb:ck.rd h cb.toList x):ae ai zG #[.agg ca,.agg cb] (λu h'=>u = .bool true∧Ext h h') h:=by
 refine E1.call (fj Ra λg1 h1 x1 A=>fj (ck.ext x1 Rb) λg2 h2 x2 B=>?_)
 have A:=A.ext x2
 have X:=x1.trans x2
 refine A.oL2 λb1 l1 c1 S1=>B.oL2 λb2 l2 c2 S2=>goX (LV S1 S2) λh' x'=>bd (dp rfl ?_)
 have A:=A.ext x'
 have B:=B.ext x'
 have X:=X.trans x'
 refine A.oL2 λb1 l1 c1 S1=>B.oL2 λb2 l2 c2 S2=>goX (LV S1 S2) λh' x'=>bd (dp rfl ?_)
 have A:=A.ext x'
 have B:=B.ext x'
 have X:=X.trans x'
 refine A.oL2 λb1 l1 c1 S1=>B.oL2 λb2 l2 c2 S2=>goX (zw S1 S2) λh' x'=>bd (dp rfl ?_)
 have A:=A.ext x'
 have B:=B.ext x'
 have X:=X.trans x'
 refine A.fc dO rfl λc1 R1=>B.fc dO rfl λc2 R2=>goX (yT R1 R2) λh' x'=>bd (dp rfl ?_)
 have A:=A.ext x'
 have B:=B.ext x'
 have X:=X.trans x'
 refine A.oB2 (B.oB2 (dp (by simp) ?_))
 refine A.oF2 λy hy=>cK hy λr1 k1=>B.oF2 λz hz=>cK hz λr2 k2=>goX (jU k1 k2 _) λh' x'=>bd (dp rfl ?_)
 have A:=A.ext x'
 have B:=B.ext x'
 have X:=X.trans x'
 refine A.oF2 λy hy=>cK hy λr1 k1=>B.oF2 λz hz=>cK hz λr2 k2=>goX (jU k1 k2 _) λh' x'=>bd (dp rfl ?_)
 have A:=A.ext x'
 have B:=B.ext x'
 have X:=X.trans x'
 refine A.oF2 λy hy=>cK hy λr1 k1=>B.oF2 λz hz=>cK hz λr2 k2=>goX (jU k1 k2 _) λh' x'=>bd (dp rfl ?_)
 have A:=A.ext x'
 have B:=B.ext x'
 have X:=X.trans x'
 exact ⟨rfl,X⟩
def o4(x:cF):Nat:=du x.aY+du x.Left+cD x.aG
theorem ac2{cs:Array Value}{x:cF}(R0:ck.rd h cs.toList x)(left:Nat)(hl:left≤1048576):ae ai zH #[.agg cs,.int .i64 (left:Int)] (λu h'=>u = .int .i64 (yN left (o4 x))∧Ext h h') h:=by
 have hw:o4 x=du x.aY+du x.Left+cD x.aG:=rfl
 refine E4.call (fj R0 λg1 h1 X R=>?_)
 refine R.oL2 λb1 l1 c1 S1=>goX (NM S1 (left) (by omega)) λh' x'=>cX (np (λhc=>⟨by rw[gN (by omega)],X.trans x'⟩) λhc=>?_)
 rw[eM hc]
 have R:=R.ext x'
 have X:=X.trans x'
 refine R.oL2 λb1 l1 c1 S1=>goX (NM S1 (left-du x.aY) (by omega)) λh' x'=>cX (np (λhc=>⟨by rw[gN (by omega)],X.trans x'⟩) λhc=>?_)
 rw[eM hc]
 have R:=R.ext x'
 have X:=X.trans x'
 refine R.oL2 λb1 l1 c1 S1=>goX (Ao S1 (left-du x.aY-du x.Left) (by omega)) λh' x'=>cX (np (λhc=>⟨by rw[gN (by omega)],X.trans x'⟩) λhc=>?_)
 rw[eM hc]
 have R:=R.ext x'
 have X:=X.trans x'
 exact ⟨by rw[eM (by omega)];congr 2 <;> omega,X⟩
theorem ac4{cs:Array Value}{x:cF}(R0:ck.rd h cs.toList x)(GI:o4 x≤1048576):ae ai zI #[.agg cs] (λu h'=>gw ck h h' u x) h:=by
 have hw:o4 x=du x.aY+du x.Left+cD x.aG:=rfl
 refine E6.call ((Mem.start h).alc λg1 h1 x1 M=>M.alc λg2 h2 x2 M=>M.alc λg3 h3 x3 M=>?_)
 have P:Pt ck h h3 ⟨g3,0,none⟩ ⟨g3,av,[],[]⟩ [(g2,av,⟨aH⟩),(g1,Dl,cs)] lv:=Pt.new (r:=ck) EI M
 have R:RdP ck _ ⟨g1,0,none⟩ x:=P.mem.rdp (.there .here) (ck.ext P.ext R0)
 refine R.oL2 λb l c S=>(NU S (by have:=S.len;omega)).mono ?_
 rintro _ h' ⟨b',c',B,rfl,O,N⟩
 refine lZ ((P.join N).VD O λh' P=>?_)
 have R:RdP ck _ ⟨g1,0,none⟩ x:=P.mem.rdp (.there .here) (ck.ext P.ext R0)
 refine R.oL2 λb l c S=>(NU S (by have:=S.len;omega)).mono ?_
 rintro _ h' ⟨b',c',B,rfl,O,N⟩
 refine lZ ((P.join N).VD O λh' P=>?_)
 have R:RdP ck _ ⟨g1,0,none⟩ x:=P.mem.rdp (.there .here) (ck.ext P.ext R0)
 refine R.oL2 λb l c S=>(Ar S (by have:=S.len;omega)).mono ?_
 rintro _ h' ⟨b',c',B,rfl,O,N⟩
 refine lZ ((P.join N).VD O λh' P=>?_)
 have R:RdP ck _ ⟨g1,0,none⟩ x:=P.mem.rdp (.there .here) (ck.ext P.ext R0)
 refine R.fc dO rfl λc1 R1=>gw.pt P (zo R1) λh' c2 B P O ho=>fe (P.Eu dO rfl O λh' P=>?_)
 have R:RdP ck _ ⟨g1,0,none⟩ x:=P.mem.rdp (.there .here) (ck.ext P.ext R0)
 refine R.oB2 (P.asM λh' P=>?_)
 have R:RdP ck _ ⟨g1,0,none⟩ x:=P.mem.rdp (.there .here) (ck.ext P.ext R0)
 refine R.oF2 λy hy=>P.H7 hy λh' P=>?_
 have R:RdP ck _ ⟨g1,0,none⟩ x:=P.mem.rdp (.there .here) (ck.ext P.ext R0)
 refine R.oF2 λy hy=>P.H7 hy λh' P=>?_
 have R:RdP ck _ ⟨g1,0,none⟩ x:=P.mem.rdp (.there .here) (ck.ext P.ext R0)
 refine R.oF2 λy hy=>P.H7 hy λh' P=>?_
 obtain⟨c',B,M,O⟩:=P.out
 refine M.cM .here (osz O rfl) ?_
 have M:=M.cnt (W:=(g2,av,⟨aH⟩) :: B)
 refine M.dy .here (osz O rfl) (ck.iH O) rfl .here λh3 M=>M.cM .here (osz O rfl) ?_
 exact ⟨_,B,rfl,O,M.drop⟩
end
end Go.Sx
