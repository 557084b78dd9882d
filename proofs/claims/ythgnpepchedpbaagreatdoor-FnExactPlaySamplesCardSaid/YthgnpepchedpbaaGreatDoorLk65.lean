/- Lemmas. -/
import Derived.Test.YthgnpepchedpbaaGreatDoorLk62
import Derived.Test.YthgnpepchedpbaaGreatDoorTab
import Derived.Test.YthgnpepchedpbaaGreatDoorLk24
set_option linter.unusedVariables false
set_option linter.unusedSimpArgs false
namespace Go.Sx
open Go.Proofs
set_option maxRecDepth 100000
set_option maxHeartbeats 2000000
noncomputable def aC.may(p:aC)(count UQ:Int):Int:=if p.ok=true then if inR count 0 UQ=true then if 200000<p.mO+count then 3 else 0 else 2 else 1
theorem alF:wI.small:=⟨(λr hr=>nomatch hr),(λr hr=>nomatch hr),Nat.zero_le _,Nat.zero_le _,Nat.zero_le _⟩
theorem am1{s:bI}{v:aK}(h:acy s v=true):v.small:=by
 have z1:iw.Loop.ae.length≤1048576:=Nat.zero_le _
 have z3:vl.bT.ae.length≤1048576:=Nat.zero_le _
 have z4:vl.aH.ae.length≤1048576:=Nat.zero_le _
 have ring:∀{r:aY},r.ok=true->r.ae.length≤1048576:=λh=>by have:=kO h;omega
 have okf:∀{r:aY},r.okf=true->r.ae.length≤1048576:=λh=>ring (by unfold aY.okf at h;rw[Bool.and_eq_true] at h;exact h.1)
 unfold acy at h
 split at h
 ·unfold aeU at h
  simp only[Bool.and_eq_true,acj] at h
  obtain⟨⟨⟨⟨⟨⟨h1,h2⟩,h3⟩,_⟩,_⟩,_⟩,_⟩:=h
  exact⟨by rw[h1];exact z1,by rw[h2];exact alF,by rw[h3];exact z3,by rw[h3];exact z4⟩
 ·split at h
  ·cases h
  ·simp only[Bool.and_eq_true] at h
   have hb:=h.2
   unfold aeJ at hb
   split at hb
   ·simp only[Bool.and_eq_true,acj] at hb
    obtain⟨⟨h1,h2⟩,h3⟩:=hb
    unfold bK.ok at h1
    simp only[Bool.and_eq_true] at h1
    exact⟨ring h1.1.1.1,by rw[h2];exact alF,by rw[h3];exact z3,by rw[h3];exact z4⟩
   ·split at hb
    ·simp only[Bool.and_eq_true,acj] at hb
     obtain⟨⟨h1,h2⟩,h3⟩:=hb
     exact⟨by rw[h1];exact z1,an0 h2,by rw[h3];exact z3,by rw[h3];exact z4⟩
    ·simp only[Bool.and_eq_true,acj] at hb
     obtain⟨⟨h1,h2⟩,h3⟩:=hb
     unfold iU.ok at h3
     simp only[Bool.and_eq_true] at h3
     exact⟨by rw[h1];exact z1,by rw[h2];exact alF,okf h3.1.1.1,okf h3.1.1.2⟩
theorem alq{p:aC}(h:p.ok=true){v:aK}(hv:v ∈ p.al):acy p.Score v=true:=by
 unfold aC.ok at h
 simp only[Bool.and_eq_true,List.all_eq_true,List.mem_range] at h
 obtain⟨i,hi,rfl⟩:=List.mem_iff_getElem.1 hv
 have:=h.2 i hi
 unfold Zv at this
 rw[getElem!_pos p.al i hi,Bool.and_eq_true] at this
 exact this.1
theorem alk{p:aC}(h:p.ok=true):p.am3:=⟨(ahn h).1.s,(ahn h).1.n6,λv hv=>am1 (alq h hv)⟩
section
variable {h:ab}{q:Addr}{p:aC}
theorem ar0{count UQ:Int}(R:RdP bz h q p)(hm:UQ≤1000000):af ak 58 #[.pointer (some q),.int .i64 count,.int .i64 UQ] (λu h'=>u = .int .i64 (p.may count UQ)∧Ext h h') h:=by
 refine aiH.call (goX (atY R) λh1 x1=>bt (brN (λe=>⟨by unfold aC.may;rw[e,if_neg (by decide)],x1⟩) λe1=>?_))
 obtain⟨_,n1,n2⟩:=ahn e1
 refine goE x1 (kQ _ _ _ _) λh2 x2=>bt (brN (λe=>⟨by unfold aC.may;rw[if_pos e1,e,if_neg (by decide)],x2⟩) λe2=>(R.ext x2).oI ?_)
 have hc:0≤count∧count≤UQ:=by simp only[inR,Bool.and_eq_true,decide_eq_true_eq] at e2;exact e2
 rw[wrap64 (n:=p.mO+count) (by omega) (by omega)]
 exact brd (λk=>⟨by unfold aC.may;rw[if_pos e1,if_pos e2,if_pos k],x2⟩) λk=>⟨by unfold aC.may;rw[if_pos e1,if_pos e2,if_neg k],x2⟩
theorem aqZ{cs:Array Value}{count:Int}(R0:bz.rd h cs.toList p)(hn:0≤p.mO∧p.mO≤200000)(hc:0≤count∧count≤1000000):af ak 62 #[.agg cs,.int .i64 count] (λu h'=>u = .bool (decide (200000<p.mO+count))∧Ext h h') h:=by
 refine ads.call (gD R0 λg h1 x1 R=>R.oI2 ?_)
 rw[wrap64 (n:=p.mO+count) (by omega) (by omega)]
 exact⟨rfl,x1⟩
end
set_option maxHeartbeats 1000000
section
variable {α β:Type}{r:Rep α}{s:Rep β}{P:Program}{h0 h:ab}{q:Addr}{F:Fr}{B L:List Blk}{d:α}{t e bytes ty:Nat}{b:Option Addr}{l c:Nat}{xs:List β}{K:Value->ab->Prop}
theorem Pt.push{cs:Array Value}{x:β}(Pa:Pt r h0 h q F (B++L) d)(E:xK P t e s.sz bytes)(O:SlO e s B b l c xs)(Ox:s.ow [] cs.toList x)(Nq:l+1≤maxLen)(yx:(l+1)*bytes≤140737488355328)(H:∀b' c' h' B',SlO e s B' b' (l+1) c' (xs++[x])->Pt r h0 h' q F (B'++L) d->K (.slice b' (l+1) c') h'):
  ALC cs e (λg h=>gC P (Builtin.append_ #[t,t] ty #[.slice b l c,.slice (some ⟨g,0,none⟩) 1 1]) K h) h:=by
 obtain⟨e1,iS,BR,M,OR⟩:=Pa
 refine Oz (Bn:=[]) (L:=(F.g,F.T,⟨F.pre++(iS++F.post)⟩) :: (BR++L)) E O (M.cnt λp=>by simp only[bN,bu,bZ];omega) Ox Nq yx λb' c' h' B' O' M'=>H b' c' h' B' O' ⟨e1,iS,BR,M'.cnt λp=>?_,OR⟩
 simp only[bN,bu,bZ];omega
end
def abq.B7(aa:VH)(a:(Int×Addr×Addr×Option Addr×Nat×Nat×Int)->ab->Prop):Int×Addr×Addr×Option Addr×Nat×Nat×Int->ab->Prop |(Fe,t4,Ot,aoH,aoM,aoK,ajE),h=> BIF (decide (ajE<Fe)) (af ak 42 #[.pointer (some Ot)] (λYU vC=> asF .f32 YU λMu=> ALC ⟨[.float .f32 Mu]⟩ 22 (λb AP=> gC ak (Builtin.append_ #[23,23] 23 #[.slice aoH aoM aoK,.slice (some ⟨b,0,none⟩) 1 1]) (λRB vD=> asL RB λapi apk apj=> a (Fe,t4,Ot,api,apk,apj,((IntKind.i64.wrap (ajE+1)))) vD) AP) vC) h) (LDA 10 h Ot λc=> STA 10 h t4 c λre=> LDA 10 re t4 λd=> aa (.tuple ⟨[.agg d,.slice aoH aoM aoK,.int .i64 0]⟩) re)
def abq.g7(fr:Frame):Int×Addr×Addr×Option Addr×Nat×Nat×Int:=((gI (ah fr 1)),(gP (ah fr 4)),(gP (ah fr 8)),(gLb (ah fr 9)),(gLl (ah fr 9)),(gLc (ah fr 9)),(gI (ah fr 10)))
def abq.l7(aa:VH):=gg (kds 31 [(1,.i .i64),(4,.p),(8,.p),(9,.l),(10,.i .i64)]) λfr=>bk (abq.B7 aa) (abq.g7 fr)
def abq.S(p_0:Array Value)(Fe:Int)(aa:VH)(h:ab):=ALC p_0 51 (λb f=> ALC ⟨bm⟩ 51 (λa g=> af ak 58 #[.pointer (some ⟨b,0,none⟩),.int .i64 Fe,.int .i64 4096] (λi c=> asI .i64 i λd=> BIF (d !=0) (ALC ⟨[]⟩ 22 (λj k=> STA 10 k ⟨a,0,none⟩ ⟨bm⟩ λgv=> LDA 10 gv ⟨a,0,none⟩ λzi=> aa (.tuple ⟨[.agg zi,.slice (some ⟨j,0,none⟩) 0 0,.int .i64 d]⟩) gv) c) (af ak 59 #[.pointer (some ⟨b,0,none⟩)] (λyQ hP=> asA yQ λl=> ALC ⟨bm⟩ 51 (λe kT=> STA 10 kT ⟨e,0,none⟩ l λqQ=> ALC ⟨[]⟩ 22 (λm ta=> bk (abq.B7 aa) (Fe,⟨a,0,none⟩,⟨e,0,none⟩,(some ⟨m,0,none⟩),0,0,0) ta) qQ) hP) c)) g) f) h
theorem abq.call{p_0 Fe aa h}(H:abq.S p_0 Fe aa h):af ak 26 #[.agg p_0,.int .i64 Fe] aa h:=qc (Λ:=aS [(1000007,abq.l7 aa)]) Tryz.func26 (qs qf (qs qf (qs qf (qs qf (qs (qs qf (Rq.block (ql (abq.l7 aa) (qg (g:=abq.g7) (Λ:=λa=>aS []) (λ_ _ _=>by kernel_rfl) (λa=>qf))))) qf))))) (qe H)
def dC.B3(aa:VH)(a:(Addr×Option Addr×Nat×Nat×Int×Int)->ab->Prop):Addr×Option Addr×Nat×Nat×Int×Int->ab->Prop |(p_0,YI,YK,YJ,t6,t7),h=> BIF (decide (t7<t6)) (af ak 71 #[.pointer (some p_0)] (λb c=> asF .f32 b λd=> ALC ⟨[.float .f32 d]⟩ 22 (λe f=> gC ak (Builtin.append_ #[23,23] 23 #[.slice YI YK YJ,.slice (some ⟨e,0,none⟩) 1 1]) (λg i=> asL g λj k l=> a (p_0,j,k,l,t6,((IntKind.i64.wrap (t7+1)))) i) f) c) h) (aa (.slice YI YK YJ) h)
def dC.g3(fr:Frame):Addr×Option Addr×Nat×Nat×Int×Int:=((gP (ah fr 0)),(gLb (ah fr 5)),(gLl (ah fr 5)),(gLc (ah fr 5)),(gI (ah fr 6)),(gI (ah fr 7)))
def dC.l3(aa:VH):=gg (kds 16 [(0,.p),(5,.l),(6,.i .i64),(7,.i .i64)]) λfr=>bk (dC.B3 aa) (dC.g3 fr)
def dC.S(p_0:Addr)(Fe:Int)(aa:VH)(h:ab):=bk (dC.B3 aa) (p_0,none,0,0,Fe,0) h
theorem dC.call{p_0 Fe aa h}(H:dC.S p_0 Fe aa h):af ak 36 #[.pointer (some p_0),.int .i64 Fe] aa h:=qc (Λ:=aS [(1000003,dC.l3 aa)]) Tryz.func36 (qs qf (qs qf (qs (qs qf (Rq.block (ql (dC.l3 aa) (qg (g:=dC.g3) (Λ:=λa=>aS []) (λ_ _ _=>by kernel_rfl) (λa=>qf))))) qf))) (qe H)
def aea.S(p_0:Array Value)(Fe:Int)(aa:VH)(h:ab):=ALC p_0 51 (λb g=> ALC ⟨bm⟩ 51 (λa c=> LDA 10 c ⟨b,0,none⟩ λi=> af ak 61 #[.agg i] (λj d=> asB j λk=> BIF (!k) (STA 10 d ⟨a,0,none⟩ ⟨bm⟩ λe=> LDA 10 e ⟨a,0,none⟩ λzO=> aa (.tuple ⟨[.agg zO,.slice none 0 0,.int .i64 1]⟩) e) (af ak 46 #[.int .i64 Fe,.int .i64 0,.int .i64 4096] (λzX jl=> asB zX λPV=> BIF (!PV) (STA 10 jl ⟨a,0,none⟩ ⟨bm⟩ λf=> LDA 10 f ⟨a,0,none⟩ λl=> aa (.tuple ⟨[.agg l,.slice none 0 0,.int .i64 2]⟩) f) (LDA 10 jl ⟨b,0,none⟩ λPL=> af ak 62 #[.agg PL,.int .i64 Fe] (λDJ jF=> asB DJ λMI=> BIF MI (STA 10 jF ⟨a,0,none⟩ ⟨bm⟩ λjU=> LDA 10 jU ⟨a,0,none⟩ λWm=> aa (.tuple ⟨[.agg Wm,.slice none 0 0,.int .i64 3]⟩) jU) (LDA 10 jF ⟨b,0,none⟩ λm=> af ak 63 #[.agg m] (λn AP=> asA n λo=> STA 10 AP ⟨b,0,none⟩ o λvD=> af ak 36 #[.pointer (some ⟨b,0,none⟩),.int .i64 Fe] (λOA sW=> asL OA λajS afv ajT=> LDA 10 sW ⟨b,0,none⟩ λp=> STA 10 sW ⟨a,0,none⟩ p λDm=> LDA 10 Dm ⟨a,0,none⟩ λq=> aa (.tuple ⟨[.agg q,.slice ajS afv ajT,.int .i64 0]⟩) Dm) vD) jF)) jl)) d)) c) g) h
theorem aea.call{p_0 Fe aa h}(H:aea.S p_0 Fe aa h):af ak 28 #[.agg p_0,.int .i64 Fe] aa h:=qk Tryz.func28 H
def aab.J31(aa:VH)(akb:Addr)(d:Option Addr)(e:Nat)(f:Nat)(apX:Int)(h:ab):=LDA 10 h akb λaeu=> af ak 24 #[.agg aeu,.int .i64 1] (λagA b=> asI .i64 agA λawM=> BIF ((decide (awM<0))) (aa (.bool false) b) (af ak 15 #[.slice d e f,.int .i64 awM] (λg a=> asI .i64 g λc=> BIF ((decide (c<0))) (aa (.bool false) a) (BIF (c !=apX) (aa (.bool false) a) (aa (.bool true) a))) b)) h
def aab.j31(aa:VH):=gg (kds 138 [(10,.p),(11,.l),(14,.i .i64)]) λfr=>aab.J31 aa (gP (ah fr 10)) (gLb (ah fr 11)) (gLl (ah fr 11)) (gLc (ah fr 11)) (gI (ah fr 14))
def aab.J16(aa:VH)(adg:Int)(atG:Addr)(auj:Addr)(aoT:Option Addr)(aoV:Nat)(aoU:Nat)(auk:Int)(akb:Addr)(b:Option Addr)(c:Nat)(d:Nat)(h:ab):=LDA 10 h akb λl=> af ak 23 #[.agg l,.int .i64 1] (λm n=> asI .i64 m λo=> af ak 14 #[.slice b c d,.int .i64 o] (λp Qk=> asI .i64 p λg=> LDA 10 Qk akb λq=> af ak 24 #[.agg q,.int .i64 1] (λr Li=> asI .i64 r λi=> BIF ((decide (i<0))) (aa (.bool false) Li) (af ak 15 #[.slice b c d,.int .i64 i] (λs a=> asI .i64 s λj=> BIF ((decide (j<0))) (aa (.bool false) a) (BIF (j !=g) (aa (.bool false) a) (LDA 10 a atG λt=> af ak 27 #[.agg t] (λu v=> asA u λw=> af ak 28 #[.agg w,.int .i64 adg] (λx VE=> TH x λy z A=> asA y λB=> asL z λazv azx azw=> asI .i64 A λC=> ALC ⟨bm⟩ 51 (λk D=> STA 10 D ⟨k,0,none⟩ B λe=> LDA 10 e ⟨k,0,none⟩ λE=> LDA 10 e auj λF=> af ak 20 #[.agg E,.agg F] (λG anH=> asB G λayJ=> BIF (!ayJ) (aa (.bool false) anH) (af ak 11 #[.slice azv azx azw,.slice aoT aoV aoU] (λH f=> asB H λayK=> BIF (!ayK) (aa (.bool false) f) (BIF (C !=auk) (aa (.bool false) f) (aab.J31 aa akb b c d g f))) anH)) e) VE) v) a))) Li)) Qk) n) h
def aab.j16(aa:VH):=gg (kds 138 [(1,.i .i64),(2,.p),(6,.p),(7,.l),(8,.i .i64),(10,.p),(11,.l)]) λfr=>aab.J16 aa (gI (ah fr 1)) (gP (ah fr 2)) (gP (ah fr 6)) (gLb (ah fr 7)) (gLl (ah fr 7)) (gLc (ah fr 7)) (gI (ah fr 8)) (gP (ah fr 10)) (gLb (ah fr 11)) (gLl (ah fr 11)) (gLc (ah fr 11))
def aab.J10(aa:VH)(adg:Int)(atG:Addr)(auj:Addr)(aoT:Option Addr)(aoV:Nat)(aoU:Nat)(auk:Int)(avv:Addr)(akb:Addr)(c:Option Addr)(d:Nat)(e:Nat)(awh:Int)(h:ab):=LDA 10 h avv λf=> LDA 10 h atG λg=> af ak 27 #[.agg g] (λi Ni=> asA i λj=> PIN h avv 10 Ni <|af ak 20 #[.agg f,.agg j] (λk b=> asB k λl=> BIF (!l) (aa (.bool false) b) (LDA 10 b avv λm=> af ak 23 #[.agg m,.int .i64 1] (λn a=> asI .i64 n λo=> BIF ((decide (o<0))) (aa (.bool false) a) (LDA 10 a akb λp=> LDA 10 a auj λq=> af ak 20 #[.agg p,.agg q] (λr VD=> asB r λs=> BIF (!s) (aa (.bool false) VD) (af ak 11 #[.slice c d e,.slice aoT aoV aoU] (λt Px=> asB t λu=> BIF (!u) (aa (.bool false) Px) (BIF (awh !=auk) (aa (.bool false) Px) (aab.J16 aa adg atG auj aoT aoV aoU auk akb c d e Px))) VD)) a)) b)) Ni) h
def aab.j10(aa:VH):=gg (kds 138 [(1,.i .i64),(2,.p),(6,.p),(7,.l),(8,.i .i64),(9,.p),(10,.p),(11,.l),(12,.i .i64)]) λfr=>aab.J10 aa (gI (ah fr 1)) (gP (ah fr 2)) (gP (ah fr 6)) (gLb (ah fr 7)) (gLl (ah fr 7)) (gLc (ah fr 7)) (gI (ah fr 8)) (gP (ah fr 9)) (gP (ah fr 10)) (gLb (ah fr 11)) (gLl (ah fr 11)) (gLc (ah fr 11)) (gI (ah fr 12))
def aab.S(atF:Array Value)(adg:Int)(aa:VH)(h:ab):=ALC atF 62 (λa f=> LDA 10 f ⟨a,0,none⟩ λk=> af ak 25 #[.agg k,.int .i64 1048576] (λl b=> asI .i64 l λm=> BIF ((decide (m<0))) (aa (.bool true) b) (LDA 10 b ⟨a,0,none⟩ λn=> af ak 27 #[.agg n] (λo p=> asA o λzO=> af ak 26 #[.agg zO,.int .i64 adg] (λzX jl=> TH zX λxz DI IV=> asA xz λPL=> asL DI λUB Qx XP=> asI .i64 IV λg=> ALC ⟨bm⟩ 51 (λc jU=> STA 10 jU ⟨c,0,none⟩ PL λvC=> LDA 10 vC ⟨a,0,none⟩ λq=> af ak 27 #[.agg q] (λr AP=> asA r λs=> ALC ⟨bm⟩ 51 (λd Ec=> STA 10 Ec ⟨d,0,none⟩ s λsW=> LDA 10 sW ⟨d,0,none⟩ λt=> af ak 28 #[.agg t,.int .i64 adg] (λRD Dm=> TH RD λu v ZZ=> asA u λTL=> asL v λatZ i ava=> asI .i64 ZZ λj=> ALC ⟨bm⟩ 51 (λe zR=> STA 10 zR ⟨e,0,none⟩ TL λMn=> LDA 10 Mn ⟨e,0,none⟩ λw=> LDA 10 Mn ⟨c,0,none⟩ λx=> af ak 20 #[.agg w,.agg x] (λy Xa=> asB y λz=> BIF (!z) (aa (.bool false) Xa) (af ak 11 #[.slice atZ i ava,.slice UB Qx XP] (λA Pu=> asB A λB=> BIF (!B) (aa (.bool false) Pu) (BIF (j !=g) (aa (.bool false) Pu) (aab.J10 aa adg ⟨a,0,none⟩ ⟨c,0,none⟩ UB Qx XP g ⟨d,0,none⟩ ⟨e,0,none⟩ atZ i ava j Pu))) Xa)) Mn) Dm) sW) AP) vC) jl) p) b)) f) h
theorem aab.call{atF adg aa h}(H:aab.S atF adg aa h):af ak 5 #[.agg atF,.int .i64 adg] aa h:=qc (Λ:=aS [(10,aab.j10 aa),(16,aab.j16 aa),(31,aab.j31 aa)]) Tryz.func5 (qs qf (qs qf (qs qf (qs qf (qs qf (qs qf (qs qf (qj (aab.j10 aa) qf (qs qf (qs qf (qs qf (qj (aab.j16 aa) qf (qs qf (qs qf (qs qf (qs qf (qs qf (qs qf (qs qf (qs qf (qs qf (qs qf (qj (aab.j31 aa) qf qf))))))))))))))))))))))) (qe H)
end Go.Sx
