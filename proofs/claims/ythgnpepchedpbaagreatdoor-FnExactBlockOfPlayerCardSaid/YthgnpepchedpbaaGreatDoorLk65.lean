/- Lemmas. -/
import Derived.Test.YthgnpepchedpbaaGreatDoorLk62
import Derived.Test.YthgnpepchedpbaaGreatDoorTab
import Derived.Test.YthgnpepchedpbaaGreatDoorLk24
set_option linter.unusedVariables false
set_option linter.unusedSimpArgs false
namespace Go.Sx
open Go.Proofs
set_option maxRecDepth 100000
set_option maxHeartbeats 2000000
noncomputable def aC.may(p:aC)(count UQ:Int):Int:=if p.ok=true then if inR count 0 UQ=true then if 200000<p.mO+count then 3 else 0 else 2 else 1
theorem alF:wI.small:=⟨(λr hr=>nomatch hr),(λr hr=>nomatch hr),Nat.zero_le _,Nat.zero_le _,Nat.zero_le _⟩
theorem am1{s:bI}{v:aK}(h:acy s v=true):v.small:=by
 have z1:iw.Loop.ae.length≤1048576:=Nat.zero_le _
 have z3:vl.bT.ae.length≤1048576:=Nat.zero_le _
 have z4:vl.aH.ae.length≤1048576:=Nat.zero_le _
 have ring:∀{r:aY},r.ok=true->r.ae.length≤1048576:=λh=>by have:=kO h;omega
 have okf:∀{r:aY},r.okf=true->r.ae.length≤1048576:=λh=>ring (by unfold aY.okf at h;rw[Bool.and_eq_true] at h;exact h.1)
 unfold acy at h
 split at h
 ·unfold aeU at h
  simp only[Bool.and_eq_true,acj] at h
  obtain⟨⟨⟨⟨⟨⟨h1,h2⟩,h3⟩,_⟩,_⟩,_⟩,_⟩:=h
  exact⟨by rw[h1];exact z1,by rw[h2];exact alF,by rw[h3];exact z3,by rw[h3];exact z4⟩
 ·split at h
  ·cases h
  ·simp only[Bool.and_eq_true] at h
   have hb:=h.2
   unfold aeJ at hb
   split at hb
   ·simp only[Bool.and_eq_true,acj] at hb
    obtain⟨⟨h1,h2⟩,h3⟩:=hb
    unfold bK.ok at h1
    simp only[Bool.and_eq_true] at h1
    exact⟨ring h1.1.1.1,by rw[h2];exact alF,by rw[h3];exact z3,by rw[h3];exact z4⟩
   ·split at hb
    ·simp only[Bool.and_eq_true,acj] at hb
     obtain⟨⟨h1,h2⟩,h3⟩:=hb
     exact⟨by rw[h1];exact z1,an0 h2,by rw[h3];exact z3,by rw[h3];exact z4⟩
    ·simp only[Bool.and_eq_true,acj] at hb
     obtain⟨⟨h1,h2⟩,h3⟩:=hb
     unfold iU.ok at h3
     simp only[Bool.and_eq_true] at h3
     exact⟨by rw[h1];exact z1,by rw[h2];exact alF,okf h3.1.1.1,okf h3.1.1.2⟩
theorem alq{p:aC}(h:p.ok=true){v:aK}(hv:v ∈ p.al):acy p.Score v=true:=by
 unfold aC.ok at h
 simp only[Bool.and_eq_true,List.all_eq_true,List.mem_range] at h
 obtain⟨i,hi,rfl⟩:=List.mem_iff_getElem.1 hv
 have:=h.2 i hi
 unfold Zv at this
 rw[getElem!_pos p.al i hi,Bool.and_eq_true] at this
 exact this.1
theorem alk{p:aC}(h:p.ok=true):p.am3:=⟨(ahn h).1.s,(ahn h).1.n6,λv hv=>am1 (alq h hv)⟩
section
variable {h:ab}{q:Addr}{p:aC}
theorem ar0{count UQ:Int}(R:RdP bz h q p)(hm:UQ≤1000000):af ak 58 #[.pointer (some q),.int .i64 count,.int .i64 UQ] (λu h'=>u = .int .i64 (p.may count UQ)∧Ext h h') h:=by
 refine aiH.call (goX (atY R) λh1 x1=>bt (brN (λe=>⟨by unfold aC.may;rw[e,if_neg (by decide)],x1⟩) λe1=>?_))
 obtain⟨_,n1,n2⟩:=ahn e1
 refine goE x1 (kQ _ _ _ _) λh2 x2=>bt (brN (λe=>⟨by unfold aC.may;rw[if_pos e1,e,if_neg (by decide)],x2⟩) λe2=>(R.ext x2).oI ?_)
 have hc:0≤count∧count≤UQ:=by simp only[inR,Bool.and_eq_true,decide_eq_true_eq] at e2;exact e2
 rw[wrap64 (n:=p.mO+count) (by omega) (by omega)]
 exact brd (λk=>⟨by unfold aC.may;rw[if_pos e1,if_pos e2,if_pos k],x2⟩) λk=>⟨by unfold aC.may;rw[if_pos e1,if_pos e2,if_neg k],x2⟩
theorem aqZ{cs:Array Value}{count:Int}(R0:bz.rd h cs.toList p)(hn:0≤p.mO∧p.mO≤200000)(hc:0≤count∧count≤1000000):af ak 62 #[.agg cs,.int .i64 count] (λu h'=>u = .bool (decide (200000<p.mO+count))∧Ext h h') h:=by
 refine ads.call (gD R0 λg h1 x1 R=>R.oI2 ?_)
 rw[wrap64 (n:=p.mO+count) (by omega) (by omega)]
 exact⟨rfl,x1⟩
end
set_option maxHeartbeats 1000000
section
variable {α β:Type}{r:Rep α}{s:Rep β}{P:Program}{h0 h:ab}{q:Addr}{F:Fr}{B L:List Blk}{d:α}{t e bytes ty:Nat}{b:Option Addr}{l c:Nat}{xs:List β}{K:Value->ab->Prop}
theorem Pt.push{cs:Array Value}{x:β}(Pa:Pt r h0 h q F (B++L) d)(E:xK P t e s.sz bytes)(O:SlO e s B b l c xs)(Ox:s.ow [] cs.toList x)(Nq:l+1≤maxLen)(yx:(l+1)*bytes≤140737488355328)(H:∀b' c' h' B',SlO e s B' b' (l+1) c' (xs++[x])->Pt r h0 h' q F (B'++L) d->K (.slice b' (l+1) c') h'):
  ALC cs e (λg h=>gC P (Builtin.append_ #[t,t] ty #[.slice b l c,.slice (some ⟨g,0,none⟩) 1 1]) K h) h:=by
 obtain⟨e1,iS,BR,M,OR⟩:=Pa
 refine Oz (Bn:=[]) (L:=(F.g,F.T,⟨F.pre++(iS++F.post)⟩) :: (BR++L)) E O (M.cnt λp=>by simp only[bN,bu,bZ];omega) Ox Nq yx λb' c' h' B' O' M'=>H b' c' h' B' O' ⟨e1,iS,BR,M'.cnt λp=>?_,OR⟩
 simp only[bN,bu,bZ];omega
end
def dC.B3(aa:VH)(a:(Addr×Option Addr×Nat×Nat×Int×Int)->ab->Prop):Addr×Option Addr×Nat×Nat×Int×Int->ab->Prop |(p_0,YI,YK,YJ,t6,t7),h=> BIF (decide (t7<t6)) (af ak 71 #[.pointer (some p_0)] (λb c=> asF .f32 b λd=> ALC ⟨[.float .f32 d]⟩ 22 (λe f=> gC ak (Builtin.append_ #[23,23] 23 #[.slice YI YK YJ,.slice (some ⟨e,0,none⟩) 1 1]) (λg i=> asL g λj k l=> a (p_0,j,k,l,t6,((IntKind.i64.wrap (t7+1)))) i) f) c) h) (aa (.slice YI YK YJ) h)
def dC.g3(fr:Frame):Addr×Option Addr×Nat×Nat×Int×Int:=((gP (ah fr 0)),(gLb (ah fr 5)),(gLl (ah fr 5)),(gLc (ah fr 5)),(gI (ah fr 6)),(gI (ah fr 7)))
def dC.l3(aa:VH):=gg (kds 16 [(0,.p),(5,.l),(6,.i .i64),(7,.i .i64)]) λfr=>bk (dC.B3 aa) (dC.g3 fr)
def dC.S(p_0:Addr)(Fe:Int)(aa:VH)(h:ab):=bk (dC.B3 aa) (p_0,none,0,0,Fe,0) h
theorem dC.call{p_0 Fe aa h}(H:dC.S p_0 Fe aa h):af ak 36 #[.pointer (some p_0),.int .i64 Fe] aa h:=qc (Λ:=aS [(1000003,dC.l3 aa)]) Tryz.func36 (qs qf (qs qf (qs (qs qf (Rq.block (ql (dC.l3 aa) (qg (g:=dC.g3) (Λ:=λa=>aS []) (λ_ _ _=>by kernel_rfl) (λa=>qf))))) qf))) (qe H)
set_option maxHeartbeats 2000000
noncomputable def aC.AX(p:aC):Nat->aC×List Nat
 | 0=>(p,[])
 | k+1=>((p.AX k).1.step.1,(p.AX k).2++[(p.AX k).1.step.2])
theorem oy{p:aC}(R:p.iW):∀k,(p.AX k).1.iW
 | 0=>R
 | k+1=>RV (oy R k)
theorem Dl{p:aC}(R:p.iW):∀k:Nat,(p.AX k).1.mO=p.mO+k
 | 0=>by show p.mO=_;omega
 | k+1=>by
  show(p.AX k).1.step.1.mO=_
  rw[Zi (oy R k),Dl R k];omega
theorem akx{p:aC}{count UQ:Int}(h:p.may count UQ=0):p.ok=true∧0≤count∧count≤UQ∧p.mO+count≤200000:=by
 unfold aC.may at h
 split at h
 ·next h1=>
  split at h
  ·next h2=>
   split at h
   ·cases h
   ·next h3=>
    simp only[inR,Bool.and_eq_true,decide_eq_true_eq] at h2
    exact⟨h1,h2.1,h2.2,by omega⟩
  ·cases h
 ·cases h
section
variable {h0 h:ab}{q:Addr}{F:Fr}{L:List Blk}{p:aC}{count:Int}
theorem agw{k:Nat}(P:Pt bz h0 h q F L p)(R:p.iW)(Ud:0≤p.mO∧p.mO+k≤1000000)(hk:k≤4096):
  af ak 36 #[.pointer (some q),.int .i64 (k:Int)] (λu h'=>∃b c B,u = .slice b k c∧SlO 22 (rF .f32) B b k c (p.AX k).2∧Pt bz h0 h' q F (B++L) (p.AX k).1) h:=by
 have hm:(4097:Nat)≤maxLen:=by decide
 refine dC.call (loop (λy hh=>∃(n:Nat) (b':Option Addr) (c':Nat) (B:List Blk),y=(q,b',n,c',(k:Int),(n:Int))∧n≤k∧SlO 22 (rF .f32) B b' n c' (p.AX n).2∧Pt bz h0 hh q F (B++L) (p.AX n).1) (λy=>((k:Int)-y.2.2.2.2.2).toNat)
  ⟨0,_,_,[],rfl,by omega,SlO.nil,P⟩ ?_)
 rintro y hh ⟨n,b',c',B,rfl,hn,O,P⟩
 have hw:=Dl R n
 refine brd (λhc=>?_) λhc=>?_
 ·refine(I6 P (oy R n) (by omega)).mono ?_
  rintro _ h8 ⟨⟨y,rfl,hy⟩,P⟩
  exact cW (Pt.push P lD O ⟨rfl,_,rfl,hy⟩ (by omega) (by omega) λb2 c2 h9 B2 O2 P2=>lR ⟨⟨n+1,b2,c2,B2,by rw[ag (by omega)],by omega,O2,P2⟩,by rw[ag (by omega)];show _<_;simp;omega⟩)
 ·obtain rfl:n=k:=by omega
  exact⟨b',c',B,rfl,O,P⟩
end
def alu.B7(aa:VH)(a:(Addr×Addr×Addr×Addr×Int)->ab->Prop):Addr×Addr×Addr×Addr×Int->ab->Prop |(t2,t3,atE,b_7,i_8),h=> BIF ((decide (i_8<16))) (af ak 42 #[.pointer (some atE)] (λb AP=> asF .f32 b λMv=> IDX i_8 16 <|ST1 AP ((Addr.add b_7 (i_8.toNat*1))) (.float .f32 Mv) λvD=> a (t2,t3,atE,b_7,((IntKind.i64.wrap (i_8+1)))) vD) h) (LDA 10 h atE λc=> LDA 16 h b_7 λd=> STA 10 h t2 c λre=> PIN h b_7 16 re <|STA 16 re t3 d λMm=> LDA 10 Mm t2 λe=> LDA 16 Mm t3 λf=> aa (.tuple ⟨[.agg e,.agg f,.int .i64 0]⟩) Mm)
def alu.g7(fr:Frame):Addr×Addr×Addr×Addr×Int:=((gP (ah fr 2)),(gP (ah fr 3)),(gP (ah fr 6)),(gP (ah fr 7)),(gI (ah fr 8)))
def alu.l7(aa:VH):=gg (kds 28 [(2,.p),(3,.p),(6,.p),(7,.p),(8,.i .i64)]) λfr=>bk (alu.B7 aa) (alu.g7 fr)
def alu.S(p_0:Array Value)(aa:VH)(h:ab):=ALC p_0 51 (λc g=> ALC ⟨bm⟩ 51 (λa i=> ALC ⟨Kx⟩ 69 (λb j=> af ak 58 #[.pointer (some ⟨c,0,none⟩),.int .i64 16,.int .i64 16] (λk d=> asI .i64 k λe=> BIF (e !=0) (STA 10 d ⟨a,0,none⟩ ⟨bm⟩ λgv=> STA 16 gv ⟨b,0,none⟩ ⟨[.float .f32 0,.float .f32 0,.float .f32 0,.float .f32 0,.float .f32 0,.float .f32 0,.float .f32 0,.float .f32 0,.float .f32 0,.float .f32 0,.float .f32 0,.float .f32 0,.float .f32 0,.float .f32 0,.float .f32 0,.float .f32 0]⟩ λme=> LDA 10 me ⟨a,0,none⟩ λKH=> LDA 16 me ⟨b,0,none⟩ λWl=> aa (.tuple ⟨[.agg KH,.agg Wl,.int .i64 e]⟩) me) (af ak 59 #[.pointer (some ⟨c,0,none⟩)] (λDI kB=> asA DI λPL=> ALC ⟨bm⟩ 51 (λyv jF=> STA 10 jF ⟨yv,0,none⟩ PL λta=> ALC ⟨Kx⟩ 69 (λf vC=> STA 16 vC ⟨f,0,none⟩ ⟨[.float .f32 0,.float .f32 0,.float .f32 0,.float .f32 0,.float .f32 0,.float .f32 0,.float .f32 0,.float .f32 0,.float .f32 0,.float .f32 0,.float .f32 0,.float .f32 0,.float .f32 0,.float .f32 0,.float .f32 0,.float .f32 0]⟩ λuD=> bk (alu.B7 aa) (⟨a,0,none⟩,⟨b,0,none⟩,⟨yv,0,none⟩,⟨f,0,none⟩,0) uD) ta) kB) d)) j) i) g) h
theorem alu.call{p_0 aa h}(H:alu.S p_0 aa h):af ak 29 #[.agg p_0] aa h:=qc (Λ:=aS [(1000007,alu.l7 aa)]) Tryz.func29 (qs qf (qs qf (qs qf (qs qf (qs (qs qf (Rq.block (ql (alu.l7 aa) (qg (g:=alu.g7) (Λ:=λa=>aS []) (λ_ _ _=>by kernel_rfl) (λa=>qf))))) qf))))) (qe H)
def alQ.S(p_0:Array Value)(aa:VH)(h:ab):=ALC p_0 51 (λa f=> ALC ⟨bm⟩ 51 (λb g=> ALC ⟨Kx⟩ 69 (λc e=> LDA 10 e ⟨a,0,none⟩ λi=> af ak 61 #[.agg i] (λj d=> asB j λEF=> BIF (!EF) (STA 10 d ⟨b,0,none⟩ ⟨bm⟩ λme=> STA 16 me ⟨c,0,none⟩ ⟨[.float .f32 0,.float .f32 0,.float .f32 0,.float .f32 0,.float .f32 0,.float .f32 0,.float .f32 0,.float .f32 0,.float .f32 0,.float .f32 0,.float .f32 0,.float .f32 0,.float .f32 0,.float .f32 0,.float .f32 0,.float .f32 0]⟩ λjl=> LDA 10 jl ⟨b,0,none⟩ λWl=> LDA 16 jl ⟨c,0,none⟩ λk=> aa (.tuple ⟨[.agg Wl,.agg k,.int .i64 1]⟩) jl) (LDA 10 d ⟨a,0,none⟩ λl=> af ak 62 #[.agg l,.int .i64 16] (λLV qQ=> asB LV λWr=> BIF Wr (STA 10 qQ ⟨b,0,none⟩ ⟨bm⟩ λta=> STA 16 ta ⟨c,0,none⟩ ⟨[.float .f32 0,.float .f32 0,.float .f32 0,.float .f32 0,.float .f32 0,.float .f32 0,.float .f32 0,.float .f32 0,.float .f32 0,.float .f32 0,.float .f32 0,.float .f32 0,.float .f32 0,.float .f32 0,.float .f32 0,.float .f32 0]⟩ λjU=> LDA 10 jU ⟨b,0,none⟩ λWm=> LDA 16 jU ⟨c,0,none⟩ λm=> aa (.tuple ⟨[.agg Wm,.agg m,.int .i64 3]⟩) jU) (LDA 10 qQ ⟨a,0,none⟩ λn=> af ak 63 #[.agg n] (λRA pw=> asA RA λo=> STA 10 pw ⟨a,0,none⟩ o λEc=> af ak 36 #[.pointer (some ⟨a,0,none⟩),.int .i64 16] (λp re=> asL p λQE QF afw=> AAP QE 16 QF λq=> LDA 16 re q λr=> ALC ⟨Kx⟩ 69 (λZJ xl=> STA 16 xl ⟨ZJ,0,none⟩ r λEP=> LDA 10 EP ⟨a,0,none⟩ λs=> LDA 16 EP ⟨ZJ,0,none⟩ λt=> STA 10 EP ⟨b,0,none⟩ s λDn=> PIN EP ⟨ZJ,0,none⟩ 16 Dn <|STA 16 Dn ⟨c,0,none⟩ t λzR=> LDA 10 zR ⟨b,0,none⟩ λu=> LDA 16 zR ⟨c,0,none⟩ λv=> aa (.tuple ⟨[.agg u,.agg v,.int .i64 0]⟩) zR) re) Ec) qQ)) d)) e) g) f) h
theorem alQ.call{p_0 aa h}(H:alQ.S p_0 aa h):af ak 30 #[.agg p_0] aa h:=qk Tryz.func30 H
def al3.J27(aa:VH)(a:Addr)(aAa:Int)(h:ab):=LDA 10 h a λamd=> af ak 24 #[.agg amd,.int .i64 1] (λaAE avA=> asI .i64 aAE λaxn=> BIF ((decide (axn<0))) (aa (.bool false) avA) (BIF (axn !=aAa) (aa (.bool false) avA) (aa (.bool true) avA))) h
def al3.j27(aa:VH):=gg (kds 120 [(8,.p),(12,.i .i64)]) λfr=>al3.J27 aa (gP (ah fr 8)) (gI (ah fr 12))
def al3.J16(aa:VH)(j:Addr)(auO:Addr)(auP:Addr)(auQ:Int)(c:Addr)(h:ab):=LDA 10 h c λk=> af ak 23 #[.agg k,.int .i64 1] (λl e=> asI .i64 l λf=> LDA 10 e c λm=> af ak 24 #[.agg m,.int .i64 1] (λn a=> asI .i64 n λg=> BIF ((decide (g<0))) (aa (.bool false) a) (BIF (g !=f) (aa (.bool false) a) (LDA 10 a j λo=> af ak 27 #[.agg o] (λp q=> asA p λr=> af ak 30 #[.agg r] (λs t=> TH s λu v w=> asA u λx=> asA v λy=> asI .i64 w λz=> ALC ⟨bm⟩ 51 (λi Gf=> ALC ⟨Kx⟩ 69 (λawX aiT=> STA 10 aiT ⟨i,0,none⟩ x λIy=> STA 16 Iy ⟨awX,0,none⟩ y λd=> LDA 10 d ⟨i,0,none⟩ λA=> LDA 10 d auO λaeu=> af ak 20 #[.agg A,.agg aeu] (λagA b=> asB agA λazn=> BIF (!azn) (aa (.bool false) b) (LDA 16 b ⟨awX,0,none⟩ λB=> LDA 16 b auP λC=> af ak 31 #[.agg B,.agg C] (λD anJ=> asB D λazo=> BIF (!azo) (aa (.bool false) anJ) (BIF (z !=auQ) (aa (.bool false) anJ) (al3.J27 aa c f anJ))) b)) d) Gf) t) q) a))) e) h
def al3.j16(aa:VH):=gg (kds 120 [(1,.p),(4,.p),(5,.p),(6,.i .i64),(8,.p)]) λfr=>al3.J16 aa (gP (ah fr 1)) (gP (ah fr 4)) (gP (ah fr 5)) (gI (ah fr 6)) (gP (ah fr 8))
def al3.J10(aa:VH)(c:Addr)(auO:Addr)(auP:Addr)(auQ:Int)(a:Addr)(d:Addr)(azF:Addr)(f:Int)(h:ab):=LDA 10 h a λg=> LDA 10 h c λi=> af ak 27 #[.agg i] (λj e=> asA j λk=> PIN h a 10 e <|af ak 20 #[.agg g,.agg k] (λl Iz=> asB l λm=> BIF (!m) (aa (.bool false) Iz) (LDA 10 Iz a λn=> af ak 23 #[.agg n,.int .i64 1] (λo Px=> asI .i64 o λp=> BIF ((decide (p<0))) (aa (.bool false) Px) (LDA 10 Px d λq=> LDA 10 Px auO λr=> af ak 20 #[.agg q,.agg r] (λYZ SI=> asB YZ λs=> BIF (!s) (aa (.bool false) SI) (LDA 16 SI azF λt=> LDA 16 SI auP λu=> af ak 31 #[.agg t,.agg u] (λv b=> asB v λw=> BIF (!w) (aa (.bool false) b) (BIF (f !=auQ) (aa (.bool false) b) (al3.J16 aa c auO auP auQ d b))) SI)) Px)) Iz)) e) h
def al3.j10(aa:VH):=gg (kds 120 [(1,.p),(4,.p),(5,.p),(6,.i .i64),(7,.p),(8,.p),(9,.p),(10,.i .i64)]) λfr=>al3.J10 aa (gP (ah fr 1)) (gP (ah fr 4)) (gP (ah fr 5)) (gI (ah fr 6)) (gP (ah fr 7)) (gP (ah fr 8)) (gP (ah fr 9)) (gI (ah fr 10))
def al3.S(atF:Array Value)(aa:VH)(h:ab):=ALC atF 62 (λa j=> LDA 10 j ⟨a,0,none⟩ λm=> af ak 25 #[.agg m,.int .i64 1048576] (λn b=> asI .i64 n λo=> BIF ((decide (o<0))) (aa (.bool true) b) (LDA 10 b ⟨a,0,none⟩ λp=> af ak 27 #[.agg p] (λq r=> asA q λzO=> af ak 29 #[.agg zO] (λzX jl=> TH zX λxz DI IV=> asA xz λPL=> asA DI λSk=> asI .i64 IV λk=> ALC ⟨bm⟩ 51 (λc jU=> ALC ⟨Kx⟩ 69 (λd uD=> STA 10 uD ⟨c,0,none⟩ PL λnR=> STA 16 nR ⟨d,0,none⟩ Sk λAP=> LDA 10 AP ⟨a,0,none⟩ λs=> af ak 27 #[.agg s] (λZY Ec=> asA ZY λt=> ALC ⟨bm⟩ 51 (λe Mm=> STA 10 Mm ⟨e,0,none⟩ t λDm=> LDA 10 Dm ⟨e,0,none⟩ λu=> af ak 30 #[.agg u] (λv xl=> TH v λw YX x=> asA w λy=> asA YX λz=> asI .i64 x λl=> ALC ⟨bm⟩ 51 (λf JJ=> ALC ⟨Kx⟩ 69 (λg Xa=> STA 10 Xa ⟨f,0,none⟩ y λzS=> STA 16 zS ⟨g,0,none⟩ z λLh=> LDA 10 Lh ⟨f,0,none⟩ λA=> LDA 10 Lh ⟨c,0,none⟩ λB=> af ak 20 #[.agg A,.agg B] (λC Pw=> asB C λD=> BIF (!D) (aa (.bool false) Pw) (LDA 16 Pw ⟨g,0,none⟩ λE=> LDA 16 Pw ⟨d,0,none⟩ λF=> af ak 31 #[.agg E,.agg F] (λG i=> asB G λH=> BIF (!H) (aa (.bool false) i) (BIF (l !=k) (aa (.bool false) i) (al3.J10 aa ⟨a,0,none⟩ ⟨c,0,none⟩ ⟨d,0,none⟩ k ⟨e,0,none⟩ ⟨f,0,none⟩ ⟨g,0,none⟩ l i))) Pw)) Lh) JJ) xl) Dm) Ec) AP) jU) jl) r) b)) j) h
theorem al3.call{atF aa h}(H:al3.S atF aa h):af ak 6 #[.agg atF] aa h:=qc (Λ:=aS [(10,al3.j10 aa),(16,al3.j16 aa),(27,al3.j27 aa)]) Tryz.func6 (qs qf (qs qf (qs qf (qs qf (qs qf (qs qf (qs qf (qj (al3.j10 aa) qf (qs qf (qs qf (qs qf (qj (al3.j16 aa) qf (qs qf (qs qf (qs qf (qs qf (qs qf (qs qf (qs qf (qj (al3.j27 aa) qf qf)))))))))))))))))))) (qe H)
end Go.Sx
