/- Lemmas. -/
import Derived.Test.YthgnpepchedpbaaGreatDoorTab
import Derived.Test.YthgnpepchedpbaaGreatDoorLgw
import Derived.Test.YthgnpepchedpbaaGreatDoorLk60
import Derived.Test.YthgnpepchedpbaaGreatDoorH1
import Derived.Test.YthgnpepchedpbaaGreatDoorLr3
import Derived.Test.YthgnpepchedpbaaGreatDoorLk50
set_option linter.unusedVariables false
set_option linter.unusedSimpArgs false
namespace Go.Sx
open Go.Proofs
set_option maxRecDepth 100000
def cA.B7(aa:VH)(a:(Int×Addr×Addr×Int)->ab->Prop):Int×Addr×Addr×Int->ab->Prop |(xt,t6,p_8,ajE),h=> BIF (decide (ajE<xt)) (af ak 42 #[.pointer (some p_8)] (λYU vC=> asF .f32 YU λMu=> a (xt,t6,p_8,((IntKind.i64.wrap (ajE+1)))) vC) h) (LDA 10 h p_8 λb=> STA 10 h t6 b λAP=> LDA 10 AP t6 λc=> aa (.tuple ⟨[.agg c,.int .i64 0]⟩) AP)
def cA.g7(fr:Frame):Int×Addr×Addr×Int:=((gI (ah fr 2)),(gP (ah fr 6)),(gP (ah fr 8)),(gI (ah fr 10)))
def cA.l7(aa:VH):=gg (kds 35 [(2,.i .i64),(6,.p),(8,.p),(10,.i .i64)]) λfr=>bk (cA.B7 aa) (cA.g7 fr)
def cA.J4(aa:VH)(xt:Int)(a:Addr)(p_8:Addr)(KU:Int)(h:ab):=BIF (KU !=0) (STA 10 h a ⟨bm⟩ λjF=> LDA 10 jF a λb=> aa (.tuple ⟨[.agg b,.int .i64 KU]⟩) jF) (bk (cA.B7 aa) (xt,a,p_8,0) h)
def cA.j4(aa:VH):=gg (kds 35 [(2,.i .i64),(6,.p),(8,.p),(9,.i .i64)]) λfr=>cA.J4 aa (gI (ah fr 2)) (gP (ah fr 6)) (gP (ah fr 8)) (gI (ah fr 9))
def cA.S(s_0:Array Value)(fx:Int)(xt:Int)(aa:VH)(h:ab):=ALC s_0 39 (λe f=> ALC ⟨bm⟩ 51 (λa c=> LDA 6 c ⟨e,0,none⟩ λg=> af ak 33 #[.agg g,.int .i64 fx] (λi j=> fV i λk l=> asA k λzO=> asI .i64 l λb=> ALC ⟨bm⟩ 51 (λLa hP=> STA 10 hP ⟨La,0,none⟩ zO λd=> BIF (b==0) (af ak 41 #[.int .i64 xt,.int .i64 0,.int .i64 4096] (λIV kT=> asB IV λm=> BIF (!m) (cA.J4 aa xt ⟨a,0,none⟩ ⟨La,0,none⟩ 2 kT) (cA.J4 aa xt ⟨a,0,none⟩ ⟨La,0,none⟩ b kT)) d) (cA.J4 aa xt ⟨a,0,none⟩ ⟨La,0,none⟩ b d)) j) c) f) h
theorem cA.call{s_0 fx xt aa h}(H:cA.S s_0 fx xt aa h):af ak 17 #[.agg s_0,.int .i64 fx,.int .i64 xt] aa h:=qc (Λ:=aS [(4,cA.j4 aa),(1000007,cA.l7 aa)]) Tryz.func17 (qs qf (qs qf (qj (cA.j4 aa) qf (qs qf (qs (qs qf (Rq.block (ql (cA.l7 aa) (qg (g:=cA.g7) (Λ:=λa=>aS []) (λ_ _ _=>by kernel_rfl) (λa=>qf))))) qf))))) (qe H)
def u7.S(s_0:Array Value)(fx:Int)(xt:Int)(aa:VH)(h:ab):=ALC s_0 39 (λe f=> ALC ⟨bm⟩ 51 (λa b=> LDA 6 b ⟨e,0,none⟩ λg=> af ak 35 #[.agg g,.int .i64 fx] (λi j=> fV i λk l=> asA k λzO=> asI .i64 l λc=> ALC ⟨bm⟩ 51 (λLa hP=> STA 10 hP ⟨La,0,none⟩ zO λd=> BIF (c !=0) (STA 10 d ⟨a,0,none⟩ ⟨bm⟩ λkB=> LDA 10 kB ⟨a,0,none⟩ λPL=> aa (.tuple ⟨[.agg PL,.int .i64 c]⟩) kB) (af ak 46 #[.int .i64 xt,.int .i64 0,.int .i64 4096] (λDJ jF=> asB DJ λMI=> BIF (!MI) (STA 10 jF ⟨a,0,none⟩ ⟨bm⟩ λjU=> LDA 10 jU ⟨a,0,none⟩ λWm=> aa (.tuple ⟨[.agg Wm,.int .i64 2]⟩) jU) (af ak 36 #[.pointer (some ⟨La,0,none⟩),.int .i64 xt] (λGZ nR=> asL GZ λLz Gq QD=> LDA 10 nR ⟨La,0,none⟩ λm=> STA 10 nR ⟨a,0,none⟩ m λvD=> LDA 10 vD ⟨a,0,none⟩ λn=> aa (.tuple ⟨[.agg n,.int .i64 0]⟩) vD) jF)) d)) j) b) f) h
theorem u7.call{s_0 fx xt aa h}(H:u7.S s_0 fx xt aa h):af ak 19 #[.agg s_0,.int .i64 fx,.int .i64 xt] aa h:=qk Tryz.func19 H
def bB.J27(aa:VH)(Eb:Addr)(apX:Int)(h:ab):=LDA 10 h Eb λc=> af ak 24 #[.agg c,.int .i64 1] (λd a=> asI .i64 d λb=> BIF ((decide (b<0))) (aa (.bool false) a) (BIF (b !=apX) (aa (.bool false) a) (aa (.bool true) a))) h
def bB.j27(aa:VH):=gg (kds 106 [(11,.p),(14,.i .i64)]) λfr=>bB.J27 aa (gP (ah fr 11)) (gI (ah fr 14))
def bB.J16(aa:VH)(kI:Int)(d:Int)(aaf:Addr)(acz:Addr)(acA:Int)(Eb:Addr)(h:ab):=LDA 10 h Eb λWn=> af ak 23 #[.agg Wn,.int .i64 1] (λRG CX=> asI .i64 RG λb=> LDA 10 CX Eb λe=> af ak 24 #[.agg e,.int .i64 1] (λf a=> asI .i64 f λUU=> BIF ((decide (UU<0))) (aa (.bool false) a) (BIF (UU !=b) (aa (.bool false) a) (LDA 6 a aaf λg=> af ak 18 #[.agg g] (λi j=> asA i λk=> af ak 19 #[.agg k,.int .i64 kI,.int .i64 d] (λYZ SI=> fV YZ λl m=> asA l λn=> asI .i64 m λo=> ALC ⟨bm⟩ 51 (λc Li=> STA 10 Li ⟨c,0,none⟩ n λNk=> LDA 10 Nk ⟨c,0,none⟩ λp=> LDA 10 Nk acz λq=> af ak 20 #[.agg p,.agg q] (λr Xc=> asB r λs=> BIF (!s) (aa (.bool false) Xc) (BIF (o !=acA) (aa (.bool false) Xc) (bB.J27 aa Eb b Xc))) Nk) SI) j) a))) CX) h
def bB.j16(aa:VH):=gg (kds 106 [(1,.i .i64),(2,.i .i64),(3,.p),(8,.p),(9,.i .i64),(11,.p)]) λfr=>bB.J16 aa (gI (ah fr 1)) (gI (ah fr 2)) (gP (ah fr 3)) (gP (ah fr 8)) (gI (ah fr 9)) (gP (ah fr 11))
def bB.J10(aa:VH)(kI:Int)(a:Int)(aaf:Addr)(acz:Addr)(acA:Int)(ZE:Addr)(Eb:Addr)(aiv:Int)(h:ab):=LDA 6 h ZE λb=> LDA 6 h aaf λc=> af ak 18 #[.agg c] (λd zS=> asA d λe=> PIN h ZE 6 zS <|af ak 21 #[.agg b,.agg e] (λf Pv=> asB f λg=> BIF (!g) (aa (.bool false) Pv) (LDA 6 Pv ZE λi=> af ak 22 #[.agg i,.int .i64 1] (λj Ni=> asI .i64 j λk=> BIF ((decide (k<0))) (aa (.bool false) Ni) (LDA 10 Ni Eb λl=> LDA 10 Ni acz λm=> af ak 20 #[.agg l,.agg m] (λn Nj=> asB n λo=> BIF (!o) (aa (.bool false) Nj) (BIF (aiv !=acA) (aa (.bool false) Nj) (bB.J16 aa kI a aaf acz acA Eb Nj))) Ni)) Pv)) zS) h
def bB.j10(aa:VH):=gg (kds 106 [(1,.i .i64),(2,.i .i64),(3,.p),(8,.p),(9,.i .i64),(10,.p),(11,.p),(12,.i .i64)]) λfr=>bB.J10 aa (gI (ah fr 1)) (gI (ah fr 2)) (gP (ah fr 3)) (gP (ah fr 8)) (gI (ah fr 9)) (gP (ah fr 10)) (gP (ah fr 11)) (gI (ah fr 12))
def bB.S(aae:Array Value)(kI:Int)(b:Int)(aa:VH)(h:ab):=ALC aae 29 (λa e=> LDA 6 e ⟨a,0,none⟩ λf=> af ak 16 #[.agg f,.int .i64 1048576] (λg c=> asI .i64 g λi=> BIF ((decide (i<0))) (aa (.bool true) c) (LDA 6 c ⟨a,0,none⟩ λj=> af ak 18 #[.agg j] (λk l=> asA k λzO=> af ak 17 #[.agg zO,.int .i64 kI,.int .i64 b] (λzX jl=> fV zX λxz DI=> asA xz λm=> asI .i64 DI λMt=> ALC ⟨bm⟩ 51 (λyv jF=> STA 10 jF ⟨yv,0,none⟩ m λta=> LDA 6 ta ⟨a,0,none⟩ λMF=> af ak 18 #[.agg MF] (λHV uD=> asA HV λn=> ALC ⟨dw⟩ 39 (λZI pw=> STA 6 pw ⟨ZI,0,none⟩ n λvD=> LDA 6 vD ⟨ZI,0,none⟩ λo=> af ak 19 #[.agg o,.int .i64 kI,.int .i64 b] (λp re=> fV p λRD YW=> asA RD λq=> asI .i64 YW λQZ=> ALC ⟨bm⟩ 51 (λd EP=> STA 10 EP ⟨d,0,none⟩ q λPs=> LDA 10 Ps ⟨d,0,none⟩ λr=> LDA 10 Ps ⟨yv,0,none⟩ λs=> af ak 20 #[.agg r,.agg s] (λt Mn=> asB t λu=> BIF (!u) (aa (.bool false) Mn) (BIF (QZ !=Mt) (aa (.bool false) Mn) (bB.J10 aa kI b ⟨a,0,none⟩ ⟨yv,0,none⟩ Mt ⟨ZI,0,none⟩ ⟨d,0,none⟩ QZ Mn))) Ps) re) vD) uD) ta) jl) l) c)) e) h
theorem bB.call{aae kI A8 aa h}(H:bB.S aae kI A8 aa h):af ak 4 #[.agg aae,.int .i64 kI,.int .i64 A8] aa h:=qc (Λ:=aS [(10,bB.j10 aa),(16,bB.j16 aa),(27,bB.j27 aa)]) Tryz.func4 (qs qf (qs qf (qs qf (qs qf (qs qf (qs qf (qs qf (qj (bB.j10 aa) qf (qs qf (qs qf (qs qf (qj (bB.j16 aa) qf (qs qf (qs qf (qs qf (qs qf (qs qf (qs qf (qs qf (qj (bB.j27 aa) qf qf)))))))))))))))))))) (qe H)
set_option maxHeartbeats 2000000
theorem T2{s:bI}{n:Int}(h:(s.cj n).2=0):s.ok=true∧1≤n∧n≤6∧(s.cj n).1={ iv with Score:=s,al:=List.replicate n.toNat ln }:=by
 unfold bI.cj at h ⊢
 by_cases h1:s.ok=true
 ·rw[if_pos h1] at h ⊢
  by_cases h2:inR n 1 6=true
  ·rw[if_pos h2] at h ⊢
   have h3:=h2
   simp only[inR,Bool.and_eq_true,decide_eq_true_eq] at h3
   exact⟨h1,h3.1,h3.2,rfl⟩
  ·rw[if_neg h2] at h;cases h
 ·rw[if_neg h1] at h;cases h
theorem Co{s:bI}{n:Int}(h:(s.cj n).2=0):(s.cj n).1.iW∧(s.cj n).1.mO=0:=by
 obtain⟨h1,h2,h3,e⟩:=T2 h
 rw[e]
 have hl:(List.replicate n.toNat ln).length=n.toNat:=List.length_replicate
 refine⟨⟨h1,by show 1≤(List.replicate n.toNat ln).length;omega,by show(List.replicate n.toNat ln).length≤6;omega,⟨Int.le_refl _,by show(0:Int)≤_;omega⟩,⟨Int.le_refl _,by show(0:Int)≤64+0;omega⟩,λv hv=>.inl ?_,λi j Uc hj _=>?_⟩,rfl⟩
 ·have hv:v ∈ List.replicate n.toNat ln:=hv
  rw[(List.mem_replicate.1 hv).2];rfl
 ·have hj:j<(List.replicate n.toNat ln).length:=hj
  show(List.replicate n.toNat ln)[i]!.aT = -1
  rw[getElem!_pos _ i (by omega),List.getElem_replicate];rfl
noncomputable def bI.jq(s:bI)(n at_:Int):aC×Int:=if(s.cj n).2=0 then if inR at_ 0 4096=true then(((s.cj n).1.AX at_.toNat).1,0) else(iv,2) else(iv,(s.cj n).2)
section
variable {h:ab}{s:bI}{n t:Int}
theorem ae9(k:¬(s.cj n).2=0):s.jq n t=(iv,(s.cj n).2):=by unfold bI.jq;rw[if_neg k]
theorem Ou(k:(s.cj n).2=0)(k2:inR t 0 4096=false):s.jq n t=(iv,2):=by unfold bI.jq;rw[if_pos k,k2,if_neg (by decide)]
theorem YM(k:(s.cj n).2=0)(k2:inR t 0 4096=true):s.jq n t=(((s.cj n).1.AX t.toNat).1,0):=by unfold bI.jq;rw[if_pos k,if_pos k2]
theorem LQ{hh:ab}{g3:Nat}{L:List Blk}{k:Int}{r:aC×Int}(M:Mem h hh ((g3,51,⟨bm⟩) :: L))(e:r=(iv,k)):
  STA 10 hh ⟨g3,0,none⟩ ⟨bm⟩ λh1=>LDA 10 h1 ⟨g3,0,none⟩ λa=>fk bz h h1 (.tuple ⟨[.agg a,.int .i64 k]⟩) r.1 r.2:=by
 subst e
 exact M.dH .here rfl (dI rfl) rfl .here λh3 M=>M.df .here rfl ⟨_,[],rfl,Bx,(Mem.start h).grow M.ext⟩
theorem ac3{hh:ab}{g3 g:Nat}{L:List Blk}{p:aC}{k:Nat}(P:Pt bz h hh ⟨g,0,none⟩ ⟨g,51,[],[]⟩ ((g3,51,⟨bm⟩) :: L) p)(R:p.iW)(hn:p.mO=0)(hk:k≤4096):
  bk (cA.B7 (λu h'=>fk bz h h' u (p.AX k).1 0)) ((k:Int),⟨g3,0,none⟩,⟨g,0,none⟩,(0:Int)) hh:=by
 refine loop (λy hh=>∃m:Nat,y=((k:Int),⟨g3,0,none⟩,⟨g,0,none⟩,(m:Int))∧m≤k∧Pt bz h hh ⟨g,0,none⟩ ⟨g,51,[],[]⟩ ((g3,51,⟨bm⟩) :: L) (p.AX m).1) (λy=>((k:Int)-y.2.2.2).toNat) ⟨0,rfl,by omega,P⟩ ?_
 rintro y hh ⟨m,rfl,hm,P⟩
 have hw:=Dl R m
 refine brd (λhc=>?_) λhc=>?_
 ·refine(Uz P (oy R m) (by omega)).mono ?_
  rintro _ h8 ⟨⟨y,rfl,hy⟩,P⟩
  exact cW ⟨⟨m+1,by rw[ag (by omega)],by omega,P⟩,by rw[ag (by omega)];show _<_;simp;omega⟩
 obtain rfl:m=k:=by omega
 obtain⟨cs,BR,M,OR⟩:=P.out
 refine M.df .here (osz OR rfl) ?_
 have M:=M.cnt (W:=(g3,51,⟨bm⟩) :: BR)
 exact M.dH .here (osz OR rfl) (bz.jy OR) rfl .here λh3 M=>M.df .here (osz OR rfl) ⟨_,BR,rfl,OR,M.drop⟩
theorem EX{cs:Array Value}(R0:bU.rd h cs.toList s):af ak 17 #[.agg cs,.int .i64 n,.int .i64 t] (λu h'=>fk bz h h' u (s.jq n t).1 (s.jq n t).2) h:=by
 refine cA.call ((Mem.start h).alc λg1 h1 x1 M=>M.alc λg3 h2 x2 M=>M.df (.there .here) (rsz R0 rfl) ?_)
 refine fk.go M (DN (bU.ext M.ext R0)) λh4 c4 B4 M O4 s4=>jJ (gw (cN (M.alc λLa h5 x5 M=>M.dH .here s4 (bz.jy O4) rfl .here λh6 M=>?_)))
 have M:=M.cnt (W:=(La,51,c4) :: (B4++[(g3,51,⟨bm⟩)]))
 have P:Pt bz h h6 ⟨La,0,none⟩ ⟨La,51,[],[]⟩ [(g3,51,⟨bm⟩)] (s.cj n).1:=Pt.new O4 M
 refine br (λk=>?_) λk=>?_
 ·have k:(s.cj n).2=0:=by simpa using k
  obtain⟨R,hn⟩:=Co k
  refine goX (kQ _ _ _ _) λh7 x7=>bt (brN (λhb=>?_) λzq=>?_)
  ·unfold cA.J4
   rw[Ou k hb]
   exact vu rfl (LQ (r:=(iv,2)) ((P.grow x7).mem) rfl)
  ·have hc:0≤t∧t≤4096:=by simp only[inR,Bool.and_eq_true,decide_eq_true_eq] at zq;exact zq
   obtain⟨m,rfl⟩:=Int.eq_ofNat_of_zero_le hc.1
   unfold cA.J4
   rw[YM k zq,Int.toNat_natCast,k]
   exact cM rfl (ac3 (P.grow x7) R hn (by omega))
 ·have k:¬(s.cj n).2=0:=by simpa using k
  unfold cA.J4
  rw[ae9 k]
  exact vu (by simpa using k) (LQ (r:=(iv,(s.cj n).2)) P.mem rfl)
theorem xm{cs:Array Value}(R0:bU.rd h cs.toList s):af ak 19 #[.agg cs,.int .i64 n,.int .i64 t] (λu h'=>fk bz h h' u (s.jq n t).1 (s.jq n t).2) h:=by
 refine u7.call ((Mem.start h).alc λg1 h1 x1 M=>M.alc λg3 h2 x2 M=>M.df (.there .here) (rsz R0 rfl) ?_)
 refine fk.go M (Dq (bU.ext M.ext R0)) λh4 c4 B4 M O4 s4=>jJ (gw (cN (M.alc λLa h5 x5 M=>M.dH .here s4 (bz.jy O4) rfl .here λh6 M=>?_)))
 have M:=M.cnt (W:=(La,51,c4) :: (B4++[(g3,51,⟨bm⟩)]))
 have P:Pt bz h h6 ⟨La,0,none⟩ ⟨La,51,[],[]⟩ [(g3,51,⟨bm⟩)] (s.cj n).1:=Pt.new O4 M
 refine br (λk=>?_) λk=>?_
 ·have k:¬(s.cj n).2=0:=by simpa using k
  exact LQ P.mem (ae9 k)
 have k:(s.cj n).2=0:=by simpa using k
 obtain⟨R,hn⟩:=Co k
 refine goX (js _ _ _ _) λh7 x7=>bt (brN (λhb=>LQ ((P.grow x7).mem) (Ou k hb)) λzq=>?_)
 have hc:0≤t∧t≤4096:=by simp only[inR,Bool.and_eq_true,decide_eq_true_eq] at zq;exact zq
 obtain⟨m,rfl⟩:=Int.eq_ofNat_of_zero_le hc.1
 rw[YM k zq,Int.toNat_natCast]
 refine(agw (P.grow x7) R (by omega) (by omega)).mono ?_
 rintro _ h7 ⟨b,c,B,rfl,O,P⟩
 obtain⟨c7,B7,M,O7⟩:=P.out
 refine lR (M.df .here (osz O7 rfl) ?_)
 have M:=M.cnt (W:=(g3,51,⟨bm⟩) :: B7)
 exact M.dH .here (osz O7 rfl) (bz.jy O7) rfl .here λh8 M=>M.df .here (osz O7 rfl) ⟨_,B7,rfl,O7,M.drop⟩
end
theorem Oh(xs:List Nat):ao xs≤8*cf xs:=by unfold ao cf;omega
section
variable {h:ab}
theorem zp{ca cb:Array Value}{x:aY}(Ra:bQ.rd h ca.toList x)(Rb:bQ.rd h cb.toList x):af ak 196 #[.agg ca,.agg cb] (λu h'=>u = .bool true∧Ext h h') h:=by
 refine yI.call (gD Ra λg1 h1 x1 A=>gD (bQ.ext x1 Rb) λg2 h2 x2 B=>?_)
 have A:=A.ext x2
 have X:=x1.trans x2
 refine A.oL2 λb1 l1 c1 S1=>B.oL2 λb2 l2 c2 S2=>goX (tW S1 S2) λh' x'=>bt (cM rfl ?_)
 have A:=A.ext x'
 have B:=B.ext x'
 have X:=X.trans x'
 refine A.oI2 (B.oI2 (cM (by simp) ?_))
 exact⟨rfl,X⟩
def kN(x:aY):Nat:=cf x.ae
theorem th{ca cb:Array Value}{x:cz}(Ra:cx.rd h ca.toList x)(Rb:cx.rd h cb.toList x):af ak 197 #[.agg ca,.agg cb] (λu h'=>u = .bool true∧Ext h h') h:=by
 refine ug.call (gD Ra λg1 h1 x1 A=>gD (cx.ext x1 Rb) λg2 h2 x2 B=>?_)
 have A:=A.ext x2
 have X:=x1.trans x2
 refine A.oI2 (B.oI2 (cM (by simp) ?_))
 refine A.jH dU rfl λc1 R1=>B.jH dU rfl λc2 R2=>goX (FU R1 R2) λh' x'=>bt (cM rfl ?_)
 have A:=A.ext x'
 have B:=B.ext x'
 have X:=X.trans x'
 refine A.jH dx rfl λc1 R1=>B.jH dx rfl λc2 R2=>goX (FT R1 R2) λh' x'=>bt (cM rfl ?_)
 have A:=A.ext x'
 have B:=B.ext x'
 have X:=X.trans x'
 exact⟨rfl,X⟩
end
def gk.B4(aa:VH)(a:(Option Addr×Nat×Nat×Option Addr×Nat×Nat×Int)->ab->Prop):Option Addr×Nat×Nat×Option Addr×Nat×Nat×Int->ab->Prop |(aO,aB,bH,jV,jb,kY,i_5),h=> BIF ((decide (i_5<(aB:Int)))) (bd aO i_5 aB λb=> LDA 2 h ((Addr.add b (i_5.toNat*2))) λc=> bd jV i_5 jb λd=> LDA 2 h ((Addr.add d (i_5.toNat*2))) λzO=> af ak 196 #[.agg c,.agg zO] (λzX jl=> asB zX λPV=> BIF (!PV) (aa (.bool false) jl) (a (aO,aB,bH,jV,jb,kY,((IntKind.i64.wrap (i_5+1)))) jl)) h) (aa (.bool true) h)
def gk.g4(fr:Frame):Option Addr×Nat×Nat×Option Addr×Nat×Nat×Int:=((gLb (ah fr 0)),(gLl (ah fr 0)),(gLc (ah fr 0)),(gLb (ah fr 1)),(gLl (ah fr 1)),(gLc (ah fr 1)),(gI (ah fr 5)))
def gk.l4(aa:VH):=gg (kds 27 [(0,.l),(1,.l),(5,.i .i64)]) λfr=>bk (gk.B4 aa) (gk.g4 fr)
def gk.S(aO:Option Addr)(aB bH:Nat)(jV:Option Addr)(jb kY:Nat)(aa:VH)(h:ab):=BIF ((aB:Int) !=(jb:Int)) (aa (.bool false) h) (bk (gk.B4 aa) (aO,aB,bH,jV,jb,kY,0) h)
theorem gk.call{aO aB bH jV jb kY aa h}(H:gk.S aO aB bH jV jb kY aa h):af ak 198 #[.slice aO aB bH,.slice jV jb kY] aa h:=qc (Λ:=aS [(1000004,gk.l4 aa)]) Tryz.func198 (qs qf (qs qf (qs (qs qf (Rq.block (ql (gk.l4 aa) (qg (g:=gk.g4) (Λ:=λa=>aS []) (λ_ _ _=>by kernel_rfl) (λa=>qf))))) qf))) (qe H)
def fb.B2(aa:VH)(b:(Option Addr×Nat×Nat×Int×Int)->ab->Prop):Option Addr×Nat×Nat×Int×Int->ab->Prop |(aO,aB,bH,k_1,i_5),h=> BIF ((decide (i_5<(aB:Int)))) (bd aO i_5 aB λc=> oL (cell h ((Addr.add c (i_5.toNat*2)))) λVN UG ZU=> af ak 14 #[.slice VN UG ZU,.int .i64 k_1] (λd e=> asI .i64 d λa=> bd aO i_5 aB λf=> ST1 e ((Addr.add ((Addr.add f (i_5.toNat*2))) 1)) (.int .i64 a) λg=> b (aO,aB,bH,((IntKind.i64.wrap (a+1))),((IntKind.i64.wrap (i_5+1)))) g) h) (aa (.int .i64 k_1) h)
def fb.g2(fr:Frame):Option Addr×Nat×Nat×Int×Int:=((gLb (ah fr 0)),(gLl (ah fr 0)),(gLc (ah fr 0)),(gI (ah fr 1)),(gI (ah fr 5)))
def fb.l2(aa:VH):=gg (kds 27 [(0,.l),(1,.i .i64),(5,.i .i64)]) λfr=>bk (fb.B2 aa) (fb.g2 fr)
def fb.S(aO:Option Addr)(aB bH:Nat)(k_1:Int)(aa:VH)(h:ab):=bk (fb.B2 aa) (aO,aB,bH,k_1,0) h
theorem fb.call{aO aB bH k_1 aa h}(H:fb.S aO aB bH k_1 aa h):af ak 85 #[.slice aO aB bH,.int .i64 k_1] aa h:=qc (Λ:=aS [(1000002,fb.l2 aa)]) Tryz.func85 (qs qf (qs (qs qf (Rq.block (ql (fb.l2 aa) (qg (g:=fb.g2) (Λ:=λa=>aS []) (λ_ _ _=>by kernel_rfl) (λa=>qf))))) qf)) (qe H)
def fa.B2(aa:VH)(c:(Option Addr×Nat×Nat×Int×Int)->ab->Prop):Option Addr×Nat×Nat×Int×Int->ab->Prop |(aO,aB,bH,k_1,i_5),h=> BIF ((decide (i_5<(aB:Int)))) (bd aO i_5 aB λd=> oL (cell h ((Addr.add d (i_5.toNat*2)))) λVN UG ZU=> af ak 15 #[.slice VN UG ZU,.int .i64 k_1] (λe a=> asI .i64 e λb=> BIF ((decide (b<0))) (aa (.int .i64 (-1)) a) (bd aO i_5 aB λf=> oI .i64 (cell a ((Addr.add ((Addr.add f (i_5.toNat*2))) 1))) λg=> BIF (g !=b) (aa (.int .i64 (-1)) a) (c (aO,aB,bH,((IntKind.i64.wrap (b+1))),((IntKind.i64.wrap (i_5+1)))) a))) h) (aa (.int .i64 k_1) h)
def fa.g2(fr:Frame):Option Addr×Nat×Nat×Int×Int:=((gLb (ah fr 0)),(gLl (ah fr 0)),(gLc (ah fr 0)),(gI (ah fr 1)),(gI (ah fr 5)))
def fa.l2(aa:VH):=gg (kds 31 [(0,.l),(1,.i .i64),(5,.i .i64)]) λfr=>bk (fa.B2 aa) (fa.g2 fr)
def fa.S(aO:Option Addr)(aB bH:Nat)(k_1:Int)(aa:VH)(h:ab):=bk (fa.B2 aa) (aO,aB,bH,k_1,0) h
theorem fa.call{aO aB bH k_1 aa h}(H:fa.S aO aB bH k_1 aa h):af ak 89 #[.slice aO aB bH,.int .i64 k_1] aa h:=qc (Λ:=aS [(1000002,fa.l2 aa)]) Tryz.func89 (qs qf (qs (qs qf (Rq.block (ql (fa.l2 aa) (qg (g:=fa.g2) (Λ:=λa=>aS []) (λ_ _ _=>by kernel_rfl) (λa=>qf))))) qf)) (qe H)
def yH.S(a_0:Array Value)(b_1:Array Value)(aa:VH)(h:ab):=ALC a_0 118 (λa e=> ALC b_1 118 (λb d=> oL (cell d ⟨a,0,none⟩) λII HR PA=> oL (cell d ⟨b,0,none⟩) λUH UI f=> af ak 198 #[.slice II HR PA,.slice UH UI f] (λg c=> asB g λi=> BIF (!i) (aa (.bool false) c) (oL (cell c ⟨a,1,none⟩) λzU uf Du=> oL (cell c ⟨b,1,none⟩) λpQ nT sH=> af ak 198 #[.slice zU uf Du,.slice pQ nT sH] (λyQ hP=> asB yQ λMH=> BIF (!MH) (aa (.bool false) hP) (oL (cell hP ⟨a,2,none⟩) λNC Lv UA=> oL (cell hP ⟨b,2,none⟩) λLw Lx ND=> af ak 11 #[.slice NC Lv UA,.slice Lw Lx ND] (λDJ jF=> asB DJ λMI=> BIF (!MI) (aa (.bool false) jF) (LDA 6 jF ⟨a,3,none⟩ λMF=> LDA 6 jF ⟨b,3,none⟩ λWm=> af ak 197 #[.agg MF,.agg Wm] (λGZ nR=> asB GZ λj=> BIF (!j) (aa (.bool false) nR) (oB (cell nR ⟨a,9,none⟩) λk=> oB (cell nR ⟨b,9,none⟩) λl=> BIF (!(k==l)) (aa (.bool false) nR) (oF .f32 (cell nR ⟨a,10,none⟩) λIY=> FFC .f32 IY .f64 λBz=> oF .f32 (cell nR ⟨b,10,none⟩) λFs=> FFC .f32 Fs .f64 λOB=> af ak 37 #[.float .f64 Bz,.float .f64 OB] (λYW Gg=> asB YW λm=> BIF (!m) (aa (.bool false) Gg) (oF .f32 (cell Gg ⟨a,11,none⟩) λn=> FFC .f32 n .f64 λo=> oF .f32 (cell Gg ⟨b,11,none⟩) λRI=> FFC .f32 RI .f64 λTa=> af ak 37 #[.float .f64 o,.float .f64 Ta] (λp zR=> asB p λq=> BIF (!q) (aa (.bool false) zR) (oF .f32 (cell zR ⟨a,12,none⟩) λr=> FFC .f32 r .f64 λVd=> oF .f32 (cell zR ⟨b,12,none⟩) λVe=> FFC .f32 Ve .f64 λs=> af ak 37 #[.float .f64 Vd,.float .f64 s] (λt Lh=> asB t λu=> BIF (!u) (aa (.bool false) Lh) (aa (.bool true) Lh)) zR)) Gg)) nR))) jF)) hP)) c)) d) e) h
theorem yH.call{a_0 b_1 aa h}(H:yH.S a_0 b_1 aa h):af ak 126 #[.agg a_0,.agg b_1] aa h:=qk Tryz.func126 H
section
variable {h:ab}
theorem CN:0<bQ.sz:=by decide
def dV(xs:List aY):Nat:=xs.length+nL kN xs
theorem FV{b1 b2:Option Addr}{l1 c1 l2 c2:Nat}{xs:List aY}(S1:SlR bQ h b1 l1 c1 xs)(S2:SlR bQ h b2 l2 c2 xs):af ak 198 #[.slice b1 l1 c1,.slice b2 l2 c2] (λu h'=>u = .bool true∧Ext h h') h:=by
 have e1:=S1.len
 have e2:=S2.len
 have h2:=S1.2.1
 have h3:=S1.2.2.1
 have:=cu
 obtain rfl:l1=l2:=by omega
 refine gk.call (cM (by simp) ?_)
 refine loop (λx hh=>∃n:Nat,x=(b1,l1,c1,b2,l1,c2,(n:Int))∧n≤l1∧Ext h hh) (λx=>(l1-x.2.2.2.2.2.2).toNat) ⟨0,rfl,by omega,Ext.refl _⟩ ?_
 rintro x hh ⟨n,rfl,hn,X⟩
 refine brd (λhc=>?_) λhc=>⟨rfl,X⟩
 refine(S1.ext X).idx CN (by omega) (by omega) λa Ra=>Ra.jc rfl λca R1=>(S2.ext X).idx CN (by omega) (by omega) λa' Rb=>Rb.jc rfl λcb R2=>goX (zp R1 R2) λh' x'=>bt (cM rfl ?_)
 rw[ag (by omega)]
 exact⟨⟨n+1,rfl,by omega,X.trans x'⟩,by show _<_;simp;omega⟩
def aN(xs:List aY):Nat:=nL (λr=>r.ae.length+1) xs
def v9(r:aY)(k:Nat):aY:=⟨eu r.ae k,((k+r.ae.length:Nat):Int)⟩
def nC(xs:List aY)(k:Nat):List aY:=mkL v9 (λr=>r.ae.length+1) xs k
theorem Oi(xs:List aY):aN xs≤8*dV xs:=by
 unfold aN dV
 induction xs with
 | nil=>simp[nL]
 | cons x xs ih=>
  have:kN x=x.ae.length:=rfl
  simp only[nL,List.length_cons] at *;omega
theorem Tf(x:aY):kN x=x.ae.length:=rfl
theorem Ci{h0:ab}{B L:List Blk}{b:Option Addr}{l c:Nat}{xs:List aY}(O0:SlO 109 bQ B b l c xs)(M0:Mem h0 h (B++L))(k:Nat)(ES:dV xs≤1048576)(hk:k+aN xs≤1073741824):
  af ak 85 #[.slice b l c,.int .i64 (k:Int)] (λu h'=>u = .int .i64 ((k+aN xs:Nat):Int)∧∃B',SlO 109 bQ B' b l c (nC xs k)∧Mem h0 h' (B'++L)) h:=by
 have hx:=O0.len
 have hw:dV xs=xs.length+nL kN xs:=rfl
 refine fb.call ?_
 refine loop (λx hh=>∃(n:Nat) (B:List Blk),x=(b,l,c,((k+nL (λr=>r.ae.length+1) (xs.take n):Nat):Int),(n:Int))∧n≤l∧SlO 109 bQ B b l c (mkL v9 (λr=>r.ae.length+1) (xs.take n) k++xs.drop n)∧Mem h0 hh (B++L)) (λx=>(l-x.2.2.2.2).toNat) ⟨0,B,rfl,by omega,by simpa [mkL] using O0,M0⟩ ?_
 rintro x hh ⟨n,B,rfl,hn,O,M⟩
 refine brd (λhc=>?_) λhc=>?_
 ·have h4:=zB (n:=λr:aY=>r.ae.length+1) (xs:=xs) (i:=n) (by omega)
  have h5:nL (λr:aY=>r.ae.length+1) (xs.take (n+1))≤aN xs:=oQ xs (n+1)
  have h6:kN xs[n]! ≤ nL kN xs:=GC (by omega)
  rw[Tf] at h6
  obtain⟨a0,F',L',rfl,P,hs,close⟩:=O.elem M (i:=n) (by omega)
  rw[LH (by omega)] at P
  refine idxs (by omega) (by omega) ?_
  rw[Int.toNat_natCast,show n*2=n*bQ.sz from rfl]
  obtain⟨b2,l2,c2,Bs,N,eb,Ms,Os,Fk,back⟩:=P.sl1 lK
  refine o_l eb ((je Os Ms (k+nL (λr=>r.ae.length+1) (xs.take n)) (by unfold cf;omega) (by unfold ao;omega)).mono ?_)
  rintro _ h' ⟨rfl,B',O',M'⟩
  have P:=(back _ _ _ _ O' M').1
  refine cN (idxs (by omega) (by omega) ?_)
  refine P.stI λWS P=>?_
  obtain⟨B',O',M'⟩:=close _ _ _ P
  have st:=Ck (mk:=v9) (n:=λr:aY=>r.ae.length+1) (k:=k) (xs:=xs) (i:=n) (by omega)
  have O':SlO 109 bQ B' (some a0) l c ((mkL v9 (λr=>r.ae.length+1) (xs.take n) k++xs.drop n).set n (v9 xs[n]! (k+nL (λr=>r.ae.length+1) (xs.take n)))):=O'
  rw[st] at O'
  have e7:ao xs[n]!.ae=xs[n]!.ae.length:=rfl
  rw[ag (by omega),ag (by omega)]
  exact⟨⟨n+1,B',by rw[h4,e7];simp only[Nat.add_assoc],by omega,O',M'⟩,by show _<_;simp;omega⟩
 ·obtain rfl:n=l:=by omega
  have e:xs.take n=xs:=by rw[← hx];exact List.take_length
  have e2:xs.drop n=[]:=List.drop_of_length_le (by omega)
  rw[e,e2,List.append_nil] at O
  rw[e]
  exact⟨rfl,B,O,M⟩
theorem C9{b:Option Addr}{l c:Nat}{xs:List aY}(k:Nat)(S:SlR bQ h b l c (nC xs k))(ES:dV xs≤1048576)(hk:k+aN xs≤1073741824):
  af ak 89 #[.slice b l c,.int .i64 (k:Int)] (λu h'=>u = .int .i64 ((k+aN xs:Nat):Int)∧Ext h h') h:=by
 have hx:xs.length=l:=by have:=S.len;rwa [nC,vZ] at this
 have hw:dV xs=xs.length+nL kN xs:=rfl
 refine fa.call ?_
 refine loop (λx hh=>∃n:Nat,x=(b,l,c,((k+nL (λr=>r.ae.length+1) (xs.take n):Nat):Int),(n:Int))∧n≤l∧Ext h hh) (λx=>(l-x.2.2.2.2).toNat) ⟨0,rfl,by omega,Ext.refl _⟩ ?_
 rintro x hh ⟨n,rfl,hn,X⟩
 refine brd (λhc=>?_) λhc=>?_
 ·have h4:=zB (n:=λr:aY=>r.ae.length+1) (xs:=xs) (i:=n) (by omega)
  have h5:nL (λr:aY=>r.ae.length+1) (xs.take (n+1))≤aN xs:=oQ xs (n+1)
  have h6:kN xs[n]! ≤ nL kN xs:=GC (by omega)
  rw[Tf] at h6
  have hm:(nC xs k)[n]! = v9 xs[n]! (k+nL (λr=>r.ae.length+1) (xs.take n)):=by unfold nC;rw[Fo (by omega)]
  have e7:ao xs[n]!.ae=xs[n]!.ae.length:=rfl
  refine(S.ext X).idx CN (by omega) (by omega) λa Ra=>?_
  rw[Int.toNat_natCast,hm] at Ra
  refine Ra.oL1 λb2 l2 c2 S2=>goX (jd (xs:=xs[n]!.ae) _ S2 (by unfold cf;omega) (by unfold ao;omega)) λh' x'=>cN (cM (decide_eq_false (by omega)) ?_)
  refine((S.ext X).ext x').idx CN (by omega) (by omega) λa Ra=>?_
  rw[Int.toNat_natCast,hm] at Ra
  refine Ra.oI (cM (bne_self_eq_false _) ?_)
  rw[ag (by omega),ag (by omega)]
  exact⟨⟨n+1,by rw[h4,e7];simp only[Nat.add_assoc],by omega,X.trans x'⟩,by show _<_;simp;omega⟩
 ·obtain rfl:n=l:=by omega
  have e:xs.take n=xs:=by rw[← hx];exact List.take_length
  rw[e]
  exact⟨rfl,X⟩
theorem TT{ca cb:Array Value}{x:cp}(Ra:dX.rd h ca.toList x)(Rb:dX.rd h cb.toList x):af ak 126 #[.agg ca,.agg cb] (λu h'=>u = .bool true∧Ext h h') h:=by
 refine yH.call (gD Ra λg1 h1 x1 A=>gD (dX.ext x1 Rb) λg2 h2 x2 B=>?_)
 have A:=A.ext x2
 have X:=x1.trans x2
 refine A.oL2 λb1 l1 c1 S1=>B.oL2 λb2 l2 c2 S2=>goX (FV S1 S2) λh' x'=>bt (cM rfl ?_)
 have A:=A.ext x'
 have B:=B.ext x'
 have X:=X.trans x'
 refine A.oL2 λb1 l1 c1 S1=>B.oL2 λb2 l2 c2 S2=>goX (FV S1 S2) λh' x'=>bt (cM rfl ?_)
 have A:=A.ext x'
 have B:=B.ext x'
 have X:=X.trans x'
 refine A.oL2 λb1 l1 c1 S1=>B.oL2 λb2 l2 c2 S2=>goX (tW S1 S2) λh' x'=>bt (cM rfl ?_)
 have A:=A.ext x'
 have B:=B.ext x'
 have X:=X.trans x'
 refine A.jH gK rfl λc1 R1=>B.jH gK rfl λc2 R2=>goX (th R1 R2) λh' x'=>bt (cM rfl ?_)
 have A:=A.ext x'
 have B:=B.ext x'
 have X:=X.trans x'
 refine A.oB2 (B.oB2 (cM (by simp) ?_))
 refine A.oF2 λy hy=>cg hy λr1 k1=>B.oF2 λz hz=>cg hz λr2 k2=>goX (iA k1 k2 _) λh' x'=>bt (cM rfl ?_)
 have A:=A.ext x'
 have B:=B.ext x'
 have X:=X.trans x'
 refine A.oF2 λy hy=>cg hy λr1 k1=>B.oF2 λz hz=>cg hz λr2 k2=>goX (iA k1 k2 _) λh' x'=>bt (cM rfl ?_)
 have A:=A.ext x'
 have B:=B.ext x'
 have X:=X.trans x'
 refine A.oF2 λy hy=>cg hy λr1 k1=>B.oF2 λz hz=>cg hz λr2 k2=>goX (iA k1 k2 _) λh' x'=>bt (cM rfl ?_)
 have A:=A.ext x'
 have B:=B.ext x'
 have X:=X.trans x'
 exact⟨rfl,X⟩
def uB(x:cp):Nat:=dV x.aW+dV x.Left+cf x.aL
end
end Go.Sx
