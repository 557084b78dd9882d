/- Lemmas. -/
import Derived.Test.YthgnpepchedpbaaGreatDoorLk65
import Derived.Test.YthgnpepchedpbaaGreatDoorLk15
import Derived.Test.YthgnpepchedpbaaGreatDoorH1
import Derived.Test.YthgnpepchedpbaaGreatDoorTab
import Derived.Test.YthgnpepchedpbaaGreatDoorLr3
set_option linter.unusedVariables false
set_option linter.unusedSimpArgs false
namespace Go.Sx
open Go.Proofs
set_option maxRecDepth 100000
set_option maxHeartbeats 2000000
noncomputable def aC.block(p:aC):aC×List Nat×Int:=if p.may 16 16=0 then((p.AX 16).1,(p.AX 16).2,0) else(iv,alK,p.may 16 16)
noncomputable def aC.nth(p:aC)(i:Nat):Nat:=(p.AX i).1.step.2
theorem ap6(p:aC):∀k,(p.AX k).2=(List.range k).map p.nth
 | 0=>rfl
 | k+1=>by
  show(p.AX k).2++[_]=_
  rw[ap6 p k,List.range_succ,List.map_append];rfl
theorem auB(p:aC){m:Nat}(hm:m=16):pR p.nth alK m=(p.AX m).2:=by
 have hz:alK.length=m:=by rw[hm];rfl
 rw[NW (by rw[hz];exact Nat.le_refl _),hz,ap6]
section
variable {h:ab}{p:aC}
def PFB(h h':ab)(u:Value)(r:aC×List Nat×Int):Prop:=∃cs B cb,u = .tuple ⟨[.agg cs,.agg cb,.int .i64 r.2.2]⟩∧bz.ow B cs.toList r.1∧FA 16 cb r.2.1∧Mem h h' B
theorem PFB.go{P:Program}{f:FuncId}{args:Array Value}{r:aC×List Nat×Int}{hb h:ab}{L:List Blk}{K:Value->ab->Prop}(M:Mem hb h L)(c:af P f args (λu h'=>PFB h h' u r) h)(H:∀h' cs B cb,Mem hb h' (B++L)->bz.ow B cs.toList r.1->cs.size=bz.sz->FA 16 cb r.2.1->K (.tuple ⟨[.agg cs,.agg cb,.int .i64 r.2.2]⟩) h'):af P f args K h:=
 c.mono λu h' ⟨cs,B,cb,e,O,S,N⟩=>by subst e;exact H h' cs B cb (M.join N) O (by simpa using bz.jX O) S
theorem aqE{h0 hh:ab}{g3 g5:Nat}{L:List Blk}{k:Int}{r:aC×List Nat×Int}(M:Mem h0 hh ((g5,69,⟨Kx⟩) :: (g3,51,⟨bm⟩) :: L))(e:r=(iv,alK,k)):
  STA 10 hh ⟨g3,0,none⟩ ⟨bm⟩ λh1=>STA 16 h1 ⟨g5,0,none⟩ ⟨Kx⟩ λh2=>LDA 10 h2 ⟨g3,0,none⟩ λa=>LDA 16 h2 ⟨g5,0,none⟩ λb=>PFB h0 h2 (.tuple ⟨[.agg a,.agg b,.int .i64 k]⟩) r:=by
 subst e
 refine M.dH (.there .here) rfl (dI rfl) rfl (.there .here) λh3 M=>M.dH .here rfl (dI rfl) rfl .here λh4 M=>?_
 exact M.df (.there .here) rfl (M.df .here rfl ⟨_,[],_,rfl,Bx,FA.zero,(Mem.start h0).grow M.ext⟩)
theorem avh(k:¬p.may 16 16=0):p.block=(iv,alK,p.may 16 16):=by unfold aC.block;rw[if_neg k]
theorem atI{m:Nat}(hm:m=16)(k:p.may 16 16=0):p.block=((p.AX m).1,(p.AX m).2,0):=by unfold aC.block;rw[if_pos k,hm]
theorem awQ{iD:List Nat}{b:Option Addr}{m c:Nat}{F:Array Value->Prop}(hm:m=16)(S:SlR (rF .f32) h b m c iD)(H:∀cs,FA 16 cs iD->F cs):AAP b 16 m λa=>LDA 16 h a F:=by
 subst hm
 obtain⟨hl,_,_,ws,C,R⟩:=S
 have A:FA 16 ⟨ws⟩ iD:=⟨hl,H3 R⟩
 have hs:ws.length=16:=A.size
 obtain⟨a,rfl⟩:=C.base (by omega)
 refine⟨Nat.le_refl _,⟨ws⟩,hs,λj hj=>?_,H _ A⟩
 obtain⟨a',e,e2⟩:=C j (by omega)
 cases e
 rw[e2];simp
theorem an7{cs:Array Value}(R0:bz.rd h cs.toList p):af ak 29 #[.agg cs] (λu h'=>PFB h h' u p.block) h:=by
 refine alu.call ((Mem.start h).alc λg1 h1 x1 M=>M.alc λg3 h2 x2 M=>M.alc λg5 h2 x2 M=>?_)
 have R:RdP bz h2 ⟨g1,0,none⟩ p:=M.rdp (.there (.there .here)) (bz.ext M.ext R0)
 refine goM M (ar0 R (by decide)) λh3 M=>cN (br (λk=>aqE M (avh (by simpa using k))) λk=>?_)
 have k:p.may 16 16=0:=by simpa using k
 obtain⟨m,ats⟩:∃m:Nat,m=16:=⟨_,rfl⟩
 rw[atI ats k]
 obtain⟨ok,c1,c2,c3⟩:=akx k
 obtain⟨Ru,n1,n2⟩:=ahn ok
 have R:RdP bz h3 ⟨g1,0,none⟩ p:=M.rdp (.there (.there .here)) (bz.ext M.ext R0)
 refine mN.go M (apc R (alk ok)) λh4 c4 B4 M O4 s4=>gw (M.alc λyv h5 x5 M=>M.dH .here s4 (bz.jy O4) rfl .here λh6 M=>?_)
 refine M.alc λg20 h7 x7 M=>M.dH .here rfl (dI rfl) rfl .here λh7 M=>?_
 have M:Mem h h7 ((g20,69,⟨Kx⟩) :: (yv,51,c4) :: _):=M
 have P:Pt bz h h7 ⟨yv,0,none⟩ ⟨yv,51,[],[]⟩ ((g20,69,⟨Kx⟩) :: [(g5,69,⟨Kx⟩),(g3,51,⟨bm⟩)]) p:=Pt.new O4 (M.cnt λp=>by simp only[bN,bu,bZ] at *;omega)
 refine loop (λy hh=>∃(n:Nat) (co:Array Value),y=(⟨g3,0,none⟩,⟨g5,0,none⟩,⟨yv,0,none⟩,⟨g20,0,none⟩,(n:Int))∧n≤16∧FA 16 co (pR p.nth alK n) ∧
  Pt bz h hh ⟨yv,0,none⟩ ⟨yv,51,[],[]⟩ ((g20,69,co) :: [(g5,69,⟨Kx⟩),(g3,51,⟨bm⟩)]) (p.AX n).1)
  (λy=>(16-y.2.2.2.2).toNat) ⟨0,_,rfl,by omega,by rw[zy];exact FA.zero,P⟩ ?_
 rintro y hh ⟨n,co,rfl,hn,Fo,P⟩
 have hw:=Dl Ru n
 refine brd (λhc=>?_) λhc=>?_
 ·refine(Uz P (oy Ru n) (by omega)).mono ?_
  rintro _ h8 ⟨⟨y,rfl,hy⟩,P⟩
  refine cW (idx (by omega) (by omega) (Pt.ai8 P .here .here Fo (i:=n) (by omega) hy λh9 co' Fo' P=>⟨⟨n+1,co',by rw[ag (by omega)],by omega,?_,P⟩,by rw[ag (by omega)];show _<_;simp;omega⟩))
  rw[← avH p.nth (by omega)];exact Fo'
 obtain rfl:n=m:=by omega
 rw[auB p ats] at Fo
 obtain⟨cs,B,M,O⟩:=P.out
 refine M.df .here (osz O rfl) (M.df (.there (gi.skip .here)) Fo.size ?_)
 have M:=M.cnt (W:=(g3,51,⟨bm⟩) :: (g5,69,⟨Kx⟩) :: (g20,69,co) :: B)
 refine M.dH .here (osz O rfl) (bz.jy O) rfl .here λh3 M2=>M.IT (.there (.there .here)) M2 (.there (.there .here)) (M2.dH (.there .here) Fo.size Fo.one rfl (.there .here) λh4 M=>?_)
 exact M.df .here (osz O rfl) (M.df (.there .here) Fo.size ⟨_,B,_,rfl,O,Fo,M.drop.drop.drop⟩)
theorem amN{cs:Array Value}(R0:bz.rd h cs.toList p):af ak 30 #[.agg cs] (λu h'=>PFB h h' u p.block) h:=by
 refine alQ.call ((Mem.start h).alc λg1 h1 x1 M=>M.alc λg3 h2 x2 M=>M.alc λg5 h2 x2 M=>?_)
 have bad:∀{c:Int},p.may 16 16=c->c≠0->p.block=(iv,alK,c):=λe hc=>by rw[avh (by rw[e];exact hc),e]
 have zq:inR 16 0 16=true:=by decide
 refine M.df (.there (.there .here)) (rsz R0 rfl) (goM M (akQ (bz.ext M.ext R0)) λh3 M=>bt (brN (λe=>aqE M (bad (by unfold aC.may;rw[e,if_neg (by decide)]) (by decide))) λok=>?_))
 obtain⟨Ru,n1,n2⟩:=ahn ok
 refine M.df (.there (.there .here)) (rsz R0 rfl) (goM M (aqZ (bz.ext M.ext R0) ⟨n1,n2⟩ (by omega)) λh4 M=>bt (brd (λe=>aqE M (bad (by unfold aC.may;rw[if_pos ok,if_pos zq,if_pos e]) (by decide))) λe=>?_))
 have k:p.may 16 16=0:=by unfold aC.may;rw[if_pos ok,if_pos zq,if_neg e]
 obtain⟨m,ats⟩:∃m:Nat,m=16:=⟨_,rfl⟩
 rw[atI ats k]
 refine M.df (.there (.there .here)) (rsz R0 rfl) (mN.go M (akr (bz.ext M.ext R0) (alk ok)) λh5 c5 B5 M O5 s5=>gw ?_)
 have M:=M.cnt (W:=(g1,51,cs) :: (B5++[(g5,69,⟨Kx⟩),(g3,51,⟨bm⟩)]))
 refine M.dH .here s5 (bz.jy O5) (rsz R0 rfl) .here λh6 M=>?_
 have P:Pt bz h h6 ⟨g1,0,none⟩ ⟨g1,51,[],[]⟩ [(g5,69,⟨Kx⟩),(g3,51,⟨bm⟩)] p:=Pt.new O5 M
 have hc:=agw (k:=m) P Ru (by omega) (by omega)
 rw[show((m:Nat):Int)=16 by omega] at hc
 refine hc.mono ?_
 rintro _ h7 ⟨b,c,B,rfl,O,P⟩
 refine lR (awQ ats (O.look P.mem (List.sublist_append_left _ _)) λco Fo=>?_)
 refine(Mem.start h7).alc λZJ h8 x8 N=>N.dH .here Fo.size Fo.one rfl .here λh9 N=>?_
 have P:=P.join N
 obtain⟨c7,B7,M,O7⟩:=P.out
 refine M.df .here (osz O7 rfl) (M.df (.there (gi.skip .here)) Fo.size ?_)
 have M:=M.cnt (W:=(g3,51,⟨bm⟩) :: (g5,69,⟨Kx⟩) :: (ZJ,69,co) :: B7)
 refine M.dH .here (osz O7 rfl) (bz.jy O7) rfl .here λh3 M2=>M.IT (.there (.there .here)) M2 (.there (.there .here)) (M2.dH (.there .here) Fo.size Fo.one rfl (.there .here) λh4 M=>?_)
 exact M.df .here (osz O7 rfl) (M.df (.there .here) Fo.size ⟨_,B7,_,rfl,O7,Fo,M.drop.drop.drop⟩)
end
theorem Oh(xs:List Nat):ao xs≤8*cf xs:=by unfold ao cf;omega
section
variable {h:ab}
theorem zp{ca cb:Array Value}{x:aY}(Ra:bQ.rd h ca.toList x)(Rb:bQ.rd h cb.toList x):af ak 196 #[.agg ca,.agg cb] (λu h'=>u = .bool true∧Ext h h') h:=by
 refine yI.call (gD Ra λg1 h1 x1 A=>gD (bQ.ext x1 Rb) λg2 h2 x2 B=>?_)
 have A:=A.ext x2
 have X:=x1.trans x2
 refine A.oL2 λb1 l1 c1 S1=>B.oL2 λb2 l2 c2 S2=>goX (tW S1 S2) λh' x'=>bt (cM rfl ?_)
 have A:=A.ext x'
 have B:=B.ext x'
 have X:=X.trans x'
 refine A.oI2 (B.oI2 (cM (by simp) ?_))
 exact⟨rfl,X⟩
def kN(x:aY):Nat:=cf x.ae
theorem aj0{cs:Array Value}{x:aY}(R0:bQ.rd h cs.toList x)(left:Nat)(hl:left≤1048576):af ak 199 #[.agg cs,.int .i64 (left:Int)] (λu h'=>u = .int .i64 (CL left (kN x))∧Ext h h') h:=by
 have hw:kN x=cf x.ae:=rfl
 refine ai6.call (gD R0 λg1 h1 X R=>?_)
 refine R.oL2 λb1 l1 c1 S1=>goX (Jc S1 (left) (by omega)) λh' x'=>cN (Ho (λhc=>⟨by rw[nO (by omega)],X.trans x'⟩) λhc=>?_)
 rw[ly hc]
 have R:=R.ext x'
 have X:=X.trans x'
 exact⟨by rw[ly (by omega)];congr 2 <;> omega,X⟩
theorem aj1{cs:Array Value}{x:aY}(R0:bQ.rd h cs.toList x)(ES:kN x≤1048576):af ak 209 #[.agg cs] (λu h'=>mN bQ h h' u x) h:=by
 have hw:kN x=cf x.ae:=rfl
 refine aic.call ((Mem.start h).alc λg1 h1 x1 M=>M.alc λg2 h2 x2 M=>M.alc λg3 h3 x3 M=>?_)
 have P:Pt bQ h h3 ⟨g3,0,none⟩ ⟨g3,109,[],[]⟩ [(g2,109,⟨jh⟩),(g1,149,cs)] wJ:=Pt.new (r:=bQ) pV M
 have R:RdP bQ _ ⟨g1,0,none⟩ x:=P.mem.rdp (.there .here) (bQ.ext P.ext R0)
 refine R.oL2 λb l c S=>(Jo S (by have:=S.len;omega)).mono ?_
 rintro _ h' ⟨b',c',B,rfl,O,N⟩
 refine lR ((P.join N).agY O λh' P=>?_)
 have R:RdP bQ _ ⟨g1,0,none⟩ x:=P.mem.rdp (.there .here) (bQ.ext P.ext R0)
 refine R.oI2 (P.Vk λh' P=>?_)
 obtain⟨c',B,M,O⟩:=P.out
 refine M.df .here (osz O rfl) ?_
 have M:=M.cnt (W:=(g2,109,⟨jh⟩) :: B)
 refine M.dH .here (osz O rfl) (bQ.jy O) rfl .here λh3 M=>M.df .here (osz O rfl) ?_
 exact⟨_,B,rfl,O,M.drop⟩
theorem th{ca cb:Array Value}{x:cz}(Ra:cx.rd h ca.toList x)(Rb:cx.rd h cb.toList x):af ak 197 #[.agg ca,.agg cb] (λu h'=>u = .bool true∧Ext h h') h:=by
 refine ug.call (gD Ra λg1 h1 x1 A=>gD (cx.ext x1 Rb) λg2 h2 x2 B=>?_)
 have A:=A.ext x2
 have X:=x1.trans x2
 refine A.oI2 (B.oI2 (cM (by simp) ?_))
 refine A.jH dU rfl λc1 R1=>B.jH dU rfl λc2 R2=>goX (FU R1 R2) λh' x'=>bt (cM rfl ?_)
 have A:=A.ext x'
 have B:=B.ext x'
 have X:=X.trans x'
 refine A.jH dx rfl λc1 R1=>B.jH dx rfl λc2 R2=>goX (FT R1 R2) λh' x'=>bt (cM rfl ?_)
 have A:=A.ext x'
 have B:=B.ext x'
 have X:=X.trans x'
 exact⟨rfl,X⟩
theorem agL{cs:Array Value}{x:cz}(R0:cx.rd h cs.toList x):af ak 210 #[.agg cs] (λu h'=>mN cx h h' u x) h:=by
 refine agR.call ((Mem.start h).alc λg1 h1 x1 M=>M.alc λg2 h2 x2 M=>M.alc λg3 h3 x3 M=>?_)
 have P:Pt cx h h3 ⟨g3,0,none⟩ ⟨g3,113,[],[]⟩ [(g2,113,⟨gf⟩),(g1,150,cs)] pU:=Pt.new (r:=cx) pj M
 have R:RdP cx _ ⟨g1,0,none⟩ x:=P.mem.rdp (.there .here) (cx.ext P.ext R0)
 refine R.oI2 (P.Vk λh' P=>?_)
 have R:RdP cx _ ⟨g1,0,none⟩ x:=P.mem.rdp (.there .here) (cx.ext P.ext R0)
 refine R.jH dU rfl λc1 R1=>mN.pt P (akM R1) λh' c2 B P O ho=>gw (P.acw dU rfl O λh' P=>?_)
 have R:RdP cx _ ⟨g1,0,none⟩ x:=P.mem.rdp (.there .here) (cx.ext P.ext R0)
 refine R.jH dx rfl λc1 R1=>mN.pt P (akL R1) λh' c2 B P O ho=>gw (P.acw dx rfl O λh' P=>?_)
 obtain⟨c',B,M,O⟩:=P.out
 refine M.df .here (osz O rfl) ?_
 have M:=M.cnt (W:=(g2,113,⟨gf⟩) :: B)
 refine M.dH .here (osz O rfl) (cx.jy O) rfl .here λh3 M=>M.df .here (osz O rfl) ?_
 exact⟨_,B,rfl,O,M.drop⟩
end
def acd.B5(aa:VH)(c:(Option Addr×Nat×Nat×Int×Int)->ab->Prop):Option Addr×Nat×Nat×Int×Int->ab->Prop |(aO,aB,bH,fy,i_5),h=> BIF ((decide (i_5<(aB:Int)))) (bd aO i_5 aB λd=> LDA 2 h ((Addr.add d (i_5.toNat*2))) λe=> af ak 199 #[.agg e,.int .i64 fy] (λf a=> asI .i64 f λb=> BIF ((decide (b<0))) (aa (.int .i64 (-1)) a) (c (aO,aB,bH,b,((IntKind.i64.wrap (i_5+1)))) a)) h) (aa (.int .i64 fy) h)
def acd.g5(fr:Frame):Option Addr×Nat×Nat×Int×Int:=((gLb (ah fr 0)),(gLl (ah fr 0)),(gLc (ah fr 0)),(gI (ah fr 1)),(gI (ah fr 5)))
def acd.l5(aa:VH):=gg (kds 27 [(0,.l),(1,.i .i64),(5,.i .i64)]) λfr=>bk (acd.B5 aa) (acd.g5 fr)
def acd.S(aO:Option Addr)(aB bH:Nat)(fy:Int)(aa:VH)(h:ab):=BIF ((decide ((IntKind.i64.wrap (fy-(aB:Int)))<0))) (aa (.int .i64 (-1)) h) (bk (acd.B5 aa) (aO,aB,bH,((IntKind.i64.wrap (fy-(aB:Int)))),0) h)
theorem acd.call{aO aB bH fy aa h}(H:acd.S aO aB bH fy aa h):af ak 200 #[.slice aO aB bH,.int .i64 fy] aa h:=qc (Λ:=aS [(1000005,acd.l5 aa)]) Tryz.func200 (qs qf (qs qf (qs qf (qs (qs qf (Rq.block (ql (acd.l5 aa) (qg (g:=acd.g5) (Λ:=λa=>aS []) (λ_ _ _=>by kernel_rfl) (λa=>qf))))) qf)))) (qe H)
def ach.B3(aa:VH)(a:(Option Addr×Nat×Nat×Option Addr×Nat×Nat×Int)->ab->Prop):Option Addr×Nat×Nat×Option Addr×Nat×Nat×Int->ab->Prop |(aO,aB,bH,lu,lv,nF,i_4),h=> BIF ((decide (i_4<(aB:Int)))) (bd aO i_4 aB λb=> LDA 2 h ((Addr.add b (i_4.toNat*2))) λc=> af ak 209 #[.agg c] (λd gv=> asA d λzi=> bd lu i_4 lv λPC=> STA 2 gv ((Addr.add PC (i_4.toNat*2))) zi λhP=> a (aO,aB,bH,lu,lv,nF,((IntKind.i64.wrap (i_4+1)))) hP) h) (aa (.slice lu lv nF) h)
def ach.g3(fr:Frame):Option Addr×Nat×Nat×Option Addr×Nat×Nat×Int:=((gLb (ah fr 0)),(gLl (ah fr 0)),(gLc (ah fr 0)),(gLb (ah fr 3)),(gLl (ah fr 3)),(gLc (ah fr 3)),(gI (ah fr 4)))
def ach.l3(aa:VH):=gg (kds 23 [(0,.l),(3,.l),(4,.i .i64)]) λfr=>bk (ach.B3 aa) (ach.g3 fr)
def ach.S(aO:Option Addr)(aB bH:Nat)(aa:VH)(h:ab):=MKS Md 109 (aB:Int) (aB:Int) (λa b=> bk (ach.B3 aa) (aO,aB,bH,(some ⟨a,0,none⟩),aB,aB,0) b) h
theorem ach.call{aO aB bH aa h}(H:ach.S aO aB bH aa h):af ak 211 #[.slice aO aB bH] aa h:=qc (Λ:=aS [(1000003,ach.l3 aa)]) Tryz.func211 (qs qf (qs qf (qs (qs qf (Rq.block (ql (ach.l3 aa) (qg (g:=ach.g3) (Λ:=λa=>aS []) (λ_ _ _=>by kernel_rfl) (λa=>qf))))) qf))) (qe H)
def gk.B4(aa:VH)(a:(Option Addr×Nat×Nat×Option Addr×Nat×Nat×Int)->ab->Prop):Option Addr×Nat×Nat×Option Addr×Nat×Nat×Int->ab->Prop |(aO,aB,bH,jV,jb,kY,i_5),h=> BIF ((decide (i_5<(aB:Int)))) (bd aO i_5 aB λb=> LDA 2 h ((Addr.add b (i_5.toNat*2))) λc=> bd jV i_5 jb λd=> LDA 2 h ((Addr.add d (i_5.toNat*2))) λzO=> af ak 196 #[.agg c,.agg zO] (λzX jl=> asB zX λPV=> BIF (!PV) (aa (.bool false) jl) (a (aO,aB,bH,jV,jb,kY,((IntKind.i64.wrap (i_5+1)))) jl)) h) (aa (.bool true) h)
def gk.g4(fr:Frame):Option Addr×Nat×Nat×Option Addr×Nat×Nat×Int:=((gLb (ah fr 0)),(gLl (ah fr 0)),(gLc (ah fr 0)),(gLb (ah fr 1)),(gLl (ah fr 1)),(gLc (ah fr 1)),(gI (ah fr 5)))
def gk.l4(aa:VH):=gg (kds 27 [(0,.l),(1,.l),(5,.i .i64)]) λfr=>bk (gk.B4 aa) (gk.g4 fr)
def gk.S(aO:Option Addr)(aB bH:Nat)(jV:Option Addr)(jb kY:Nat)(aa:VH)(h:ab):=BIF ((aB:Int) !=(jb:Int)) (aa (.bool false) h) (bk (gk.B4 aa) (aO,aB,bH,jV,jb,kY,0) h)
theorem gk.call{aO aB bH jV jb kY aa h}(H:gk.S aO aB bH jV jb kY aa h):af ak 198 #[.slice aO aB bH,.slice jV jb kY] aa h:=qc (Λ:=aS [(1000004,gk.l4 aa)]) Tryz.func198 (qs qf (qs qf (qs (qs qf (Rq.block (ql (gk.l4 aa) (qg (g:=gk.g4) (Λ:=λa=>aS []) (λ_ _ _=>by kernel_rfl) (λa=>qf))))) qf))) (qe H)
def fb.B2(aa:VH)(b:(Option Addr×Nat×Nat×Int×Int)->ab->Prop):Option Addr×Nat×Nat×Int×Int->ab->Prop |(aO,aB,bH,k_1,i_5),h=> BIF ((decide (i_5<(aB:Int)))) (bd aO i_5 aB λc=> oL (cell h ((Addr.add c (i_5.toNat*2)))) λVN UG ZU=> af ak 14 #[.slice VN UG ZU,.int .i64 k_1] (λd e=> asI .i64 d λa=> bd aO i_5 aB λf=> ST1 e ((Addr.add ((Addr.add f (i_5.toNat*2))) 1)) (.int .i64 a) λg=> b (aO,aB,bH,((IntKind.i64.wrap (a+1))),((IntKind.i64.wrap (i_5+1)))) g) h) (aa (.int .i64 k_1) h)
def fb.g2(fr:Frame):Option Addr×Nat×Nat×Int×Int:=((gLb (ah fr 0)),(gLl (ah fr 0)),(gLc (ah fr 0)),(gI (ah fr 1)),(gI (ah fr 5)))
def fb.l2(aa:VH):=gg (kds 27 [(0,.l),(1,.i .i64),(5,.i .i64)]) λfr=>bk (fb.B2 aa) (fb.g2 fr)
def fb.S(aO:Option Addr)(aB bH:Nat)(k_1:Int)(aa:VH)(h:ab):=bk (fb.B2 aa) (aO,aB,bH,k_1,0) h
theorem fb.call{aO aB bH k_1 aa h}(H:fb.S aO aB bH k_1 aa h):af ak 85 #[.slice aO aB bH,.int .i64 k_1] aa h:=qc (Λ:=aS [(1000002,fb.l2 aa)]) Tryz.func85 (qs qf (qs (qs qf (Rq.block (ql (fb.l2 aa) (qg (g:=fb.g2) (Λ:=λa=>aS []) (λ_ _ _=>by kernel_rfl) (λa=>qf))))) qf)) (qe H)
def fa.B2(aa:VH)(c:(Option Addr×Nat×Nat×Int×Int)->ab->Prop):Option Addr×Nat×Nat×Int×Int->ab->Prop |(aO,aB,bH,k_1,i_5),h=> BIF ((decide (i_5<(aB:Int)))) (bd aO i_5 aB λd=> oL (cell h ((Addr.add d (i_5.toNat*2)))) λVN UG ZU=> af ak 15 #[.slice VN UG ZU,.int .i64 k_1] (λe a=> asI .i64 e λb=> BIF ((decide (b<0))) (aa (.int .i64 (-1)) a) (bd aO i_5 aB λf=> oI .i64 (cell a ((Addr.add ((Addr.add f (i_5.toNat*2))) 1))) λg=> BIF (g !=b) (aa (.int .i64 (-1)) a) (c (aO,aB,bH,((IntKind.i64.wrap (b+1))),((IntKind.i64.wrap (i_5+1)))) a))) h) (aa (.int .i64 k_1) h)
def fa.g2(fr:Frame):Option Addr×Nat×Nat×Int×Int:=((gLb (ah fr 0)),(gLl (ah fr 0)),(gLc (ah fr 0)),(gI (ah fr 1)),(gI (ah fr 5)))
def fa.l2(aa:VH):=gg (kds 31 [(0,.l),(1,.i .i64),(5,.i .i64)]) λfr=>bk (fa.B2 aa) (fa.g2 fr)
def fa.S(aO:Option Addr)(aB bH:Nat)(k_1:Int)(aa:VH)(h:ab):=bk (fa.B2 aa) (aO,aB,bH,k_1,0) h
theorem fa.call{aO aB bH k_1 aa h}(H:fa.S aO aB bH k_1 aa h):af ak 89 #[.slice aO aB bH,.int .i64 k_1] aa h:=qc (Λ:=aS [(1000002,fa.l2 aa)]) Tryz.func89 (qs qf (qs (qs qf (Rq.block (ql (fa.l2 aa) (qg (g:=fa.g2) (Λ:=λa=>aS []) (λ_ _ _=>by kernel_rfl) (λa=>qf))))) qf)) (qe H)
def ai5.S(a_0:Array Value)(fy:Int)(aa:VH)(h:ab):=ALC a_0 155 (λa d=> oL (cell d ⟨a,0,none⟩) λNH NI Pz=> af ak 200 #[.slice NH NI Pz,.int .i64 fy] (λf b=> asI .i64 f λe=> BIF ((decide (e<0))) (aa (.int .i64 (-1)) b) (oL (cell b ⟨a,1,none⟩) λHS Gr IJ=> af ak 200 #[.slice HS Gr IJ,.int .i64 e] (λg c=> asI .i64 g λxn=> BIF ((decide (xn<0))) (aa (.int .i64 (-1)) c) (oL (cell c ⟨a,2,none⟩) λpQ nT sH=> af ak 72 #[.slice pQ nT sH,.int .i64 xn] (λyQ hP=> asI .i64 yQ λHU=> BIF ((decide (HU<0))) (aa (.int .i64 (-1)) hP) (aa (.int .i64 HU) hP)) c)) b)) d) h
theorem ai5.call{a_0 fy aa h}(H:ai5.S a_0 fy aa h):af ak 129 #[.agg a_0,.int .i64 fy] aa h:=qk Tryz.func129 H
def ai7.S(a_0:Array Value)(aa:VH)(h:ab):=ALC a_0 155 (λb e=> ALC ⟨aJ⟩ 118 (λc f=> ALC ⟨aJ⟩ 118 (λa d=> oL (cell d ⟨b,0,none⟩) λHS Gr IJ=> af ak 211 #[.slice HS Gr IJ] (λg i=> asL g λzU uf Du=> ST1 i ⟨a,0,none⟩ (.slice zU uf Du) λme=> oL (cell me ⟨b,1,none⟩) λXK XM XL=> af ak 211 #[.slice XK XM XL] (λxz j=> asL xz λNC Lv UA=> ST1 j ⟨a,1,none⟩ (.slice NC Lv UA) λkT=> oL (cell kT ⟨b,2,none⟩) λUB Qx XP=> af ak 78 #[.slice UB Qx XP] (λk ta=> asL k λafq afr ajQ=> ST1 ta ⟨a,2,none⟩ (.slice afq afr ajQ) λvC=> LDA 6 vC ⟨b,3,none⟩ λl=> af ak 210 #[.agg l] (λm AP=> asA m λn=> STA 6 AP ⟨a,3,none⟩ n λvD=> oB (cell vD ⟨b,9,none⟩) λo=> ST1 vD ⟨a,9,none⟩ (.bool o) λsW=> oF .f32 (cell sW ⟨b,10,none⟩) λFs=> ST1 sW ⟨a,10,none⟩ (.float .f32 Fs) λMm=> oF .f32 (cell Mm ⟨b,11,none⟩) λVc=> ST1 Mm ⟨a,11,none⟩ (.float .f32 Vc) λGg=> oF .f32 (cell Gg ⟨b,12,none⟩) λp=> ST1 Gg ⟨a,12,none⟩ (.float .f32 p) λxl=> LDA 13 xl ⟨a,0,none⟩ λTL=> STA 13 xl ⟨c,0,none⟩ TL λPs=> LDA 13 Ps ⟨c,0,none⟩ λq=> aa (.agg q) Ps) vC) kT) me) d) f) e) h
theorem ai7.call{a_0 aa h}(H:ai7.S a_0 aa h):af ak 137 #[.agg a_0] aa h:=qk Tryz.func137 H
def yH.S(a_0:Array Value)(b_1:Array Value)(aa:VH)(h:ab):=ALC a_0 118 (λa e=> ALC b_1 118 (λb d=> oL (cell d ⟨a,0,none⟩) λII HR PA=> oL (cell d ⟨b,0,none⟩) λUH UI f=> af ak 198 #[.slice II HR PA,.slice UH UI f] (λg c=> asB g λi=> BIF (!i) (aa (.bool false) c) (oL (cell c ⟨a,1,none⟩) λzU uf Du=> oL (cell c ⟨b,1,none⟩) λpQ nT sH=> af ak 198 #[.slice zU uf Du,.slice pQ nT sH] (λyQ hP=> asB yQ λMH=> BIF (!MH) (aa (.bool false) hP) (oL (cell hP ⟨a,2,none⟩) λNC Lv UA=> oL (cell hP ⟨b,2,none⟩) λLw Lx ND=> af ak 11 #[.slice NC Lv UA,.slice Lw Lx ND] (λDJ jF=> asB DJ λMI=> BIF (!MI) (aa (.bool false) jF) (LDA 6 jF ⟨a,3,none⟩ λMF=> LDA 6 jF ⟨b,3,none⟩ λWm=> af ak 197 #[.agg MF,.agg Wm] (λGZ nR=> asB GZ λj=> BIF (!j) (aa (.bool false) nR) (oB (cell nR ⟨a,9,none⟩) λk=> oB (cell nR ⟨b,9,none⟩) λl=> BIF (!(k==l)) (aa (.bool false) nR) (oF .f32 (cell nR ⟨a,10,none⟩) λIY=> FFC .f32 IY .f64 λBz=> oF .f32 (cell nR ⟨b,10,none⟩) λFs=> FFC .f32 Fs .f64 λOB=> af ak 37 #[.float .f64 Bz,.float .f64 OB] (λYW Gg=> asB YW λm=> BIF (!m) (aa (.bool false) Gg) (oF .f32 (cell Gg ⟨a,11,none⟩) λn=> FFC .f32 n .f64 λo=> oF .f32 (cell Gg ⟨b,11,none⟩) λRI=> FFC .f32 RI .f64 λTa=> af ak 37 #[.float .f64 o,.float .f64 Ta] (λp zR=> asB p λq=> BIF (!q) (aa (.bool false) zR) (oF .f32 (cell zR ⟨a,12,none⟩) λr=> FFC .f32 r .f64 λVd=> oF .f32 (cell zR ⟨b,12,none⟩) λVe=> FFC .f32 Ve .f64 λs=> af ak 37 #[.float .f64 Vd,.float .f64 s] (λt Lh=> asB t λu=> BIF (!u) (aa (.bool false) Lh) (aa (.bool true) Lh)) zR)) Gg)) nR))) jF)) hP)) c)) d) e) h
theorem yH.call{a_0 b_1 aa h}(H:yH.S a_0 b_1 aa h):af ak 126 #[.agg a_0,.agg b_1] aa h:=qk Tryz.func126 H
section
variable {h:ab}
theorem CN:0<bQ.sz:=by decide
def dV(xs:List aY):Nat:=xs.length+nL kN xs
theorem akB{b:Option Addr}{l c:Nat}{xs:List aY}(S:SlR bQ h b l c xs)(left:Nat)(hl:left≤1048576):af ak 200 #[.slice b l c,.int .i64 (left:Int)] (λu h'=>u = .int .i64 (CL left (dV xs))∧Ext h h') h:=by
 have hx:=S.len
 have h2:=S.2.1
 have h3:=S.2.2.1
 have hw:dV xs=xs.length+nL kN xs:=rfl
 have:=cu
 refine acd.call ?_
 unfold acd.S
 rw[wrap64 (n:=(left:Int)-(l:Int)) (by omega) (by omega)]
 refine brd (λhc=>⟨by rw[nO (by omega)],Ext.refl _⟩) λhc=>?_
 refine loop (λx hh=>∃m:Nat,x=(b,l,c,((left-l-nL kN (xs.take m):Nat):Int),(m:Int))∧m≤l∧Ext h hh∧nL kN (xs.take m)≤left-l) (λx=>(l-x.2.2.2.2).toNat) ⟨0,by rw[show((left:Int)-(l:Int))=((left-l:Nat):Int) by omega];rfl,by omega,Ext.refl _,Nat.zero_le _⟩ ?_
 rintro x hh ⟨m,rfl,hn,X,hm⟩
 refine brd (λhc=>?_) λhc=>?_
 ·have h4:=zB (n:=kN) (xs:=xs) (i:=m) (by omega)
  have h5:=oQ (n:=kN) xs (m+1)
  refine(S.ext X).idx CN (by omega) (by omega) λa Ra=>Ra.jc rfl λc1 R1=>goX (aj0 R1 _ (by omega)) λh' x'=>cN (Ho (λhb=>⟨by rw[Int.toNat_natCast] at hb;rw[nO (by omega)],X.trans x'⟩) λhb=>?_)
  rw[ly hb,ag (by omega)]
  rw[Int.toNat_natCast] at hb ⊢
  exact⟨⟨m+1,by rw[h4,Nat.sub_sub],by omega,X.trans x',by omega⟩,by show _<_;simp;omega⟩
 ·obtain rfl:m=l:=by omega
  have e:xs.take m=xs:=by rw[← hx];exact List.take_length
  rw[e] at hm ⊢
  exact⟨by rw[ly (by omega),hw,hx,Nat.sub_sub],X⟩
theorem akN{b:Option Addr}{l c:Nat}{xs:List aY}(S:SlR bQ h b l c xs)(hl0:dV xs≤1048576):af ak 211 #[.slice b l c] (λu h'=>∃b' c' B,u = .slice b' l c'∧SlO 109 bQ B b' l c' xs∧Mem h h' B) h:=by
 have hxl:=S.len
 have hw:dV xs=xs.length+nL kN xs:=rfl
 have hl:l≤1048576:=by omega
 refine ach.call ?_
 refine vW (r:=bQ) (z:=wJ) (zc:=jh) pV rfl rfl (by decide) (Mem.start h) (by show 32*l≤2 ^ 48;omega) (Nat.le_trans hl (by decide)) λg h1 x1 M0 O0=>?_
 refine loop (λx hh=>∃(n:Nat) (B:List Blk),x=(b,l,c,some ⟨g,0,none⟩,l,l,(n:Int))∧n≤l∧SlO 109 bQ B (some ⟨g,0,none⟩) l l (xs.take n++List.replicate (l-n) wJ)∧Mem h hh (B++[])) (λx=>(l-x.2.2.2.2.2.2).toNat) ⟨0,_,rfl,by omega,O0,M0⟩ ?_
 rintro x hh ⟨n,B,rfl,hn,O,M⟩
 refine brd (λhc=>?_) λhc=>?_
 ·have h5:kN xs[n]! ≤ nL kN xs:=GC (by omega)
  refine(S.ext M.ext).idx CN (by omega) (by omega) λa Ra=>Ra.jc rfl λc1 R1=>mN.go M (aj1 R1 (by rw[Int.toNat_natCast];omega)) λh' c2 B2 M2 O2 ho=>gw ?_
  obtain⟨a0,F',C,e,op,close⟩:=O.ad5 (i:=n) (by omega)
  cases e
  have P:=(op _ _ B2 (M2.cnt (λp=>by simp only[bN,bu,bZ] at *;omega))).cnt (W:=B2++(C++[]))
  refine idxs (by omega) (by omega) ?_
  rw[Int.toNat_natCast] at O2
  rw[Int.toNat_natCast,show n*2=n*bQ.sz from rfl]
  refine(kW ((⟨g,0,none⟩:Addr).add (n*bQ.sz))) ▸ P.sts (Foc.here bQ) rfl O2 λWS P=>?_
  obtain⟨B',O',M'⟩:=close _ _ _ _ P
  have e:(xs.take n++List.replicate (l-n) wJ).set n xs[n]! = xs.take (n+1)++List.replicate (l-(n+1)) wJ:=by rw[getElem!_pos xs n (by omega)];exact Db hxl (by omega)
  rw[e] at O'
  rw[ag (by omega)]
  exact⟨⟨n+1,B',rfl,by omega,O',M'⟩,by show _<_;simp;omega⟩
 ·obtain rfl:n=l:=by omega
  rw[show xs.take n++List.replicate (n-n) wJ=xs by rw[← hxl];simp] at O
  rw[List.append_nil] at M
  exact⟨_,_,B,rfl,O,M⟩
theorem FV{b1 b2:Option Addr}{l1 c1 l2 c2:Nat}{xs:List aY}(S1:SlR bQ h b1 l1 c1 xs)(S2:SlR bQ h b2 l2 c2 xs):af ak 198 #[.slice b1 l1 c1,.slice b2 l2 c2] (λu h'=>u = .bool true∧Ext h h') h:=by
 have e1:=S1.len
 have e2:=S2.len
 have h2:=S1.2.1
 have h3:=S1.2.2.1
 have:=cu
 obtain rfl:l1=l2:=by omega
 refine gk.call (cM (by simp) ?_)
 refine loop (λx hh=>∃n:Nat,x=(b1,l1,c1,b2,l1,c2,(n:Int))∧n≤l1∧Ext h hh) (λx=>(l1-x.2.2.2.2.2.2).toNat) ⟨0,rfl,by omega,Ext.refl _⟩ ?_
 rintro x hh ⟨n,rfl,hn,X⟩
 refine brd (λhc=>?_) λhc=>⟨rfl,X⟩
 refine(S1.ext X).idx CN (by omega) (by omega) λa Ra=>Ra.jc rfl λca R1=>(S2.ext X).idx CN (by omega) (by omega) λa' Rb=>Rb.jc rfl λcb R2=>goX (zp R1 R2) λh' x'=>bt (cM rfl ?_)
 rw[ag (by omega)]
 exact⟨⟨n+1,rfl,by omega,X.trans x'⟩,by show _<_;simp;omega⟩
def aN(xs:List aY):Nat:=nL (λr=>r.ae.length+1) xs
def v9(r:aY)(k:Nat):aY:=⟨eu r.ae k,((k+r.ae.length:Nat):Int)⟩
def nC(xs:List aY)(k:Nat):List aY:=mkL v9 (λr=>r.ae.length+1) xs k
theorem Oi(xs:List aY):aN xs≤8*dV xs:=by
 unfold aN dV
 induction xs with
 | nil=>simp[nL]
 | cons x xs ih=>
  have:kN x=x.ae.length:=rfl
  simp only[nL,List.length_cons] at *;omega
theorem Tf(x:aY):kN x=x.ae.length:=rfl
theorem Ci{h0:ab}{B L:List Blk}{b:Option Addr}{l c:Nat}{xs:List aY}(O0:SlO 109 bQ B b l c xs)(M0:Mem h0 h (B++L))(k:Nat)(ES:dV xs≤1048576)(hk:k+aN xs≤1073741824):
  af ak 85 #[.slice b l c,.int .i64 (k:Int)] (λu h'=>u = .int .i64 ((k+aN xs:Nat):Int)∧∃B',SlO 109 bQ B' b l c (nC xs k)∧Mem h0 h' (B'++L)) h:=by
 have hx:=O0.len
 have hw:dV xs=xs.length+nL kN xs:=rfl
 refine fb.call ?_
 refine loop (λx hh=>∃(n:Nat) (B:List Blk),x=(b,l,c,((k+nL (λr=>r.ae.length+1) (xs.take n):Nat):Int),(n:Int))∧n≤l∧SlO 109 bQ B b l c (mkL v9 (λr=>r.ae.length+1) (xs.take n) k++xs.drop n)∧Mem h0 hh (B++L)) (λx=>(l-x.2.2.2.2).toNat) ⟨0,B,rfl,by omega,by simpa [mkL] using O0,M0⟩ ?_
 rintro x hh ⟨n,B,rfl,hn,O,M⟩
 refine brd (λhc=>?_) λhc=>?_
 ·have h4:=zB (n:=λr:aY=>r.ae.length+1) (xs:=xs) (i:=n) (by omega)
  have h5:nL (λr:aY=>r.ae.length+1) (xs.take (n+1))≤aN xs:=oQ xs (n+1)
  have h6:kN xs[n]! ≤ nL kN xs:=GC (by omega)
  rw[Tf] at h6
  obtain⟨a0,F',L',rfl,P,hs,close⟩:=O.elem M (i:=n) (by omega)
  rw[LH (by omega)] at P
  refine idxs (by omega) (by omega) ?_
  rw[Int.toNat_natCast,show n*2=n*bQ.sz from rfl]
  obtain⟨b2,l2,c2,Bs,N,eb,Ms,Os,Fk,back⟩:=P.sl1 lK
  refine o_l eb ((je Os Ms (k+nL (λr=>r.ae.length+1) (xs.take n)) (by unfold cf;omega) (by unfold ao;omega)).mono ?_)
  rintro _ h' ⟨rfl,B',O',M'⟩
  have P:=(back _ _ _ _ O' M').1
  refine cN (idxs (by omega) (by omega) ?_)
  refine P.stI λWS P=>?_
  obtain⟨B',O',M'⟩:=close _ _ _ P
  have st:=Ck (mk:=v9) (n:=λr:aY=>r.ae.length+1) (k:=k) (xs:=xs) (i:=n) (by omega)
  have O':SlO 109 bQ B' (some a0) l c ((mkL v9 (λr=>r.ae.length+1) (xs.take n) k++xs.drop n).set n (v9 xs[n]! (k+nL (λr=>r.ae.length+1) (xs.take n)))):=O'
  rw[st] at O'
  have e7:ao xs[n]!.ae=xs[n]!.ae.length:=rfl
  rw[ag (by omega),ag (by omega)]
  exact⟨⟨n+1,B',by rw[h4,e7];simp only[Nat.add_assoc],by omega,O',M'⟩,by show _<_;simp;omega⟩
 ·obtain rfl:n=l:=by omega
  have e:xs.take n=xs:=by rw[← hx];exact List.take_length
  have e2:xs.drop n=[]:=List.drop_of_length_le (by omega)
  rw[e,e2,List.append_nil] at O
  rw[e]
  exact⟨rfl,B,O,M⟩
theorem C9{b:Option Addr}{l c:Nat}{xs:List aY}(k:Nat)(S:SlR bQ h b l c (nC xs k))(ES:dV xs≤1048576)(hk:k+aN xs≤1073741824):
  af ak 89 #[.slice b l c,.int .i64 (k:Int)] (λu h'=>u = .int .i64 ((k+aN xs:Nat):Int)∧Ext h h') h:=by
 have hx:xs.length=l:=by have:=S.len;rwa [nC,vZ] at this
 have hw:dV xs=xs.length+nL kN xs:=rfl
 refine fa.call ?_
 refine loop (λx hh=>∃n:Nat,x=(b,l,c,((k+nL (λr=>r.ae.length+1) (xs.take n):Nat):Int),(n:Int))∧n≤l∧Ext h hh) (λx=>(l-x.2.2.2.2).toNat) ⟨0,rfl,by omega,Ext.refl _⟩ ?_
 rintro x hh ⟨n,rfl,hn,X⟩
 refine brd (λhc=>?_) λhc=>?_
 ·have h4:=zB (n:=λr:aY=>r.ae.length+1) (xs:=xs) (i:=n) (by omega)
  have h5:nL (λr:aY=>r.ae.length+1) (xs.take (n+1))≤aN xs:=oQ xs (n+1)
  have h6:kN xs[n]! ≤ nL kN xs:=GC (by omega)
  rw[Tf] at h6
  have hm:(nC xs k)[n]! = v9 xs[n]! (k+nL (λr=>r.ae.length+1) (xs.take n)):=by unfold nC;rw[Fo (by omega)]
  have e7:ao xs[n]!.ae=xs[n]!.ae.length:=rfl
  refine(S.ext X).idx CN (by omega) (by omega) λa Ra=>?_
  rw[Int.toNat_natCast,hm] at Ra
  refine Ra.oL1 λb2 l2 c2 S2=>goX (jd (xs:=xs[n]!.ae) _ S2 (by unfold cf;omega) (by unfold ao;omega)) λh' x'=>cN (cM (decide_eq_false (by omega)) ?_)
  refine((S.ext X).ext x').idx CN (by omega) (by omega) λa Ra=>?_
  rw[Int.toNat_natCast,hm] at Ra
  refine Ra.oI (cM (bne_self_eq_false _) ?_)
  rw[ag (by omega),ag (by omega)]
  exact⟨⟨n+1,by rw[h4,e7];simp only[Nat.add_assoc],by omega,X.trans x'⟩,by show _<_;simp;omega⟩
 ·obtain rfl:n=l:=by omega
  have e:xs.take n=xs:=by rw[← hx];exact List.take_length
  rw[e]
  exact⟨rfl,X⟩
theorem TT{ca cb:Array Value}{x:cp}(Ra:dX.rd h ca.toList x)(Rb:dX.rd h cb.toList x):af ak 126 #[.agg ca,.agg cb] (λu h'=>u = .bool true∧Ext h h') h:=by
 refine yH.call (gD Ra λg1 h1 x1 A=>gD (dX.ext x1 Rb) λg2 h2 x2 B=>?_)
 have A:=A.ext x2
 have X:=x1.trans x2
 refine A.oL2 λb1 l1 c1 S1=>B.oL2 λb2 l2 c2 S2=>goX (FV S1 S2) λh' x'=>bt (cM rfl ?_)
 have A:=A.ext x'
 have B:=B.ext x'
 have X:=X.trans x'
 refine A.oL2 λb1 l1 c1 S1=>B.oL2 λb2 l2 c2 S2=>goX (FV S1 S2) λh' x'=>bt (cM rfl ?_)
 have A:=A.ext x'
 have B:=B.ext x'
 have X:=X.trans x'
 refine A.oL2 λb1 l1 c1 S1=>B.oL2 λb2 l2 c2 S2=>goX (tW S1 S2) λh' x'=>bt (cM rfl ?_)
 have A:=A.ext x'
 have B:=B.ext x'
 have X:=X.trans x'
 refine A.jH gK rfl λc1 R1=>B.jH gK rfl λc2 R2=>goX (th R1 R2) λh' x'=>bt (cM rfl ?_)
 have A:=A.ext x'
 have B:=B.ext x'
 have X:=X.trans x'
 refine A.oB2 (B.oB2 (cM (by simp) ?_))
 refine A.oF2 λy hy=>cg hy λr1 k1=>B.oF2 λz hz=>cg hz λr2 k2=>goX (iA k1 k2 _) λh' x'=>bt (cM rfl ?_)
 have A:=A.ext x'
 have B:=B.ext x'
 have X:=X.trans x'
 refine A.oF2 λy hy=>cg hy λr1 k1=>B.oF2 λz hz=>cg hz λr2 k2=>goX (iA k1 k2 _) λh' x'=>bt (cM rfl ?_)
 have A:=A.ext x'
 have B:=B.ext x'
 have X:=X.trans x'
 refine A.oF2 λy hy=>cg hy λr1 k1=>B.oF2 λz hz=>cg hz λr2 k2=>goX (iA k1 k2 _) λh' x'=>bt (cM rfl ?_)
 have A:=A.ext x'
 have B:=B.ext x'
 have X:=X.trans x'
 exact⟨rfl,X⟩
def uB(x:cp):Nat:=dV x.aW+dV x.Left+cf x.aL
theorem aqL{cs:Array Value}{x:cp}(R0:dX.rd h cs.toList x)(left:Nat)(hl:left≤1048576):af ak 129 #[.agg cs,.int .i64 (left:Int)] (λu h'=>u = .int .i64 (CL left (uB x))∧Ext h h') h:=by
 have hw:uB x=dV x.aW+dV x.Left+cf x.aL:=rfl
 refine ai5.call (gD R0 λg1 h1 X R=>?_)
 refine R.oL2 λb1 l1 c1 S1=>goX (akB S1 (left) (by omega)) λh' x'=>cN (Ho (λhc=>⟨by rw[nO (by omega)],X.trans x'⟩) λhc=>?_)
 rw[ly hc]
 have R:=R.ext x'
 have X:=X.trans x'
 refine R.oL2 λb1 l1 c1 S1=>goX (akB S1 (left-dV x.aW) (by omega)) λh' x'=>cN (Ho (λhc=>⟨by rw[nO (by omega)],X.trans x'⟩) λhc=>?_)
 rw[ly hc]
 have R:=R.ext x'
 have X:=X.trans x'
 refine R.oL2 λb1 l1 c1 S1=>goX (Jc S1 (left-dV x.aW-dV x.Left) (by omega)) λh' x'=>cN (Ho (λhc=>⟨by rw[nO (by omega)],X.trans x'⟩) λhc=>?_)
 rw[ly hc]
 have R:=R.ext x'
 have X:=X.trans x'
 exact⟨by rw[ly (by omega)];congr 2 <;> omega,X⟩
theorem aqM{cs:Array Value}{x:cp}(R0:dX.rd h cs.toList x)(ES:uB x≤1048576):af ak 137 #[.agg cs] (λu h'=>mN dX h h' u x) h:=by
 have hw:uB x=dV x.aW+dV x.Left+cf x.aL:=rfl
 refine ai7.call ((Mem.start h).alc λg1 h1 x1 M=>M.alc λg2 h2 x2 M=>M.alc λg3 h3 x3 M=>?_)
 have P:Pt dX h h3 ⟨g3,0,none⟩ ⟨g3,118,[],[]⟩ [(g2,118,⟨aJ⟩),(g1,155,cs)] wI:=Pt.new (r:=dX) Pr M
 have R:RdP dX _ ⟨g1,0,none⟩ x:=P.mem.rdp (.there .here) (dX.ext P.ext R0)
 refine R.oL2 λb l c S=>(akN S (by have:=S.len;omega)).mono ?_
 rintro _ h' ⟨b',c',B,rfl,O,N⟩
 refine lR ((P.join N).agY O λh' P=>?_)
 have R:RdP dX _ ⟨g1,0,none⟩ x:=P.mem.rdp (.there .here) (dX.ext P.ext R0)
 refine R.oL2 λb l c S=>(akN S (by have:=S.len;omega)).mono ?_
 rintro _ h' ⟨b',c',B,rfl,O,N⟩
 refine lR ((P.join N).agY O λh' P=>?_)
 have R:RdP dX _ ⟨g1,0,none⟩ x:=P.mem.rdp (.there .here) (dX.ext P.ext R0)
 refine R.oL2 λb l c S=>(Jo S (by have:=S.len;omega)).mono ?_
 rintro _ h' ⟨b',c',B,rfl,O,N⟩
 refine lR ((P.join N).agY O λh' P=>?_)
 have R:RdP dX _ ⟨g1,0,none⟩ x:=P.mem.rdp (.there .here) (dX.ext P.ext R0)
 refine R.jH gK rfl λc1 R1=>mN.pt P (agL R1) λh' c2 B P O ho=>gw (P.acw gK rfl O λh' P=>?_)
 have R:RdP dX _ ⟨g1,0,none⟩ x:=P.mem.rdp (.there .here) (dX.ext P.ext R0)
 refine R.oB2 (P.axp λh' P=>?_)
 have R:RdP dX _ ⟨g1,0,none⟩ x:=P.mem.rdp (.there .here) (dX.ext P.ext R0)
 refine R.oF2 λy hy=>P.ON hy λh' P=>?_
 have R:RdP dX _ ⟨g1,0,none⟩ x:=P.mem.rdp (.there .here) (dX.ext P.ext R0)
 refine R.oF2 λy hy=>P.ON hy λh' P=>?_
 have R:RdP dX _ ⟨g1,0,none⟩ x:=P.mem.rdp (.there .here) (dX.ext P.ext R0)
 refine R.oF2 λy hy=>P.ON hy λh' P=>?_
 obtain⟨c',B,M,O⟩:=P.out
 refine M.df .here (osz O rfl) ?_
 have M:=M.cnt (W:=(g2,118,⟨aJ⟩) :: B)
 refine M.dH .here (osz O rfl) (dX.jy O) rfl .here λh3 M=>M.df .here (osz O rfl) ?_
 exact⟨_,B,rfl,O,M.drop⟩
end
end Go.Sx
