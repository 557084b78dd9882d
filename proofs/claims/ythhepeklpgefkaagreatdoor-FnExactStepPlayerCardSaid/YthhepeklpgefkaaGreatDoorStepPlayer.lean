/- Lemmas. -/
import Derived.Test.YthhepeklpgefkaaGreatDoorTab
import Derived.Test.YthhepeklpgefkaaGreatDoorLk62
import Derived.Test.YthhepeklpgefkaaGreatDoorH1
set_option linter.unusedVariables false
set_option linter.unusedSimpArgs false
namespace Go.Sx
open Go.Proofs
set_option maxRecDepth 100000
def wm.S(p_0:Array Value)(aa:VH)(h:ab):=
 ALC p_0 aE (λb f=>
 ALC ⟨bx⟩ aE (λa g=>
 ae ai zN #[.pointer (some ⟨b,0,none⟩),.int .i64 1,.int .i64 1] (λi c=>
 asI .i64 i λd=>
 BIF (d != 0) (
 STA 10 c ⟨a,0,none⟩ ⟨bx⟩ λe=>
 LDA 10 e ⟨a,0,none⟩ λj=>
 aa (.tuple ⟨[.agg j,.float .f32 0,.int .i64 d]⟩) e) (
 ae ai xV #[.pointer (some ⟨b,0,none⟩)] (λAf kc=>
 asA Af λGu=>
 ALC ⟨bx⟩ aE (λBQ ke=>
 STA 10 ke ⟨BQ,0,none⟩ Gu λkB=>
 ae ai xW #[.pointer (some ⟨BQ,0,none⟩)] (λk oZ=>
 asF .f32 k λzf=>
 LDA 10 oZ ⟨BQ,0,none⟩ λl=>
 STA 10 oZ ⟨a,0,none⟩ l λjZ=>
 LDA 10 jZ ⟨a,0,none⟩ λm=>
 aa (.tuple ⟨[.agg m,.float .f32 zf,.int .i64 0]⟩) jZ) kB) kc) c)) g) f) h
theorem wm.call{p_0:Array Value}{aa:VH}{h:ab}(H:wm.S p_0 aa h):ae ai sG #[.agg p_0] aa h:=
 qc (Λ:=an []) Tryz.func48
 qf
 (qe H)
def vZ.S(p_0:Array Value)(aa:VH)(h:ab):=
 ALC p_0 aE (λa f=>
 ALC ⟨bx⟩ aE (λb d=>
 LDA 10 d ⟨a,0,none⟩ λg=>
 ae ai qM #[.agg g] (λi c=>
 asB i λj=>
 BIF (!j) (
 STA 10 c ⟨b,0,none⟩ ⟨bx⟩ λe=>
 LDA 10 e ⟨b,0,none⟩ λAz=>
 aa (.tuple ⟨[.agg Az,.float .f32 0,.int .i64 1]⟩) e) (
 LDA 10 c ⟨a,0,none⟩ λtq=>
 ae ai ot #[.agg tq,.int .i64 1] (λuu gf=>
 asB uu λFv=>
 BIF Fv (
 STA 10 gf ⟨b,0,none⟩ ⟨bx⟩ λkB=>
 LDA 10 kB ⟨b,0,none⟩ λIK=>
 aa (.tuple ⟨[.agg IK,.float .f32 0,.int .i64 3]⟩) kB) (
 LDA 10 gf ⟨a,0,none⟩ λHt=>
 ae ai pD #[.agg Ht] (λTi tz=>
 asA Ti λHu=>
 STA 10 tz ⟨a,0,none⟩ Hu λqz=>
 ae ai oA #[.pointer (some ⟨a,0,none⟩)] (λGW mZ=>
 asF .f32 GW λIN=>
 LDA 10 mZ ⟨a,0,none⟩ λWt=>
 STA 10 mZ ⟨b,0,none⟩ Wt λwO=>
 LDA 10 wO ⟨b,0,none⟩ λk=>
 aa (.tuple ⟨[.agg k,.float .f32 IN,.int .i64 0]⟩) wO) qz) gf)) c)) d) f) h
theorem vZ.call{p_0:Array Value}{aa:VH}{h:ab}(H:vZ.S p_0 aa h):ae ai o6 #[.agg p_0] aa h:=
 qc (Λ:=an []) Tryz.func49
 qf
 (qe H)
def bE.J27(aa:VH)(Uo:Addr)(axY:Int)(h:ab):=
 LDA 10 h Uo λb=>
 ae ai kj #[.agg b,.int .i64 1] (λafu WR=>
 asI .i64 afu λa=>
 BIF ((decide (a<0))) (
 aa (.bool false) WR) (
 BIF (a != axY) (
 aa (.bool false) WR) (
 aa (.bool true) WR))) h
def bE.j27(aa:VH):=gg (kds 126 [(8,.p),(12,.i .i64)]) λfr=>bE.J27 aa (gP (ah fr 8)) (gI (ah fr 12))
def bE.J16(aa:VH)(agU:Addr)(ajc:Addr)(ajd:Nat)(aje:Int)(Uo:Addr)(h:ab):=
 LDA 10 h Uo λg=>
 ae ai km #[.agg g,.int .i64 1] (λi b=>
 asI .i64 i λc=>
 LDA 10 b Uo λj=>
 ae ai kj #[.agg j,.int .i64 1] (λk TJ=>
 asI .i64 k λd=>
 BIF ((decide (d<0))) (
 aa (.bool false) TJ) (
 BIF (d != c) (
 aa (.bool false) TJ) (
 LDA 10 TJ agU λl=>
 ae ai lE #[.agg l] (λm n=>
 asA m λo=>
 ae ai o6 #[.agg o] (λp TK=>
 OI p λq r s=>
 asA q λt=>
 asF .f32 r λu=>
 asI .i64 s λv=>
 ALC ⟨bx⟩ aE (λe w=>
 STA 10 w ⟨e,0,none⟩ t λa=>
 LDA 10 a ⟨e,0,none⟩ λx=>
 LDA 10 a ajc λy=>
 ae ai lz #[.agg x,.agg y] (λz f=>
 asB z λauU=>
 BIF (!auU) (
 aa (.bool false) f) (
 FFC .f32 u .f64 λanO=>
 FFC .f32 ajd .f64 λA=>
 ae ai bS #[.float .f64 anO,.float .f64 A] (λanw WQ=>
 asB anw λauV=>
 BIF (!auV) (
 aa (.bool false) WQ) (
 BIF (v != aje) (
 aa (.bool false) WQ) (
 bE.J27 aa Uo c WQ))) f)) a) TK) n) TJ))) b) h
def bE.j16(aa:VH):=gg (kds 126 [(1,.p),(4,.p),(5,.f .f32),(6,.i .i64),(8,.p)]) λfr=>bE.J16 aa (gP (ah fr 1)) (gP (ah fr 4)) (gF (ah fr 5)) (gI (ah fr 6)) (gP (ah fr 8))
def bE.J10(aa:VH)(agU:Addr)(ajc:Addr)(ajd:Nat)(aje:Int)(aog:Addr)(Uo:Addr)(avm:Nat)(apI:Int)(h:ab):=
 LDA 10 h aog λb=>
 LDA 10 h agU λc=>
 ae ai lE #[.agg c] (λd Us=>
 asA d λe=>
 PIN h aog 10 Us <|
 ae ai lz #[.agg b,.agg e] (λf Ut=>
 asB f λg=>
 BIF (!g) (
 aa (.bool false) Ut) (
 LDA 10 Ut aog λi=>
 ae ai km #[.agg i,.int .i64 1] (λYg Hc=>
 asI .i64 Yg λj=>
 BIF ((decide (j<0))) (
 aa (.bool false) Hc) (
 LDA 10 Hc Uo λk=>
 LDA 10 Hc ajc λl=>
 ae ai lz #[.agg k,.agg l] (λm TH=>
 asB m λn=>
 BIF (!n) (
 aa (.bool false) TH) (
 FFC .f32 avm .f64 λo=>
 FFC .f32 ajd .f64 λp=>
 ae ai bS #[.float .f64 o,.float .f64 p] (λq a=>
 asB q λr=>
 BIF (!r) (
 aa (.bool false) a) (
 BIF (apI != aje) (
 aa (.bool false) a) (
 bE.J16 aa agU ajc ajd aje Uo a))) TH)) Hc)) Ut)) Us) h
def bE.j10(aa:VH):=gg (kds 126 [(1,.p),(4,.p),(5,.f .f32),(6,.i .i64),(7,.p),(8,.p),(9,.f .f32),(10,.i .i64)]) λfr=>bE.J10 aa (gP (ah fr 1)) (gP (ah fr 4)) (gF (ah fr 5)) (gI (ah fr 6)) (gP (ah fr 7)) (gP (ah fr 8)) (gF (ah fr 9)) (gI (ah fr 10))
def bE.S(agT:Array Value)(aa:VH)(h:ab):=
 ALC agT kT (λa f=>
 LDA 10 f ⟨a,0,none⟩ λj=>
 ae ai qw #[.agg j,.int .i64 1048576] (λk b=>
 asI .i64 k λl=>
 BIF ((decide (l<0))) (
 aa (.bool true) b) (
 LDA 10 b ⟨a,0,none⟩ λm=>
 ae ai lE #[.agg m] (λn o=>
 asA n λAz=>
 ae ai sG #[.agg Az] (λwi iG=>
 OI wi λyM Db Dc=>
 asA yM λIK=>
 asF .f32 Db λg=>
 asI .i64 Dc λVb=>
 ALC ⟨bx⟩ aE (λc jZ=>
 STA 10 jZ ⟨c,0,none⟩ IK λqz=>
 LDA 10 qz ⟨a,0,none⟩ λp=>
 ae ai lE #[.agg p] (λq r=>
 asA q λWt=>
 ALC ⟨bx⟩ aE (λd wP=>
 STA 10 wP ⟨d,0,none⟩ Wt λuN=>
 LDA 10 uN ⟨d,0,none⟩ λs=>
 ae ai o6 #[.agg s] (λVq DL=>
 OI Vq λt u Wd=>
 asA t λRQ=>
 asF .f32 u λTP=>
 asI .i64 Wd λi=>
 ALC ⟨bx⟩ aE (λe DM=>
 STA 10 DM ⟨e,0,none⟩ RQ λIL=>
 LDA 10 IL ⟨e,0,none⟩ λv=>
 LDA 10 IL ⟨c,0,none⟩ λw=>
 ae ai lz #[.agg v,.agg w] (λx Su=>
 asB x λy=>
 BIF (!y) (
 aa (.bool false) Su) (
 FFC .f32 TP .f64 λz=>
 FFC .f32 g .f64 λA=>
 ae ai bS #[.float .f64 z,.float .f64 A] (λB Sw=>
 asB B λC=>
 BIF (!C) (
 aa (.bool false) Sw) (
 BIF (i != Vb) (
 aa (.bool false) Sw) (
 bE.J10 aa ⟨a,0,none⟩ ⟨c,0,none⟩ g Vb ⟨d,0,none⟩ ⟨e,0,none⟩ TP i Sw))) Su)) IL) DL) uN) r) qz) iG) o) b)) f) h
theorem bE.call{agT:Array Value}{aa:VH}{h:ab}(H:bE.S agT aa h):ae ai pW #[.agg agT] aa h:=
 qc (Λ:=an [(10,bE.j10 aa),(16,bE.j16 aa),(27,bE.j27 aa)]) Tryz.func9
 (qs qf (qs qf (qs qf (qs qf (qs qf (qs qf (qs qf (qj (bE.j10 aa) qf
 (qs qf (qs qf (qs qf (qj (bE.j16 aa) qf
 (qs qf (qs qf (qs qf (qs qf (qs qf (qs qf (qs qf (qj (bE.j27 aa) qf
 qf))))))))))))))))))))
 (qe H)
set_option maxHeartbeats 2000000
noncomputable def ay.may(p:ay)(count MP:Int):Int:=if p.ok=true then if inR count 0 MP=true then if 200000<p.nJ+count then 3 else 0 else 2 else 1
noncomputable def ay.jS(p:ay):ay×Nat×Int:=if p.may 1 1=0 then (p.step.1,p.step.2,0) else (EG,0,p.may 1 1)
theorem TD:lv.small:=⟨(λr hr=>nomatch hr),(λr hr=>nomatch hr),Nat.zero_le _,Nat.zero_le _,Nat.zero_le _⟩
theorem W4{s:cA}{v:aJ}(h:kv s v=true):v.small:=by
 have z1:ff.Loop.af.length≤1048576:=Nat.zero_le _
 have z3:mD.bX.af.length≤1048576:=Nat.zero_le _
 have z4:mD.aK.af.length≤1048576:=Nat.zero_le _
 have ring:∀{r:bc},r.ok=true->r.af.length≤1048576:=λh=>by have:=mH h;omega
 have okf:∀{r:bc},r.okf=true->r.af.length≤1048576:=λh=>ring (by unfold bc.okf at h;rw[Bool.and_eq_true] at h;exact h.1)
 unfold kv at h
 split at h
 ·unfold DI at h
  simp only[Bool.and_eq_true,jg] at h
  obtain⟨⟨⟨⟨⟨⟨h1,h2⟩,h3⟩,_⟩,_⟩,_⟩,_⟩:=h
  exact ⟨by rw[h1];exact z1,by rw[h2];exact TD,by rw[h3];exact z3,by rw[h3];exact z4⟩
 ·split at h
  ·cases h
  ·simp only[Bool.and_eq_true] at h
   have hb:=h.2
   unfold pB at hb
   split at hb
   ·simp only[Bool.and_eq_true,jg] at hb
    obtain⟨⟨h1,h2⟩,h3⟩:=hb
    unfold bP.ok at h1
    simp only[Bool.and_eq_true] at h1
    exact ⟨ring h1.1.1.1,by rw[h2];exact TD,by rw[h3];exact z3,by rw[h3];exact z4⟩
   ·split at hb
    ·simp only[Bool.and_eq_true,jg] at hb
     obtain⟨⟨h1,h2⟩,h3⟩:=hb
     exact ⟨by rw[h1];exact z1,Y8 h2,by rw[h3];exact z3,by rw[h3];exact z4⟩
    ·simp only[Bool.and_eq_true,jg] at hb
     obtain⟨⟨h1,h2⟩,h3⟩:=hb
     unfold jh.ok at h3
     simp only[Bool.and_eq_true] at h3
     exact ⟨by rw[h1];exact z1,by rw[h2];exact TD,okf h3.1.1.1,okf h3.1.1.2⟩
theorem QY{p:ay}(h:p.ok=true){v:aJ}(hv:v ∈ p.al):kv p.Score v=true:=by
 unfold ay.ok at h
 simp only[Bool.and_eq_true,List.all_eq_true,List.mem_range] at h
 obtain⟨i,hi,rfl⟩:=List.mem_iff_getElem.1 hv
 have:=h.2 i hi
 unfold g0 at this
 rw[getElem!_pos p.al i hi,Bool.and_eq_true] at this
 exact this.1
theorem QA{p:ay}(h:p.ok=true):p.Wj:=⟨(AT h).1.s,(AT h).1.n6,λv hv=>W4 (QY h hv)⟩
section
variable {h:ab}{q:Addr}{p:ay}
theorem aei{count MP:Int}(R:RdP aR h q p)(hm:MP≤1000000):ae ai zN #[.pointer (some q),.int .i64 count,.int .i64 MP] (λu h'=>u = .int .i64 (p.may count MP)∧Ext h h') h:=by
 refine Et.call (goX (aif R) λh1 x1=>bd (brN (λe=>⟨by unfold ay.may;rw[e,if_neg (by decide)],x1⟩) λe1=>?_))
 obtain⟨_,n1,n2⟩:=AT e1
 refine goE x1 (mg _ _ _ _) λh2 x2=>bd (brN (λe=>⟨by unfold ay.may;rw[if_pos e1,e,if_neg (by decide)],x2⟩) λe2=>(R.ext x2).oI ?_)
 have hc:0≤count∧count≤MP:=by simp only[inR,Bool.and_eq_true,decide_eq_true_eq] at e2;exact e2
 rw[wrap64 (n:=p.nJ+count) (by omega) (by omega)]
 exact brd (λk=>⟨by unfold ay.may;rw[if_pos e1,if_pos e2,if_pos k],x2⟩) λk=>⟨by unfold ay.may;rw[if_pos e1,if_pos e2,if_neg k],x2⟩
theorem ae8{cs:Array Value}{count:Int}(R0:aR.rd h cs.toList p)(hn:0≤p.nJ∧p.nJ≤200000)(hc:0≤count∧count≤1000000):ae ai ot #[.agg cs,.int .i64 count] (λu h'=>u = .bool (decide (200000<p.nJ+count))∧Ext h h') h:=by
 refine re.call (fj R0 λg h1 x1 R=>R.oI2 ?_)
 rw[wrap64 (n:=p.nJ+count) (by omega) (by omega)]
 exact ⟨rfl,x1⟩
def PFI(h h':ab)(u:Value)(r:ay×Nat×Int):Prop:=∃cs B y,u = .tuple ⟨[.agg cs,.float .f32 y,.int .i64 r.2.2]⟩∧aR.ow B cs.toList r.1∧FW .f32 y r.2.1∧Mem h h' B
theorem Y7{h0 hh:ab}{g3:Nat}{L:List Blk}{r:ay×Nat×Int}{k:Int}(M:Mem h0 hh ((g3,aE,⟨bx⟩) :: L))(e:r=(EG,0,k)):
  STA 10 hh ⟨g3,0,none⟩ ⟨bx⟩ λh1=>LDA 10 h1 ⟨g3,0,none⟩ λa=>PFI h0 h1 (.tuple ⟨[.agg a,.float .f32 0,.int .i64 k]⟩) r:=by
 subst e
 exact M.dy .here rfl (eG rfl) rfl .here λh3 M=>M.cM .here rfl ⟨_,[],0,rfl,Og,fw0,(Mem.start h0).grow M.ext⟩
theorem Iu{cs:Array Value}(R0:aR.rd h cs.toList p):ae ai sG #[.agg cs] (λu h'=>PFI h h' u p.jS) h:=by
 refine wm.call ((Mem.start h).alc λg1 h1 x1 M=>M.alc λg3 h2 x2 M=>?_)
 have R:RdP aR h2 ⟨g1,0,none⟩ p:=M.rdp (.there .here) (aR.ext M.ext R0)
 refine goM M (aei R (by decide)) λh3 M=>cX (br (λk=>?_) λk=>?_)
 ·have k:¬p.may 1 1=0:=by simpa using k
  exact Y7 M (by unfold ay.jS;rw[if_neg k])
 have k:p.may 1 1=0:=by simpa using k
 have ok:p.ok=true:=by
  unfold ay.may at k
  split at k
  ·assumption
  ·cases k
 obtain⟨Ru,n1,n2⟩:=AT ok
 have Gz:p.jS=(p.step.1,p.step.2,0):=by unfold ay.jS;rw[if_pos k]
 rw[Gz]
 have R:RdP aR h3 ⟨g1,0,none⟩ p:=M.rdp (.there .here) (aR.ext M.ext R0)
 refine gw.go M (ab9 R (QA ok)) λh4 c4 B4 M O4 s4=>fe (M.alc λBQ h5 x5 M=>M.dy .here s4 (aR.iH O4) rfl .here λh6 M=>?_)
 have P:Pt aR h h6 ⟨BQ,0,none⟩ ⟨BQ,aE,[],[]⟩ [(g3,aE,⟨bx⟩)] p:=Pt.new O4 (M.cnt (λp=>by simp only[bO,bz,cg] at *;omega))
 refine (aba P Ru (by omega)).mono ?_
 rintro _ h7 ⟨⟨y,rfl,hy⟩,P⟩
 obtain⟨c7,B7,M,O7⟩:=P.out
 refine dv (M.cM .here (osz O7 rfl) ?_)
 have M:=M.cnt (W:=(g3,aE,⟨bx⟩) :: B7)
 exact M.dy .here (osz O7 rfl) (aR.iH O7) rfl .here λh8 M=>M.cM .here (osz O7 rfl) ⟨_,B7,y,rfl,O7,hy,M.drop⟩
theorem yZ{cs:Array Value}(R0:aR.rd h cs.toList p):ae ai o6 #[.agg cs] (λu h'=>PFI h h' u p.jS) h:=by
 refine vZ.call ((Mem.start h).alc λg1 h1 x1 M=>M.alc λg3 h2 x2 M=>?_)
 have one:inR 1 0 1=true:=by decide
 refine M.cM (.there .here) (rsz R0 rfl) (goM M (OK (aR.ext M.ext R0)) λh3 M=>bd (brN (λe=>Y7 M ?_) λok=>?_))
 ·have k:p.may 1 1=1:=by unfold ay.may;rw[e,if_neg (by decide)]
  unfold ay.jS;rw[k,if_neg (by decide)]
 obtain⟨Ru,n1,n2⟩:=AT ok
 refine M.cM (.there .here) (rsz R0 rfl) (goM M (ae8 (aR.ext M.ext R0) ⟨n1,n2⟩ (by omega)) λh4 M=>bd (brd (λe=>Y7 M ?_) λe=>?_))
 ·have k:p.may 1 1=3:=by unfold ay.may;rw[if_pos ok,if_pos one,if_pos e]
  unfold ay.jS;rw[k,if_neg (by decide)]
 have k:p.may 1 1=0:=by unfold ay.may;rw[if_pos ok,if_pos one,if_neg e]
 have Gz:p.jS=(p.step.1,p.step.2,0):=by unfold ay.jS;rw[if_pos k]
 rw[Gz]
 refine M.cM (.there .here) (rsz R0 rfl) (gw.go M (Lx (aR.ext M.ext R0) (QA ok)) λh5 c5 B5 M O5 s5=>fe ?_)
 have M:=M.cnt (W:=(g1,aE,cs) :: (B5++[(g3,aE,⟨bx⟩)]))
 refine M.dy .here s5 (aR.iH O5) (rsz R0 rfl) .here λh6 M=>?_
 have P:Pt aR h h6 ⟨g1,0,none⟩ ⟨g1,aE,[],[]⟩ [(g3,aE,⟨bx⟩)] p:=Pt.new O5 M
 refine (OD P Ru (by omega)).mono ?_
 rintro _ h7 ⟨⟨y,rfl,hy⟩,P⟩
 obtain⟨c7,B7,M,O7⟩:=P.out
 refine dv (M.cM .here (osz O7 rfl) ?_)
 have M:=M.cnt (W:=(g3,aE,⟨bx⟩) :: B7)
 exact M.dy .here (osz O7 rfl) (aR.iH O7) rfl .here λh8 M=>M.cM .here (osz O7 rfl) ⟨_,B7,y,rfl,O7,hy,M.drop⟩
end
theorem Vf(xs:List Nat):aw xs≤8*cD xs:=by unfold aw cD;omega
section
variable {h:ab}
theorem ER{ca cb:Array Value}{x:bc}(Ra:bo.rd h ca.toList x)(Rb:bo.rd h cb.toList x):ae ai nN #[.agg ca,.agg cb] (λu h'=>u = .bool true∧Ext h h') h:=by
 refine E2.call (fj Ra λg1 h1 x1 A=>fj (bo.ext x1 Rb) λg2 h2 x2 B=>?_)
 have A:=A.ext x2
 have X:=x1.trans x2
 refine A.oL2 λb1 l1 c1 S1=>B.oL2 λb2 l2 c2 S2=>goX (zw S1 S2) λh' x'=>bd (dp rfl ?_)
 have A:=A.ext x'
 have B:=B.ext x'
 have X:=X.trans x'
 refine A.oI2 (B.oI2 (dp (by simp) ?_))
 exact ⟨rfl,X⟩
def gW(x:bc):Nat:=cD x.af
theorem Fh{cs:Array Value}{x:bc}(R0:bo.rd h cs.toList x)(left:Nat)(hl:left≤1048576):ae ai nO #[.agg cs,.int .i64 (left:Int)] (λu h'=>u = .int .i64 (yN left (gW x))∧Ext h h') h:=by
 have hw:gW x=cD x.af:=rfl
 refine E5.call (fj R0 λg1 h1 X R=>?_)
 refine R.oL2 λb1 l1 c1 S1=>goX (Ao S1 (left) (by omega)) λh' x'=>cX (np (λhc=>⟨by rw[gN (by omega)],X.trans x'⟩) λhc=>?_)
 rw[eM hc]
 have R:=R.ext x'
 have X:=X.trans x'
 exact ⟨by rw[eM (by omega)];congr 2 <;> omega,X⟩
theorem Fi{cs:Array Value}{x:bc}(R0:bo.rd h cs.toList x)(GI:gW x≤1048576):ae ai nP #[.agg cs] (λu h'=>gw bo h h' u x) h:=by
 have hw:gW x=cD x.af:=rfl
 refine E7.call ((Mem.start h).alc λg1 h1 x1 M=>M.alc λg2 h2 x2 M=>M.alc λg3 h3 x3 M=>?_)
 have P:Pt bo h h3 ⟨g3,0,none⟩ ⟨g3,aq,[],[]⟩ [(g2,aq,⟨fO⟩),(g1,Dm,cs)] oY:=Pt.new (r:=bo) qt M
 have R:RdP bo _ ⟨g1,0,none⟩ x:=P.mem.rdp (.there .here) (bo.ext P.ext R0)
 refine R.oL2 λb l c S=>(Ar S (by have:=S.len;omega)).mono ?_
 rintro _ h' ⟨b',c',B,rfl,O,N⟩
 refine lZ ((P.join N).VD O λh' P=>?_)
 have R:RdP bo _ ⟨g1,0,none⟩ x:=P.mem.rdp (.there .here) (bo.ext P.ext R0)
 refine R.oI2 (P.Iv λh' P=>?_)
 obtain⟨c',B,M,O⟩:=P.out
 refine M.cM .here (osz O rfl) ?_
 have M:=M.cnt (W:=(g2,aq,⟨fO⟩) :: B)
 refine M.dy .here (osz O rfl) (bo.iH O) rfl .here λh3 M=>M.cM .here (osz O rfl) ?_
 exact ⟨_,B,rfl,O,M.drop⟩
theorem yT{ca cb:Array Value}{x:cN}(Ra:bQ.rd h ca.toList x)(Rb:bQ.rd h cb.toList x):ae ai ly #[.agg ca,.agg cb] (λu h'=>u = .bool true∧Ext h h') h:=by
 refine zY.call (fj Ra λg1 h1 x1 A=>fj (bQ.ext x1 Rb) λg2 h2 x2 B=>?_)
 have A:=A.ext x2
 have X:=x1.trans x2
 refine A.oI2 (B.oI2 (dp (by simp) ?_))
 refine A.fc cV rfl λc1 R1=>B.fc cV rfl λc2 R2=>goX (LU R1 R2) λh' x'=>bd (dp rfl ?_)
 have A:=A.ext x'
 have B:=B.ext x'
 have X:=X.trans x'
 refine A.fc cW rfl λc1 R1=>B.fc cW rfl λc2 R2=>goX (LS R1 R2) λh' x'=>bd (dp rfl ?_)
 have A:=A.ext x'
 have B:=B.ext x'
 have X:=X.trans x'
 exact ⟨rfl,X⟩
theorem zo{cs:Array Value}{x:cN}(R0:bQ.rd h cs.toList x):ae ai lD #[.agg cs] (λu h'=>gw bQ h h' u x) h:=by
 refine A8.call ((Mem.start h).alc λg1 h1 x1 M=>M.alc λg2 h2 x2 M=>M.alc λg3 h3 x3 M=>?_)
 have P:Pt bQ h h3 ⟨g3,0,none⟩ ⟨g3,db,[],[]⟩ [(g2,db,⟨fH⟩),(g1,FM,cs)] lX:=Pt.new (r:=bQ) nw M
 have R:RdP bQ _ ⟨g1,0,none⟩ x:=P.mem.rdp (.there .here) (bQ.ext P.ext R0)
 refine R.oI2 (P.Iv λh' P=>?_)
 have R:RdP bQ _ ⟨g1,0,none⟩ x:=P.mem.rdp (.there .here) (bQ.ext P.ext R0)
 refine R.fc cV rfl λc1 R1=>gw.pt P (NT R1) λh' c2 B P O ho=>fe (P.Eu cV rfl O λh' P=>?_)
 have R:RdP bQ _ ⟨g1,0,none⟩ x:=P.mem.rdp (.there .here) (bQ.ext P.ext R0)
 refine R.fc cW rfl λc1 R1=>gw.pt P (NS R1) λh' c2 B P O ho=>fe (P.Eu cW rfl O λh' P=>?_)
 obtain⟨c',B,M,O⟩:=P.out
 refine M.cM .here (osz O rfl) ?_
 have M:=M.cnt (W:=(g2,db,⟨fH⟩) :: B)
 refine M.dy .here (osz O rfl) (bQ.iH O) rfl .here λh3 M=>M.cM .here (osz O rfl) ?_
 exact ⟨_,B,rfl,O,M.drop⟩
end
end Go.Sx
