/- Lemmas. -/
import Derived.Test.YthgnpepchedpbaaGreatDoorLk64
import Derived.Test.YthgnpepchedpbaaGreatDoorTab
import Derived.Test.YthgnpepchedpbaaGreatDoorLr3
import Derived.Test.YthgnpepchedpbaaGreatDoorLk13
import Derived.Test.YthgnpepchedpbaaGreatDoorH4
import Derived.Test.YthgnpepchedpbaaGreatDoorLr7
set_option linter.unusedVariables false
set_option linter.unusedSimpArgs false
namespace Go.Sx
open Go.Proofs
set_option maxRecDepth 100000
section
variable {h:ab}
theorem MZ{ca cb:Array Value}{x:bC}(Ra:dD.rd h ca.toList x)(Rb:dD.rd h cb.toList x):af ak 48 #[.agg ca,.agg cb] (λu h'=>u = .bool true∧Ext h h') h:=by
 refine uj.call (gD Ra λg1 h1 x1 A=>gD (dD.ext x1 Rb) λg2 h2 x2 B=>?_)
 have A:=A.ext x2
 have X:=x1.trans x2
 refine A.oF2 λy hy=>cg hy λr1 k1=>B.oF2 λz hz=>cg hz λr2 k2=>goX (iA k1 k2 _) λh' x'=>bt (cM rfl ?_)
 have A:=A.ext x'
 have B:=B.ext x'
 have X:=X.trans x'
 refine A.oF2 λy hy=>cg hy λr1 k1=>B.oF2 λz hz=>cg hz λr2 k2=>goX (iA k1 k2 _) λh' x'=>bt (cM rfl ?_)
 have A:=A.ext x'
 have B:=B.ext x'
 have X:=X.trans x'
 refine A.oL2 λb1 l1 c1 S1=>B.oL2 λb2 l2 c2 S2=>goX (tW S1 S2) λh' x'=>bt (cM rfl ?_)
 have A:=A.ext x'
 have B:=B.ext x'
 have X:=X.trans x'
 exact⟨rfl,X⟩
def gQ(x:bC):Nat:=cf x.bG
theorem OZ{cs:Array Value}{x:bC}(R0:dD.rd h cs.toList x)(left:Nat)(hl:left≤1048576):af ak 38 #[.agg cs,.int .i64 (left:Int)] (λu h'=>u = .int .i64 (CL left (gQ x))∧Ext h h') h:=by
 have hw:gQ x=cf x.bG:=rfl
 refine uk.call (gD R0 λg1 h1 X R=>?_)
 refine R.oL2 λb1 l1 c1 S1=>goX (Jc S1 (left) (by omega)) λh' x'=>cN (Ho (λhc=>⟨by rw[nO (by omega)],X.trans x'⟩) λhc=>?_)
 rw[ly hc]
 have R:=R.ext x'
 have X:=X.trans x'
 exact⟨by rw[ly (by omega)];congr 2 <;> omega,X⟩
theorem Pb{cs:Array Value}{x:bC}(R0:dD.rd h cs.toList x)(ES:gQ x≤1048576):af ak 43 #[.agg cs] (λu h'=>mN dD h h' u x) h:=by
 have hw:gQ x=cf x.bG:=rfl
 refine um.call ((Mem.start h).alc λg1 h1 x1 M=>M.alc λg2 h2 x2 M=>M.alc λg3 h3 x3 M=>?_)
 have P:Pt dD h h3 ⟨g3,0,none⟩ ⟨g3,35,[],[]⟩ [(g2,35,⟨lW⟩),(g1,25,cs)] HJ:=Pt.new (r:=dD) HL M
 have R:RdP dD _ ⟨g1,0,none⟩ x:=P.mem.rdp (.there .here) (dD.ext P.ext R0)
 refine R.oF2 λy hy=>P.ON hy λh' P=>?_
 have R:RdP dD _ ⟨g1,0,none⟩ x:=P.mem.rdp (.there .here) (dD.ext P.ext R0)
 refine R.oF2 λy hy=>P.ON hy λh' P=>?_
 have R:RdP dD _ ⟨g1,0,none⟩ x:=P.mem.rdp (.there .here) (dD.ext P.ext R0)
 refine R.oL2 λb l c S=>(Jo S (by have:=S.len;omega)).mono ?_
 rintro _ h' ⟨b',c',B,rfl,O,N⟩
 refine lR ((P.join N).agY O λh' P=>?_)
 obtain⟨c',B,M,O⟩:=P.out
 refine M.df .here (osz O rfl) ?_
 have M:=M.cnt (W:=(g2,35,⟨lW⟩) :: B)
 refine M.dH .here (osz O rfl) (dD.jy O) rfl .here λh3 M=>M.df .here (osz O rfl) ?_
 exact⟨_,B,rfl,O,M.drop⟩
theorem EI{ca cb:Array Value}{x:bh}(Ra:aA.rd h ca.toList x)(Rb:aA.rd h cb.toList x):af ak 82 #[.agg ca,.agg cb] (λu h'=>u = .bool true∧Ext h h') h:=by
 refine nw.call (gD Ra λg1 h1 x1 A=>gD (aA.ext x1 Rb) λg2 h2 x2 B=>?_)
 have A:=A.ext x2
 have X:=x1.trans x2
 refine A.oS2 λ_=>B.oS2 λ_=>cM (by simp) ?_
 refine A.oI2 (B.oI2 (cM (by simp) ?_))
 refine A.oF2 λy hy=>cg hy λr1 k1=>B.oF2 λz hz=>cg hz λr2 k2=>goX (iA k1 k2 _) λh' x'=>bt (cM rfl ?_)
 have A:=A.ext x'
 have B:=B.ext x'
 have X:=X.trans x'
 refine A.oF2 λy hy=>cg hy λr1 k1=>B.oF2 λz hz=>cg hz λr2 k2=>goX (iA k1 k2 _) λh' x'=>bt (cM rfl ?_)
 have A:=A.ext x'
 have B:=B.ext x'
 have X:=X.trans x'
 refine A.oF2 λy hy=>cg hy λr1 k1=>B.oF2 λz hz=>cg hz λr2 k2=>goX (iA k1 k2 _) λh' x'=>bt (cM rfl ?_)
 have A:=A.ext x'
 have B:=B.ext x'
 have X:=X.trans x'
 exact⟨rfl,X⟩
def gr(x:bh):Nat:=x.Name.size
theorem EY{cs:Array Value}{x:bh}(R0:aA.rd h cs.toList x)(left:Nat)(hl:left≤1048576):af ak 73 #[.agg cs,.int .i64 (left:Int)] (λu h'=>u = .int .i64 (CL left (gr x))∧Ext h h') h:=by
 have hm:=cu
 refine ny.call (gD R0 λg1 h1 X R=>R.oS2 λhs=>?_)
 have hw:gr x=x.Name.size:=rfl
 rw[wrap64 (n:=(left:Int)-(x.Name.size:Int)) (by omega) (by omega)]
 refine brd (λhc=>⟨by rw[nO (by omega)],X⟩) λhc=>⟨by rw[ly (by omega)];congr 1;omega,X⟩
theorem F6{cs:Array Value}{x:bh}(R0:aA.rd h cs.toList x):af ak 79 #[.agg cs] (λu h'=>mN aA h h' u x) h:=by
 refine nA.call ((Mem.start h).alc λg1 h1 x1 M=>M.alc λg2 h2 x2 M=>M.alc λg3 h3 x3 M=>?_)
 have P:Pt aA h h3 ⟨g3,0,none⟩ ⟨g3,135,[],[]⟩ [(g2,135,⟨fu⟩),(g1,129,cs)] kt:=Pt.new (r:=aA) zg M
 have R:RdP aA _ ⟨g1,0,none⟩ x:=P.mem.rdp (.there .here) (aA.ext P.ext R0)
 refine R.oS2 λhs=>P.atB hs λh' P=>?_
 have R:RdP aA _ ⟨g1,0,none⟩ x:=P.mem.rdp (.there .here) (aA.ext P.ext R0)
 refine R.oI2 (P.Vk λh' P=>?_)
 have R:RdP aA _ ⟨g1,0,none⟩ x:=P.mem.rdp (.there .here) (aA.ext P.ext R0)
 refine R.oF2 λy hy=>P.ON hy λh' P=>?_
 have R:RdP aA _ ⟨g1,0,none⟩ x:=P.mem.rdp (.there .here) (aA.ext P.ext R0)
 refine R.oF2 λy hy=>P.ON hy λh' P=>?_
 have R:RdP aA _ ⟨g1,0,none⟩ x:=P.mem.rdp (.there .here) (aA.ext P.ext R0)
 refine R.oF2 λy hy=>P.ON hy λh' P=>?_
 obtain⟨c',B,M,O⟩:=P.out
 refine M.df .here (osz O rfl) ?_
 have M:=M.cnt (W:=(g2,135,⟨fu⟩) :: B)
 refine M.dH .here (osz O rfl) (aA.jy O) rfl .here λh3 M=>M.df .here (osz O rfl) ?_
 exact⟨_,B,rfl,O,M.drop⟩
theorem nP:0<aA.sz:=by decide
def dz(xs:List bh):Nat:=xs.length+nL gr xs
theorem DP{b:Option Addr}{l c:Nat}{xs:List bh}(S:SlR aA h b l c xs)(left:Nat)(hl:left≤1048576):af ak 39 #[.slice b l c,.int .i64 (left:Int)] (λu h'=>u = .int .i64 (CL left (dz xs))∧Ext h h') h:=by
 have hx:=S.len
 have h2:=S.2.1
 have h3:=S.2.2.1
 have hw:dz xs=xs.length+nL gr xs:=rfl
 have:=cu
 refine dk.call ?_
 unfold dk.S
 rw[wrap64 (n:=(left:Int)-(l:Int)) (by omega) (by omega)]
 refine brd (λhc=>⟨by rw[nO (by omega)],Ext.refl _⟩) λhc=>?_
 refine loop (λx hh=>∃m:Nat,x=(b,l,c,((left-l-nL gr (xs.take m):Nat):Int),(m:Int))∧m≤l∧Ext h hh∧nL gr (xs.take m)≤left-l) (λx=>(l-x.2.2.2.2).toNat) ⟨0,by rw[show((left:Int)-(l:Int))=((left-l:Nat):Int) by omega];rfl,by omega,Ext.refl _,Nat.zero_le _⟩ ?_
 rintro x hh ⟨m,rfl,hn,X,hm⟩
 refine brd (λhc=>?_) λhc=>?_
 ·have h4:=zB (n:=gr) (xs:=xs) (i:=m) (by omega)
  have h5:=oQ (n:=gr) xs (m+1)
  refine(S.ext X).idx nP (by omega) (by omega) λa Ra=>Ra.jc rfl λc1 R1=>goX (EY R1 _ (by omega)) λh' x'=>cN (Ho (λhb=>⟨by rw[Int.toNat_natCast] at hb;rw[nO (by omega)],X.trans x'⟩) λhb=>?_)
  rw[ly hb,ag (by omega)]
  rw[Int.toNat_natCast] at hb ⊢
  exact⟨⟨m+1,by rw[h4,Nat.sub_sub],by omega,X.trans x',by omega⟩,by show _<_;simp;omega⟩
 ·obtain rfl:m=l:=by omega
  have e:xs.take m=xs:=by rw[← hx];exact List.take_length
  rw[e] at hm ⊢
  exact⟨by rw[ly (by omega),hw,hx,Nat.sub_sub],X⟩
theorem DW{b:Option Addr}{l c:Nat}{xs:List bh}(S:SlR aA h b l c xs)(hl0:dz xs≤1048576):af ak 44 #[.slice b l c] (λu h'=>∃b' c' B,u = .slice b' l c'∧SlO 135 aA B b' l c' xs∧Mem h h' B) h:=by
 have hxl:=S.len
 have hw:dz xs=xs.length+nL gr xs:=rfl
 have hl:l≤1048576:=by omega
 refine dB.call ?_
 refine vW (r:=aA) (z:=kt) (zc:=fu) zg rfl rfl (by decide) (Mem.start h) (by show 40*l≤2 ^ 48;omega) (Nat.le_trans hl (by decide)) λg h1 x1 M0 O0=>?_
 refine loop (λx hh=>∃(n:Nat) (B:List Blk),x=(b,l,c,some ⟨g,0,none⟩,l,l,(n:Int))∧n≤l∧SlO 135 aA B (some ⟨g,0,none⟩) l l (xs.take n++List.replicate (l-n) kt)∧Mem h hh (B++[])) (λx=>(l-x.2.2.2.2.2.2).toNat) ⟨0,_,rfl,by omega,O0,M0⟩ ?_
 rintro x hh ⟨n,B,rfl,hn,O,M⟩
 refine brd (λhc=>?_) λhc=>?_
 ·have h5:gr xs[n]! ≤ nL gr xs:=GC (by omega)
  refine(S.ext M.ext).idx nP (by omega) (by omega) λa Ra=>Ra.jc rfl λc1 R1=>mN.go M (F6 R1) λh' c2 B2 M2 O2 ho=>gw ?_
  obtain⟨a0,F',C,e,op,close⟩:=O.ad5 (i:=n) (by omega)
  cases e
  have P:=(op _ _ B2 (M2.cnt (λp=>by simp only[bN,bu,bZ] at *;omega))).cnt (W:=B2++(C++[]))
  refine idxs (by omega) (by omega) ?_
  rw[Int.toNat_natCast] at O2
  rw[Int.toNat_natCast,show n*5=n*aA.sz from rfl]
  refine(kW ((⟨g,0,none⟩:Addr).add (n*aA.sz))) ▸ P.sts (Foc.here aA) rfl O2 λWS P=>?_
  obtain⟨B',O',M'⟩:=close _ _ _ _ P
  have e:(xs.take n++List.replicate (l-n) kt).set n xs[n]! = xs.take (n+1)++List.replicate (l-(n+1)) kt:=by rw[getElem!_pos xs n (by omega)];exact Db hxl (by omega)
  rw[e] at O'
  rw[ag (by omega)]
  exact⟨⟨n+1,B',rfl,by omega,O',M'⟩,by show _<_;simp;omega⟩
 ·obtain rfl:n=l:=by omega
  rw[show xs.take n++List.replicate (n-n) kt=xs by rw[← hxl];simp] at O
  rw[List.append_nil] at M
  exact⟨_,_,B,rfl,O,M⟩
theorem Dd{b1 b2:Option Addr}{l1 c1 l2 c2:Nat}{xs:List bh}(S1:SlR aA h b1 l1 c1 xs)(S2:SlR aA h b2 l2 c2 xs):af ak 49 #[.slice b1 l1 c1,.slice b2 l2 c2] (λu h'=>u = .bool true∧Ext h h') h:=by
 have e1:=S1.len
 have e2:=S2.len
 have h2:=S1.2.1
 have h3:=S1.2.2.1
 have:=cu
 obtain rfl:l1=l2:=by omega
 refine dA.call (cM (by simp) ?_)
 refine loop (λx hh=>∃n:Nat,x=(b1,l1,c1,b2,l1,c2,(n:Int))∧n≤l1∧Ext h hh) (λx=>(l1-x.2.2.2.2.2.2).toNat) ⟨0,rfl,by omega,Ext.refl _⟩ ?_
 rintro x hh ⟨n,rfl,hn,X⟩
 refine brd (λhc=>?_) λhc=>⟨rfl,X⟩
 refine(S1.ext X).idx nP (by omega) (by omega) λa Ra=>Ra.jc rfl λca R1=>(S2.ext X).idx nP (by omega) (by omega) λa' Rb=>Rb.jc rfl λcb R2=>goX (EI R1 R2) λh' x'=>bt (cM rfl ?_)
 rw[ag (by omega)]
 exact⟨⟨n+1,rfl,by omega,X.trans x'⟩,by show _<_;simp;omega⟩
theorem Q3{ca cb:Array Value}{x:aZ}(Ra:bF.rd h ca.toList x)(Rb:bF.rd h cb.toList x):af ak 83 #[.agg ca,.agg cb] (λu h'=>u = .bool true∧Ext h h') h:=by
 refine vO.call (gD Ra λg1 h1 x1 A=>gD (bF.ext x1 Rb) λg2 h2 x2 B=>?_)
 have A:=A.ext x2
 have X:=x1.trans x2
 refine A.oI2 (B.oI2 (cM (by simp) ?_))
 refine A.oI2 (B.oI2 (cM (by simp) ?_))
 refine A.oI2 (B.oI2 (cM (by simp) ?_))
 refine A.oI2 (B.oI2 (cM (by simp) ?_))
 refine A.oI2 (B.oI2 (cM (by simp) ?_))
 refine A.oF2 λy hy=>cg hy λr1 k1=>B.oF2 λz hz=>cg hz λr2 k2=>goX (iA k1 k2 _) λh' x'=>bt (cM rfl ?_)
 have A:=A.ext x'
 have B:=B.ext x'
 have X:=X.trans x'
 exact⟨rfl,X⟩
theorem Sb{cs:Array Value}{x:aZ}(R0:bF.rd h cs.toList x):af ak 80 #[.agg cs] (λu h'=>mN bF h h' u x) h:=by
 refine vS.call ((Mem.start h).alc λg1 h1 x1 M=>M.alc λg2 h2 x2 M=>M.alc λg3 h3 x3 M=>?_)
 have P:Pt bF h h3 ⟨g3,0,none⟩ ⟨g3,131,[],[]⟩ [(g2,131,⟨jg⟩),(g1,142,cs)] wH:=Pt.new (r:=bF) Km M
 have R:RdP bF _ ⟨g1,0,none⟩ x:=P.mem.rdp (.there .here) (bF.ext P.ext R0)
 refine R.oI2 (P.Vk λh' P=>?_)
 have R:RdP bF _ ⟨g1,0,none⟩ x:=P.mem.rdp (.there .here) (bF.ext P.ext R0)
 refine R.oI2 (P.Vk λh' P=>?_)
 have R:RdP bF _ ⟨g1,0,none⟩ x:=P.mem.rdp (.there .here) (bF.ext P.ext R0)
 refine R.oI2 (P.Vk λh' P=>?_)
 have R:RdP bF _ ⟨g1,0,none⟩ x:=P.mem.rdp (.there .here) (bF.ext P.ext R0)
 refine R.oI2 (P.Vk λh' P=>?_)
 have R:RdP bF _ ⟨g1,0,none⟩ x:=P.mem.rdp (.there .here) (bF.ext P.ext R0)
 refine R.oI2 (P.Vk λh' P=>?_)
 have R:RdP bF _ ⟨g1,0,none⟩ x:=P.mem.rdp (.there .here) (bF.ext P.ext R0)
 refine R.oF2 λy hy=>P.ON hy λh' P=>?_
 obtain⟨c',B,M,O⟩:=P.out
 refine M.df .here (osz O rfl) ?_
 have M:=M.cnt (W:=(g2,131,⟨jg⟩) :: B)
 refine M.dH .here (osz O rfl) (bF.jy O) rfl .here λh3 M=>M.df .here (osz O rfl) ?_
 exact⟨_,B,rfl,O,M.drop⟩
theorem iO:0<bF.sz:=by decide
def iu(xs:List aZ):Nat:=xs.length
theorem OY{b:Option Addr}{l c:Nat}{xs:List aZ}(S:SlR bF h b l c xs)(left:Nat)(hl:left≤1048576):af ak 40 #[.slice b l c,.int .i64 (left:Int)] (λu h'=>u = .int .i64 (CL left (iu xs))∧Ext h h') h:=by
 have h1:iu xs=l:=S.len
 have h2:=S.2.1
 have h3:=S.2.2.1
 have:=cu
 refine px.call ?_
 unfold px.S
 rw[wrap64 (n:=(left:Int)-(l:Int)) (by omega) (by omega),h1]
 refine brd (λhc=>⟨by rw[nO (by omega)],Ext.refl _⟩) λhc=>⟨by rw[ly (by omega)];congr 1;omega,Ext.refl _⟩
theorem P9{b:Option Addr}{l c:Nat}{xs:List aZ}(S:SlR bF h b l c xs)(hl0:iu xs≤1048576):af ak 45 #[.slice b l c] (λu h'=>∃b' c' B,u = .slice b' l c'∧SlO 131 bF B b' l c' xs∧Mem h h' B) h:=by
 have hxl:=S.len
 have hl:l≤1048576:=by unfold iu at hl0;omega
 refine fN.call ?_
 refine vW (r:=bF) (z:=wH) (zc:=jg) Km rfl rfl (by decide) (Mem.start h) (by show 48*l≤2 ^ 48;omega) (Nat.le_trans hl (by decide)) λg h1 x1 M0 O0=>?_
 refine loop (λx hh=>∃(n:Nat) (B:List Blk),x=(b,l,c,some ⟨g,0,none⟩,l,l,(n:Int))∧n≤l∧SlO 131 bF B (some ⟨g,0,none⟩) l l (xs.take n++List.replicate (l-n) wH)∧Mem h hh (B++[])) (λx=>(l-x.2.2.2.2.2.2).toNat) ⟨0,_,rfl,by omega,O0,M0⟩ ?_
 rintro x hh ⟨n,B,rfl,hn,O,M⟩
 refine brd (λhc=>?_) λhc=>?_
 ·refine(S.ext M.ext).idx iO (by omega) (by omega) λa Ra=>Ra.jc rfl λc1 R1=>mN.go M (Sb R1) λh' c2 B2 M2 O2 ho=>gw ?_
  obtain⟨a0,F',C,e,op,close⟩:=O.ad5 (i:=n) (by omega)
  cases e
  have P:=(op _ _ B2 (M2.cnt (λp=>by simp only[bN,bu,bZ] at *;omega))).cnt (W:=B2++(C++[]))
  refine idxs (by omega) (by omega) ?_
  rw[Int.toNat_natCast] at O2
  rw[Int.toNat_natCast,show n*6=n*bF.sz from rfl]
  refine(kW ((⟨g,0,none⟩:Addr).add (n*bF.sz))) ▸ P.sts (Foc.here bF) rfl O2 λWS P=>?_
  obtain⟨B',O',M'⟩:=close _ _ _ _ P
  have e:(xs.take n++List.replicate (l-n) wH).set n xs[n]! = xs.take (n+1)++List.replicate (l-(n+1)) wH:=by rw[getElem!_pos xs n (by omega)];exact Db hxl (by omega)
  rw[e] at O'
  rw[ag (by omega)]
  exact⟨⟨n+1,B',rfl,by omega,O',M'⟩,by show _<_;simp;omega⟩
 ·obtain rfl:n=l:=by omega
  rw[show xs.take n++List.replicate (n-n) wH=xs by rw[← hxl];simp] at O
  rw[List.append_nil] at M
  exact⟨_,_,B,rfl,O,M⟩
theorem MX{b1 b2:Option Addr}{l1 c1 l2 c2:Nat}{xs:List aZ}(S1:SlR bF h b1 l1 c1 xs)(S2:SlR bF h b2 l2 c2 xs):af ak 50 #[.slice b1 l1 c1,.slice b2 l2 c2] (λu h'=>u = .bool true∧Ext h h') h:=by
 have e1:=S1.len
 have e2:=S2.len
 have h2:=S1.2.1
 have h3:=S1.2.2.1
 have:=cu
 obtain rfl:l1=l2:=by omega
 refine fJ.call (cM (by simp) ?_)
 refine loop (λx hh=>∃n:Nat,x=(b1,l1,c1,b2,l1,c2,(n:Int))∧n≤l1∧Ext h hh) (λx=>(l1-x.2.2.2.2.2.2).toNat) ⟨0,rfl,by omega,Ext.refl _⟩ ?_
 rintro x hh ⟨n,rfl,hn,X⟩
 refine brd (λhc=>?_) λhc=>⟨rfl,X⟩
 refine(S1.ext X).idx iO (by omega) (by omega) λa Ra=>Ra.jc rfl λca R1=>(S2.ext X).idx iO (by omega) (by omega) λa' Rb=>Rb.jc rfl λcb R2=>goX (Q3 R1 R2) λh' x'=>bt (cM rfl ?_)
 rw[ag (by omega)]
 exact⟨⟨n+1,rfl,by omega,X.trans x'⟩,by show _<_;simp;omega⟩
theorem FX{ca cb:Array Value}{x:bI}(Ra:bU.rd h ca.toList x)(Rb:bU.rd h cb.toList x):af ak 21 #[.agg ca,.agg cb] (λu h'=>u = .bool true∧Ext h h') h:=by
 refine vP.call (gD Ra λg1 h1 x1 A=>gD (bU.ext x1 Rb) λg2 h2 x2 B=>?_)
 have A:=A.ext x2
 have X:=x1.trans x2
 refine A.oF2 λy hy=>cg hy λr1 k1=>B.oF2 λz hz=>cg hz λr2 k2=>goX (iA k1 k2 _) λh' x'=>bt (cM rfl ?_)
 have A:=A.ext x'
 have B:=B.ext x'
 have X:=X.trans x'
 refine A.jH ed rfl λc1 R1=>B.jH ed rfl λc2 R2=>goX (MZ R1 R2) λh' x'=>bt (cM rfl ?_)
 have A:=A.ext x'
 have B:=B.ext x'
 have X:=X.trans x'
 refine A.oL2 λb1 l1 c1 S1=>B.oL2 λb2 l2 c2 S2=>goX (Dd S1 S2) λh' x'=>bt (cM rfl ?_)
 have A:=A.ext x'
 have B:=B.ext x'
 have X:=X.trans x'
 refine A.oL2 λb1 l1 c1 S1=>B.oL2 λb2 l2 c2 S2=>goX (MX S1 S2) λh' x'=>bt (cM rfl ?_)
 have A:=A.ext x'
 have B:=B.ext x'
 have X:=X.trans x'
 exact⟨rfl,X⟩
def j8(x:bI):Nat:=gQ x.dv+dz x.az+iu x.bo
theorem RY{cs:Array Value}{x:bI}(R0:bU.rd h cs.toList x)(left:Nat)(hl:left≤1048576):af ak 16 #[.agg cs,.int .i64 (left:Int)] (λu h'=>u = .int .i64 (CL left (j8 x))∧Ext h h') h:=by
 have hw:j8 x=gQ x.dv+dz x.az+iu x.bo:=rfl
 refine vR.call (gD R0 λg1 h1 X R=>?_)
 refine R.jH ed rfl λc1 R1=>goX (OZ R1 (left) (by omega)) λh' x'=>cN (Ho (λhc=>⟨by rw[nO (by omega)],X.trans x'⟩) λhc=>?_)
 rw[ly hc]
 have R:=R.ext x'
 have X:=X.trans x'
 refine R.oL2 λb1 l1 c1 S1=>goX (DP S1 (left-gQ x.dv) (by omega)) λh' x'=>cN (Ho (λhc=>⟨by rw[nO (by omega)],X.trans x'⟩) λhc=>?_)
 rw[ly hc]
 have R:=R.ext x'
 have X:=X.trans x'
 refine R.oL2 λb1 l1 c1 S1=>goX (OY S1 (left-gQ x.dv-dz x.az) (by omega)) λh' x'=>cN (Ho (λhc=>⟨by rw[nO (by omega)],X.trans x'⟩) λhc=>?_)
 rw[ly hc]
 have R:=R.ext x'
 have X:=X.trans x'
 exact⟨by rw[ly (by omega)];congr 2 <;> omega,X⟩
theorem wG{cs:Array Value}{x:bI}(R0:bU.rd h cs.toList x)(ES:j8 x≤1048576):af ak 18 #[.agg cs] (λu h'=>mN bU h h' u x) h:=by
 have hw:j8 x=gQ x.dv+dz x.az+iu x.bo:=rfl
 refine vU.call ((Mem.start h).alc λg1 h1 x1 M=>M.alc λg2 h2 x2 M=>M.alc λg3 h3 x3 M=>?_)
 have P:Pt bU h h3 ⟨g3,0,none⟩ ⟨g3,39,[],[]⟩ [(g2,39,⟨dw⟩),(g1,29,cs)] Mj:=Pt.new (r:=bU) Kn M
 have R:RdP bU _ ⟨g1,0,none⟩ x:=P.mem.rdp (.there .here) (bU.ext P.ext R0)
 refine R.oF2 λy hy=>P.ON hy λh' P=>?_
 have R:RdP bU _ ⟨g1,0,none⟩ x:=P.mem.rdp (.there .here) (bU.ext P.ext R0)
 refine R.jH ed rfl λc1 R1=>mN.pt P (Pb R1 (by omega)) λh' c2 B P O ho=>gw (P.acw ed rfl O λh' P=>?_)
 have R:RdP bU _ ⟨g1,0,none⟩ x:=P.mem.rdp (.there .here) (bU.ext P.ext R0)
 refine R.oL2 λb l c S=>(DW S (by have:=S.len;omega)).mono ?_
 rintro _ h' ⟨b',c',B,rfl,O,N⟩
 refine lR ((P.join N).agY O λh' P=>?_)
 have R:RdP bU _ ⟨g1,0,none⟩ x:=P.mem.rdp (.there .here) (bU.ext P.ext R0)
 refine R.oL2 λb l c S=>(P9 S (by have:=S.len;omega)).mono ?_
 rintro _ h' ⟨b',c',B,rfl,O,N⟩
 refine lR ((P.join N).agY O λh' P=>?_)
 obtain⟨c',B,M,O⟩:=P.out
 refine M.df .here (osz O rfl) ?_
 have M:=M.cnt (W:=(g2,39,⟨dw⟩) :: B)
 refine M.dH .here (osz O rfl) (bU.jy O) rfl .here λh3 M=>M.df .here (osz O rfl) ?_
 exact⟨_,B,rfl,O,M.drop⟩
end
end Go.Sx
