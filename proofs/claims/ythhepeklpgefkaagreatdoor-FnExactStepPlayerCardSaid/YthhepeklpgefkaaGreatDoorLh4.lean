/- Lemmas. -/
import Derived.Test.YthhepeklpgefkaaGreatDoorH3
import Derived.Test.YthhepeklpgefkaaGreatDoorH4
import Derived.Test.YthhepeklpgefkaaGreatDoorLr7
set_option linter.unusedVariables false
set_option linter.unusedSimpArgs false
namespace Go.Sx
open Go.Proofs
set_option maxRecDepth 100000
section
variable {h:ab}
theorem Ui{ca cb:Array Value}{x:bR}(Ra:eJ.rd h ca.toList x)(Rb:eJ.rd h cb.toList x):ae ai vw #[.agg ca,.agg cb] (λu h'=>u = .bool true∧Ext h h') h:=by
 refine A3.call (fj Ra λg1 h1 x1 A=>fj (eJ.ext x1 Rb) λg2 h2 x2 B=>?_)
 have A:=A.ext x2
 have X:=x1.trans x2
 refine A.oF2 λy hy=>cK hy λr1 k1=>B.oF2 λz hz=>cK hz λr2 k2=>goX (jU k1 k2 _) λh' x'=>bd (dp rfl ?_)
 have A:=A.ext x'
 have B:=B.ext x'
 have X:=X.trans x'
 refine A.oF2 λy hy=>cK hy λr1 k1=>B.oF2 λz hz=>cK hz λr2 k2=>goX (jU k1 k2 _) λh' x'=>bd (dp rfl ?_)
 have A:=A.ext x'
 have B:=B.ext x'
 have X:=X.trans x'
 refine A.oL2 λb1 l1 c1 S1=>B.oL2 λb2 l2 c2 S2=>goX (zw S1 S2) λh' x'=>bd (dp rfl ?_)
 have A:=A.ext x'
 have B:=B.ext x'
 have X:=X.trans x'
 exact ⟨rfl,X⟩
def jv(x:bR):Nat:=cD x.bU
theorem VQ{cs:Array Value}{x:bR}(R0:eJ.rd h cs.toList x)(left:Nat)(hl:left≤1048576):ae ai vA #[.agg cs,.int .i64 (left:Int)] (λu h'=>u = .int .i64 (yN left (jv x))∧Ext h h') h:=by
 have hw:jv x=cD x.bU:=rfl
 refine A6.call (fj R0 λg1 h1 X R=>?_)
 refine R.oL2 λb1 l1 c1 S1=>goX (Ao S1 (left) (by omega)) λh' x'=>cX (np (λhc=>⟨by rw[gN (by omega)],X.trans x'⟩) λhc=>?_)
 rw[eM hc]
 have R:=R.ext x'
 have X:=X.trans x'
 exact ⟨by rw[eM (by omega)];congr 2 <;> omega,X⟩
theorem VV{cs:Array Value}{x:bR}(R0:eJ.rd h cs.toList x)(GI:jv x≤1048576):ae ai vE #[.agg cs] (λu h'=>gw eJ h h' u x) h:=by
 have hw:jv x=cD x.bU:=rfl
 refine Ab.call ((Mem.start h).alc λg1 h1 x1 M=>M.alc λg2 h2 x2 M=>M.alc λg3 h3 x3 M=>?_)
 have P:Pt eJ h h3 ⟨g3,0,none⟩ ⟨g3,ey,[],[]⟩ [(g2,ey,⟨pV⟩),(g1,zs,cs)] Oe:=Pt.new (r:=eJ) Oh M
 have R:RdP eJ _ ⟨g1,0,none⟩ x:=P.mem.rdp (.there .here) (eJ.ext P.ext R0)
 refine R.oF2 λy hy=>P.H7 hy λh' P=>?_
 have R:RdP eJ _ ⟨g1,0,none⟩ x:=P.mem.rdp (.there .here) (eJ.ext P.ext R0)
 refine R.oF2 λy hy=>P.H7 hy λh' P=>?_
 have R:RdP eJ _ ⟨g1,0,none⟩ x:=P.mem.rdp (.there .here) (eJ.ext P.ext R0)
 refine R.oL2 λb l c S=>(Ar S (by have:=S.len;omega)).mono ?_
 rintro _ h' ⟨b',c',B,rfl,O,N⟩
 refine lZ ((P.join N).VD O λh' P=>?_)
 obtain⟨c',B,M,O⟩:=P.out
 refine M.cM .here (osz O rfl) ?_
 have M:=M.cnt (W:=(g2,ey,⟨pV⟩) :: B)
 refine M.dy .here (osz O rfl) (eJ.iH O) rfl .here λh3 M=>M.cM .here (osz O rfl) ?_
 exact ⟨_,B,rfl,O,M.drop⟩
theorem KK{ca cb:Array Value}{x:bA}(Ra:aM.rd h ca.toList x)(Rb:aM.rd h cb.toList x):ae ai pJ #[.agg ca,.agg cb] (λu h'=>u = .bool true∧Ext h h') h:=by
 refine sV.call (fj Ra λg1 h1 x1 A=>fj (aM.ext x1 Rb) λg2 h2 x2 B=>?_)
 have A:=A.ext x2
 have X:=x1.trans x2
 refine A.oS2 λ_=>B.oS2 λ_=>dp (by simp) ?_
 refine A.oI2 (B.oI2 (dp (by simp) ?_))
 refine A.oF2 λy hy=>cK hy λr1 k1=>B.oF2 λz hz=>cK hz λr2 k2=>goX (jU k1 k2 _) λh' x'=>bd (dp rfl ?_)
 have A:=A.ext x'
 have B:=B.ext x'
 have X:=X.trans x'
 refine A.oF2 λy hy=>cK hy λr1 k1=>B.oF2 λz hz=>cK hz λr2 k2=>goX (jU k1 k2 _) λh' x'=>bd (dp rfl ?_)
 have A:=A.ext x'
 have B:=B.ext x'
 have X:=X.trans x'
 refine A.oF2 λy hy=>cK hy λr1 k1=>B.oF2 λz hz=>cK hz λr2 k2=>goX (jU k1 k2 _) λh' x'=>bd (dp rfl ?_)
 have A:=A.ext x'
 have B:=B.ext x'
 have X:=X.trans x'
 exact ⟨rfl,X⟩
def iZ(x:bA):Nat:=x.Name.size
theorem L9{cs:Array Value}{x:bA}(R0:aM.rd h cs.toList x)(left:Nat)(hl:left≤1048576):ae ai pK #[.agg cs,.int .i64 (left:Int)] (λu h'=>u = .int .i64 (yN left (iZ x))∧Ext h h') h:=by
 have hm:=bW
 refine sW.call (fj R0 λg1 h1 X R=>R.oS2 λhs=>?_)
 have hw:iZ x=x.Name.size:=rfl
 rw[wrap64 (n:=(left:Int)-(x.Name.size:Int)) (by omega) (by omega)]
 refine brd (λhc=>⟨by rw[gN (by omega)],X⟩) λhc=>⟨by rw[eM (by omega)];congr 1;omega,X⟩
theorem La{cs:Array Value}{x:bA}(R0:aM.rd h cs.toList x):ae ai pL #[.agg cs] (λu h'=>gw aM h h' u x) h:=by
 refine sX.call ((Mem.start h).alc λg1 h1 x1 M=>M.alc λg2 h2 x2 M=>M.alc λg3 h3 x3 M=>?_)
 have P:Pt aM h h3 ⟨g3,0,none⟩ ⟨g3,bk,[],[]⟩ [(g2,bk,⟨gY⟩),(g1,rV,cs)] nv:=Pt.new (r:=aM) EH M
 have R:RdP aM _ ⟨g1,0,none⟩ x:=P.mem.rdp (.there .here) (aM.ext P.ext R0)
 refine R.oS2 λhs=>P.aBh hs λh' P=>?_
 have R:RdP aM _ ⟨g1,0,none⟩ x:=P.mem.rdp (.there .here) (aM.ext P.ext R0)
 refine R.oI2 (P.Iv λh' P=>?_)
 have R:RdP aM _ ⟨g1,0,none⟩ x:=P.mem.rdp (.there .here) (aM.ext P.ext R0)
 refine R.oF2 λy hy=>P.H7 hy λh' P=>?_
 have R:RdP aM _ ⟨g1,0,none⟩ x:=P.mem.rdp (.there .here) (aM.ext P.ext R0)
 refine R.oF2 λy hy=>P.H7 hy λh' P=>?_
 have R:RdP aM _ ⟨g1,0,none⟩ x:=P.mem.rdp (.there .here) (aM.ext P.ext R0)
 refine R.oF2 λy hy=>P.H7 hy λh' P=>?_
 obtain⟨c',B,M,O⟩:=P.out
 refine M.cM .here (osz O rfl) ?_
 have M:=M.cnt (W:=(g2,bk,⟨gY⟩) :: B)
 refine M.dy .here (osz O rfl) (aM.iH O) rfl .here λh3 M=>M.cM .here (osz O rfl) ?_
 exact ⟨_,B,rfl,O,M.drop⟩
theorem tl:0<aM.sz:=by decide
def ez(xs:List bA):Nat:=xs.length+nL iZ xs
theorem JN{b:Option Addr}{l c:Nat}{xs:List bA}(S:SlR aM h b l c xs)(left:Nat)(hl:left≤1048576):ae ai oy #[.slice b l c,.int .i64 (left:Int)] (λu h'=>u = .int .i64 (yN left (ez xs))∧Ext h h') h:=by
 have hx:=S.len
 have h2:=S.2.1
 have h3:=S.2.2.1
 have hw:ez xs=xs.length+nL iZ xs:=rfl
 have:=bW
 refine dU.call ?_
 unfold dU.S
 rw[wrap64 (n:=(left:Int)-(l:Int)) (by omega) (by omega)]
 refine brd (λhc=>⟨by rw[gN (by omega)],Ext.refl _⟩) λhc=>?_
 refine loop (λx hh=>∃m:Nat,x=(b,l,c,((left-l-nL iZ (xs.take m):Nat):Int),(m:Int))∧m≤l∧Ext h hh∧nL iZ (xs.take m)≤left-l) (λx=>(l-x.2.2.2.2).toNat) ⟨0,by rw[show ((left:Int)-(l:Int))=((left-l:Nat):Int) by omega];rfl,by omega,Ext.refl _,Nat.zero_le _⟩ ?_
 rintro x hh ⟨m,rfl,hn,X,hm⟩
 refine brd (λhc=>?_) λhc=>?_
 ·have h4:=zb (n:=iZ) (xs:=xs) (i:=m) (by omega)
  have h5:=oN (n:=iZ) xs (m+1)
  refine (S.ext X).idx tl (by omega) (by omega) λa Ra=>Ra.gi rfl λc1 R1=>goX (L9 R1 _ (by omega)) λh' x'=>cX (np (λhb=>⟨by rw[Int.toNat_natCast] at hb;rw[gN (by omega)],X.trans x'⟩) λhb=>?_)
  rw[eM hb,ag (by omega)]
  rw[Int.toNat_natCast] at hb ⊢
  exact ⟨⟨m+1,by rw[h4,Nat.sub_sub],by omega,X.trans x',by omega⟩,by show _<_;simp;omega⟩
 ·obtain rfl:m=l:=by omega
  have e:xs.take m=xs:=by rw[← hx];exact List.take_length
  rw[e] at hm ⊢
  exact ⟨by rw[eM (by omega),hw,hx,Nat.sub_sub],X⟩
theorem JO{b:Option Addr}{l c:Nat}{xs:List bA}(S:SlR aM h b l c xs)(hl0:ez xs≤1048576):ae ai oz #[.slice b l c] (λu h'=>∃b' c' B,u = .slice b' l c'∧SlO bk aM B b' l c' xs∧Mem h h' B) h:=by
 have Zj:=S.len
 have hw:ez xs=xs.length+nL iZ xs:=rfl
 have hl:l≤1048576:=by omega
 refine eE.call ?_
 refine wV (r:=aM) (z:=nv) (zc:=gY) EH rfl rfl (by decide) (Mem.start h) (by show 40*l≤2 ^ 48;omega) (Nat.le_trans hl (by decide)) λg h1 x1 M0 O0=>?_
 refine loop (λx hh=>∃(n:Nat) (B:List Blk),x=(b,l,c,some ⟨g,0,none⟩,l,l,(n:Int))∧n≤l∧SlO bk aM B (some ⟨g,0,none⟩) l l (xs.take n++List.replicate (l-n) nv)∧Mem h hh (B++[])) (λx=>(l-x.2.2.2.2.2.2).toNat) ⟨0,_,rfl,by omega,O0,M0⟩ ?_
 rintro x hh ⟨n,B,rfl,hn,O,M⟩
 refine brd (λhc=>?_) λhc=>?_
 ·have h5:iZ xs[n]! ≤ nL iZ xs:=GU (by omega)
  refine (S.ext M.ext).idx tl (by omega) (by omega) λa Ra=>Ra.gi rfl λc1 R1=>gw.go M (La R1) λh' c2 B2 M2 O2 ho=>fe ?_
  obtain⟨a0,F',C,e,op,close⟩:=O.Z2 (i:=n) (by omega)
  cases e
  have P:=(op _ _ B2 (M2.cnt (λp=>by simp only[bO,bz,cg] at *;omega))).cnt (W:=B2++(C++[])) (λp=>by simp only[bO,bz,cg] at *;omega)
  refine idxs (by omega) (by omega) ?_
  rw[Int.toNat_natCast] at O2
  rw[Int.toNat_natCast,show n*5=n*aM.sz from rfl]
  refine (ny ((⟨g,0,none⟩:Addr).add (n*aM.sz))) ▸ P.sts (Foc.here aM) rfl O2 λh'' P=>?_
  obtain⟨B',O',M'⟩:=close _ _ _ _ P
  have e:(xs.take n++List.replicate (l-n) nv).set n xs[n]! = xs.take (n+1)++List.replicate (l-(n+1)) nv:=by rw[getElem!_pos xs n (by omega)];exact tI Zj (by omega)
  rw[e] at O'
  rw[ag (by omega)]
  exact ⟨⟨n+1,B',rfl,by omega,O',M'⟩,by show _<_;simp;omega⟩
 ·obtain rfl:n=l:=by omega
  rw[show xs.take n++List.replicate (n-n) nv=xs by rw[← Zj];simp] at O
  rw[List.append_nil] at M
  exact ⟨_,_,B,rfl,O,M⟩
theorem Jd{b1 b2:Option Addr}{l1 c1 l2 c2:Nat}{xs:List bA}(S1:SlR aM h b1 l1 c1 xs)(S2:SlR aM h b2 l2 c2 xs):ae ai ox #[.slice b1 l1 c1,.slice b2 l2 c2] (λu h'=>u = .bool true∧Ext h h') h:=by
 have e1:=S1.len
 have e2:=S2.len
 have h2:=S1.2.1
 have h3:=S1.2.2.1
 have:=bW
 obtain rfl:l1=l2:=by omega
 refine eD.call (dp (by simp) ?_)
 refine loop (λx hh=>∃n:Nat,x=(b1,l1,c1,b2,l1,c2,(n:Int))∧n≤l1∧Ext h hh) (λx=>(l1-x.2.2.2.2.2.2).toNat) ⟨0,rfl,by omega,Ext.refl _⟩ ?_
 rintro x hh ⟨n,rfl,hn,X⟩
 refine brd (λhc=>?_) λhc=>⟨rfl,X⟩
 refine (S1.ext X).idx tl (by omega) (by omega) λa Ra=>Ra.gi rfl λca R1=>(S2.ext X).idx tl (by omega) (by omega) λa' Rb=>Rb.gi rfl λcb R2=>goX (KK R1 R2) λh' x'=>bd (dp rfl ?_)
 rw[ag (by omega)]
 exact ⟨⟨n+1,rfl,by omega,X.trans x'⟩,by show _<_;simp;omega⟩
theorem WI{ca cb:Array Value}{x:bf}(Ra:bD.rd h ca.toList x)(Rb:bD.rd h cb.toList x):ae ai xE #[.agg ca,.agg cb] (λu h'=>u = .bool true∧Ext h h') h:=by
 refine Ca.call (fj Ra λg1 h1 x1 A=>fj (bD.ext x1 Rb) λg2 h2 x2 B=>?_)
 have A:=A.ext x2
 have X:=x1.trans x2
 refine A.oI2 (B.oI2 (dp (by simp) ?_))
 refine A.oI2 (B.oI2 (dp (by simp) ?_))
 refine A.oI2 (B.oI2 (dp (by simp) ?_))
 refine A.oI2 (B.oI2 (dp (by simp) ?_))
 refine A.oI2 (B.oI2 (dp (by simp) ?_))
 refine A.oF2 λy hy=>cK hy λr1 k1=>B.oF2 λz hz=>cK hz λr2 k2=>goX (jU k1 k2 _) λh' x'=>bd (dp rfl ?_)
 have A:=A.ext x'
 have B:=B.ext x'
 have X:=X.trans x'
 exact ⟨rfl,X⟩
theorem YA{cs:Array Value}{x:bf}(R0:bD.rd h cs.toList x):ae ai xJ #[.agg cs] (λu h'=>gw bD h h' u x) h:=by
 refine Cf.call ((Mem.start h).alc λg1 h1 x1 M=>M.alc λg2 h2 x2 M=>M.alc λg3 h3 x3 M=>?_)
 have P:Pt bD h h3 ⟨g3,0,none⟩ ⟨g3,bq,[],[]⟩ [(g2,bq,⟨gX⟩),(g1,Hg,cs)] zq:=Pt.new (r:=bD) Bo M
 have R:RdP bD _ ⟨g1,0,none⟩ x:=P.mem.rdp (.there .here) (bD.ext P.ext R0)
 refine R.oI2 (P.Iv λh' P=>?_)
 have R:RdP bD _ ⟨g1,0,none⟩ x:=P.mem.rdp (.there .here) (bD.ext P.ext R0)
 refine R.oI2 (P.Iv λh' P=>?_)
 have R:RdP bD _ ⟨g1,0,none⟩ x:=P.mem.rdp (.there .here) (bD.ext P.ext R0)
 refine R.oI2 (P.Iv λh' P=>?_)
 have R:RdP bD _ ⟨g1,0,none⟩ x:=P.mem.rdp (.there .here) (bD.ext P.ext R0)
 refine R.oI2 (P.Iv λh' P=>?_)
 have R:RdP bD _ ⟨g1,0,none⟩ x:=P.mem.rdp (.there .here) (bD.ext P.ext R0)
 refine R.oI2 (P.Iv λh' P=>?_)
 have R:RdP bD _ ⟨g1,0,none⟩ x:=P.mem.rdp (.there .here) (bD.ext P.ext R0)
 refine R.oF2 λy hy=>P.H7 hy λh' P=>?_
 obtain⟨c',B,M,O⟩:=P.out
 refine M.cM .here (osz O rfl) ?_
 have M:=M.cnt (W:=(g2,bq,⟨gX⟩) :: B)
 refine M.dy .here (osz O rfl) (bD.iH O) rfl .here λh3 M=>M.cM .here (osz O rfl) ?_
 exact ⟨_,B,rfl,O,M.drop⟩
theorem kR:0<bD.sz:=by decide
def ka(xs:List bf):Nat:=xs.length
theorem VN{b:Option Addr}{l c:Nat}{xs:List bf}(S:SlR bD h b l c xs)(left:Nat)(hl:left≤1048576):ae ai vy #[.slice b l c,.int .i64 (left:Int)] (λu h'=>u = .int .i64 (yN left (ka xs))∧Ext h h') h:=by
 have h1:ka xs=l:=S.len
 have h2:=S.2.1
 have h3:=S.2.2.1
 have:=bW
 refine uO.call ?_
 unfold uO.S
 rw[wrap64 (n:=(left:Int)-(l:Int)) (by omega) (by omega),h1]
 refine brd (λhc=>⟨by rw[gN (by omega)],Ext.refl _⟩) λhc=>⟨by rw[eM (by omega)];congr 1;omega,Ext.refl _⟩
theorem VT{b:Option Addr}{l c:Nat}{xs:List bf}(S:SlR bD h b l c xs)(hl0:ka xs≤1048576):ae ai vC #[.slice b l c] (λu h'=>∃b' c' B,u = .slice b' l c'∧SlO bq bD B b' l c' xs∧Mem h h' B) h:=by
 have Zj:=S.len
 have hl:l≤1048576:=by unfold ka at hl0;omega
 refine ie.call ?_
 refine wV (r:=bD) (z:=zq) (zc:=gX) Bo rfl rfl (by decide) (Mem.start h) (by show 48*l≤2 ^ 48;omega) (Nat.le_trans hl (by decide)) λg h1 x1 M0 O0=>?_
 refine loop (λx hh=>∃(n:Nat) (B:List Blk),x=(b,l,c,some ⟨g,0,none⟩,l,l,(n:Int))∧n≤l∧SlO bq bD B (some ⟨g,0,none⟩) l l (xs.take n++List.replicate (l-n) zq)∧Mem h hh (B++[])) (λx=>(l-x.2.2.2.2.2.2).toNat) ⟨0,_,rfl,by omega,O0,M0⟩ ?_
 rintro x hh ⟨n,B,rfl,hn,O,M⟩
 refine brd (λhc=>?_) λhc=>?_
 ·refine (S.ext M.ext).idx kR (by omega) (by omega) λa Ra=>Ra.gi rfl λc1 R1=>gw.go M (YA R1) λh' c2 B2 M2 O2 ho=>fe ?_
  obtain⟨a0,F',C,e,op,close⟩:=O.Z2 (i:=n) (by omega)
  cases e
  have P:=(op _ _ B2 (M2.cnt (λp=>by simp only[bO,bz,cg] at *;omega))).cnt (W:=B2++(C++[])) (λp=>by simp only[bO,bz,cg] at *;omega)
  refine idxs (by omega) (by omega) ?_
  rw[Int.toNat_natCast] at O2
  rw[Int.toNat_natCast,show n*6=n*bD.sz from rfl]
  refine (ny ((⟨g,0,none⟩:Addr).add (n*bD.sz))) ▸ P.sts (Foc.here bD) rfl O2 λh'' P=>?_
  obtain⟨B',O',M'⟩:=close _ _ _ _ P
  have e:(xs.take n++List.replicate (l-n) zq).set n xs[n]! = xs.take (n+1)++List.replicate (l-(n+1)) zq:=by rw[getElem!_pos xs n (by omega)];exact tI Zj (by omega)
  rw[e] at O'
  rw[ag (by omega)]
  exact ⟨⟨n+1,B',rfl,by omega,O',M'⟩,by show _<_;simp;omega⟩
 ·obtain rfl:n=l:=by omega
  rw[show xs.take n++List.replicate (n-n) zq=xs by rw[← Zj];simp] at O
  rw[List.append_nil] at M
  exact ⟨_,_,B,rfl,O,M⟩
theorem Ug{b1 b2:Option Addr}{l1 c1 l2 c2:Nat}{xs:List bf}(S1:SlR bD h b1 l1 c1 xs)(S2:SlR bD h b2 l2 c2 xs):ae ai vu #[.slice b1 l1 c1,.slice b2 l2 c2] (λu h'=>u = .bool true∧Ext h h') h:=by
 have e1:=S1.len
 have e2:=S2.len
 have h2:=S1.2.1
 have h3:=S1.2.2.1
 have:=bW
 obtain rfl:l1=l2:=by omega
 refine ia.call (dp (by simp) ?_)
 refine loop (λx hh=>∃n:Nat,x=(b1,l1,c1,b2,l1,c2,(n:Int))∧n≤l1∧Ext h hh) (λx=>(l1-x.2.2.2.2.2.2).toNat) ⟨0,rfl,by omega,Ext.refl _⟩ ?_
 rintro x hh ⟨n,rfl,hn,X⟩
 refine brd (λhc=>?_) λhc=>⟨rfl,X⟩
 refine (S1.ext X).idx kR (by omega) (by omega) λa Ra=>Ra.gi rfl λca R1=>(S2.ext X).idx kR (by omega) (by omega) λa' Rb=>Rb.gi rfl λcb R2=>goX (WI R1 R2) λh' x'=>bd (dp rfl ?_)
 rw[ag (by omega)]
 exact ⟨⟨n+1,rfl,by omega,X.trans x'⟩,by show _<_;simp;omega⟩
theorem WJ{ca cb:Array Value}{x:cA}(Ra:da.rd h ca.toList x)(Rb:da.rd h cb.toList x):ae ai xF #[.agg ca,.agg cb] (λu h'=>u = .bool true∧Ext h h') h:=by
 refine Cb.call (fj Ra λg1 h1 x1 A=>fj (da.ext x1 Rb) λg2 h2 x2 B=>?_)
 have A:=A.ext x2
 have X:=x1.trans x2
 refine A.oF2 λy hy=>cK hy λr1 k1=>B.oF2 λz hz=>cK hz λr2 k2=>goX (jU k1 k2 _) λh' x'=>bd (dp rfl ?_)
 have A:=A.ext x'
 have B:=B.ext x'
 have X:=X.trans x'
 refine A.fc fl rfl λc1 R1=>B.fc fl rfl λc2 R2=>goX (Ui R1 R2) λh' x'=>bd (dp rfl ?_)
 have A:=A.ext x'
 have B:=B.ext x'
 have X:=X.trans x'
 refine A.oL2 λb1 l1 c1 S1=>B.oL2 λb2 l2 c2 S2=>goX (Jd S1 S2) λh' x'=>bd (dp rfl ?_)
 have A:=A.ext x'
 have B:=B.ext x'
 have X:=X.trans x'
 refine A.oL2 λb1 l1 c1 S1=>B.oL2 λb2 l2 c2 S2=>goX (Ug S1 S2) λh' x'=>bd (dp rfl ?_)
 have A:=A.ext x'
 have B:=B.ext x'
 have X:=X.trans x'
 exact ⟨rfl,X⟩
def kz(x:cA):Nat:=jv x.er+ez x.aI+ka x.aU
theorem Yx{cs:Array Value}{x:cA}(R0:da.rd h cs.toList x)(left:Nat)(hl:left≤1048576):ae ai xH #[.agg cs,.int .i64 (left:Int)] (λu h'=>u = .int .i64 (yN left (kz x))∧Ext h h') h:=by
 have hw:kz x=jv x.er+ez x.aI+ka x.aU:=rfl
 refine Cd.call (fj R0 λg1 h1 X R=>?_)
 refine R.fc fl rfl λc1 R1=>goX (VQ R1 (left) (by omega)) λh' x'=>cX (np (λhc=>⟨by rw[gN (by omega)],X.trans x'⟩) λhc=>?_)
 rw[eM hc]
 have R:=R.ext x'
 have X:=X.trans x'
 refine R.oL2 λb1 l1 c1 S1=>goX (JN S1 (left-jv x.er) (by omega)) λh' x'=>cX (np (λhc=>⟨by rw[gN (by omega)],X.trans x'⟩) λhc=>?_)
 rw[eM hc]
 have R:=R.ext x'
 have X:=X.trans x'
 refine R.oL2 λb1 l1 c1 S1=>goX (VN S1 (left-jv x.er-ez x.aI) (by omega)) λh' x'=>cX (np (λhc=>⟨by rw[gN (by omega)],X.trans x'⟩) λhc=>?_)
 rw[eM hc]
 have R:=R.ext x'
 have X:=X.trans x'
 exact ⟨by rw[eM (by omega)];congr 2 <;> omega,X⟩
theorem YB{cs:Array Value}{x:cA}(R0:da.rd h cs.toList x)(GI:kz x≤1048576):ae ai xK #[.agg cs] (λu h'=>gw da h h' u x) h:=by
 have hw:kz x=jv x.er+ez x.aI+ka x.aU:=rfl
 refine Cg.call ((Mem.start h).alc λg1 h1 x1 M=>M.alc λg2 h2 x2 M=>M.alc λg3 h3 x3 M=>?_)
 have P:Pt da h h3 ⟨g3,0,none⟩ ⟨g3,bt,[],[]⟩ [(g2,bt,⟨eN⟩),(g1,Bw,cs)] TB:=Pt.new (r:=da) Rg M
 have R:RdP da _ ⟨g1,0,none⟩ x:=P.mem.rdp (.there .here) (da.ext P.ext R0)
 refine R.oF2 λy hy=>P.H7 hy λh' P=>?_
 have R:RdP da _ ⟨g1,0,none⟩ x:=P.mem.rdp (.there .here) (da.ext P.ext R0)
 refine R.fc fl rfl λc1 R1=>gw.pt P (VV R1 (by omega)) λh' c2 B P O ho=>fe (P.Eu fl rfl O λh' P=>?_)
 have R:RdP da _ ⟨g1,0,none⟩ x:=P.mem.rdp (.there .here) (da.ext P.ext R0)
 refine R.oL2 λb l c S=>(JO S (by have:=S.len;omega)).mono ?_
 rintro _ h' ⟨b',c',B,rfl,O,N⟩
 refine lZ ((P.join N).VD O λh' P=>?_)
 have R:RdP da _ ⟨g1,0,none⟩ x:=P.mem.rdp (.there .here) (da.ext P.ext R0)
 refine R.oL2 λb l c S=>(VT S (by have:=S.len;omega)).mono ?_
 rintro _ h' ⟨b',c',B,rfl,O,N⟩
 refine lZ ((P.join N).VD O λh' P=>?_)
 obtain⟨c',B,M,O⟩:=P.out
 refine M.cM .here (osz O rfl) ?_
 have M:=M.cnt (W:=(g2,bt,⟨eN⟩) :: B)
 refine M.dy .here (osz O rfl) (da.iH O) rfl .here λh3 M=>M.cM .here (osz O rfl) ?_
 exact ⟨_,B,rfl,O,M.drop⟩
theorem Uh{ca cb:Array Value}{x:bP}(Ra:aX.rd h ca.toList x)(Rb:aX.rd h cb.toList x):ae ai vv #[.agg ca,.agg cb] (λu h'=>u = .bool true∧Ext h h') h:=by
 refine A2.call (fj Ra λg1 h1 x1 A=>fj (aX.ext x1 Rb) λg2 h2 x2 B=>?_)
 have A:=A.ext x2
 have X:=x1.trans x2
 refine A.fc dg rfl λc1 R1=>B.fc dg rfl λc2 R2=>goX (ER R1 R2) λh' x'=>bd (dp rfl ?_)
 have A:=A.ext x'
 have B:=B.ext x'
 have X:=X.trans x'
 refine A.fc dh rfl λc1 R1=>B.fc dh rfl λc2 R2=>goX (yT R1 R2) λh' x'=>bd (dp rfl ?_)
 have A:=A.ext x'
 have B:=B.ext x'
 have X:=X.trans x'
 refine A.fc df rfl λc1 R1=>B.fc df rfl λc2 R2=>goX (yT R1 R2) λh' x'=>bd (dp rfl ?_)
 have A:=A.ext x'
 have B:=B.ext x'
 have X:=X.trans x'
 refine A.oF2 λy hy=>cK hy λr1 k1=>B.oF2 λz hz=>cK hz λr2 k2=>goX (jU k1 k2 _) λh' x'=>bd (dp rfl ?_)
 have A:=A.ext x'
 have B:=B.ext x'
 have X:=X.trans x'
 exact ⟨rfl,X⟩
def iQ(x:bP):Nat:=gW x.Loop
theorem VP{cs:Array Value}{x:bP}(R0:aX.rd h cs.toList x)(left:Nat)(hl:left≤1048576):ae ai vz #[.agg cs,.int .i64 (left:Int)] (λu h'=>u = .int .i64 (yN left (iQ x))∧Ext h h') h:=by
 have hw:iQ x=gW x.Loop:=rfl
 refine A5.call (fj R0 λg1 h1 X R=>?_)
 refine R.fc dg rfl λc1 R1=>goX (Fh R1 (left) (by omega)) λh' x'=>cX (np (λhc=>⟨by rw[gN (by omega)],X.trans x'⟩) λhc=>?_)
 rw[eM hc]
 have R:=R.ext x'
 have X:=X.trans x'
 exact ⟨by rw[eM (by omega)];congr 2 <;> omega,X⟩
theorem VU{cs:Array Value}{x:bP}(R0:aX.rd h cs.toList x)(GI:iQ x≤1048576):ae ai vD #[.agg cs] (λu h'=>gw aX h h' u x) h:=by
 have hw:iQ x=gW x.Loop:=rfl
 refine Aa.call ((Mem.start h).alc λg1 h1 x1 M=>M.alc λg2 h2 x2 M=>M.alc λg3 h3 x3 M=>?_)
 have P:Pt aX h h3 ⟨g3,0,none⟩ ⟨g3,aB,[],[]⟩ [(g2,aB,⟨aL⟩),(g1,zr,cs)] ff:=Pt.new (r:=aX) uG M
 have R:RdP aX _ ⟨g1,0,none⟩ x:=P.mem.rdp (.there .here) (aX.ext P.ext R0)
 refine R.fc dg rfl λc1 R1=>gw.pt P (Fi R1 (by omega)) λh' c2 B P O ho=>fe (P.Eu dg rfl O λh' P=>?_)
 have R:RdP aX _ ⟨g1,0,none⟩ x:=P.mem.rdp (.there .here) (aX.ext P.ext R0)
 refine R.fc dh rfl λc1 R1=>gw.pt P (zo R1) λh' c2 B P O ho=>fe (P.Eu dh rfl O λh' P=>?_)
 have R:RdP aX _ ⟨g1,0,none⟩ x:=P.mem.rdp (.there .here) (aX.ext P.ext R0)
 refine R.fc df rfl λc1 R1=>gw.pt P (zo R1) λh' c2 B P O ho=>fe (P.Eu df rfl O λh' P=>?_)
 have R:RdP aX _ ⟨g1,0,none⟩ x:=P.mem.rdp (.there .here) (aX.ext P.ext R0)
 refine R.oF2 λy hy=>P.H7 hy λh' P=>?_
 obtain⟨c',B,M,O⟩:=P.out
 refine M.cM .here (osz O rfl) ?_
 have M:=M.cnt (W:=(g2,aB,⟨aL⟩) :: B)
 refine M.dy .here (osz O rfl) (aX.iH O) rfl .here λh3 M=>M.cM .here (osz O rfl) ?_
 exact ⟨_,B,rfl,O,M.drop⟩
theorem adq{ca cb:Array Value}{x:jh}(Ra:fQ.rd h ca.toList x)(Rb:fQ.rd h cb.toList x):ae ai BH #[.agg ca,.agg cb] (λu h'=>u = .bool true∧Ext h h') h:=by
 refine GL.call (fj Ra λg1 h1 x1 A=>fj (fQ.ext x1 Rb) λg2 h2 x2 B=>?_)
 have A:=A.ext x2
 have X:=x1.trans x2
 refine A.fc fa rfl λc1 R1=>B.fc fa rfl λc2 R2=>goX (ER R1 R2) λh' x'=>bd (dp rfl ?_)
 have A:=A.ext x'
 have B:=B.ext x'
 have X:=X.trans x'
 refine A.fc dz rfl λc1 R1=>B.fc dz rfl λc2 R2=>goX (ER R1 R2) λh' x'=>bd (dp rfl ?_)
 have A:=A.ext x'
 have B:=B.ext x'
 have X:=X.trans x'
 refine A.fc eP rfl λc1 R1=>B.fc eP rfl λc2 R2=>goX (yT R1 R2) λh' x'=>bd (dp rfl ?_)
 have A:=A.ext x'
 have B:=B.ext x'
 have X:=X.trans x'
 refine A.oF2 λy hy=>cK hy λr1 k1=>B.oF2 λz hz=>cK hz λr2 k2=>goX (jU k1 k2 _) λh' x'=>bd (dp rfl ?_)
 have A:=A.ext x'
 have B:=B.ext x'
 have X:=X.trans x'
 refine A.oF2 λy hy=>cK hy λr1 k1=>B.oF2 λz hz=>cK hz λr2 k2=>goX (jU k1 k2 _) λh' x'=>bd (dp rfl ?_)
 have A:=A.ext x'
 have B:=B.ext x'
 have X:=X.trans x'
 exact ⟨rfl,X⟩
def vl(x:jh):Nat:=gW x.bX+gW x.aK
theorem afU{cs:Array Value}{x:jh}(R0:fQ.rd h cs.toList x)(left:Nat)(hl:left≤1048576):ae ai BI #[.agg cs,.int .i64 (left:Int)] (λu h'=>u = .int .i64 (yN left (vl x))∧Ext h h') h:=by
 have hw:vl x=gW x.bX+gW x.aK:=rfl
 refine GM.call (fj R0 λg1 h1 X R=>?_)
 refine R.fc fa rfl λc1 R1=>goX (Fh R1 (left) (by omega)) λh' x'=>cX (np (λhc=>⟨by rw[gN (by omega)],X.trans x'⟩) λhc=>?_)
 rw[eM hc]
 have R:=R.ext x'
 have X:=X.trans x'
 refine R.fc dz rfl λc1 R1=>goX (Fh R1 (left-gW x.bX) (by omega)) λh' x'=>cX (np (λhc=>⟨by rw[gN (by omega)],X.trans x'⟩) λhc=>?_)
 rw[eM hc]
 have R:=R.ext x'
 have X:=X.trans x'
 exact ⟨by rw[eM (by omega)];congr 2 <;> omega,X⟩
theorem ag0{cs:Array Value}{x:jh}(R0:fQ.rd h cs.toList x)(GI:vl x≤1048576):ae ai BJ #[.agg cs] (λu h'=>gw fQ h h' u x) h:=by
 have hw:vl x=gW x.bX+gW x.aK:=rfl
 refine GN.call ((Mem.start h).alc λg1 h1 x1 M=>M.alc λg2 h2 x2 M=>M.alc λg3 h3 x3 M=>?_)
 have P:Pt fQ h h3 ⟨g3,0,none⟩ ⟨g3,dc,[],[]⟩ [(g2,dc,⟨cH⟩),(g1,Gm,cs)] mD:=Pt.new (r:=fQ) Lu M
 have R:RdP fQ _ ⟨g1,0,none⟩ x:=P.mem.rdp (.there .here) (fQ.ext P.ext R0)
 refine R.fc fa rfl λc1 R1=>gw.pt P (Fi R1 (by omega)) λh' c2 B P O ho=>fe (P.Eu fa rfl O λh' P=>?_)
 have R:RdP fQ _ ⟨g1,0,none⟩ x:=P.mem.rdp (.there .here) (fQ.ext P.ext R0)
 refine R.fc dz rfl λc1 R1=>gw.pt P (Fi R1 (by omega)) λh' c2 B P O ho=>fe (P.Eu dz rfl O λh' P=>?_)
 have R:RdP fQ _ ⟨g1,0,none⟩ x:=P.mem.rdp (.there .here) (fQ.ext P.ext R0)
 refine R.fc eP rfl λc1 R1=>gw.pt P (zo R1) λh' c2 B P O ho=>fe (P.Eu eP rfl O λh' P=>?_)
 have R:RdP fQ _ ⟨g1,0,none⟩ x:=P.mem.rdp (.there .here) (fQ.ext P.ext R0)
 refine R.oF2 λy hy=>P.H7 hy λh' P=>?_
 have R:RdP fQ _ ⟨g1,0,none⟩ x:=P.mem.rdp (.there .here) (fQ.ext P.ext R0)
 refine R.oF2 λy hy=>P.H7 hy λh' P=>?_
 obtain⟨c',B,M,O⟩:=P.out
 refine M.cM .here (osz O rfl) ?_
 have M:=M.cnt (W:=(g2,dc,⟨cH⟩) :: B)
 refine M.dy .here (osz O rfl) (fQ.iH O) rfl .here λh3 M=>M.cM .here (osz O rfl) ?_
 exact ⟨_,B,rfl,O,M.drop⟩
theorem WK{ca cb:Array Value}{x:aJ}(Ra:az.rd h ca.toList x)(Rb:az.rd h cb.toList x):ae ai xG #[.agg ca,.agg cb] (λu h'=>u = .bool true∧Ext h h') h:=by
 refine Cc.call (fj Ra λg1 h1 x1 A=>fj (az.ext x1 Rb) λg2 h2 x2 B=>?_)
 have A:=A.ext x2
 have X:=x1.trans x2
 refine A.oI2 (B.oI2 (dp (by simp) ?_))
 refine A.oI2 (B.oI2 (dp (by simp) ?_))
 refine A.oI2 (B.oI2 (dp (by simp) ?_))
 refine A.oB2 (B.oB2 (dp (by simp) ?_))
 refine A.oF2 λy hy=>cK hy λr1 k1=>B.oF2 λz hz=>cK hz λr2 k2=>goX (jU k1 k2 _) λh' x'=>bd (dp rfl ?_)
 have A:=A.ext x'
 have B:=B.ext x'
 have X:=X.trans x'
 refine A.fc bu rfl λc1 R1=>B.fc bu rfl λc2 R2=>goX (Uh R1 R2) λh' x'=>bd (dp rfl ?_)
 have A:=A.ext x'
 have B:=B.ext x'
 have X:=X.trans x'
 refine A.fc bV rfl λc1 R1=>B.fc bV rfl λc2 R2=>goX (aav R1 R2) λh' x'=>bd (dp rfl ?_)
 have A:=A.ext x'
 have B:=B.ext x'
 have X:=X.trans x'
 refine A.fc cm rfl λc1 R1=>B.fc cm rfl λc2 R2=>goX (adq R1 R2) λh' x'=>bd (dp rfl ?_)
 have A:=A.ext x'
 have B:=B.ext x'
 have X:=X.trans x'
 exact ⟨rfl,X⟩
def j0(x:aJ):Nat:=iQ x.String+o4 x.aP+vl x.cz
theorem Yy{cs:Array Value}{x:aJ}(R0:az.rd h cs.toList x)(left:Nat)(hl:left≤1048576):ae ai xI #[.agg cs,.int .i64 (left:Int)] (λu h'=>u = .int .i64 (yN left (j0 x))∧Ext h h') h:=by
 have hw:j0 x=iQ x.String+o4 x.aP+vl x.cz:=rfl
 refine Ce.call (fj R0 λg1 h1 X R=>?_)
 refine R.fc bu rfl λc1 R1=>goX (VP R1 (left) (by omega)) λh' x'=>cX (np (λhc=>⟨by rw[gN (by omega)],X.trans x'⟩) λhc=>?_)
 rw[eM hc]
 have R:=R.ext x'
 have X:=X.trans x'
 refine R.fc bV rfl λc1 R1=>goX (ac2 R1 (left-iQ x.String) (by omega)) λh' x'=>cX (np (λhc=>⟨by rw[gN (by omega)],X.trans x'⟩) λhc=>?_)
 rw[eM hc]
 have R:=R.ext x'
 have X:=X.trans x'
 refine R.fc cm rfl λc1 R1=>goX (afU R1 (left-iQ x.String-o4 x.aP) (by omega)) λh' x'=>cX (np (λhc=>⟨by rw[gN (by omega)],X.trans x'⟩) λhc=>?_)
 rw[eM hc]
 have R:=R.ext x'
 have X:=X.trans x'
 exact ⟨by rw[eM (by omega)];congr 2 <;> omega,X⟩
theorem YC{cs:Array Value}{x:aJ}(R0:az.rd h cs.toList x)(GI:j0 x≤1048576):ae ai xL #[.agg cs] (λu h'=>gw az h h' u x) h:=by
 have hw:j0 x=iQ x.String+o4 x.aP+vl x.cz:=rfl
 refine Ch.call ((Mem.start h).alc λg1 h1 x1 M=>M.alc λg2 h2 x2 M=>M.alc λg3 h3 x3 M=>?_)
 have P:Pt az h h3 ⟨g3,0,none⟩ ⟨g3,ao,[],[]⟩ [(g2,ao,⟨aW⟩),(g1,Bx,cs)] tp:=Pt.new (r:=az) rL M
 have R:RdP az _ ⟨g1,0,none⟩ x:=P.mem.rdp (.there .here) (az.ext P.ext R0)
 refine R.oI2 (P.Iv λh' P=>?_)
 have R:RdP az _ ⟨g1,0,none⟩ x:=P.mem.rdp (.there .here) (az.ext P.ext R0)
 refine R.oI2 (P.Iv λh' P=>?_)
 have R:RdP az _ ⟨g1,0,none⟩ x:=P.mem.rdp (.there .here) (az.ext P.ext R0)
 refine R.oI2 (P.Iv λh' P=>?_)
 have R:RdP az _ ⟨g1,0,none⟩ x:=P.mem.rdp (.there .here) (az.ext P.ext R0)
 refine R.oB2 (P.asM λh' P=>?_)
 have R:RdP az _ ⟨g1,0,none⟩ x:=P.mem.rdp (.there .here) (az.ext P.ext R0)
 refine R.oF2 λy hy=>P.H7 hy λh' P=>?_
 have R:RdP az _ ⟨g1,0,none⟩ x:=P.mem.rdp (.there .here) (az.ext P.ext R0)
 refine R.fc bu rfl λc1 R1=>gw.pt P (VU R1 (by omega)) λh' c2 B P O ho=>fe (P.Eu bu rfl O λh' P=>?_)
 have R:RdP az _ ⟨g1,0,none⟩ x:=P.mem.rdp (.there .here) (az.ext P.ext R0)
 refine R.fc bV rfl λc1 R1=>gw.pt P (ac4 R1 (by omega)) λh' c2 B P O ho=>fe (P.Eu bV rfl O λh' P=>?_)
 have R:RdP az _ ⟨g1,0,none⟩ x:=P.mem.rdp (.there .here) (az.ext P.ext R0)
 refine R.fc cm rfl λc1 R1=>gw.pt P (ag0 R1 (by omega)) λh' c2 B P O ho=>fe (P.Eu cm rfl O λh' P=>?_)
 obtain⟨c',B,M,O⟩:=P.out
 refine M.cM .here (osz O rfl) ?_
 have M:=M.cnt (W:=(g2,ao,⟨aW⟩) :: B)
 refine M.dy .here (osz O rfl) (az.iH O) rfl .here λh3 M=>M.cM .here (osz O rfl) ?_
 exact ⟨_,B,rfl,O,M.drop⟩
theorem Bf:0<az.sz:=by decide
def kI(xs:List aJ):Nat:=xs.length+nL j0 xs
theorem VR{b:Option Addr}{l c:Nat}{xs:List aJ}(S:SlR az h b l c xs)(left:Nat)(hl:left≤1048576):ae ai vB #[.slice b l c,.int .i64 (left:Int)] (λu h'=>u = .int .i64 (yN left (kI xs))∧Ext h h') h:=by
 have hx:=S.len
 have h2:=S.2.1
 have h3:=S.2.2.1
 have hw:kI xs=xs.length+nL j0 xs:=rfl
 have:=bW
 refine gQ.call ?_
 unfold gQ.S
 rw[wrap64 (n:=(left:Int)-(l:Int)) (by omega) (by omega)]
 refine brd (λhc=>⟨by rw[gN (by omega)],Ext.refl _⟩) λhc=>?_
 refine loop (λx hh=>∃m:Nat,x=(b,l,c,((left-l-nL j0 (xs.take m):Nat):Int),(m:Int))∧m≤l∧Ext h hh∧nL j0 (xs.take m)≤left-l) (λx=>(l-x.2.2.2.2).toNat) ⟨0,by rw[show ((left:Int)-(l:Int))=((left-l:Nat):Int) by omega];rfl,by omega,Ext.refl _,Nat.zero_le _⟩ ?_
 rintro x hh ⟨m,rfl,hn,X,hm⟩
 refine brd (λhc=>?_) λhc=>?_
 ·have h4:=zb (n:=j0) (xs:=xs) (i:=m) (by omega)
  have h5:=oN (n:=j0) xs (m+1)
  refine (S.ext X).idx Bf (by omega) (by omega) λa Ra=>Ra.gi rfl λc1 R1=>goX (Yy R1 _ (by omega)) λh' x'=>cX (np (λhb=>⟨by rw[Int.toNat_natCast] at hb;rw[gN (by omega)],X.trans x'⟩) λhb=>?_)
  rw[eM hb,ag (by omega)]
  rw[Int.toNat_natCast] at hb ⊢
  exact ⟨⟨m+1,by rw[h4,Nat.sub_sub],by omega,X.trans x',by omega⟩,by show _<_;simp;omega⟩
 ·obtain rfl:m=l:=by omega
  have e:xs.take m=xs:=by rw[← hx];exact List.take_length
  rw[e] at hm ⊢
  exact ⟨by rw[eM (by omega),hw,hx,Nat.sub_sub],X⟩
theorem VW{b:Option Addr}{l c:Nat}{xs:List aJ}(S:SlR az h b l c xs)(hl0:kI xs≤1048576):ae ai vF #[.slice b l c] (λu h'=>∃b' c' B,u = .slice b' l c'∧SlO ao az B b' l c' xs∧Mem h h' B) h:=by
 have Zj:=S.len
 have hw:kI xs=xs.length+nL j0 xs:=rfl
 have hl:l≤1048576:=by omega
 refine ig.call ?_
 refine wV (r:=az) (z:=tp) (zc:=aW) rL rfl rfl (by decide) (Mem.start h) (by show 360*l≤2 ^ 48;omega) (Nat.le_trans hl (by decide)) λg h1 x1 M0 O0=>?_
 refine loop (λx hh=>∃(n:Nat) (B:List Blk),x=(b,l,c,some ⟨g,0,none⟩,l,l,(n:Int))∧n≤l∧SlO ao az B (some ⟨g,0,none⟩) l l (xs.take n++List.replicate (l-n) tp)∧Mem h hh (B++[])) (λx=>(l-x.2.2.2.2.2.2).toNat) ⟨0,_,rfl,by omega,O0,M0⟩ ?_
 rintro x hh ⟨n,B,rfl,hn,O,M⟩
 refine brd (λhc=>?_) λhc=>?_
 ·have h5:j0 xs[n]! ≤ nL j0 xs:=GU (by omega)
  refine (S.ext M.ext).idx Bf (by omega) (by omega) λa Ra=>Ra.gi rfl λc1 R1=>gw.go M (YC R1 (by rw[Int.toNat_natCast];omega)) λh' c2 B2 M2 O2 ho=>fe ?_
  obtain⟨a0,F',C,e,op,close⟩:=O.Z2 (i:=n) (by omega)
  cases e
  have P:=(op _ _ B2 (M2.cnt (λp=>by simp only[bO,bz,cg] at *;omega))).cnt (W:=B2++(C++[])) (λp=>by simp only[bO,bz,cg] at *;omega)
  refine idxs (by omega) (by omega) ?_
  rw[Int.toNat_natCast] at O2
  rw[Int.toNat_natCast,show n*45=n*az.sz from rfl]
  refine (ny ((⟨g,0,none⟩:Addr).add (n*az.sz))) ▸ P.sts (Foc.here az) rfl O2 λh'' P=>?_
  obtain⟨B',O',M'⟩:=close _ _ _ _ P
  have e:(xs.take n++List.replicate (l-n) tp).set n xs[n]! = xs.take (n+1)++List.replicate (l-(n+1)) tp:=by rw[getElem!_pos xs n (by omega)];exact tI Zj (by omega)
  rw[e] at O'
  rw[ag (by omega)]
  exact ⟨⟨n+1,B',rfl,by omega,O',M'⟩,by show _<_;simp;omega⟩
 ·obtain rfl:n=l:=by omega
  rw[show xs.take n++List.replicate (n-n) tp=xs by rw[← Zj];simp] at O
  rw[List.append_nil] at M
  exact ⟨_,_,B,rfl,O,M⟩
theorem Uj{b1 b2:Option Addr}{l1 c1 l2 c2:Nat}{xs:List aJ}(S1:SlR az h b1 l1 c1 xs)(S2:SlR az h b2 l2 c2 xs):ae ai vx #[.slice b1 l1 c1,.slice b2 l2 c2] (λu h'=>u = .bool true∧Ext h h') h:=by
 have e1:=S1.len
 have e2:=S2.len
 have h2:=S1.2.1
 have h3:=S1.2.2.1
 have:=bW
 obtain rfl:l1=l2:=by omega
 refine ib.call (dp (by simp) ?_)
 refine loop (λx hh=>∃n:Nat,x=(b1,l1,c1,b2,l1,c2,(n:Int))∧n≤l1∧Ext h hh) (λx=>(l1-x.2.2.2.2.2.2).toNat) ⟨0,rfl,by omega,Ext.refl _⟩ ?_
 rintro x hh ⟨n,rfl,hn,X⟩
 refine brd (λhc=>?_) λhc=>⟨rfl,X⟩
 refine (S1.ext X).idx Bf (by omega) (by omega) λa Ra=>Ra.gi rfl λca R1=>(S2.ext X).idx Bf (by omega) (by omega) λa' Rb=>Rb.gi rfl λcb R2=>goX (WK R1 R2) λh' x'=>bd (dp rfl ?_)
 rw[ag (by omega)]
 exact ⟨⟨n+1,rfl,by omega,X.trans x'⟩,by show _<_;simp;omega⟩
theorem yU{ca cb:Array Value}{x:ay}(Ra:aR.rd h ca.toList x)(Rb:aR.rd h cb.toList x):ae ai lz #[.agg ca,.agg cb] (λu h'=>u = .bool true∧Ext h h') h:=by
 refine zZ.call (fj Ra λg1 h1 x1 A=>fj (aR.ext x1 Rb) λg2 h2 x2 B=>?_)
 have A:=A.ext x2
 have X:=x1.trans x2
 refine A.fc cP rfl λc1 R1=>B.fc cP rfl λc2 R2=>goX (WJ R1 R2) λh' x'=>bd (dp rfl ?_)
 have A:=A.ext x'
 have B:=B.ext x'
 have X:=X.trans x'
 refine A.oL2 λb1 l1 c1 S1=>B.oL2 λb2 l2 c2 S2=>goX (Uj S1 S2) λh' x'=>bd (dp rfl ?_)
 have A:=A.ext x'
 have B:=B.ext x'
 have X:=X.trans x'
 refine A.oI2 (B.oI2 (dp (by simp) ?_))
 refine A.oI2 (B.oI2 (dp (by simp) ?_))
 refine A.oI2 (B.oI2 (dp (by simp) ?_))
 exact ⟨rfl,X⟩
def lh(x:ay):Nat:=kz x.Score+kI x.al
theorem VO{cs:Array Value}{x:ay}(R0:aR.rd h cs.toList x)(left:Nat)(hl:left≤1048576):ae ai qw #[.agg cs,.int .i64 (left:Int)] (λu h'=>u = .int .i64 (yN left (lh x))∧Ext h h') h:=by
 have hw:lh x=kz x.Score+kI x.al:=rfl
 refine A4.call (fj R0 λg1 h1 X R=>?_)
 refine R.fc cP rfl λc1 R1=>goX (Yx R1 (left) (by omega)) λh' x'=>cX (np (λhc=>⟨by rw[gN (by omega)],X.trans x'⟩) λhc=>?_)
 rw[eM hc]
 have R:=R.ext x'
 have X:=X.trans x'
 refine R.oL2 λb1 l1 c1 S1=>goX (VR S1 (left-kz x.Score) (by omega)) λh' x'=>cX (np (λhc=>⟨by rw[gN (by omega)],X.trans x'⟩) λhc=>?_)
 rw[eM hc]
 have R:=R.ext x'
 have X:=X.trans x'
 exact ⟨by rw[eM (by omega)];congr 2 <;> omega,X⟩
theorem zp{cs:Array Value}{x:ay}(R0:aR.rd h cs.toList x)(GI:lh x≤1048576):ae ai lE #[.agg cs] (λu h'=>gw aR h h' u x) h:=by
 have hw:lh x=kz x.Score+kI x.al:=rfl
 refine A9.call ((Mem.start h).alc λg1 h1 x1 M=>M.alc λg2 h2 x2 M=>M.alc λg3 h3 x3 M=>?_)
 have P:Pt aR h h3 ⟨g3,0,none⟩ ⟨g3,aE,[],[]⟩ [(g2,aE,⟨bx⟩),(g1,kT,cs)] EG:=Pt.new (r:=aR) Og M
 have R:RdP aR _ ⟨g1,0,none⟩ x:=P.mem.rdp (.there .here) (aR.ext P.ext R0)
 refine R.fc cP rfl λc1 R1=>gw.pt P (YB R1 (by omega)) λh' c2 B P O ho=>fe (P.Eu cP rfl O λh' P=>?_)
 have R:RdP aR _ ⟨g1,0,none⟩ x:=P.mem.rdp (.there .here) (aR.ext P.ext R0)
 refine R.oL2 λb l c S=>(VW S (by have:=S.len;omega)).mono ?_
 rintro _ h' ⟨b',c',B,rfl,O,N⟩
 refine lZ ((P.join N).VD O λh' P=>?_)
 have R:RdP aR _ ⟨g1,0,none⟩ x:=P.mem.rdp (.there .here) (aR.ext P.ext R0)
 refine R.oI2 (P.Iv λh' P=>?_)
 have R:RdP aR _ ⟨g1,0,none⟩ x:=P.mem.rdp (.there .here) (aR.ext P.ext R0)
 refine R.oI2 (P.Iv λh' P=>?_)
 have R:RdP aR _ ⟨g1,0,none⟩ x:=P.mem.rdp (.there .here) (aR.ext P.ext R0)
 refine R.oI2 (P.Iv λh' P=>?_)
 obtain⟨c',B,M,O⟩:=P.out
 refine M.cM .here (osz O rfl) ?_
 have M:=M.cnt (W:=(g2,aE,⟨bx⟩) :: B)
 refine M.dy .here (osz O rfl) (aR.iH O) rfl .here λh3 M=>M.cM .here (osz O rfl) ?_
 exact ⟨_,B,rfl,O,M.drop⟩
end
end Go.Sx
