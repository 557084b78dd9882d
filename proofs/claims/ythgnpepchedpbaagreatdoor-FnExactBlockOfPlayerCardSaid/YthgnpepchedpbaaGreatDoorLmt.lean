/- Lemmas. -/
import Derived.Test.YthgnpepchedpbaaGreatDoorLh4
import Derived.Test.YthgnpepchedpbaaGreatDoorH1
import Derived.Test.YthgnpepchedpbaaGreatDoorH5
import Derived.Laws.BytesString
set_option linter.unusedVariables false
set_option linter.unusedSimpArgs false
namespace Go.Sx
open FloatKind (f32 f64)
open IntKind (i64)
open Go.Proofs
set_option maxRecDepth 100000
def w6:Nat->Nat->ByteArray->ByteArray
 | 0,_,out=>out
 | f+1,k,out=>if k=0 then out else w6 f (k / 10) ((⟨#[UInt8.ofNat (48+k % 10)]⟩:ByteArray)++out)
def JU(k:Nat):ByteArray:=if k=0 then⟨#[109,48]⟩ else⟨#[109]⟩++w6 12 k ⟨#[]⟩
theorem Od(f:Nat)(out:ByteArray):w6 f 0 out=out:=by cases f <;> rfl
theorem KL(a b:ByteArray):(a++b).size=a.size+b.size:=ByteArray.size_append
theorem Em:∀(f k:Nat) (out:ByteArray),(w6 f k out).size≤f+out.size
 | 0,k,out=>by simp[w6]
 | f+1,k,out=>by
  unfold w6
  split
  ·omega
  ·have:=Em f (k / 10) ((⟨#[UInt8.ofNat (48+k % 10)]⟩:ByteArray)++out)
   rw[KL] at this
   have e:(⟨#[UInt8.ofNat (48+k % 10)]⟩:ByteArray).size=1:=rfl
   omega
theorem QY(k:Nat):(JU k).size≤maxLen:=by
 refine Nat.le_trans ?_ (show 14≤maxLen by decide)
 unfold JU
 split
 ·decide
 ·rw[KL]
  have:=Em 12 k ⟨#[]⟩
  have e:(⟨#[109]⟩:ByteArray).size=1:=rfl
  have e2:(⟨#[]⟩:ByteArray).size=0:=rfl
  omega
theorem WE{g:Nat}{h:ab}{n:Int}{K:Value->ab->Prop}(hc:cell h ⟨g,0,none⟩=some (.int .u8 n))(H:K (.string ⟨#[UInt8.ofNat n.toNat]⟩) h):gC ak (convert 204 9 (.slice (some ⟨g,0,none⟩) 1 1)) K h:=by
 refine RP λw hw=>⟨.string ⟨#[UInt8.ofNat n.toNat]⟩,w,?_,hZ.refl _,by rw[hw];exact H⟩
 have hc':w.cell? ⟨g,0,none⟩=some (.int .u8 n):=by rw[tf,hw];exact hc
 rw[run_convert_bytes_string w _ _ _ _ _ _ PH aa8 MB,run_bytesToString w _ 1 1 [n] ?_]
 ·rfl
 ·simp[loadCells,loadCellsFrom,hc',Addr.add,Sem.run_pure]
theorem Gz(k:Nat)(hk:k≤1073741824):Ret ak 84 #[.int .i64 (k:Int)] (.string (JU k)):=λh=>by
 refine fL.call ?_
 refine brd (λh0=>⟨by rw[JU,if_pos (by omega)],Ext.refl _⟩) λh0=>?_
 refine loop (λx hh=>∃(f n:Nat) (out:ByteArray),x=((n:Int),out)∧n<10 ^ f∧f≤12∧out.size+f≤12∧w6 f n out=w6 12 k ⟨#[]⟩∧Ext h hh) (λx=>x.1.toNat) ⟨12,k,⟨#[]⟩,rfl,by omega,by omega,by show 0+12≤12;omega,rfl,Ext.refl _⟩ ?_
 rintro x hh ⟨f,n,out,rfl,hn,hf,hs,he,X⟩
 refine brd (λhc=>?_) λhc=>?_
 ·have e1:Int.tmod (n:Int) 10=((n % 10:Nat):Int):=by rw[Int.ofNat_tmod];rfl
  have e2:Int.tdiv (n:Int) 10=((n / 10:Nat):Int):=by rw[Int.ofNat_tdiv];rfl
  have VG:n<1000000000000:=Nat.lt_of_lt_of_le hn (Nat.pow_le_pow_right (by decide) hf)
  rw[e1,e2,wrap64 (n:=48+((n % 10:Nat):Int)) (by omega) (by omega),wrap64 (n:=((n / 10:Nat):Int)) (by omega) (by omega)]
  have e3:IntKind.u8.wrap (48+((n % 10:Nat):Int))=48+((n % 10:Nat):Int):=by
   simp only[IntKind.wrap,IntKind.signed,Bool.false_and,Bool.false_eq_true,if_false]
   rw[show(2:Int) ^ IntKind.u8.bits=256 by decide]
   omega
  rw[e3]
  refine nz (by decide) ((Mem.start hh).alc λg h1 x1 M=>WE (M.cell .here 0) (TN ?_))
  rw[show(48+((n % 10:Nat):Int)).toNat=48+n % 10 by omega]
  have es:(⟨#[UInt8.ofNat (48+n % 10)]⟩:ByteArray).size=1:=rfl
  refine⟨by rw[es];omega,nz (by decide) ⟨?_,by show((n / 10:Nat):Int).toNat<(n:Int).toNat;omega⟩⟩
  cases f with
  | zero=>simp at hn;omega
  | succ f=>
   refine⟨f,n / 10,_,rfl,by rw[Nat.pow_succ] at hn;omega,by omega,by rw[KL,es];omega,?_,X.trans M.ext⟩
   rw[← he]
   conv=>rhs;unfold w6
   rw[if_neg (by omega)]
 ·obtain rfl:n=0:=by omega
  rw[Od] at he
  have es:(⟨#[109]⟩:ByteArray).size=1:=rfl
  refine⟨by rw[es];omega,?_,X⟩
  rw[JU,if_neg (by omega),he]
theorem Pt.atA{α:Type}{r:Rep α}{h0 h:ab}{q:Addr}{F:Fr}{L:List Blk}{a:α}{n:ByteArray}{get:α->ByteArray}{put:α->ByteArray->α}{K:ab->Prop}(P:Pt r h0 h q F L a)[Fc:cJ r 0 rS get put](hn:n.size≤maxLen)(H:∀h',Pt r h0 h' q F L (put a n)->K h'):ST1 h q (.string n) K:=by
 have:=Pt.stS (off:=0) P (Fc:=Fc) hn H
 rwa [kW] at this
section
variable {h:ab}
def gz(x:bC):Nat:=ao x.bG
def DB(x:bC)(k:Nat):bC:={ x with bG:=eu x.bG (k) }
theorem V1(x:bC):gz x≤8*gQ x:=by
 have h0:=Oh x.bG
 have e1:gz x=ao x.bG:=rfl
 have e2:gQ x=cf x.bG:=rfl
 omega
theorem IP{h0:ab}{B L:List Blk}{cs:Array Value}{x:bC}(O:dD.ow B cs.toList x)(M:Mem h0 h (B++L))(k:Nat)(ES:gQ x≤1048576)(hk:k+gz x≤1073741824):
  af ak 51 #[.agg cs,.int .i64 (k:Int)] (λu h'=>u = .int .i64 ((k+gz x:Nat):Int)∧∃B',dD.ow B' cs.toList (DB x k)∧Mem h0 h' (B'++L)) h:=by
 have hw:gQ x=cf x.bG:=rfl
 have hn:gz x=ao x.bG:=rfl
 refine qw.call (M.alc λg1 h1 x1 M=>?_)
 obtain⟨Bm,Br,hB,Om,OF⟩:=DF O sA
 obtain⟨b,l,c,e,Om⟩:=Om
 refine o_l ((M.cell .here _).trans (zk e)) ?_
 refine(je (xs:=x.bG) Om (M.cnt (W:=Bm++(Br++((g1,35,cs) :: L))) (λp=>by have:=hB p;simp only[bN,bu,bZ] at *;omega)) (k) (by omega) (by omega)).mono ?_
 rintro _ h' ⟨rfl,B',O',M⟩
 obtain⟨B2,O,Xe⟩:=OF B' _ ⟨b,l,c,e,O'⟩
 refine cN ?_
 have M:=M.cnt (W:=(g1,35,cs) :: (B2++L)) (λp=>by have:=Xe p;simp only[bN,bu,bZ] at *;omega)
 clear OF
 exact⟨by congr 2 <;> (unfold gz;omega),B2,O,M.drop⟩
theorem IB{cs:Array Value}{x:bC}(k:Nat)(R0:dD.rd h cs.toList (DB x k))(ES:gQ x≤1048576)(hk:k+gz x≤1073741824):
  af ak 86 #[.agg cs,.int .i64 (k:Int)] (λu h'=>u = .int .i64 ((k+gz x:Nat):Int)∧Ext h h') h:=by
 have hw:gQ x=cf x.bG:=rfl
 have hn:gz x=ao x.bG:=rfl
 refine qu.call (gD R0 λg1 h1 X R=>?_)
 refine R.oL2 λb1 l1 c1 S1=>goX (jd (xs:=x.bG) (k) S1 (by omega) (by omega)) λh' x'=>cN (cM (decide_eq_false (by omega)) ?_)
 have R:=R.ext x'
 have X:=X.trans x'
 exact⟨by congr 2 <;> (unfold gz;omega),X⟩
theorem jr:0<aA.sz:=by decide
def gM(x:bh)(k:Nat):bh:={ x with Name:=JU (k),Kind:=((k+1:Nat):Int),A:=f32.nearest ((k+2:Nat):Int),B:=f32.nearest ((k+3:Nat):Int),C:=f32.nearest ((k+4:Nat):Int) }
def dF(xs:List bh):Nat:=nL (λ_=>5) xs
def jQ(xs:List bh)(k:Nat):List bh:=mkL gM (λ_=>5) xs k
theorem ie(xs:List bh):nL (λ_:bh=>5) xs=5*xs.length:=by
 induction xs with
 | nil=>rfl
 | cons x xs ih=>simp only[nL,ih,List.length_cons];omega
theorem GI(xs:List bh):dF xs≤8*dz xs:=by unfold dF dz;rw[ie];omega
theorem AT{h0:ab}{B L:List Blk}{b:Option Addr}{l c:Nat}{xs:List bh}(O0:SlO 135 aA B b l c xs)(M0:Mem h0 h (B++L))(k:Nat)(ES:dz xs≤1048576)(hk:k+dF xs≤1073741824):
  af ak 52 #[.slice b l c,.int .i64 (k:Int)] (λu h'=>u = .int .i64 ((k+dF xs:Nat):Int)∧∃B',SlO 135 aA B' b l c (jQ xs k)∧Mem h0 h' (B'++L)) h:=by
 have hx:=O0.len
 unfold dz at ES
 unfold dF at hk
 rw[ie] at hk
 have VG:∀m,m≤l->nL (λ_:bh=>5) (xs.take m)=5*m:=λm hm=>by rw[ie,List.length_take];congr 1;omega
 refine cZ.call ?_
 refine loop (λx hh=>∃(n:Nat) (B:List Blk),x=(b,l,c,((k+5*n:Nat):Int),(n:Int))∧n≤l∧SlO 135 aA B b l c (mkL gM (λ_=>5) (xs.take n) k++xs.drop n)∧Mem h0 hh (B++L)) (λx=>(l-x.2.2.2.2).toNat) ⟨0,B,rfl,by omega,by simpa [mkL] using O0,M0⟩ ?_
 rintro x hh ⟨n,B,rfl,hn,O,M⟩
 refine brd (λhc=>?_) λhc=>?_
 ·obtain⟨a0,F',L',rfl,P,hs,close⟩:=O.elem M (i:=n) (by omega)
  rw[LH (by omega)] at P
  have e0:i64.wrap (((k+5*n:Nat):Int)+1)=((k+5*n+1:Nat):Int):=ag (by omega)
  have e1:i64.wrap (((k+5*n+1:Nat):Int)+1)=((k+5*n+2:Nat):Int):=ag (by omega)
  have e2:i64.wrap (((k+5*n+2:Nat):Int)+1)=((k+5*n+3:Nat):Int):=ag (by omega)
  have e3:i64.wrap (((k+5*n+3:Nat):Int)+1)=((k+5*n+4:Nat):Int):=ag (by omega)
  have e4:i64.wrap (((k+5*n+4:Nat):Int)+1)=((k+5*n+5:Nat):Int):=ag (by omega)
  simp only[e0,e1,e2,e3,e4,Int.toNat_natCast]
  rw[show n*5=n*aA.sz from rfl]
  refine goX (Gz (k+5*n) (by omega) _) λh' x'=>TN ?_
  have P:=P.grow x'
  refine idxs (by omega) (by omega) (P.atA (QY _) λh' P=>?_)
  refine idxs (by omega) (by omega) (P.stI λh' P=>?_)
  refine idxs (by omega) (by omega) (P.stF (cK _ _) λh' P=>?_)
  refine idxs (by omega) (by omega) (P.stF (cK _ _) λh' P=>?_)
  refine idxs (by omega) (by omega) (P.stF (cK _ _) λh' P=>?_)
  obtain⟨B',O',M'⟩:=close _ _ _ P
  have e:gM xs[n]! (k+nL (λ_=>5) (xs.take n))=gM xs[n]! (k+5*n):=by rw[VG n (by omega)]
  have st:=Ck (mk:=gM) (n:=λ_=>5) (k:=k) (xs:=xs) (i:=n) (by omega)
  rw[e] at st
  have O':SlO 135 aA B' (some a0) l c ((mkL gM (λ_=>5) (xs.take n) k++xs.drop n).set n (gM xs[n]! (k+5*n))):=O'
  rw[st] at O'
  rw[ag (by omega)]
  exact⟨⟨n+1,B',by rw[show k+5*n+5=k+5*(n+1) by omega],by omega,O',M'⟩,by show _<_;simp;omega⟩
 ·obtain rfl:n=l:=by omega
  have e:xs.take n=xs:=by rw[← hx];exact List.take_length
  have e2:xs.drop n=[]:=List.drop_of_length_le (by omega)
  rw[e,e2,List.append_nil] at O
  exact⟨by rw[dF,ie,hx],B,O,M⟩
theorem AQ{b:Option Addr}{l c:Nat}{xs:List bh}(k:Nat)(S:SlR aA h b l c (jQ xs k))(ES:dz xs≤1048576)(hk:k+dF xs≤1073741824):
  af ak 87 #[.slice b l c,.int .i64 (k:Int)] (λu h'=>u = .int .i64 ((k+dF xs:Nat):Int)∧Ext h h') h:=by
 have hx:xs.length=l:=by have:=S.len;rwa [jQ,vZ] at this
 unfold dz at ES
 unfold dF at hk
 rw[ie] at hk
 have VG:∀m,m≤l->nL (λ_:bh=>5) (xs.take m)=5*m:=λm hm=>by rw[ie,List.length_take];congr 1;omega
 refine cY.call ?_
 refine loop (λx hh=>∃n:Nat,x=(b,l,c,((k+5*n:Nat):Int),(n:Int))∧n≤l∧Ext h hh) (λx=>(l-x.2.2.2.2).toNat) ⟨0,rfl,by omega,Ext.refl _⟩ ?_
 rintro x hh ⟨n,rfl,hn,X⟩
 refine brd (λhc=>?_) λhc=>?_
 ·have hm:(jQ xs k)[n]! = gM xs[n]! (k+5*n):=by unfold jQ;rw[Fo (by omega),VG n (by omega)]
  have e0:i64.wrap (((k+5*n:Nat):Int)+1)=((k+5*n+1:Nat):Int):=ag (by omega)
  have e1:i64.wrap (((k+5*n+1:Nat):Int)+1)=((k+5*n+2:Nat):Int):=ag (by omega)
  have e2:i64.wrap (((k+5*n+2:Nat):Int)+1)=((k+5*n+3:Nat):Int):=ag (by omega)
  have e3:i64.wrap (((k+5*n+3:Nat):Int)+1)=((k+5*n+4:Nat):Int):=ag (by omega)
  have e4:i64.wrap (((k+5*n+4:Nat):Int)+1)=((k+5*n+5:Nat):Int):=ag (by omega)
  simp only[e0,e1,e2,e3,e4]
  refine(S.ext X).idx jr (by omega) (by omega) λa Ra=>?_
  rw[Int.toNat_natCast,hm] at Ra
  refine Ra.oS1 λhs=>goX (Gz (k+5*n) (by omega) _) λh' x'=>TN (Ra.xy (by decide) x' (cM (by simp[gM]) ?_))
  have X:=X.trans x'
  refine(S.ext X).idx jr (by omega) (by omega) λa Ra=>?_
  rw[Int.toNat_natCast,hm] at Ra
  refine Ra.oI (cM (bne_self_eq_false _) ?_)
  refine(S.ext X).idx jr (by omega) (by omega) λa Ra=>?_
  rw[Int.toNat_natCast,hm] at Ra
  refine Ra.oF λy hy=>?_
  have hy:FW .f32 y (f32.nearest ((k+5*n+2:Nat):Int)):=hy
  obtain rfl:=hy.eq (dp _ _)
  refine cM (sN (dp _ _)) ?_
  refine(S.ext X).idx jr (by omega) (by omega) λa Ra=>?_
  rw[Int.toNat_natCast,hm] at Ra
  refine Ra.oF λy hy=>?_
  have hy:FW .f32 y (f32.nearest ((k+5*n+3:Nat):Int)):=hy
  obtain rfl:=hy.eq (dp _ _)
  refine cM (sN (dp _ _)) ?_
  refine(S.ext X).idx jr (by omega) (by omega) λa Ra=>?_
  rw[Int.toNat_natCast,hm] at Ra
  refine Ra.oF λy hy=>?_
  have hy:FW .f32 y (f32.nearest ((k+5*n+4:Nat):Int)):=hy
  obtain rfl:=hy.eq (dp _ _)
  refine cM (sN (dp _ _)) ?_
  rw[ag (by omega)]
  exact⟨⟨n+1,by rw[show k+5*n+5=k+5*(n+1) by omega],by omega,X⟩,by show _<_;simp;omega⟩
 ·obtain rfl:n=l:=by omega
  exact⟨by rw[dF,ie,hx],X⟩
def mH(x:aZ)(k:Nat):aZ:={ x with At:=((k:Nat):Int),Kind:=((k+1:Nat):Int),aT:=((k+2:Nat):Int),aq:=((k+3:Nat):Int),Key:=((k+4:Nat):Int),gd:=f32.nearest ((k+5:Nat):Int) }
def jn(xs:List aZ):Nat:=nL (λ_=>6) xs
def rH(xs:List aZ)(k:Nat):List aZ:=mkL mH (λ_=>6) xs k
theorem lr(xs:List aZ):nL (λ_:aZ=>6) xs=6*xs.length:=by
 induction xs with
 | nil=>rfl
 | cons x xs ih=>simp only[nL,ih,List.length_cons];omega
theorem UZ(xs:List aZ):jn xs≤8*iu xs:=by unfold jn iu;rw[lr];omega
theorem IL{h0:ab}{B L:List Blk}{b:Option Addr}{l c:Nat}{xs:List aZ}(O0:SlO 131 bF B b l c xs)(M0:Mem h0 h (B++L))(k:Nat)(ES:iu xs≤1048576)(hk:k+jn xs≤1073741824):
  af ak 53 #[.slice b l c,.int .i64 (k:Int)] (λu h'=>u = .int .i64 ((k+jn xs:Nat):Int)∧∃B',SlO 131 bF B' b l c (rH xs k)∧Mem h0 h' (B'++L)) h:=by
 have hx:=O0.len
 unfold iu at ES
 unfold jn at hk
 rw[lr] at hk
 have VG:∀m,m≤l->nL (λ_:aZ=>6) (xs.take m)=6*m:=λm hm=>by rw[lr,List.length_take];congr 1;omega
 refine eK.call ?_
 refine loop (λx hh=>∃(n:Nat) (B:List Blk),x=(b,l,c,((k+6*n:Nat):Int),(n:Int))∧n≤l∧SlO 131 bF B b l c (mkL mH (λ_=>6) (xs.take n) k++xs.drop n)∧Mem h0 hh (B++L)) (λx=>(l-x.2.2.2.2).toNat) ⟨0,B,rfl,by omega,by simpa [mkL] using O0,M0⟩ ?_
 rintro x hh ⟨n,B,rfl,hn,O,M⟩
 refine brd (λhc=>?_) λhc=>?_
 ·obtain⟨a0,F',L',rfl,P,hs,close⟩:=O.elem M (i:=n) (by omega)
  rw[LH (by omega)] at P
  have e0:i64.wrap (((k+6*n:Nat):Int)+1)=((k+6*n+1:Nat):Int):=ag (by omega)
  have e1:i64.wrap (((k+6*n+1:Nat):Int)+1)=((k+6*n+2:Nat):Int):=ag (by omega)
  have e2:i64.wrap (((k+6*n+2:Nat):Int)+1)=((k+6*n+3:Nat):Int):=ag (by omega)
  have e3:i64.wrap (((k+6*n+3:Nat):Int)+1)=((k+6*n+4:Nat):Int):=ag (by omega)
  have e4:i64.wrap (((k+6*n+4:Nat):Int)+1)=((k+6*n+5:Nat):Int):=ag (by omega)
  have e5:i64.wrap (((k+6*n+5:Nat):Int)+1)=((k+6*n+6:Nat):Int):=ag (by omega)
  simp only[e0,e1,e2,e3,e4,e5,Int.toNat_natCast]
  rw[show n*6=n*bF.sz from rfl]
  refine idxs (by omega) (by omega) (P.akZ λh' P=>?_)
  refine idxs (by omega) (by omega) (P.stI λh' P=>?_)
  refine idxs (by omega) (by omega) (P.stI λh' P=>?_)
  refine idxs (by omega) (by omega) (P.stI λh' P=>?_)
  refine idxs (by omega) (by omega) (P.stI λh' P=>?_)
  refine idxs (by omega) (by omega) (P.stF (cK _ _) λh' P=>?_)
  obtain⟨B',O',M'⟩:=close _ _ _ P
  have e:mH xs[n]! (k+nL (λ_=>6) (xs.take n))=mH xs[n]! (k+6*n):=by rw[VG n (by omega)]
  have st:=Ck (mk:=mH) (n:=λ_=>6) (k:=k) (xs:=xs) (i:=n) (by omega)
  rw[e] at st
  have O':SlO 131 bF B' (some a0) l c ((mkL mH (λ_=>6) (xs.take n) k++xs.drop n).set n (mH xs[n]! (k+6*n))):=O'
  rw[st] at O'
  rw[ag (by omega)]
  exact⟨⟨n+1,B',by rw[show k+6*n+6=k+6*(n+1) by omega],by omega,O',M'⟩,by show _<_;simp;omega⟩
 ·obtain rfl:n=l:=by omega
  have e:xs.take n=xs:=by rw[← hx];exact List.take_length
  have e2:xs.drop n=[]:=List.drop_of_length_le (by omega)
  rw[e,e2,List.append_nil] at O
  exact⟨by rw[jn,lr,hx],B,O,M⟩
theorem IA{b:Option Addr}{l c:Nat}{xs:List aZ}(k:Nat)(S:SlR bF h b l c (rH xs k))(ES:iu xs≤1048576)(hk:k+jn xs≤1073741824):
  af ak 88 #[.slice b l c,.int .i64 (k:Int)] (λu h'=>u = .int .i64 ((k+jn xs:Nat):Int)∧Ext h h') h:=by
 have hx:xs.length=l:=by have:=S.len;rwa [rH,vZ] at this
 unfold iu at ES
 unfold jn at hk
 rw[lr] at hk
 have VG:∀m,m≤l->nL (λ_:aZ=>6) (xs.take m)=6*m:=λm hm=>by rw[lr,List.length_take];congr 1;omega
 refine eJ.call ?_
 refine loop (λx hh=>∃n:Nat,x=(b,l,c,((k+6*n:Nat):Int),(n:Int))∧n≤l∧Ext h hh) (λx=>(l-x.2.2.2.2).toNat) ⟨0,rfl,by omega,Ext.refl _⟩ ?_
 rintro x hh ⟨n,rfl,hn,X⟩
 refine brd (λhc=>?_) λhc=>?_
 ·have hm:(rH xs k)[n]! = mH xs[n]! (k+6*n):=by unfold rH;rw[Fo (by omega),VG n (by omega)]
  have e0:i64.wrap (((k+6*n:Nat):Int)+1)=((k+6*n+1:Nat):Int):=ag (by omega)
  have e1:i64.wrap (((k+6*n+1:Nat):Int)+1)=((k+6*n+2:Nat):Int):=ag (by omega)
  have e2:i64.wrap (((k+6*n+2:Nat):Int)+1)=((k+6*n+3:Nat):Int):=ag (by omega)
  have e3:i64.wrap (((k+6*n+3:Nat):Int)+1)=((k+6*n+4:Nat):Int):=ag (by omega)
  have e4:i64.wrap (((k+6*n+4:Nat):Int)+1)=((k+6*n+5:Nat):Int):=ag (by omega)
  have e5:i64.wrap (((k+6*n+5:Nat):Int)+1)=((k+6*n+6:Nat):Int):=ag (by omega)
  simp only[e0,e1,e2,e3,e4,e5]
  refine(S.ext X).idx iO (by omega) (by omega) λa Ra=>?_
  rw[Int.toNat_natCast,hm] at Ra
  refine Ra.oI1 (cM (bne_self_eq_false _) ?_)
  refine(S.ext X).idx iO (by omega) (by omega) λa Ra=>?_
  rw[Int.toNat_natCast,hm] at Ra
  refine Ra.oI (cM (bne_self_eq_false _) ?_)
  refine(S.ext X).idx iO (by omega) (by omega) λa Ra=>?_
  rw[Int.toNat_natCast,hm] at Ra
  refine Ra.oI (cM (bne_self_eq_false _) ?_)
  refine(S.ext X).idx iO (by omega) (by omega) λa Ra=>?_
  rw[Int.toNat_natCast,hm] at Ra
  refine Ra.oI (cM (bne_self_eq_false _) ?_)
  refine(S.ext X).idx iO (by omega) (by omega) λa Ra=>?_
  rw[Int.toNat_natCast,hm] at Ra
  refine Ra.oI (cM (bne_self_eq_false _) ?_)
  refine(S.ext X).idx iO (by omega) (by omega) λa Ra=>?_
  rw[Int.toNat_natCast,hm] at Ra
  refine Ra.oF λy hy=>?_
  have hy:FW .f32 y (f32.nearest ((k+6*n+5:Nat):Int)):=hy
  obtain rfl:=hy.eq (dp _ _)
  refine cM (sN (dp _ _)) ?_
  rw[ag (by omega)]
  exact⟨⟨n+1,by rw[show k+6*n+6=k+6*(n+1) by omega],by omega,X⟩,by show _<_;simp;omega⟩
 ·obtain rfl:n=l:=by omega
  exact⟨by rw[jn,lr,hx],X⟩
def jo(x:bI):Nat:=gz x.dv+dF x.az+jn x.bo
def GB(x:bI)(k:Nat):bI:={ x with dv:=DB x.dv (k),az:=jQ x.az (k+gz x.dv),bo:=rH x.bo (k+gz x.dv+dF x.az) }
theorem Oj(x:bI):jo x≤8*j8 x:=by
 have h0:=V1 x.dv
 have h1:=GI x.az
 have h2:=UZ x.bo
 have e1:jo x=gz x.dv+dF x.az+jn x.bo:=rfl
 have e2:j8 x=gQ x.dv+dz x.az+iu x.bo:=rfl
 omega
theorem Cj{h0:ab}{B L:List Blk}{cs:Array Value}{x:bI}(O:bU.ow B cs.toList x)(M:Mem h0 h (B++L))(k:Nat)(ES:j8 x≤1048576)(hk:k+jo x≤1073741824):
  af ak 22 #[.agg cs,.int .i64 (k:Int)] (λu h'=>u = .int .i64 ((k+jo x:Nat):Int)∧∃B',bU.ow B' cs.toList (GB x k)∧Mem h0 h' (B'++L)) h:=by
 have hw:j8 x=gQ x.dv+dz x.az+iu x.bo:=rfl
 have hn:jo x=gz x.dv+dF x.az+jn x.bo:=rfl
 refine sJ.call (M.alc λg1 h1 x1 M=>?_)
 obtain⟨Bm,Br,hB,Om,OF⟩:=DF O ed
 refine M.lda .here (by have:=osz O rfl;rw[this];decide) ?_
 rw[← BT] at Om
 refine(IP (x:=x.dv) Om (M.cnt (W:=Bm++(Br++((g1,39,cs) :: L))) (λp=>by have:=hB p;simp only[bN,bu,bZ] at *;omega)) (k) (by omega) (by omega)).mono ?_
 rintro _ h' ⟨rfl,B',O',M⟩
 obtain⟨B2,O,Xe⟩:=OF B' _ (by rw[← BT];exact O')
 refine cN ?_
 have M:=M.cnt (W:=(g1,39,cs) :: (B2++L)) (λp=>by have:=Xe p;simp only[bN,bu,bZ] at *;omega)
 clear OF
 obtain⟨Bm,Br,hB,Om,OF⟩:=DF O o4
 obtain⟨b,l,c,e,Om⟩:=Om
 refine o_l ((M.cell .here _).trans (zk e)) ?_
 refine(AT (xs:=x.az) Om (M.cnt (W:=Bm++(Br++((g1,39,cs) :: L))) (λp=>by have:=hB p;simp only[bN,bu,bZ] at *;omega)) (k+gz x.dv) (by omega) (by omega)).mono ?_
 rintro _ h' ⟨rfl,B',O',M⟩
 obtain⟨B2,O,Xe⟩:=OF B' _ ⟨b,l,c,e,O'⟩
 refine cN ?_
 have M:=M.cnt (W:=(g1,39,cs) :: (B2++L)) (λp=>by have:=Xe p;simp only[bN,bu,bZ] at *;omega)
 clear OF
 obtain⟨Bm,Br,hB,Om,OF⟩:=DF O uV
 obtain⟨b,l,c,e,Om⟩:=Om
 refine o_l ((M.cell .here _).trans (zk e)) ?_
 refine(IL (xs:=x.bo) Om (M.cnt (W:=Bm++(Br++((g1,39,cs) :: L))) (λp=>by have:=hB p;simp only[bN,bu,bZ] at *;omega)) (k+gz x.dv+dF x.az) (by omega) (by omega)).mono ?_
 rintro _ h' ⟨rfl,B',O',M⟩
 obtain⟨B2,O,Xe⟩:=OF B' _ ⟨b,l,c,e,O'⟩
 refine cN ?_
 have M:=M.cnt (W:=(g1,39,cs) :: (B2++L)) (λp=>by have:=Xe p;simp only[bN,bu,bZ] at *;omega)
 clear OF
 exact⟨by congr 2 <;> (unfold jo;omega),B2,O,M.drop⟩
theorem Lj{cs:Array Value}{x:bI}(k:Nat)(R0:bU.rd h cs.toList (GB x k))(ES:j8 x≤1048576)(hk:k+jo x≤1073741824):
  af ak 55 #[.agg cs,.int .i64 (k:Int)] (λu h'=>u = .int .i64 ((k+jo x:Nat):Int)∧Ext h h') h:=by
 have hw:j8 x=gQ x.dv+dz x.az+iu x.bo:=rfl
 have hn:jo x=gz x.dv+dF x.az+jn x.bo:=rfl
 refine sI.call (gD R0 λg1 h1 X R=>?_)
 refine R.jH ed rfl λc1 R1=>goX (IB (x:=x.dv) (k) R1 (by omega) (by omega)) λh' x'=>cN (cM (decide_eq_false (by omega)) ?_)
 have R:=R.ext x'
 have X:=X.trans x'
 refine R.oL2 λb1 l1 c1 S1=>goX (AQ (xs:=x.az) (k+gz x.dv) S1 (by omega) (by omega)) λh' x'=>cN (cM (decide_eq_false (by omega)) ?_)
 have R:=R.ext x'
 have X:=X.trans x'
 refine R.oL2 λb1 l1 c1 S1=>goX (IA (xs:=x.bo) (k+gz x.dv+dF x.az) S1 (by omega) (by omega)) λh' x'=>cN (cM (decide_eq_false (by omega)) ?_)
 have R:=R.ext x'
 have X:=X.trans x'
 exact⟨by congr 2 <;> (unfold jo;omega),X⟩
end
end Go.Sx
