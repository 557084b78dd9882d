/- Lemmas. -/
import Derived.Test.YthhepeklpgefkaaGreatDoorLh4
import Derived.Test.YthhepeklpgefkaaGreatDoorH1
import Derived.Test.YthhepeklpgefkaaGreatDoorH5
import Derived.Laws.BytesString
set_option linter.unusedVariables false
set_option linter.unusedSimpArgs false
namespace Go.Sx
open FloatKind (f32 f64)
open IntKind (i64)
open Go.Proofs
set_option maxRecDepth 100000
def Cn:Nat->Nat->ByteArray->ByteArray
 | 0,_,out=>out
 | f+1,k,out=>if k=0 then out else Cn f (k / 10) ((⟨#[UInt8.ofNat (48+k % 10)]⟩:ByteArray)++out)
def Qv(k:Nat):ByteArray:=if k=0 then ⟨#[109,48]⟩ else ⟨#[109]⟩++Cn 12 k ⟨#[]⟩
theorem Va(f:Nat)(out:ByteArray):Cn f 0 out=out:=by cases f <;> rfl
theorem RX(a b:ByteArray):(a++b).size=a.size+b.size:=ByteArray.size_append
theorem Kg:∀(f k:Nat) (out:ByteArray),(Cn f k out).size≤f+out.size
 | 0,k,out=>by simp[Cn]
 | f+1,k,out=>by
  unfold Cn
  split
  ·omega
  ·have:=Kg f (k / 10) ((⟨#[UInt8.ofNat (48+k % 10)]⟩:ByteArray)++out)
   rw[RX] at this
   have e:(⟨#[UInt8.ofNat (48+k % 10)]⟩:ByteArray).size=1:=rfl
   omega
theorem XT(k:Nat):(Qv k).size≤maxLen:=by
 refine Nat.le_trans ?_ (show 14≤maxLen by decide)
 unfold Qv
 split
 ·decide
 ·rw[RX]
  have:=Kg 12 k ⟨#[]⟩
  have e:(⟨#[109]⟩:ByteArray).size=1:=rfl
  have e2:(⟨#[]⟩:ByteArray).size=0:=rfl
  omega
theorem adp{g:Nat}{h:ab}{n:Int}{K:Value->ab->Prop}(hc:cell h ⟨g,0,none⟩=some (.int .u8 n))(H:K (.string ⟨#[UInt8.ofNat n.toNat]⟩) h):iA ai (convert Gn Dn (.slice (some ⟨g,0,none⟩) 1 1)) K h:=by
 refine Yo λw hw=>⟨.string ⟨#[UInt8.ofNat n.toNat]⟩,w,?_,jH.refl _,by rw[hw];exact H⟩
 have hc':w.cell? ⟨g,0,none⟩=some (.int .u8 n):=by rw[yR,hw];exact hc
 rw[run_convert_bytes_string w _ _ _ _ _ _ Wn agO TY,run_bytesToString w _ 1 1 [n] ?_]
 ·rfl
 ·simp[loadCells,loadCellsFrom,hc',Addr.add,Sem.run_pure]
theorem MK(k:Nat)(hk:k≤1073741824):Ret ai qv #[.int .i64 (k:Int)] (.string (Qv k)):=λh=>by
 refine ic.call ?_
 refine brd (λh0=>⟨by rw[Qv,if_pos (by omega)],Ext.refl _⟩) λh0=>?_
 refine loop (λx hh=>∃(f n:Nat) (out:ByteArray),x=((n:Int),out)∧n<10 ^ f∧f≤12∧out.size+f≤12∧Cn f n out=Cn 12 k ⟨#[]⟩∧Ext h hh) (λx=>x.1.toNat) ⟨12,k,⟨#[]⟩,rfl,by omega,by omega,by show 0+12≤12;omega,rfl,Ext.refl _⟩ ?_
 rintro x hh ⟨f,n,out,rfl,hn,hf,hs,he,X⟩
 refine brd (λhc=>?_) λhc=>?_
 ·have e1:Int.tmod (n:Int) 10=((n % 10:Nat):Int):=by rw[Int.ofNat_tmod];rfl
  have e2:Int.tdiv (n:Int) 10=((n / 10:Nat):Int):=by rw[Int.ofNat_tdiv];rfl
  have hn0:n<1000000000000:=Nat.lt_of_lt_of_le hn (Nat.pow_le_pow_right (by decide) hf)
  rw[e1,e2,wrap64 (n:=48+((n % 10:Nat):Int)) (by omega) (by omega),wrap64 (n:=((n / 10:Nat):Int)) (by omega) (by omega)]
  have e3:IntKind.u8.wrap (48+((n % 10:Nat):Int))=48+((n % 10:Nat):Int):=by
   simp only[IntKind.wrap,IntKind.signed,Bool.false_and,Bool.false_eq_true,if_false]
   rw[show (2:Int) ^ IntKind.u8.bits=256 by decide]
   omega
  rw[e3]
  refine nz (by decide) ((Mem.start hh).alc λg h1 x1 M=>adp (M.cell .here 0) (aal ?_))
  rw[show (48+((n % 10:Nat):Int)).toNat=48+n % 10 by omega]
  have es:(⟨#[UInt8.ofNat (48+n % 10)]⟩:ByteArray).size=1:=rfl
  refine ⟨by rw[es];omega,nz (by decide) ⟨?_,by show ((n / 10:Nat):Int).toNat<(n:Int).toNat;omega⟩⟩
  cases f with
  | zero=>simp at hn;omega
  | succ f=>
   refine ⟨f,n / 10,_,rfl,by rw[Nat.pow_succ] at hn;omega,by omega,by rw[RX,es];omega,?_,X.trans M.ext⟩
   rw[← he]
   conv=>rhs;unfold Cn
   rw[if_neg (by omega)]
 ·obtain rfl:n=0:=by omega
  rw[Va] at he
  have es:(⟨#[109]⟩:ByteArray).size=1:=rfl
  refine ⟨by rw[es];omega,?_,X⟩
  rw[Qv,if_neg (by omega),he]
theorem Pt.aBg{α:Type}{r:Rep α}{h0 h:ab}{q:Addr}{F:Fr}{L:List Blk}{a:α}{n:ByteArray}{get:α->ByteArray}{put:α->ByteArray->α}{K:ab->Prop}(P:Pt r h0 h q F L a)[Fc:dn r 0 rS get put](hn:n.size≤maxLen)(H:∀h',Pt r h0 h' q F L (put a n)->K h'):ST1 h q (.string n) K:=by
 have:=Pt.stS (off:=0) P (Fc:=Fc) hn H
 rwa [ny] at this
section
variable {h:ab}
def jf(x:bR):Nat:=aw x.bU
def JA(x:bR)(k:Nat):bR:={ x with bU:=fB x.bU (k) }
theorem abz(x:bR):jf x≤8*jv x:=by
 have h0:=Vf x.bU
 have e1:jf x=aw x.bU:=rfl
 have e2:jv x=cD x.bU:=rfl
 omega
theorem PB{h0:ab}{B L:List Blk}{cs:Array Value}{x:bR}(O:eJ.ow B cs.toList x)(M:Mem h0 h (B++L))(k:Nat)(GI:jv x≤1048576)(hk:k+jf x≤1073741824):
  ae ai su #[.agg cs,.int .i64 (k:Int)] (λu h'=>u = .int .i64 ((k+jf x:Nat):Int)∧∃B',eJ.ow B' cs.toList (JA x k)∧Mem h0 h' (B'++L)) h:=by
 have hw:jv x=cD x.bU:=rfl
 have hn:jf x=aw x.bU:=rfl
 refine wc.call (M.alc λg1 h1 x1 M=>?_)
 obtain⟨Bm,Br,hB,Om,Vt⟩:=JF O xY
 obtain⟨b,l,c,e,Om⟩:=Om
 refine o_l ((M.cell .here _).trans (EL e)) ?_
 refine (lI (xs:=x.bU) Om (M.cnt (W:=Bm++(Br++((g1,ey,cs) :: L))) (λp=>by have:=hB p;simp only[bO,bz,cg] at *;omega)) (k) (by omega) (by omega)).mono ?_
 rintro _ h' ⟨rfl,B',O',M⟩
 obtain⟨B2,O,hB2⟩:=Vt B' _ ⟨b,l,c,e,O'⟩
 refine cX ?_
 have M:=M.cnt (W:=(g1,ey,cs) :: (B2++L)) (λp=>by have:=hB2 p;simp only[bO,bz,cg] at *;omega)
 clear Vt
 exact ⟨by congr 2 <;> (unfold jf;omega),B2,O,M.drop⟩
theorem Pj{cs:Array Value}{x:bR}(k:Nat)(R0:eJ.rd h cs.toList (JA x k))(GI:jv x≤1048576)(hk:k+jf x≤1073741824):
  ae ai sq #[.agg cs,.int .i64 (k:Int)] (λu h'=>u = .int .i64 ((k+jf x:Nat):Int)∧Ext h h') h:=by
 have hw:jv x=cD x.bU:=rfl
 have hn:jf x=aw x.bU:=rfl
 refine wa.call (fj R0 λg1 h1 X R=>?_)
 refine R.oL2 λb1 l1 c1 S1=>goX (lH (xs:=x.bU) (k) S1 (by omega) (by omega)) λh' x'=>cX (dp (decide_eq_false (by omega)) ?_)
 have R:=R.ext x'
 have X:=X.trans x'
 exact ⟨by congr 2 <;> (unfold jf;omega),X⟩
theorem lW:0<aM.sz:=by decide
def js(x:bA)(k:Nat):bA:={ x with Name:=Qv (k),Kind:=((k+1:Nat):Int),A:=f32.nearest ((k+2:Nat):Int),B:=f32.nearest ((k+3:Nat):Int),C:=f32.nearest ((k+4:Nat):Int) }
def eR(xs:List bA):Nat:=nL (λ_=>5) xs
def mv(xs:List bA)(k:Nat):List bA:=mkL js (λ_=>5) xs k
theorem jP(xs:List bA):nL (λ_:bA=>5) xs=5*xs.length:=by
 induction xs with
 | nil=>rfl
 | cons x xs ih=>simp only[nL,ih,List.length_cons];omega
theorem MV(xs:List bA):eR xs≤8*ez xs:=by unfold eR ez;rw[jP];omega
theorem GO{h0:ab}{B L:List Blk}{b:Option Addr}{l c:Nat}{xs:List bA}(O0:SlO bk aM B b l c xs)(M0:Mem h0 h (B++L))(k:Nat)(GI:ez xs≤1048576)(hk:k+eR xs≤1073741824):
  ae ai mU #[.slice b l c,.int .i64 (k:Int)] (λu h'=>u = .int .i64 ((k+eR xs:Nat):Int)∧∃B',SlO bk aM B' b l c (mv xs k)∧Mem h0 h' (B'++L)) h:=by
 have hx:=O0.len
 unfold ez at GI
 unfold eR at hk
 rw[jP] at hk
 have hn0:∀m,m≤l->nL (λ_:bA=>5) (xs.take m)=5*m:=λm hm=>by rw[jP,List.length_take];congr 1;omega
 refine dJ.call ?_
 refine loop (λx hh=>∃(n:Nat) (B:List Blk),x=(b,l,c,((k+5*n:Nat):Int),(n:Int))∧n≤l∧SlO bk aM B b l c (mkL js (λ_=>5) (xs.take n) k++xs.drop n)∧Mem h0 hh (B++L)) (λx=>(l-x.2.2.2.2).toNat) ⟨0,B,rfl,by omega,by simpa [mkL] using O0,M0⟩ ?_
 rintro x hh ⟨n,B,rfl,hn,O,M⟩
 refine brd (λhc=>?_) λhc=>?_
 ·obtain⟨a0,F',L',rfl,P,hs,close⟩:=O.elem M (i:=n) (by omega)
  rw[T0 (by omega)] at P
  have e0:i64.wrap (((k+5*n:Nat):Int)+1)=((k+5*n+1:Nat):Int):=ag (by omega)
  have e1:i64.wrap (((k+5*n+1:Nat):Int)+1)=((k+5*n+2:Nat):Int):=ag (by omega)
  have e2:i64.wrap (((k+5*n+2:Nat):Int)+1)=((k+5*n+3:Nat):Int):=ag (by omega)
  have e3:i64.wrap (((k+5*n+3:Nat):Int)+1)=((k+5*n+4:Nat):Int):=ag (by omega)
  have e4:i64.wrap (((k+5*n+4:Nat):Int)+1)=((k+5*n+5:Nat):Int):=ag (by omega)
  simp only[e0,e1,e2,e3,e4,Int.toNat_natCast]
  rw[show n*5=n*aM.sz from rfl]
  refine goX (MK (k+5*n) (by omega) _) λh' x'=>aal ?_
  have P:=P.grow x'
  refine idxs (by omega) (by omega) (P.aBg (XT _) λh' P=>?_)
  refine idxs (by omega) (by omega) (P.stI λh' P=>?_)
  refine idxs (by omega) (by omega) (P.stF (dr _ _) λh' P=>?_)
  refine idxs (by omega) (by omega) (P.stF (dr _ _) λh' P=>?_)
  refine idxs (by omega) (by omega) (P.stF (dr _ _) λh' P=>?_)
  obtain⟨B',O',M'⟩:=close _ _ _ P
  have e:js xs[n]! (k+nL (λ_=>5) (xs.take n))=js xs[n]! (k+5*n):=by rw[hn0 n (by omega)]
  have st:=I7 (mk:=js) (n:=λ_=>5) (k:=k) (xs:=xs) (i:=n) (by omega)
  rw[e] at st
  have O':SlO bk aM B' (some a0) l c ((mkL js (λ_=>5) (xs.take n) k++xs.drop n).set n (js xs[n]! (k+5*n))):=O'
  rw[st] at O'
  rw[ag (by omega)]
  exact ⟨⟨n+1,B',by rw[show k+5*n+5=k+5*(n+1) by omega],by omega,O',M'⟩,by show _<_;simp;omega⟩
 ·obtain rfl:n=l:=by omega
  have e:xs.take n=xs:=by rw[← hx];exact List.take_length
  have e2:xs.drop n=[]:=List.drop_of_length_le (by omega)
  rw[e,e2,List.append_nil] at O
  exact ⟨by rw[eR,jP,hx],B,O,M⟩
theorem GG{b:Option Addr}{l c:Nat}{xs:List bA}(k:Nat)(S:SlR aM h b l c (mv xs k))(GI:ez xs≤1048576)(hk:k+eR xs≤1073741824):
  ae ai mT #[.slice b l c,.int .i64 (k:Int)] (λu h'=>u = .int .i64 ((k+eR xs:Nat):Int)∧Ext h h') h:=by
 have hx:xs.length=l:=by have:=S.len;rwa [mv,Cl] at this
 unfold ez at GI
 unfold eR at hk
 rw[jP] at hk
 have hn0:∀m,m≤l->nL (λ_:bA=>5) (xs.take m)=5*m:=λm hm=>by rw[jP,List.length_take];congr 1;omega
 refine dI.call ?_
 refine loop (λx hh=>∃n:Nat,x=(b,l,c,((k+5*n:Nat):Int),(n:Int))∧n≤l∧Ext h hh) (λx=>(l-x.2.2.2.2).toNat) ⟨0,rfl,by omega,Ext.refl _⟩ ?_
 rintro x hh ⟨n,rfl,hn,X⟩
 refine brd (λhc=>?_) λhc=>?_
 ·have hm:(mv xs k)[n]! = js xs[n]! (k+5*n):=by unfold mv;rw[Lp (by omega),hn0 n (by omega)]
  have e0:i64.wrap (((k+5*n:Nat):Int)+1)=((k+5*n+1:Nat):Int):=ag (by omega)
  have e1:i64.wrap (((k+5*n+1:Nat):Int)+1)=((k+5*n+2:Nat):Int):=ag (by omega)
  have e2:i64.wrap (((k+5*n+2:Nat):Int)+1)=((k+5*n+3:Nat):Int):=ag (by omega)
  have e3:i64.wrap (((k+5*n+3:Nat):Int)+1)=((k+5*n+4:Nat):Int):=ag (by omega)
  have e4:i64.wrap (((k+5*n+4:Nat):Int)+1)=((k+5*n+5:Nat):Int):=ag (by omega)
  simp only[e0,e1,e2,e3,e4]
  refine (S.ext X).idx lW (by omega) (by omega) λa Ra=>?_
  rw[Int.toNat_natCast,hm] at Ra
  refine Ra.oS1 λhs=>goX (MK (k+5*n) (by omega) _) λh' x'=>aal (Ra.Da (by decide) x' (dp (by simp[js]) ?_))
  have X:=X.trans x'
  refine (S.ext X).idx lW (by omega) (by omega) λa Ra=>?_
  rw[Int.toNat_natCast,hm] at Ra
  refine Ra.oI (dp (bne_self_eq_false _) ?_)
  refine (S.ext X).idx lW (by omega) (by omega) λa Ra=>?_
  rw[Int.toNat_natCast,hm] at Ra
  refine Ra.oF λy hy=>?_
  have hy:FW .f32 y (f32.nearest ((k+5*n+2:Nat):Int)):=hy
  obtain rfl:=hy.eq (dW _ _)
  refine dp (yq (dW _ _)) ?_
  refine (S.ext X).idx lW (by omega) (by omega) λa Ra=>?_
  rw[Int.toNat_natCast,hm] at Ra
  refine Ra.oF λy hy=>?_
  have hy:FW .f32 y (f32.nearest ((k+5*n+3:Nat):Int)):=hy
  obtain rfl:=hy.eq (dW _ _)
  refine dp (yq (dW _ _)) ?_
  refine (S.ext X).idx lW (by omega) (by omega) λa Ra=>?_
  rw[Int.toNat_natCast,hm] at Ra
  refine Ra.oF λy hy=>?_
  have hy:FW .f32 y (f32.nearest ((k+5*n+4:Nat):Int)):=hy
  obtain rfl:=hy.eq (dW _ _)
  refine dp (yq (dW _ _)) ?_
  rw[ag (by omega)]
  exact ⟨⟨n+1,by rw[show k+5*n+5=k+5*(n+1) by omega],by omega,X⟩,by show _<_;simp;omega⟩
 ·obtain rfl:n=l:=by omega
  exact ⟨by rw[eR,jP,hx],X⟩
def rz(x:bf)(k:Nat):bf:={ x with At:=((k:Nat):Int),Kind:=((k+1:Nat):Int),aT:=((k+2:Nat):Int),ar:=((k+3:Nat):Int),Key:=((k+4:Nat):Int),iK:=f32.nearest ((k+5:Nat):Int) }
def lT(xs:List bf):Nat:=nL (λ_=>6) xs
def xm(xs:List bf)(k:Nat):List bf:=mkL rz (λ_=>6) xs k
theorem oO(xs:List bf):nL (λ_:bf=>6) xs=6*xs.length:=by
 induction xs with
 | nil=>rfl
 | cons x xs ih=>simp only[nL,ih,List.length_cons];omega
theorem aby(xs:List bf):lT xs≤8*ka xs:=by unfold lT ka;rw[oO];omega
theorem PA{h0:ab}{B L:List Blk}{b:Option Addr}{l c:Nat}{xs:List bf}(O0:SlO bq bD B b l c xs)(M0:Mem h0 h (B++L))(k:Nat)(GI:ka xs≤1048576)(hk:k+lT xs≤1073741824):
  ae ai ss #[.slice b l c,.int .i64 (k:Int)] (λu h'=>u = .int .i64 ((k+lT xs:Nat):Int)∧∃B',SlO bq bD B' b l c (xm xs k)∧Mem h0 h' (B'++L)) h:=by
 have hx:=O0.len
 unfold ka at GI
 unfold lT at hk
 rw[oO] at hk
 have hn0:∀m,m≤l->nL (λ_:bf=>6) (xs.take m)=6*m:=λm hm=>by rw[oO,List.length_take];congr 1;omega
 refine fW.call ?_
 refine loop (λx hh=>∃(n:Nat) (B:List Blk),x=(b,l,c,((k+6*n:Nat):Int),(n:Int))∧n≤l∧SlO bq bD B b l c (mkL rz (λ_=>6) (xs.take n) k++xs.drop n)∧Mem h0 hh (B++L)) (λx=>(l-x.2.2.2.2).toNat) ⟨0,B,rfl,by omega,by simpa [mkL] using O0,M0⟩ ?_
 rintro x hh ⟨n,B,rfl,hn,O,M⟩
 refine brd (λhc=>?_) λhc=>?_
 ·obtain⟨a0,F',L',rfl,P,hs,close⟩:=O.elem M (i:=n) (by omega)
  rw[T0 (by omega)] at P
  have e0:i64.wrap (((k+6*n:Nat):Int)+1)=((k+6*n+1:Nat):Int):=ag (by omega)
  have e1:i64.wrap (((k+6*n+1:Nat):Int)+1)=((k+6*n+2:Nat):Int):=ag (by omega)
  have e2:i64.wrap (((k+6*n+2:Nat):Int)+1)=((k+6*n+3:Nat):Int):=ag (by omega)
  have e3:i64.wrap (((k+6*n+3:Nat):Int)+1)=((k+6*n+4:Nat):Int):=ag (by omega)
  have e4:i64.wrap (((k+6*n+4:Nat):Int)+1)=((k+6*n+5:Nat):Int):=ag (by omega)
  have e5:i64.wrap (((k+6*n+5:Nat):Int)+1)=((k+6*n+6:Nat):Int):=ag (by omega)
  simp only[e0,e1,e2,e3,e4,e5,Int.toNat_natCast]
  rw[show n*6=n*bD.sz from rfl]
  refine idxs (by omega) (by omega) (P.asN λh' P=>?_)
  refine idxs (by omega) (by omega) (P.stI λh' P=>?_)
  refine idxs (by omega) (by omega) (P.stI λh' P=>?_)
  refine idxs (by omega) (by omega) (P.stI λh' P=>?_)
  refine idxs (by omega) (by omega) (P.stI λh' P=>?_)
  refine idxs (by omega) (by omega) (P.stF (dr _ _) λh' P=>?_)
  obtain⟨B',O',M'⟩:=close _ _ _ P
  have e:rz xs[n]! (k+nL (λ_=>6) (xs.take n))=rz xs[n]! (k+6*n):=by rw[hn0 n (by omega)]
  have st:=I7 (mk:=rz) (n:=λ_=>6) (k:=k) (xs:=xs) (i:=n) (by omega)
  rw[e] at st
  have O':SlO bq bD B' (some a0) l c ((mkL rz (λ_=>6) (xs.take n) k++xs.drop n).set n (rz xs[n]! (k+6*n))):=O'
  rw[st] at O'
  rw[ag (by omega)]
  exact ⟨⟨n+1,B',by rw[show k+6*n+6=k+6*(n+1) by omega],by omega,O',M'⟩,by show _<_;simp;omega⟩
 ·obtain rfl:n=l:=by omega
  have e:xs.take n=xs:=by rw[← hx];exact List.take_length
  have e2:xs.drop n=[]:=List.drop_of_length_le (by omega)
  rw[e,e2,List.append_nil] at O
  exact ⟨by rw[lT,oO,hx],B,O,M⟩
theorem Ph{b:Option Addr}{l c:Nat}{xs:List bf}(k:Nat)(S:SlR bD h b l c (xm xs k))(GI:ka xs≤1048576)(hk:k+lT xs≤1073741824):
  ae ai so #[.slice b l c,.int .i64 (k:Int)] (λu h'=>u = .int .i64 ((k+lT xs:Nat):Int)∧Ext h h') h:=by
 have hx:xs.length=l:=by have:=S.len;rwa [xm,Cl] at this
 unfold ka at GI
 unfold lT at hk
 rw[oO] at hk
 have hn0:∀m,m≤l->nL (λ_:bf=>6) (xs.take m)=6*m:=λm hm=>by rw[oO,List.length_take];congr 1;omega
 refine fV.call ?_
 refine loop (λx hh=>∃n:Nat,x=(b,l,c,((k+6*n:Nat):Int),(n:Int))∧n≤l∧Ext h hh) (λx=>(l-x.2.2.2.2).toNat) ⟨0,rfl,by omega,Ext.refl _⟩ ?_
 rintro x hh ⟨n,rfl,hn,X⟩
 refine brd (λhc=>?_) λhc=>?_
 ·have hm:(xm xs k)[n]! = rz xs[n]! (k+6*n):=by unfold xm;rw[Lp (by omega),hn0 n (by omega)]
  have e0:i64.wrap (((k+6*n:Nat):Int)+1)=((k+6*n+1:Nat):Int):=ag (by omega)
  have e1:i64.wrap (((k+6*n+1:Nat):Int)+1)=((k+6*n+2:Nat):Int):=ag (by omega)
  have e2:i64.wrap (((k+6*n+2:Nat):Int)+1)=((k+6*n+3:Nat):Int):=ag (by omega)
  have e3:i64.wrap (((k+6*n+3:Nat):Int)+1)=((k+6*n+4:Nat):Int):=ag (by omega)
  have e4:i64.wrap (((k+6*n+4:Nat):Int)+1)=((k+6*n+5:Nat):Int):=ag (by omega)
  have e5:i64.wrap (((k+6*n+5:Nat):Int)+1)=((k+6*n+6:Nat):Int):=ag (by omega)
  simp only[e0,e1,e2,e3,e4,e5]
  refine (S.ext X).idx kR (by omega) (by omega) λa Ra=>?_
  rw[Int.toNat_natCast,hm] at Ra
  refine Ra.oI1 (dp (bne_self_eq_false _) ?_)
  refine (S.ext X).idx kR (by omega) (by omega) λa Ra=>?_
  rw[Int.toNat_natCast,hm] at Ra
  refine Ra.oI (dp (bne_self_eq_false _) ?_)
  refine (S.ext X).idx kR (by omega) (by omega) λa Ra=>?_
  rw[Int.toNat_natCast,hm] at Ra
  refine Ra.oI (dp (bne_self_eq_false _) ?_)
  refine (S.ext X).idx kR (by omega) (by omega) λa Ra=>?_
  rw[Int.toNat_natCast,hm] at Ra
  refine Ra.oI (dp (bne_self_eq_false _) ?_)
  refine (S.ext X).idx kR (by omega) (by omega) λa Ra=>?_
  rw[Int.toNat_natCast,hm] at Ra
  refine Ra.oI (dp (bne_self_eq_false _) ?_)
  refine (S.ext X).idx kR (by omega) (by omega) λa Ra=>?_
  rw[Int.toNat_natCast,hm] at Ra
  refine Ra.oF λy hy=>?_
  have hy:FW .f32 y (f32.nearest ((k+6*n+5:Nat):Int)):=hy
  obtain rfl:=hy.eq (dW _ _)
  refine dp (yq (dW _ _)) ?_
  rw[ag (by omega)]
  exact ⟨⟨n+1,by rw[show k+6*n+6=k+6*(n+1) by omega],by omega,X⟩,by show _<_;simp;omega⟩
 ·obtain rfl:n=l:=by omega
  exact ⟨by rw[lT,oO,hx],X⟩
def lU(x:cA):Nat:=jf x.er+eR x.aI+lT x.aU
def MN(x:cA)(k:Nat):cA:={ x with er:=JA x.er (k),aI:=mv x.aI (k+jf x.er),aU:=xm x.aU (k+jf x.er+eR x.aI) }
theorem afh(x:cA):lU x≤8*kz x:=by
 have h0:=abz x.er
 have h1:=MV x.aI
 have h2:=aby x.aU
 have e1:lU x=jf x.er+eR x.aI+lT x.aU:=rfl
 have e2:kz x=jv x.er+ez x.aI+ka x.aU:=rfl
 omega
theorem SZ{h0:ab}{B L:List Blk}{cs:Array Value}{x:cA}(O:da.ow B cs.toList x)(M:Mem h0 h (B++L))(k:Nat)(GI:kz x≤1048576)(hk:k+lU x≤1073741824):
  ae ai tR #[.agg cs,.int .i64 (k:Int)] (λu h'=>u = .int .i64 ((k+lU x:Nat):Int)∧∃B',da.ow B' cs.toList (MN x k)∧Mem h0 h' (B'++L)) h:=by
 have hw:kz x=jv x.er+ez x.aI+ka x.aU:=rfl
 have hn:lU x=jf x.er+eR x.aI+lT x.aU:=rfl
 refine yi.call (M.alc λg1 h1 x1 M=>?_)
 obtain⟨Bm,Br,hB,Om,Vt⟩:=JF O fl
 refine M.lda .here (by have:=osz O rfl;rw[this];decide) ?_
 rw[← HB] at Om
 refine (PB (x:=x.er) Om (M.cnt (W:=Bm++(Br++((g1,bt,cs) :: L))) (λp=>by have:=hB p;simp only[bO,bz,cg] at *;omega)) (k) (by omega) (by omega)).mono ?_
 rintro _ h' ⟨rfl,B',O',M⟩
 obtain⟨B2,O,hB2⟩:=Vt B' _ (by rw[← HB];exact O')
 refine cX ?_
 have M:=M.cnt (W:=(g1,bt,cs) :: (B2++L)) (λp=>by have:=hB2 p;simp only[bO,bz,cg] at *;omega)
 clear Vt
 obtain⟨Bm,Br,hB,Om,Vt⟩:=JF O tw
 obtain⟨b,l,c,e,Om⟩:=Om
 refine o_l ((M.cell .here _).trans (EL e)) ?_
 refine (GO (xs:=x.aI) Om (M.cnt (W:=Bm++(Br++((g1,bt,cs) :: L))) (λp=>by have:=hB p;simp only[bO,bz,cg] at *;omega)) (k+jf x.er) (by omega) (by omega)).mono ?_
 rintro _ h' ⟨rfl,B',O',M⟩
 obtain⟨B2,O,hB2⟩:=Vt B' _ ⟨b,l,c,e,O'⟩
 refine cX ?_
 have M:=M.cnt (W:=(g1,bt,cs) :: (B2++L)) (λp=>by have:=hB2 p;simp only[bO,bz,cg] at *;omega)
 clear Vt
 obtain⟨Bm,Br,hB,Om,Vt⟩:=JF O AK
 obtain⟨b,l,c,e,Om⟩:=Om
 refine o_l ((M.cell .here _).trans (EL e)) ?_
 refine (PA (xs:=x.aU) Om (M.cnt (W:=Bm++(Br++((g1,bt,cs) :: L))) (λp=>by have:=hB p;simp only[bO,bz,cg] at *;omega)) (k+jf x.er+eR x.aI) (by omega) (by omega)).mono ?_
 rintro _ h' ⟨rfl,B',O',M⟩
 obtain⟨B2,O,hB2⟩:=Vt B' _ ⟨b,l,c,e,O'⟩
 refine cX ?_
 have M:=M.cnt (W:=(g1,bt,cs) :: (B2++L)) (λp=>by have:=hB2 p;simp only[bO,bz,cg] at *;omega)
 clear Vt
 exact ⟨by congr 2 <;> (unfold lU;omega),B2,O,M.drop⟩
theorem Sy{cs:Array Value}{x:cA}(k:Nat)(R0:da.rd h cs.toList (MN x k))(GI:kz x≤1048576)(hk:k+lU x≤1073741824):
  ae ai tQ #[.agg cs,.int .i64 (k:Int)] (λu h'=>u = .int .i64 ((k+lU x:Nat):Int)∧Ext h h') h:=by
 have hw:kz x=jv x.er+ez x.aI+ka x.aU:=rfl
 have hn:lU x=jf x.er+eR x.aI+lT x.aU:=rfl
 refine yh.call (fj R0 λg1 h1 X R=>?_)
 refine R.fc fl rfl λc1 R1=>goX (Pj (x:=x.er) (k) R1 (by omega) (by omega)) λh' x'=>cX (dp (decide_eq_false (by omega)) ?_)
 have R:=R.ext x'
 have X:=X.trans x'
 refine R.oL2 λb1 l1 c1 S1=>goX (GG (xs:=x.aI) (k+jf x.er) S1 (by omega) (by omega)) λh' x'=>cX (dp (decide_eq_false (by omega)) ?_)
 have R:=R.ext x'
 have X:=X.trans x'
 refine R.oL2 λb1 l1 c1 S1=>goX (Ph (xs:=x.aU) (k+jf x.er+eR x.aI) S1 (by omega) (by omega)) λh' x'=>cX (dp (decide_eq_false (by omega)) ?_)
 have R:=R.ext x'
 have X:=X.trans x'
 exact ⟨by congr 2 <;> (unfold lU;omega),X⟩
end
end Go.Sx
