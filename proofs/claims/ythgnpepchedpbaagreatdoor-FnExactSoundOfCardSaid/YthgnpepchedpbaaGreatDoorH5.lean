/- Lemmas. -/
import Derived.Test.YthgnpepchedpbaaGreatDoorTab
import Derived.Test.YthgnpepchedpbaaGreatDoorLh4
import Derived.Test.YthgnpepchedpbaaGreatDoorLh0
import Derived.Laws.BytesString
import Derived.Test.YthgnpepchedpbaaGreatDoorLr8
import Derived.Test.YthgnpepchedpbaaGreatDoorLr3
set_option linter.unusedVariables false
set_option linter.unusedSimpArgs false
namespace Go.Sx
open FloatKind (f32 f64)
open IntKind (i64)
open Go.Proofs
set_option maxRecDepth 100000
def qw.S(a_0:Array Value)(k_1:Int)(aa:VH)(h:ab):=ALC a_0 35 (λb a=> oL (cell a ⟨b,2,none⟩) λNH NI Pz=> af ak 14 #[.slice NH NI Pz,.int .i64 k_1] (λc d=> asI .i64 c λe=> aa (.int .i64 e) d) a) h
theorem qw.call{a_0 k_1 aa h}(H:qw.S a_0 k_1 aa h):af ak 51 #[.agg a_0,.int .i64 k_1] aa h:=qk Tryz.func51 H
def fL.B4(aa:VH)(b:(Int×ByteArray)->ab->Prop):Int×ByteArray->ab->Prop |(k_0,Cs),h=> BIF ((decide (0<k_0))) (NZ 10 <|ALC ⟨[.int .u8 ((IntKind.u8.wrap ((i64.wrap (48+(Int.tmod k_0 10))))))]⟩ 5 (λc d=> gC ak (convert 204 9 (.slice (some ⟨c,0,none⟩) 1 1)) (λe f=> asS e λa=> ((ByteArray.size a+ByteArray.size Cs:Nat):Int)≤9223372036854775807∧(NZ 10 <|b (((i64.wrap (Int.tdiv k_0 10))),(a++Cs)) f)) d) h) (((ByteArray.size (⟨#[109]⟩:ByteArray)+ByteArray.size Cs:Nat):Int)≤9223372036854775807∧(aa (.string ((⟨#[109]⟩:ByteArray)++Cs)) h))
def fL.g4(fr:Frame):Int×ByteArray:=((gI (ah fr 0)),(gS (ah fr 3)))
def fL.l4(aa:VH):=gg (kds 20 [(0,.i .i64),(3,.s)]) λfr=>bk (fL.B4 aa) (fL.g4 fr)
def fL.S(k_0:Int)(aa:VH)(h:ab):=BIF ((decide (k_0≤0))) (aa (.string (⟨#[109,48]⟩:ByteArray)) h) (bk (fL.B4 aa) (k_0,(⟨#[]⟩:ByteArray)) h)
theorem fL.call{k_0 aa h}(H:fL.S k_0 aa h):af ak 84 #[.int .i64 k_0] aa h:=qc (Λ:=aS [(1000004,fL.l4 aa)]) Tryz.func84 (qs qf (qs qf (qs qf (qs (Rq.block (ql (fL.l4 aa) (qg (g:=fL.g4) (Λ:=λa=>aS []) (λ_ _ _=>by kernel_rfl) (λa=>qf)))) qf)))) (qe H)
def cZ.B2(aa:VH)(a:(Option Addr×Nat×Nat×Int×Int)->ab->Prop):Option Addr×Nat×Nat×Int×Int->ab->Prop |(aO,aB,bH,k_1,i_5),h=> BIF ((decide (i_5<(aB:Int)))) (af ak 84 #[.int .i64 k_1] (λb c=> asS b λd=> bd aO i_5 aB λe=> ST1 c ((Addr.add e (i_5.toNat*5))) (.string d) λf=> bd aO i_5 aB λg=> ST1 f ((Addr.add ((Addr.add g (i_5.toNat*5))) 1)) (.int .i64 ((i64.wrap (k_1+1)))) λi=> bd aO i_5 aB λj=> ST1 i ((Addr.add ((Addr.add j (i_5.toNat*5))) 2)) (.float .f32 ((f32.nearest ((i64.wrap ((i64.wrap (k_1+1))+1)))))) λme=> bd aO i_5 aB λPC=> ST1 me ((Addr.add ((Addr.add PC (i_5.toNat*5))) 3)) (.float .f32 ((f32.nearest ((i64.wrap ((i64.wrap ((i64.wrap (k_1+1))+1))+1)))))) λhP=> bd aO i_5 aB λk=> ST1 hP ((Addr.add ((Addr.add k (i_5.toNat*5))) 4)) (.float .f32 ((f32.nearest ((i64.wrap ((i64.wrap ((i64.wrap ((i64.wrap (k_1+1))+1))+1))+1)))))) λkB=> a (aO,aB,bH,((i64.wrap ((i64.wrap ((i64.wrap ((i64.wrap ((i64.wrap (k_1+1))+1))+1))+1))+1))),((i64.wrap (i_5+1)))) kB) h) (aa (.int .i64 k_1) h)
def cZ.g2(fr:Frame):Option Addr×Nat×Nat×Int×Int:=((gLb (ah fr 0)),(gLl (ah fr 0)),(gLc (ah fr 0)),(gI (ah fr 1)),(gI (ah fr 5)))
def cZ.l2(aa:VH):=gg (kds 52 [(0,.l),(1,.i .i64),(5,.i .i64)]) λfr=>bk (cZ.B2 aa) (cZ.g2 fr)
def cZ.S(aO:Option Addr)(aB bH:Nat)(k_1:Int)(aa:VH)(h:ab):=bk (cZ.B2 aa) (aO,aB,bH,k_1,0) h
theorem cZ.call{aO aB bH k_1 aa h}(H:cZ.S aO aB bH k_1 aa h):af ak 52 #[.slice aO aB bH,.int .i64 k_1] aa h:=qc (Λ:=aS [(1000002,cZ.l2 aa)]) Tryz.func52 (qs qf (qs (qs qf (Rq.block (ql (cZ.l2 aa) (qg (g:=cZ.g2) (Λ:=λa=>aS []) (λ_ _ _=>by kernel_rfl) (λa=>qf))))) qf)) (qe H)
def eK.B2(aa:VH)(a:(Option Addr×Nat×Nat×Int×Int)->ab->Prop):Option Addr×Nat×Nat×Int×Int->ab->Prop |(aO,aB,bH,k_1,i_5),h=> BIF ((decide (i_5<(aB:Int)))) (bd aO i_5 aB λb=> ST1 h ((Addr.add b (i_5.toNat*6))) (.int .i64 k_1) λc=> bd aO i_5 aB λd=> ST1 c ((Addr.add ((Addr.add d (i_5.toNat*6))) 1)) (.int .i64 ((i64.wrap (k_1+1)))) λe=> bd aO i_5 aB λf=> ST1 e ((Addr.add ((Addr.add f (i_5.toNat*6))) 2)) (.int .i64 ((i64.wrap ((i64.wrap (k_1+1))+1)))) λg=> bd aO i_5 aB λi=> ST1 g ((Addr.add ((Addr.add i (i_5.toNat*6))) 3)) (.int .i64 ((i64.wrap ((i64.wrap ((i64.wrap (k_1+1))+1))+1)))) λgv=> bd aO i_5 aB λPB=> ST1 gv ((Addr.add ((Addr.add PB (i_5.toNat*6))) 4)) (.int .i64 ((i64.wrap ((i64.wrap ((i64.wrap ((i64.wrap (k_1+1))+1))+1))+1)))) λjl=> bd aO i_5 aB λj=> ST1 jl ((Addr.add ((Addr.add j (i_5.toNat*6))) 5)) (.float .f32 ((f32.nearest ((i64.wrap ((i64.wrap ((i64.wrap ((i64.wrap ((i64.wrap (k_1+1))+1))+1))+1))+1)))))) λk=> a (aO,aB,bH,((i64.wrap ((i64.wrap ((i64.wrap ((i64.wrap ((i64.wrap ((i64.wrap (k_1+1))+1))+1))+1))+1))+1))),((i64.wrap (i_5+1)))) k) (aa (.int .i64 k_1) h)
def eK.g2(fr:Frame):Option Addr×Nat×Nat×Int×Int:=((gLb (ah fr 0)),(gLl (ah fr 0)),(gLc (ah fr 0)),(gI (ah fr 1)),(gI (ah fr 5)))
def eK.l2(aa:VH):=gg (kds 56 [(0,.l),(1,.i .i64),(5,.i .i64)]) λfr=>bk (eK.B2 aa) (eK.g2 fr)
def eK.S(aO:Option Addr)(aB bH:Nat)(k_1:Int)(aa:VH)(h:ab):=bk (eK.B2 aa) (aO,aB,bH,k_1,0) h
theorem eK.call{aO aB bH k_1 aa h}(H:eK.S aO aB bH k_1 aa h):af ak 53 #[.slice aO aB bH,.int .i64 k_1] aa h:=qc (Λ:=aS [(1000002,eK.l2 aa)]) Tryz.func53 (qs qf (qs (qs qf (Rq.block (ql (eK.l2 aa) (qg (g:=eK.g2) (Λ:=λa=>aS []) (λ_ _ _=>by kernel_rfl) (λa=>qf))))) qf)) (qe H)
def sJ.S(a_0:Array Value)(k_1:Int)(aa:VH)(h:ab):=ALC a_0 39 (λa b=> LDA 3 b ⟨a,1,none⟩ λe=> af ak 51 #[.agg e,.int .i64 k_1] (λf c=> asI .i64 f λg=> oL (cell c ⟨a,4,none⟩) λHS Gr IJ=> af ak 52 #[.slice HS Gr IJ,.int .i64 g] (λi d=> asI .i64 i λxn=> oL (cell d ⟨a,5,none⟩) λpQ nT sH=> af ak 53 #[.slice pQ nT sH,.int .i64 xn] (λyQ hP=> asI .i64 yQ λHU=> aa (.int .i64 HU) hP) d) c) b) h
theorem sJ.call{a_0 k_1 aa h}(H:sJ.S a_0 k_1 aa h):af ak 22 #[.agg a_0,.int .i64 k_1] aa h:=qk Tryz.func22 H
def w6:Nat->Nat->ByteArray->ByteArray
 | 0,_,out=>out
 | f+1,k,out=>if k=0 then out else w6 f (k / 10) ((⟨#[UInt8.ofNat (48+k % 10)]⟩:ByteArray)++out)
def JU(k:Nat):ByteArray:=if k=0 then⟨#[109,48]⟩ else⟨#[109]⟩++w6 12 k ⟨#[]⟩
theorem Od(f:Nat)(out:ByteArray):w6 f 0 out=out:=by cases f <;> rfl
theorem KL(a b:ByteArray):(a++b).size=a.size+b.size:=ByteArray.size_append
theorem Em:∀(f k:Nat) (out:ByteArray),(w6 f k out).size≤f+out.size
 | 0,k,out=>by simp[w6]
 | f+1,k,out=>by
  unfold w6
  split
  ·omega
  ·have:=Em f (k / 10) ((⟨#[UInt8.ofNat (48+k % 10)]⟩:ByteArray)++out)
   rw[KL] at this
   have e:(⟨#[UInt8.ofNat (48+k % 10)]⟩:ByteArray).size=1:=rfl
   omega
theorem QY(k:Nat):(JU k).size≤maxLen:=by
 refine Nat.le_trans ?_ (show 14≤maxLen by decide)
 unfold JU
 split
 ·decide
 ·rw[KL]
  have:=Em 12 k ⟨#[]⟩
  have e:(⟨#[109]⟩:ByteArray).size=1:=rfl
  have e2:(⟨#[]⟩:ByteArray).size=0:=rfl
  omega
theorem WE{g:Nat}{h:ab}{n:Int}{K:Value->ab->Prop}(hc:cell h ⟨g,0,none⟩=some (.int .u8 n))(H:K (.string ⟨#[UInt8.ofNat n.toNat]⟩) h):gC ak (convert 204 9 (.slice (some ⟨g,0,none⟩) 1 1)) K h:=by
 refine RP λw hw=>⟨.string ⟨#[UInt8.ofNat n.toNat]⟩,w,?_,hZ.refl _,by rw[hw];exact H⟩
 have hc':w.cell? ⟨g,0,none⟩=some (.int .u8 n):=by rw[tf,hw];exact hc
 rw[run_convert_bytes_string w _ _ _ _ _ _ PH aa8 MB,run_bytesToString w _ 1 1 [n] ?_]
 ·rfl
 ·simp[loadCells,loadCellsFrom,hc',Addr.add,Sem.run_pure]
theorem Gz(k:Nat)(hk:k≤1073741824):Ret ak 84 #[.int .i64 (k:Int)] (.string (JU k)):=λh=>by
 refine fL.call ?_
 refine brd (λh0=>⟨by rw[JU,if_pos (by omega)],Ext.refl _⟩) λh0=>?_
 refine loop (λx hh=>∃(f n:Nat) (out:ByteArray),x=((n:Int),out)∧n<10 ^ f∧f≤12∧out.size+f≤12∧w6 f n out=w6 12 k ⟨#[]⟩∧Ext h hh) (λx=>x.1.toNat) ⟨12,k,⟨#[]⟩,rfl,by omega,by omega,by show 0+12≤12;omega,rfl,Ext.refl _⟩ ?_
 rintro x hh ⟨f,n,out,rfl,hn,hf,hs,he,X⟩
 refine brd (λhc=>?_) λhc=>?_
 ·have e1:Int.tmod (n:Int) 10=((n % 10:Nat):Int):=by rw[Int.ofNat_tmod];rfl
  have e2:Int.tdiv (n:Int) 10=((n / 10:Nat):Int):=by rw[Int.ofNat_tdiv];rfl
  have VG:n<1000000000000:=Nat.lt_of_lt_of_le hn (Nat.pow_le_pow_right (by decide) hf)
  rw[e1,e2,wrap64 (n:=48+((n % 10:Nat):Int)) (by omega) (by omega),wrap64 (n:=((n / 10:Nat):Int)) (by omega) (by omega)]
  have e3:IntKind.u8.wrap (48+((n % 10:Nat):Int))=48+((n % 10:Nat):Int):=by
   simp only[IntKind.wrap,IntKind.signed,Bool.false_and,Bool.false_eq_true,if_false]
   rw[show(2:Int) ^ IntKind.u8.bits=256 by decide]
   omega
  rw[e3]
  refine nz (by decide) ((Mem.start hh).alc λg h1 x1 M=>WE (M.cell .here 0) (TN ?_))
  rw[show(48+((n % 10:Nat):Int)).toNat=48+n % 10 by omega]
  have es:(⟨#[UInt8.ofNat (48+n % 10)]⟩:ByteArray).size=1:=rfl
  refine⟨by rw[es];omega,nz (by decide) ⟨?_,by show((n / 10:Nat):Int).toNat<(n:Int).toNat;omega⟩⟩
  cases f with
  | zero=>simp at hn;omega
  | succ f=>
   refine⟨f,n / 10,_,rfl,by rw[Nat.pow_succ] at hn;omega,by omega,by rw[KL,es];omega,?_,X.trans M.ext⟩
   rw[← he]
   conv=>rhs;unfold w6
   rw[if_neg (by omega)]
 ·obtain rfl:n=0:=by omega
  rw[Od] at he
  have es:(⟨#[109]⟩:ByteArray).size=1:=rfl
  refine⟨by rw[es];omega,?_,X⟩
  rw[JU,if_neg (by omega),he]
theorem Pt.atA{α:Type}{r:Rep α}{h0 h:ab}{q:Addr}{F:Fr}{L:List Blk}{a:α}{n:ByteArray}{get:α->ByteArray}{put:α->ByteArray->α}{K:ab->Prop}(P:Pt r h0 h q F L a)[Fc:cJ r 0 rS get put](hn:n.size≤maxLen)(H:∀h',Pt r h0 h' q F L (put a n)->K h'):ST1 h q (.string n) K:=by
 have:=Pt.stS (off:=0) P (Fc:=Fc) hn H
 rwa [kW] at this
section
variable {h:ab}
def gz(x:bC):Nat:=ao x.bG
def DB(x:bC)(k:Nat):bC:={ x with bG:=eu x.bG (k) }
theorem V1(x:bC):gz x≤8*gQ x:=by
 have h0:=Oh x.bG
 have e1:gz x=ao x.bG:=rfl
 have e2:gQ x=cf x.bG:=rfl
 omega
theorem IP{h0:ab}{B L:List Blk}{cs:Array Value}{x:bC}(O:dD.ow B cs.toList x)(M:Mem h0 h (B++L))(k:Nat)(ES:gQ x≤1048576)(hk:k+gz x≤1073741824):
  af ak 51 #[.agg cs,.int .i64 (k:Int)] (λu h'=>u = .int .i64 ((k+gz x:Nat):Int)∧∃B',dD.ow B' cs.toList (DB x k)∧Mem h0 h' (B'++L)) h:=by
 have hw:gQ x=cf x.bG:=rfl
 have hn:gz x=ao x.bG:=rfl
 refine qw.call (M.alc λg1 h1 x1 M=>?_)
 obtain⟨Bm,Br,hB,Om,OF⟩:=DF O sA
 obtain⟨b,l,c,e,Om⟩:=Om
 refine o_l ((M.cell .here _).trans (zk e)) ?_
 refine(je (xs:=x.bG) Om (M.cnt (W:=Bm++(Br++((g1,35,cs) :: L))) (λp=>by have:=hB p;simp only[bN,bu,bZ] at *;omega)) (k) (by omega) (by omega)).mono ?_
 rintro _ h' ⟨rfl,B',O',M⟩
 obtain⟨B2,O,Xe⟩:=OF B' _ ⟨b,l,c,e,O'⟩
 refine cN ?_
 have M:=M.cnt (W:=(g1,35,cs) :: (B2++L)) (λp=>by have:=Xe p;simp only[bN,bu,bZ] at *;omega)
 clear OF
 exact⟨by congr 2 <;> (unfold gz;omega),B2,O,M.drop⟩
def gM(x:bh)(k:Nat):bh:={ x with Name:=JU (k),Kind:=((k+1:Nat):Int),A:=f32.nearest ((k+2:Nat):Int),B:=f32.nearest ((k+3:Nat):Int),C:=f32.nearest ((k+4:Nat):Int) }
def dF(xs:List bh):Nat:=nL (λ_=>5) xs
def jQ(xs:List bh)(k:Nat):List bh:=mkL gM (λ_=>5) xs k
theorem ie(xs:List bh):nL (λ_:bh=>5) xs=5*xs.length:=by
 induction xs with
 | nil=>rfl
 | cons x xs ih=>simp only[nL,ih,List.length_cons];omega
theorem GI(xs:List bh):dF xs≤8*dz xs:=by unfold dF dz;rw[ie];omega
theorem AT{h0:ab}{B L:List Blk}{b:Option Addr}{l c:Nat}{xs:List bh}(O0:SlO 135 aA B b l c xs)(M0:Mem h0 h (B++L))(k:Nat)(ES:dz xs≤1048576)(hk:k+dF xs≤1073741824):
  af ak 52 #[.slice b l c,.int .i64 (k:Int)] (λu h'=>u = .int .i64 ((k+dF xs:Nat):Int)∧∃B',SlO 135 aA B' b l c (jQ xs k)∧Mem h0 h' (B'++L)) h:=by
 have hx:=O0.len
 unfold dz at ES
 unfold dF at hk
 rw[ie] at hk
 have VG:∀m,m≤l->nL (λ_:bh=>5) (xs.take m)=5*m:=λm hm=>by rw[ie,List.length_take];congr 1;omega
 refine cZ.call ?_
 refine loop (λx hh=>∃(n:Nat) (B:List Blk),x=(b,l,c,((k+5*n:Nat):Int),(n:Int))∧n≤l∧SlO 135 aA B b l c (mkL gM (λ_=>5) (xs.take n) k++xs.drop n)∧Mem h0 hh (B++L)) (λx=>(l-x.2.2.2.2).toNat) ⟨0,B,rfl,by omega,by simpa [mkL] using O0,M0⟩ ?_
 rintro x hh ⟨n,B,rfl,hn,O,M⟩
 refine brd (λhc=>?_) λhc=>?_
 ·obtain⟨a0,F',L',rfl,P,hs,close⟩:=O.elem M (i:=n) (by omega)
  rw[LH (by omega)] at P
  have e0:i64.wrap (((k+5*n:Nat):Int)+1)=((k+5*n+1:Nat):Int):=ag (by omega)
  have e1:i64.wrap (((k+5*n+1:Nat):Int)+1)=((k+5*n+2:Nat):Int):=ag (by omega)
  have e2:i64.wrap (((k+5*n+2:Nat):Int)+1)=((k+5*n+3:Nat):Int):=ag (by omega)
  have e3:i64.wrap (((k+5*n+3:Nat):Int)+1)=((k+5*n+4:Nat):Int):=ag (by omega)
  have e4:i64.wrap (((k+5*n+4:Nat):Int)+1)=((k+5*n+5:Nat):Int):=ag (by omega)
  simp only[e0,e1,e2,e3,e4,Int.toNat_natCast]
  rw[show n*5=n*aA.sz from rfl]
  refine goX (Gz (k+5*n) (by omega) _) λh' x'=>TN ?_
  have P:=P.grow x'
  refine idxs (by omega) (by omega) (P.atA (QY _) λh' P=>?_)
  refine idxs (by omega) (by omega) (P.stI λh' P=>?_)
  refine idxs (by omega) (by omega) (P.stF (cK _ _) λh' P=>?_)
  refine idxs (by omega) (by omega) (P.stF (cK _ _) λh' P=>?_)
  refine idxs (by omega) (by omega) (P.stF (cK _ _) λh' P=>?_)
  obtain⟨B',O',M'⟩:=close _ _ _ P
  have e:gM xs[n]! (k+nL (λ_=>5) (xs.take n))=gM xs[n]! (k+5*n):=by rw[VG n (by omega)]
  have st:=Ck (mk:=gM) (n:=λ_=>5) (k:=k) (xs:=xs) (i:=n) (by omega)
  rw[e] at st
  have O':SlO 135 aA B' (some a0) l c ((mkL gM (λ_=>5) (xs.take n) k++xs.drop n).set n (gM xs[n]! (k+5*n))):=O'
  rw[st] at O'
  rw[ag (by omega)]
  exact⟨⟨n+1,B',by rw[show k+5*n+5=k+5*(n+1) by omega],by omega,O',M'⟩,by show _<_;simp;omega⟩
 ·obtain rfl:n=l:=by omega
  have e:xs.take n=xs:=by rw[← hx];exact List.take_length
  have e2:xs.drop n=[]:=List.drop_of_length_le (by omega)
  rw[e,e2,List.append_nil] at O
  exact⟨by rw[dF,ie,hx],B,O,M⟩
def mH(x:aZ)(k:Nat):aZ:={ x with At:=((k:Nat):Int),Kind:=((k+1:Nat):Int),aT:=((k+2:Nat):Int),aq:=((k+3:Nat):Int),Key:=((k+4:Nat):Int),gd:=f32.nearest ((k+5:Nat):Int) }
def jn(xs:List aZ):Nat:=nL (λ_=>6) xs
def rH(xs:List aZ)(k:Nat):List aZ:=mkL mH (λ_=>6) xs k
theorem lr(xs:List aZ):nL (λ_:aZ=>6) xs=6*xs.length:=by
 induction xs with
 | nil=>rfl
 | cons x xs ih=>simp only[nL,ih,List.length_cons];omega
theorem UZ(xs:List aZ):jn xs≤8*iu xs:=by unfold jn iu;rw[lr];omega
theorem IL{h0:ab}{B L:List Blk}{b:Option Addr}{l c:Nat}{xs:List aZ}(O0:SlO 131 bF B b l c xs)(M0:Mem h0 h (B++L))(k:Nat)(ES:iu xs≤1048576)(hk:k+jn xs≤1073741824):
  af ak 53 #[.slice b l c,.int .i64 (k:Int)] (λu h'=>u = .int .i64 ((k+jn xs:Nat):Int)∧∃B',SlO 131 bF B' b l c (rH xs k)∧Mem h0 h' (B'++L)) h:=by
 have hx:=O0.len
 unfold iu at ES
 unfold jn at hk
 rw[lr] at hk
 have VG:∀m,m≤l->nL (λ_:aZ=>6) (xs.take m)=6*m:=λm hm=>by rw[lr,List.length_take];congr 1;omega
 refine eK.call ?_
 refine loop (λx hh=>∃(n:Nat) (B:List Blk),x=(b,l,c,((k+6*n:Nat):Int),(n:Int))∧n≤l∧SlO 131 bF B b l c (mkL mH (λ_=>6) (xs.take n) k++xs.drop n)∧Mem h0 hh (B++L)) (λx=>(l-x.2.2.2.2).toNat) ⟨0,B,rfl,by omega,by simpa [mkL] using O0,M0⟩ ?_
 rintro x hh ⟨n,B,rfl,hn,O,M⟩
 refine brd (λhc=>?_) λhc=>?_
 ·obtain⟨a0,F',L',rfl,P,hs,close⟩:=O.elem M (i:=n) (by omega)
  rw[LH (by omega)] at P
  have e0:i64.wrap (((k+6*n:Nat):Int)+1)=((k+6*n+1:Nat):Int):=ag (by omega)
  have e1:i64.wrap (((k+6*n+1:Nat):Int)+1)=((k+6*n+2:Nat):Int):=ag (by omega)
  have e2:i64.wrap (((k+6*n+2:Nat):Int)+1)=((k+6*n+3:Nat):Int):=ag (by omega)
  have e3:i64.wrap (((k+6*n+3:Nat):Int)+1)=((k+6*n+4:Nat):Int):=ag (by omega)
  have e4:i64.wrap (((k+6*n+4:Nat):Int)+1)=((k+6*n+5:Nat):Int):=ag (by omega)
  have e5:i64.wrap (((k+6*n+5:Nat):Int)+1)=((k+6*n+6:Nat):Int):=ag (by omega)
  simp only[e0,e1,e2,e3,e4,e5,Int.toNat_natCast]
  rw[show n*6=n*bF.sz from rfl]
  refine idxs (by omega) (by omega) (P.akZ λh' P=>?_)
  refine idxs (by omega) (by omega) (P.stI λh' P=>?_)
  refine idxs (by omega) (by omega) (P.stI λh' P=>?_)
  refine idxs (by omega) (by omega) (P.stI λh' P=>?_)
  refine idxs (by omega) (by omega) (P.stI λh' P=>?_)
  refine idxs (by omega) (by omega) (P.stF (cK _ _) λh' P=>?_)
  obtain⟨B',O',M'⟩:=close _ _ _ P
  have e:mH xs[n]! (k+nL (λ_=>6) (xs.take n))=mH xs[n]! (k+6*n):=by rw[VG n (by omega)]
  have st:=Ck (mk:=mH) (n:=λ_=>6) (k:=k) (xs:=xs) (i:=n) (by omega)
  rw[e] at st
  have O':SlO 131 bF B' (some a0) l c ((mkL mH (λ_=>6) (xs.take n) k++xs.drop n).set n (mH xs[n]! (k+6*n))):=O'
  rw[st] at O'
  rw[ag (by omega)]
  exact⟨⟨n+1,B',by rw[show k+6*n+6=k+6*(n+1) by omega],by omega,O',M'⟩,by show _<_;simp;omega⟩
 ·obtain rfl:n=l:=by omega
  have e:xs.take n=xs:=by rw[← hx];exact List.take_length
  have e2:xs.drop n=[]:=List.drop_of_length_le (by omega)
  rw[e,e2,List.append_nil] at O
  exact⟨by rw[jn,lr,hx],B,O,M⟩
def jo(x:bI):Nat:=gz x.dv+dF x.az+jn x.bo
def GB(x:bI)(k:Nat):bI:={ x with dv:=DB x.dv (k),az:=jQ x.az (k+gz x.dv),bo:=rH x.bo (k+gz x.dv+dF x.az) }
theorem Oj(x:bI):jo x≤8*j8 x:=by
 have h0:=V1 x.dv
 have h1:=GI x.az
 have h2:=UZ x.bo
 have e1:jo x=gz x.dv+dF x.az+jn x.bo:=rfl
 have e2:j8 x=gQ x.dv+dz x.az+iu x.bo:=rfl
 omega
theorem Cj{h0:ab}{B L:List Blk}{cs:Array Value}{x:bI}(O:bU.ow B cs.toList x)(M:Mem h0 h (B++L))(k:Nat)(ES:j8 x≤1048576)(hk:k+jo x≤1073741824):
  af ak 22 #[.agg cs,.int .i64 (k:Int)] (λu h'=>u = .int .i64 ((k+jo x:Nat):Int)∧∃B',bU.ow B' cs.toList (GB x k)∧Mem h0 h' (B'++L)) h:=by
 have hw:j8 x=gQ x.dv+dz x.az+iu x.bo:=rfl
 have hn:jo x=gz x.dv+dF x.az+jn x.bo:=rfl
 refine sJ.call (M.alc λg1 h1 x1 M=>?_)
 obtain⟨Bm,Br,hB,Om,OF⟩:=DF O ed
 refine M.lda .here (by have:=osz O rfl;rw[this];decide) ?_
 rw[← BT] at Om
 refine(IP (x:=x.dv) Om (M.cnt (W:=Bm++(Br++((g1,39,cs) :: L))) (λp=>by have:=hB p;simp only[bN,bu,bZ] at *;omega)) (k) (by omega) (by omega)).mono ?_
 rintro _ h' ⟨rfl,B',O',M⟩
 obtain⟨B2,O,Xe⟩:=OF B' _ (by rw[← BT];exact O')
 refine cN ?_
 have M:=M.cnt (W:=(g1,39,cs) :: (B2++L)) (λp=>by have:=Xe p;simp only[bN,bu,bZ] at *;omega)
 clear OF
 obtain⟨Bm,Br,hB,Om,OF⟩:=DF O o4
 obtain⟨b,l,c,e,Om⟩:=Om
 refine o_l ((M.cell .here _).trans (zk e)) ?_
 refine(AT (xs:=x.az) Om (M.cnt (W:=Bm++(Br++((g1,39,cs) :: L))) (λp=>by have:=hB p;simp only[bN,bu,bZ] at *;omega)) (k+gz x.dv) (by omega) (by omega)).mono ?_
 rintro _ h' ⟨rfl,B',O',M⟩
 obtain⟨B2,O,Xe⟩:=OF B' _ ⟨b,l,c,e,O'⟩
 refine cN ?_
 have M:=M.cnt (W:=(g1,39,cs) :: (B2++L)) (λp=>by have:=Xe p;simp only[bN,bu,bZ] at *;omega)
 clear OF
 obtain⟨Bm,Br,hB,Om,OF⟩:=DF O uV
 obtain⟨b,l,c,e,Om⟩:=Om
 refine o_l ((M.cell .here _).trans (zk e)) ?_
 refine(IL (xs:=x.bo) Om (M.cnt (W:=Bm++(Br++((g1,39,cs) :: L))) (λp=>by have:=hB p;simp only[bN,bu,bZ] at *;omega)) (k+gz x.dv+dF x.az) (by omega) (by omega)).mono ?_
 rintro _ h' ⟨rfl,B',O',M⟩
 obtain⟨B2,O,Xe⟩:=OF B' _ ⟨b,l,c,e,O'⟩
 refine cN ?_
 have M:=M.cnt (W:=(g1,39,cs) :: (B2++L)) (λp=>by have:=Xe p;simp only[bN,bu,bZ] at *;omega)
 clear OF
 exact⟨by congr 2 <;> (unfold jo;omega),B2,O,M.drop⟩
end
set_option maxHeartbeats 1000000
section
variable {h:ab}
theorem asQ{h0:ab}{B L:List Blk}{cs:Array Value}{x:Hs}(O:s0.ow B cs.toList x)(M:Mem h0 h (B++L))(k:Nat)(ES:j8 x.Score≤1048576)(hk:k+jo x.Score≤1073741824):
  af ak 13 #[.agg cs,.int .i64 (k:Int)] (λu h'=>u = .int .i64 ((k+jo x.Score:Nat):Int)∧∃B',s0.ow B' cs.toList { x with Score:=GB x.Score k }∧Mem h0 h' (B'++L)) h:=by
 refine aoZ.call (M.alc λg1 h1 x1 M=>?_)
 obtain⟨Bm,Br,hB,Om,OF⟩:=DF O Hn
 refine M.lda .here (by have:=osz O rfl;rw[this];decide) ?_
 rw[← BT] at Om
 refine(Cj (x:=x.Score) Om (M.cnt (W:=Bm++(Br++((g1,41,cs) :: L))) (λp=>by have:=hB p;simp only[bN,bu,bZ] at *;omega)) (k) (by omega) (by omega)).mono ?_
 rintro _ h' ⟨rfl,B',O',M⟩
 obtain⟨B2,O,Xe⟩:=OF B' _ (by rw[← BT];exact O')
 refine cN ?_
 have M:=M.cnt (W:=(g1,41,cs) :: (B2++L)) (λp=>by have:=Xe p;simp only[bN,bu,bZ] at *;omega)
 clear OF
 exact⟨rfl,B2,O,M.drop⟩
theorem atK{s:Hs}:s.Wb.1.length≤4096:=by
 unfold Hs.Wb
 split
 ·next k=>
  have:=ar2 k
  show((s.Score.cj s.al).1.AX (16*s.K1).toNat).2.length≤4096
  rw[ali];omega
 ·exact Nat.zero_le _
theorem aqX{cs:Array Value}{x:Hs}(R0:s0.rd h cs.toList x):af ak 3 #[.agg cs] (λu h'=>u = .bool true∧Ext h h') h:=by
 refine e8.call ((Mem.start h).alc λg1 h1 x1 M=>M.df .here (rsz R0 rfl) (goM M (asY (s0.ext M.ext R0) 1048576 (by omega):af ak 7 #[.agg cs,.int .i64 (1048576:Int)] _ _) λh2 M=>cN (br (λhb=>⟨rfl,M.ext⟩) λhb=>?_)))
 have hw:aqW x≤1048576:=aui hb
 have hws:j8 x.Score≤1048576:=hw
 have qR:cf x.Wb.1≤1048576:=Nat.le_trans atK (by decide)
 have aCQ:ao x.Wb.1≤1048576:=qR
 have hn:=Oj x.Score
 have rdO:∀{hh:ab}{W B:List Blk}{c:Array Value}{y:Hs},Mem h hh W->(∀p,Sx.cnt p B≤Sx.cnt p W)->s0.ow B c.toList y->s0.rd hh c.toList y:=λM hc O=>s0.look O (M.cnt hc) (List.Sublist.refl _)
 have rdS:∀{hh:ab}{W B:List Blk}{b:Option Addr}{l c:Nat}{y:List Nat},Mem h hh W->(∀p,Sx.cnt p B≤Sx.cnt p W)->SlO 22 (rF .f32) B b l c y->SlR (rF .f32) hh b l c y:=λM hc O=>O.look (M.cnt hc) (List.Sublist.refl _)
 refine M.df .here (rsz R0 rfl) (mN.go M (aqN (s0.ext M.ext R0) hw) λh3 c3 B3 M O3 s3=>gw ?_)
 refine FLN.go M (asi (rdO M (λp=>by simp only[bN,bu,bZ] at *;omega) O3)) λh4 b4 l4 k4 T4 M S4=>jJ (lR (cN ?_))
 have M:=M.cnt (W:=(g1,31,cs) :: T4)
 refine M.df .here (rsz R0 rfl) (mN.go M (aqN (s0.ext M.ext R0) hw) λh7 c7 B7 M O7 s7=>gw (M.alc λZI h8 x8 M=>M.dH .here s7 (s0.jy O7) rfl .here λh9 M=>M.df .here s7 ?_))
 refine FLN.go M (aqS (rdO M (λp=>by simp only[bN,bu,bZ] at *;omega) O7)) λgv EF l10 k10 T10 M S10=>jJ (lR (cN ?_))
 have M:=M.cnt (W:=(g1,31,cs) :: (ZI,41,c7) :: (T4++(B7++T10)))
 refine goM M (tW (rdS M (λp=>by simp only[bN,bu,bZ] at *;omega) S10) (rdS M (λp=>by simp only[bN,bu,bZ] at *;omega) S4)) λhP M=>bt (KP rfl (eqB ?_))
 have R7:s0.rd hP c7.toList x:=rdO M (λp=>by simp only[bN,bu,bZ] at *;omega) O7
 have P7:RdP s0 hP ⟨ZI,0,none⟩ x:=M.rdp (.there .here) R7
 refine M.df (.there .here) s7 (M.df .here (rsz R0 rfl) (mN.go (Mem.start hP) (aqN (s0.ext M.ext R0) hw) λj0 c14 B14 N O14 s14=>gw (P7.pin rfl N.ext ?_)))
 have M:=M.join N
 refine goM M (asV (s0.ext N.ext R7) (rdO M (λp=>by simp only[bN,bu,bZ] at *;omega) O14)) λkB M=>bt (KP rfl ?_)
 have M:=M.cnt (W:=B7++((g1,31,cs) :: (ZI,41,c7) :: (T4++T10)))
 refine M.df (gi.skip (.there .here)) s7 (ae5 (asQ O7 M 1 hws (by omega):af ak 13 #[.agg c7,.int .i64 (1:Int)] _ _) λkT B16 M O16=>cN (WQ (by omega) ?_))
 refine goM M (tW (rdS M (λp=>by simp only[bN,bu,bZ] at *;omega) S10) (rdS M (λp=>by simp only[bN,bu,bZ] at *;omega) S4)) λqQ M=>bt (KP rfl (eqB ?_))
 have M:=M.cnt (W:=T10++((g1,31,cs) :: T4))
 refine awL (je S10 M 1 qR (by omega):af ak 14 #[.slice EF l10 k10,.int .i64 (1:Int)] _ _) λjF T18 M S18=>cN ?_
 refine goM M (jd 1 (rdS M (λp=>by simp only[bN,bu,bZ] at *;omega) S18) qR (by omega):af ak 15 #[.slice EF l10 k10,.int .i64 (1:Int)] _ _) λta M=>cN (WQ (by omega) (eqB ?_))
 refine M.df (gi.skip .here) (rsz R0 rfl) (mN.go M (aqN (s0.ext M.ext R0) hw) λjU c20 B20 M O20 s20=>gw ?_)
 refine FLN.go M (aqS (rdO M (λp=>by simp only[bN,bu,bZ] at *;omega) O20)) λvC b21 l21 k21 T21 M S21=>jJ (lR (cN ?_))
 refine goM M (tW (rdS M (λp=>by simp only[bN,bu,bZ] at *;omega) S21) (rdS M (λp=>by simp only[bN,bu,bZ] at *;omega) S4)) λAP M=>bt (KP rfl (eqB ?_))
 exact goM M (jd 1 (rdS M (λp=>by simp only[bN,bu,bZ] at *;omega) S18) qR (by omega):af ak 15 #[.slice EF l10 k10,.int .i64 (1:Int)] _ _) λpw M=>cN (WQ (by omega) (eqB ⟨rfl,M.ext⟩))
end
theorem LN:qF ak dD (([22]++([22]++([23])))):=zC (λp=>⟨p.1,p.2.1,p.2.2⟩) (λ_=>rfl) (iz (k9 mD) (iz (k9 mD) ((GL (n:=9) (BD) (by kernel_rfl) (by kernel_rfl) (k9 mD)))))
theorem DE:qF ak aA (([9]++([2]++([22]++([22]++([22])))))):=zC (λp=>⟨p.1,p.2.1,p.2.2.1,p.2.2.2.1,p.2.2.2.2⟩) (λ_=>rfl) (iz (V5 MB) (iz (rK m8) (iz (k9 mD) (iz (k9 mD) ((k9 mD))))))
theorem On:qF ak bF (([2]++([2]++([2]++([2]++([2]++([22]))))))):=zC (λp=>⟨p.1,p.2.1,p.2.2.1,p.2.2.2.1,p.2.2.2.2.1,p.2.2.2.2.2⟩) (λ_=>rfl) (iz (rK m8) (iz (rK m8) (iz (rK m8) (iz (rK m8) (iz (rK m8) ((k9 mD)))))))
theorem Oo:qF ak bU (([22]++(([22]++([22]++([23])))++([26]++([27]))))):=zC (λp=>⟨p.1,p.2.1,p.2.2.1,p.2.2.2⟩) (λ_=>rfl) (iz (k9 mD) (iz LN (iz (GL (n:=9) (xP) (by kernel_rfl) (by kernel_rfl) DE) ((GL (n:=9) (Ez) (by kernel_rfl) (by kernel_rfl) On)))))
theorem asU:qF ak s0 ((([22]++(([22]++([22]++([23])))++([26]++([27]))))++([2]++([2]++([2]))))):=zC (λp=>⟨p.1,p.2.1,p.2.2.1,p.2.2.2⟩) (λ_=>rfl) (iz Oo (iz (rK m8) (iz (rK m8) ((rK m8)))))
end Go.Sx
