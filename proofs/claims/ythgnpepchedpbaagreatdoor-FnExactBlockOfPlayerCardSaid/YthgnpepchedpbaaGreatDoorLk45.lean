/- Lemmas. -/
import Derived.Test.YthgnpepchedpbaaGreatDoorLk43
import Derived.Test.YthgnpepchedpbaaGreatDoorLk33
set_option linter.unusedVariables false
set_option linter.unusedSimpArgs false
namespace Go.Sx
open FloatKind (f32 f64)
open IntKind (i64)
open Go.Proofs Ieee
set_option maxRecDepth 100000
set_option maxHeartbeats 1000000
def pg(r:aY)(i:Nat):Nat:=((r.At+(i:Int)) % r.len).toNat
def chg(f:Nat->Nat->Nat)(r:aY):Nat->aY
 | 0=>r
 | i+1=>⟨(chg f r i).ae.set (pg r i) (f i (chg f r i).ae[pg r i]!),r.At⟩
theorem D9(f:Nat->Nat->Nat)(r:aY)(i:Nat):(chg f r i).At=r.At:=by cases i <;> rfl
theorem zm(f:Nat->Nat->Nat)(r:aY):∀i,(chg f r i).ae.length=r.ae.length
 | 0=>rfl
 | i+1=>by rw[chg,List.length_set];exact zm f r i
theorem Tq{r:aY}(h:r.ok=true)(i:Nat):0≤(r.At+(i:Int)) % r.len∧pg r i<r.ae.length∧(r.At+(i:Int)) % r.len<r.ae.length:=by
 obtain⟨k1,k2,k3,k4,k5⟩:=kO h
 have hl:r.len=(r.ae.length:Int):=rfl
 have h1:=Int.emod_nonneg (r.At+(i:Int)) (show r.len≠0 by omega)
 have h2:=Int.emod_lt_of_pos (r.At+(i:Int)) (show 0<r.len by omega)
 unfold pg
 refine⟨h1,by omega,by omega⟩
def DH(n p f i:Nat):Nat:=eG .f32 f (if flt .f32 (f32.nearest ((i:Nat):Int)) p then fdiv .f32 (f32.nearest ((i:Nat):Int)) p else fdiv .f32 (hH .f32 n (f32.nearest ((i:Nat):Int))) (hH .f32 n p))
def lx(n p f i a:Nat):Nat:=jW .f32 a (DH n p f i)
def bK.nH(x:bK)(pl f:Nat):bK:={ x with Loop:=chg (lx (f32.nearest ((x.Loop.ae.length:Nat):Int)) (eG .f32 pl (f32.nearest ((x.Loop.ae.length:Nat):Int))) f) x.Loop x.Loop.ae.length }
def bK.iH(x:bK)(pl f:Nat):bK×Int:=if x.ok then if place pl then if fin f then(x.nH pl f,0) else(iw,2) else(iw,2) else(iw,1)
def flT(v:Int×Nat×Nat×Nat×Nat×Nat):List Value:=flC v.1 v.2.1 v.2.2.1 v.2.2.2.1 v.2.2.2.2.1 v.2.2.2.2.2
theorem L6:Flat cx:=G3 (lh (AM _) (lh (Nd _ (u0 _)) (Nd _ (u0 _))))
theorem qY{h:ab}{vs:List Value}{f:cz}(R:cx.rd h vs f):∃v,vs=flT v∧cx.ow [] (flT v) f:=by
 have O:=L6 _ _ _ R
 obtain⟨v1,r1,e1,e2,v2,v3,rfl,⟨l2,R2⟩,⟨l3,R3⟩⟩:=R
 have e2:v1=[.int .i64 f.Kind]:=e2
 have l2:f.C.length=3:=l2
 have l3:f.S.length=2:=l3
 obtain⟨p,q,r,hC⟩:∃p q r,f.C=[p,q,r]:=by
  match hf:f.C,l2 with
  | [p,q,r],_=>exact⟨p,q,r,rfl⟩
 obtain⟨s,t,hS⟩:∃s t,f.S=[s,t]:=by
  match hf:f.S,l3 with
  | [s,t],_=>exact⟨s,t,rfl⟩
 have R2:rds (rF .f32) h v2 f.C:=R2
 have R3:rds (rF .f32) h v3 f.S:=R3
 rw[hC] at R2
 rw[hS] at R3
 obtain⟨_,_,rfl,⟨a,rfl,_⟩,_,_,rfl,⟨b,rfl,_⟩,_,_,rfl,⟨c,rfl,_⟩,rfl⟩:=R2
 obtain⟨_,_,rfl,⟨d,rfl,_⟩,_,_,rfl,⟨e,rfl,_⟩,rfl⟩:=R3
 subst e2
 have hv:vs=flT (f.Kind,a,b,c,d,e):=by rw[e1];rfl
 exact⟨_,hv,by rw[← hv];exact O⟩
def stL(b:Option Addr)(l c:Nat)(t:Int)(v1 v2:Int×Nat×Nat×Nat×Nat×Nat)(y:Nat):List Value:=[.slice b l c,.int .i64 t]++(flT v1++(flT v2++[.float .f32 y]))
theorem M8{h:ab}{cs:Array Value}{x:bK}(R:bf.rd h cs.toList x):∃b l c v1 v2 y,cs=⟨stL b l c x.Loop.At v1 v2 y⟩∧SlR (rF .f32) h b l c x.Loop.ae∧cx.ow [] (flT v1) x.kS∧cx.ow [] (flT v2) x.fz∧FW .f32 y x.fT:=by
 obtain⟨w1,r1,e1,⟨u1,u2,rfl,⟨b,l,c,rfl,S⟩,hat⟩,w2,r2,rfl,F1,w3,w4,rfl,F2,⟨y,rfl,Fy⟩⟩:=R
 have hat:u2=[.int .i64 x.Loop.At]:=hat
 subst hat
 obtain⟨v1,rfl,O1⟩:=qY F1
 obtain⟨v2,rfl,O2⟩:=qY F2
 exact⟨b,l,c,v1,v2,y,by cases cs;simpa [stL] using e1,S,O1,O2,Fy⟩
theorem To{b:Option Addr}{l c:Nat}{t:Int}{v1 v2:Int×Nat×Nat×Nat×Nat×Nat}{y:Nat}:∀v ∈ (⟨stL b l c t v1 v2 y⟩:Array Value).toList,v.oneCell'=true:=dI rfl
section
variable {h:ab}{x a:Nat}
theorem Uq{q:Addr}{x:bK}(R:RdP bf h q x)(hl:x.Loop.ae.length≤1048576):af ak 133 #[.pointer (some q)] (λu h'=>mN bf h h' u x) h:=by
 refine wA.call ((Mem.start h).alc λg1 h1 x1 M=>?_)
 have A:∀{hh:ab},Ext h hh->RdP bf hh q x:=λe=>R.ext e
 refine(A M.ext).lda dM rfl λa3 R3=>(A M.ext).lda dK rfl λa4 R4=>(A M.ext).oF λr5 h5=>?_
 obtain⟨v1,e3,O1⟩:=qY R3
 obtain⟨v2,e4,O2⟩:=qY R4
 obtain rfl:a3=⟨flT v1⟩:=by cases a3;simpa using e3
 obtain rfl:a4=⟨flT v2⟩:=by cases a4;simpa using e4
 refine mN.go (Mem.start h1) (Un ((A M.ext).fst dL) hl) λh7 a8 B8 N O8 s8=>?_
 obtain⟨b,l,c,rfl,OS⟩:=wh O8
 have P:RdP bf h1 q x:=A M.ext
 refine gw (P.lN (by decide) N.ext (P.lN (by decide) N.ext (P.lN (by decide) N.ext (siz rfl (siz rfl (siz rfl ?_))))))
 have M:=(M.join N).cnt (W:=(g1,115,⟨aF⟩) :: B8)
 exact M.dH .here rfl To rfl .here λh8 M=>M.df .here rfl ⟨_,B8,rfl,vj (x:=x) OS O1 O2 h5,M.drop⟩
theorem FB{cs:Array Value}{x:bK}(R0:bf.rd h cs.toList x)(hl:x.Loop.ae.length≤1048576):af ak 148 #[.agg cs] (λu h'=>mN bf h h' u x) h:=by
 obtain⟨b,l,c,v1,v2,y,rfl,S,O1,O2,hy⟩:=M8 R0
 refine nj.call ((Mem.start h).alc λg1 h1 x1 M=>M.alc λg3 h2 x2 M=>?_)
 have R:RdP bf h2 ⟨g1,0,none⟩ x:=M.rdp (.there .here) (bf.ext M.ext R0)
 refine(R.fst dL).jc rfl λa5 R5=>mN.go M (Kr R5 hl) λh7 a8 B8 M O8 s8=>gw ?_
 obtain⟨b',l',c',rfl,OS⟩:=wh O8
 have M:=M.cnt (W:=(g1,115,⟨stL b l c x.Loop.At v1 v2 y⟩) :: (g3,115,⟨aF⟩) :: B8)
 refine M.sta .here rfl (dI rfl) (by show 0+2≤15;decide) .here λh9 M=>?_
 have M:Mem h h9 ((g1,115,⟨stL b' l' c' x.Loop.At v1 v2 y⟩) :: (g3,115,⟨aF⟩) :: B8):=M
 exact M.df .here rfl (M.dH (.there .here) rfl To rfl (.there .here) λgv M=>M.df (.there .here) rfl ⟨_,B8,rfl,vj (x:=x) OS O1 O2 hy,M.drop.drop⟩)
theorem XG{h0:ab}{q:Addr}{F:Fr}{L:List Blk}{r:aY}{i:Nat}{y d:Nat}(P:Pt bQ h0 h q F L r)(hr:r.ok=true)(hi:i<1048576)(hy:FW .f32 y d):
  af ak 253 #[.pointer (some q),.int .i64 (i:Int),.float .f32 y] (λu h'=>Pt bQ h0 h' q F L ⟨r.ae.set (pg r i) (jW .f32 r.ae[pg r i]! d),r.At⟩) h:=by
 obtain⟨b,l,c,hb,S⟩:=P.Ua
 obtain⟨k1,k2,k3,k4,k5⟩:=kO hr
 obtain⟨t1,t2,t3⟩:=Tq hr i
 have hl:=S.len
 refine z8.call (P.rd.oI (o_l hb (nz (by omega) (o_l hb (o_l hb ?_)))))
 have ht:Int.tmod (i64.wrap (r.At+(i:Int))) (l:Int)=(r.At+(i:Int)) % r.len:=by
  rw[wrap64 (by omega) (by omega),aY.len,hl,Int.tmod_eq_emod_of_nonneg (by omega)]
 rw[ht]
 refine S.idx (by decide) t1 (by omega) λp Rp=>Rp.oF1 λr8 h8=>fA h8 hy λr9 h9=>dT ?_
 obtain⟨a0,F',L',rfl,P',hs,close⟩:=P.SB hb (i:=((r.At+(i:Int)) % r.len).toNat) (by omega)
 exact idxs t1 (by omega) (P'.Vj h9 λh1 P1=>(close _ _ _ P1).1)
def ahQ(h0:ab)(f:Value)(g:Nat->Nat->Nat):Prop:=∀(i r a:Nat) (h:ab),Ext h0 h->i<1048576->FW .f32 r a->pE ak f #[.int .i64 (i:Int),.float .f32 r] (λu h'=>(∃y,u = .float .f32 y∧FW .f32 y (g i a))∧Ext h h') h
theorem TR{cs:Array Value}{x:bK}{f:Value}{g:Nat->Nat->Nat}(R0:bf.rd h cs.toList x)(hr:x.Loop.ok=true)(D:ahQ h f g):
  af ak 284 #[.agg cs,f] (λu h'=>mN bf h h' u { x with Loop:=chg g x.Loop x.Loop.ae.length }) h:=by
 obtain⟨k1,k2,k3,k4,k5⟩:=kO hr
 refine cX.call ((Mem.start h).alc λg1 h1 x1 M=>M.alc λg3 h2 x2 M=>M.df (.there .here) (rsz R0 rfl) (mN.go M (FB (bf.ext M.ext R0) (by omega)) λh7 a8 B8 M O8 s8=>gw ?_))
 have M:=M.cnt (W:=(g1,115,cs) :: (B8++[(g3,115,⟨aF⟩)]))
 refine M.dH .here s8 (bf.jy O8) (rsz R0 rfl) .here λh9 M=>?_
 have P:Pt bf h h9 ⟨g1,0,none⟩ ⟨g1,115,[],[]⟩ [(g3,115,⟨aF⟩)] x:=Pt.new O8 M
 obtain⟨b,l,c,hb,S⟩:=P.Ua
 have hl:=S.len
 refine o_l hb ?_
 refine loop (λy hh=>∃i:Nat,y=(f,⟨g1,0,none⟩,⟨g3,0,none⟩,(l:Int),(l:Int),(i:Int))∧i≤l∧Pt bf h hh ⟨g1,0,none⟩ ⟨g1,115,[],[]⟩ [(g3,115,⟨aF⟩)] { x with Loop:=chg g x.Loop i })
  (λy=>(l-y.2.2.2.2.2).toNat) ⟨0,rfl,by omega,P⟩ ?_
 rintro y hh ⟨i,rfl,hi,P⟩
 unfold cX.B4
 refine brd (λhc=>?_) λhc=>?_
 ·obtain⟨t1,t2,t3⟩:=Tq hr i
  have ht:Int.tmod (i64.wrap (x.Loop.At+(i:Int))) (l:Int)=(x.Loop.At+(i:Int)) % x.Loop.len:=by
   rw[wrap64 (by omega) (by omega),aY.len,hl,Int.tmod_eq_emod_of_nonneg (by omega)]
  obtain⟨b',l',c',hb',S'⟩:=P.Ua
  have hl':=S'.len
  have hl':x.Loop.ae.length=l':=by rw[← hl'];exact(zm g x.Loop i).symm
  refine P.rd.oI (nz (by omega) (o_l hb' (o_l hb' ?_)))
  show bd b' (Int.tmod (i64.wrap ((chg g x.Loop i).At+(i:Int))) (l:Int)) l' _
  rw[D9,ht]
  refine S'.idx (by decide) t1 (by omega) λp Rp=>Rp.oF1 λCy qQ=>?_
  refine pE.mono ?_ (D i Cy _ hh P.ext (by omega) qQ)
  rintro _ ta ⟨⟨IW,rfl,jU⟩,x19⟩
  refine cW ((P.rd.fst dL |>.fst lK).pin rfl x19 ?_)
  have P:=P.grow x19
  have aoL:=xT hb' x19
  obtain⟨a0,F',L',rfl,P',hs,close⟩:=P.SB aoL (i:=((x.Loop.At+(i:Int)) % x.Loop.len).toNat) (by omega)
  refine idxs t1 (by omega) (P'.Vj jU λuD P1=>⟨⟨i+1,by rw[ag (by omega)],by omega,?_⟩,by rw[ag (by omega)];show _<_;simp;omega⟩)
  have P2:Pt bf h uD ⟨g1,0,none⟩ ⟨g1,115,[],[]⟩ [(g3,115,⟨aF⟩)] { x with Loop:=⟨(chg g x.Loop i).ae.set (pg x.Loop i) (g i (chg g x.Loop i).ae[pg x.Loop i]!),(chg g x.Loop i).At⟩ }:=(close _ _ _ P1).1
  rw[D9] at P2
  exact P2
 ·obtain rfl:i=l:=by omega
  obtain⟨BP,B',M',O'⟩:=P.out
  refine M'.df .here (osz O' rfl) ?_
  have M':=M'.cnt (W:=(g3,115,⟨aF⟩) :: B')
  rw[hl]
  exact M'.dH .here (osz O' rfl) (bf.jy O') rfl .here λh3 M=>M.df .here (osz O' rfl) ⟨_,B',rfl,O',M.drop⟩
theorem sO{x:bK}{pl f:Nat}{k:Int}{g:Nat}{hh:ab}{L:List Blk}(M:Mem h hh ((g,115,⟨aF⟩) :: L))(e:x.iH pl f=(iw,k)):
  STA 15 hh ⟨g,0,none⟩ ⟨aF⟩ λh8=>LDA 15 h8 ⟨g,0,none⟩ λa9=>fk bf h h8 (.tuple ⟨[.agg a9,.int .i64 k]⟩) (x.iH pl f).1 (x.iH pl f).2:=by
 rw[e]
 exact M.dH .here rfl (dI rfl) rfl .here λh3 M=>M.df .here rfl ⟨_,[],rfl,wL,(Mem.start h).grow M.ext⟩
theorem JH{x:bK}(h:x.ok=true):x.Loop.ok=true:=by
 unfold bK.ok at h
 simp only[Bool.and_eq_true] at h
 exact h.1.1.1
theorem Bd{cs:Array Value}{x:bK}{y z pl f:Nat}(R0:bf.rd h cs.toList x)(hp:FW .f32 y pl)(hf:FW .f32 z f):
  af ak 182 #[.agg cs,.float .f32 y,.float .f32 z] (λu h'=>fk bf h h' u (x.iH pl f).1 (x.iH pl f).2) h:=by
 refine cm.call ((Mem.start h).alc λg1 h1 x1 M=>M.alc λg3 h2 x2 M=>?_)
 have R:RdP bf h2 ⟨g1,0,none⟩ x:=M.rdp (.there .here) (bf.ext M.ext R0)
 refine goM M (abA R) λh3 M=>bt (brN (λe=>sO M (by rw[bK.iH,e];rfl)) λe1=>?_)
 rw[cw hp fw0,cw hp c1]
 refine br (λk1=>brN (λk2=>sO M (by rw[bK.iH,e1,place,fge,flt,k1,k2];rfl)) λk2=>?_) λk1=>sO M (by rw[bK.iH,e1,place,fge,k1];rfl)
 have e2:place pl=true:=by rw[place,fge,flt,k1,k2];rfl
 refine goM M (jm hf _) λh4 M=>bt (brN (λe=>sO M (by rw[bK.iH,e1,e2,e];rfl)) λe3=>?_)
 have AL:x.iH pl f=(x.nH pl f,0):=by rw[bK.iH,e1,e2,e3];rfl
 rw[AL]
 have hr:=JH e1
 obtain⟨k1,k2,k3,k4,k5⟩:=kO hr
 unfold cm.J5
 have R4:RdP bf h4 ⟨g1,0,none⟩ x:=M.rdp (.there .here) (bf.ext M.ext R0)
 refine mN.go M (Uq R4 (by omega)) λh5 c5 B5 M O5 s5=>gw (M.alc λIx h6 x6 M=>M.dH .here s5 (bf.jy O5) rfl .here λh7 M=>?_)
 have P:Pt bf h h7 ⟨Ix,0,none⟩ ⟨Ix,115,[],[]⟩ [(g3,115,⟨aF⟩),(g1,115,cs)] x:=Pt.new O5 M
 have A:∀{hh:ab}{W:bK},Pt bf h hh ⟨Ix,0,none⟩ ⟨Ix,115,[],[]⟩ [(g3,115,⟨aF⟩),(g1,115,cs)] W->RdP bf hh ⟨g1,0,none⟩ x:=λP=>P.mem.rdp (.there .here) (bf.ext P.ext R0)
 refine(A P).oL1 λb l c S=>fM hp (cK .f32 _) λBz sW=>?_
 have hl:=S.len
 have S:x.Loop.ae.length=l:=hl
 refine loop (λw hh=>∃i:Nat,w=(z,⟨g1,0,none⟩,⟨g3,0,none⟩,⟨Ix,0,none⟩,f32.nearest (l:Int),Bz,(i:Int))∧i≤l∧Pt bf h hh ⟨Ix,0,none⟩ ⟨Ix,115,[],[]⟩ [(g3,115,⟨aF⟩),(g1,115,cs)] { x with Loop:=chg (lx (f32.nearest (l:Int)) (eG .f32 pl (f32.nearest (l:Int))) f) x.Loop i })
  (λw=>(l-w.2.2.2.2.2.2).toNat) ⟨0,rfl,by omega,P⟩ ?_
 rintro w hh ⟨i,rfl,hi,P⟩
 unfold cm.B9
 refine(A P).oL1 λb' l' c' S'=>?_
 have hl':x.Loop.ae.length=l':=S'.len
 have hll:l'=l:=by omega
 subst hll
 have hri:(chg (lx (f32.nearest (l':Int)) (eG .f32 pl (f32.nearest (l':Int))) f) x.Loop i).ok=true:=by
  rw[aY.ok,aY.len,D9,zm];exact hr
 have next:∀{d:Nat},d=DH (f32.nearest (l':Int)) (eG .f32 pl (f32.nearest (l':Int))) f i->i<l'->∀{y9:Nat},FW .f32 y9 d->∀{K:Value->ab->Prop},
   (∀u h',Pt bf h h' ⟨Ix,0,none⟩ ⟨Ix,115,[],[]⟩ [(g3,115,⟨aF⟩),(g1,115,cs)] { x with Loop:=chg (lx (f32.nearest (l':Int)) (eG .f32 pl (f32.nearest (l':Int))) f) x.Loop (i+1) }->K u h') ->
   af ak 253 #[.pointer (some ⟨Ix,0,none⟩),.int .i64 (i:Int),.float .f32 y9] K hh:=by
  intro d hd HP y9 hy9 K H
  obtain⟨F',L',P',hs,close⟩:=P.foc dL
  rw[kW] at P'
  refine(XG P' hri (by omega) hy9).mono λu h' P1=>H u h' ?_
  have P2:=close _ _ _ (by rw[kW];exact P1)
  have et:∀r:aY,r.ae.length=x.Loop.ae.length->r.At=x.Loop.At->pg r i=pg x.Loop i:=λr h1 h2=>by unfold pg aY.len;rw[h1,h2]
  have e4:=et (chg (lx (f32.nearest (l':Int)) (eG .f32 pl (f32.nearest (l':Int))) f) x.Loop i) (zm _ _ _) (D9 _ _ _)
  have P2:Pt bf h h' ⟨Ix,0,none⟩ ⟨Ix,115,[],[]⟩ [(g3,115,⟨aF⟩),(g1,115,cs)] { x with Loop:=⟨(chg (lx (f32.nearest (l':Int)) (eG .f32 pl (f32.nearest (l':Int))) f) x.Loop i).ae.set (pg (chg (lx (f32.nearest (l':Int)) (eG .f32 pl (f32.nearest (l':Int))) f) x.Loop i) i) (jW .f32 (chg (lx (f32.nearest (l':Int)) (eG .f32 pl (f32.nearest (l':Int))) f) x.Loop i).ae[pg (chg (lx (f32.nearest (l':Int)) (eG .f32 pl (f32.nearest (l':Int))) f) x.Loop i) i]! d),(chg (lx (f32.nearest (l':Int)) (eG .f32 pl (f32.nearest (l':Int))) f) x.Loop i).At⟩ }:=P2
  rw[e4,D9,hd] at P2
  exact P2
 have done:∀{h':ab},Pt bf h h' ⟨Ix,0,none⟩ ⟨Ix,115,[],[]⟩ [(g3,115,⟨aF⟩),(g1,115,cs)] { x with Loop:=chg (lx (f32.nearest (l':Int)) (eG .f32 pl (f32.nearest (l':Int))) f) x.Loop (i+1) }->i<l' ->
   ((∃i':Nat,(z,(⟨g1,0,none⟩:Addr),(⟨g3,0,none⟩:Addr),(⟨Ix,0,none⟩:Addr),f32.nearest (l':Int),Bz,i64.wrap ((i:Int)+1))=(z,⟨g1,0,none⟩,⟨g3,0,none⟩,⟨Ix,0,none⟩,f32.nearest (l':Int),Bz,(i':Int))∧i'≤l'∧Pt bf h h' ⟨Ix,0,none⟩ ⟨Ix,115,[],[]⟩ [(g3,115,⟨aF⟩),(g1,115,cs)] { x with Loop:=chg (lx (f32.nearest (l':Int)) (eG .f32 pl (f32.nearest (l':Int))) f) x.Loop i' })∧((l':Int)-i64.wrap ((i:Int)+1)).toNat<((l':Int)-i).toNat):=λP HP=>
  ⟨⟨i+1,by rw[ag (by omega)],by omega,P⟩,by rw[ag (by omega)];omega⟩
 refine brd (λhc=>?_) λhc=>?_
 ·rw[cw (cK .f32 _) sW]
  refine br (λkk=>fD (cK .f32 _) sW λVV Gg=>fM hf Gg λr33 Lf=>next (by unfold DH flt;rw[if_pos kk]) (by omega) Lf λu h' P=>done P (by omega)) λkk=>?_
  refine fS (cK .f32 _) (cK .f32 _) λRI Ps=>fS (cK .f32 _) sW λTa JI=>fD Ps JI λr38 Dn=>fM hf Dn λZ3 zR=>next (by unfold DH flt;rw[kk];rfl) (by omega) zR λu h' P=>done P (by omega)
 ·obtain rfl:i=l':=by omega
  obtain⟨BP,B',M',O'⟩:=P.out
  refine M'.df .here (osz O' rfl) ?_
  have M':=M'.cnt (W:=(g3,115,⟨aF⟩) :: B')
  refine M'.dH .here (osz O' rfl) (bf.jy O') rfl .here λh3 M=>M.df .here (osz O' rfl) ⟨_,B',rfl,?_,M.drop⟩
  have:x.nH pl f={ x with Loop:=chg (lx (f32.nearest (i:Int)) (eG .f32 pl (f32.nearest (i:Int))) f) x.Loop i }:=by unfold bK.nH;rw[S]
  rw[this];exact O'
theorem Rn{g1 g2 g3 n p f r1 r2 r3:Nat}{h0:ab}(hn:RdP (rF .f32) h0 ⟨g3,0,none⟩ n)(hp:RdP (rF .f32) h0 ⟨g1,0,none⟩ p)(hf:RdP (rF .f32) h0 ⟨g2,0,none⟩ f):
  ahQ h0 (.func (.func 285) #[] #[.pointer (some ⟨g1,0,none⟩),.pointer (some ⟨g2,0,none⟩),.pointer (some ⟨g3,0,none⟩)]) (lx n p f):=λi r a h X hi hr=>by
 show af ak 285 #[.int .i64 (i:Int),.float .f32 r,.pointer (some ⟨g1,0,none⟩),.pointer (some ⟨g2,0,none⟩),.pointer (some ⟨g3,0,none⟩)] _ h
 have N:=hn.ext X
 have Q:=hp.ext X
 have R:=hf.ext X
 refine lU.call (Q.oF1 λy1 h1=>?_)
 rw[cw (cK .f32 _) h1]
 refine br (λkk=>R.oF1 λy2 h2=>Q.oF1 λy3 h3=>fD (cK .f32 _) h3 λr4 h4=>fM h2 h4 λr5 h5=>fA hr h5 λr6 h6=>⟨⟨r6,rfl,?_⟩,Ext.refl _⟩) λkk=>?_
 ·unfold lx DH flt
  rw[if_pos kk];exact h6
 ·refine R.oF1 λy2 h2=>N.oF1 λy3 h3=>fS h3 (cK .f32 _) λr9 h9=>N.oF1 λy4 h4=>Q.oF1 λy5 h5=>fS h4 h5 λrk jl=>fD h9 jl λxB hP=>fM h2 hP λDK j0=>fA hr j0 λrM kB=>⟨⟨rM,rfl,?_⟩,Ext.refl _⟩
  unfold lx DH flt
  rw[kk];exact kB
theorem I7{cs:Array Value}{x:bK}{y z pl f:Nat}(R0:bf.rd h cs.toList x)(hp:FW .f32 y pl)(hf:FW .f32 z f):
  af ak 235 #[.agg cs,.float .f32 y,.float .f32 z] (λu h'=>fk bf h h' u (x.iH pl f).1 (x.iH pl f).2) h:=by
 refine fj.call ((Mem.start h).alc λg1 h1 x1 M=>M.alc λg3 h2 x2 M=>M.alc λg5 h3 x3 M=>M.df (.there (.there .here)) (rsz R0 rfl) ?_)
 have fw:∀{y a:Nat},FW .f32 y a->∀{hh:ab},(rF .f32).rd hh [.float .f32 y] a:=λhy _=>⟨_,rfl,hy⟩
 refine goM M (Ie (bf.ext M.ext R0)) λh4 M=>bt (brN (λe=>sO M (by rw[bK.iH,e];rfl)) λe1=>?_)
 refine goM M (JL hp _) λh5 M=>bt (brN (λe=>sO M (by rw[bK.iH,e1,e];rfl)) λe2=>?_)
 have RF:RdP (rF .f32) h5 ⟨g3,0,none⟩ f:=M.rdp (.there .here) (fw hf)
 refine RF.oF1 λvn jF=>goM M (mw jF _) λh6 M=>bt (brN (λe=>sO M (by rw[bK.iH,e1,e2,e];rfl)) λe3=>?_)
 have AL:x.iH pl f=(x.nH pl f,0):=by rw[bK.iH,e1,e2,e3];rfl
 rw[AL]
 have hr:=JH e1
 unfold fj.J5
 have R6:RdP bf h6 ⟨g1,0,none⟩ x:=M.rdp (.there (.there .here)) (bf.ext M.ext R0)
 refine R6.oL1 λb l c S=>M.alc λg27 h7 x7 M=>M.st1 .here (by decide) .here λh8 M=>?_
 have hl:x.Loop.ae.length=l:=S.len
 have M:Mem h h8 ((g27,22,⟨[.float .f32 (f32.nearest (l:Int))]⟩) :: _):=M
 have RN:RdP (rF .f32) h8 ⟨g27,0,none⟩ (f32.nearest (l:Int)):=M.rdp .here (fw (cK .f32 _))
 refine RN.oF1 λOB Mm=>fM hp Mm λVc Dm=>M.alc λg32 h9 x9 M=>M.st1 .here (by decide) .here λgv M=>?_
 have M:Mem h gv ((g32,22,⟨[.float .f32 Vc]⟩) :: (g27,22,⟨[.float .f32 (f32.nearest (l:Int))]⟩) :: _):=M
 have D:=Rn (r1:=0) (r2:=0) (r3:=0) (M.rdp (.there .here) (fw (cK .f32 (l:Int)))) (M.rdp .here (fw Dm)) (M.rdp (.there (.there (.there .here))) (fw hf))
 refine M.df (.there (.there (.there (.there .here)))) (rsz R0 rfl) (mN.go M (TR (bf.ext M.ext R0) hr D) λme c11 B11 M O11 s11=>gw ?_)
 have M:=M.cnt (W:=(g5,115,⟨aF⟩) :: B11)
 refine M.dH .here s11 (bf.jy O11) rfl .here λjl M=>M.df .here s11 ⟨_,B11,rfl,?_,M.drop⟩
 have:x.nH pl f={ x with Loop:=chg (lx (f32.nearest (l:Int)) (eG .f32 pl (f32.nearest (l:Int))) f) x.Loop x.Loop.ae.length }:=by unfold bK.nH;rw[hl]
 rw[this];exact O11
end
def ia(a:Nat):Int:=if flt .f32 a 1232348160 then((u4 a:Nat):Int) else 0
def ox(a:Nat):Int:=if fle .f32 a 1232348160 then((u4 a:Nat):Int) else 1000000
theorem Cz:f32.format.read 1232348160 = .number false 16000000 (-4):=by decide +kernel
theorem Rw{a c n:Nat}{j:Int}(hp:Pos a)(hc:f32.format.read c = .number false n j)(h:fle .f32 a c=true):∃m e,f32.format.read a = .number false m e:=by
 have hn:=Cv hp
 unfold fle at h
 cases e:f32.format.read a with
 | nan s t=>rw[gN e hc] at h;cases h
 | infinity s=>
  rw[e] at hn
  obtain rfl:s=false:=hn
  rw[gN e hc] at h;cases h
 | number s m i=>
  rw[e] at hn
  obtain rfl:s=false:=hn
  exact⟨m,i,rfl⟩
theorem Df{a:Nat}(hp:Pos a)(h:fle .f32 a 1232348160=true):∃m e,f32.format.read a = .number false m e∧u4 a=whole m e∧whole m e≤1000000:=by
 obtain⟨m,e,hr⟩:=Rw hp Cz h
 obtain⟨B,hB⟩:∃B:Nat,1100≤B:=⟨1100,Nat.le_refl _⟩
 have h1:=SS hB Cz hr (λh=>by cases h) h
 have h2:=fG a hr
 refine⟨m,e,hr,by unfold u4;rw[hr],?_⟩
 rw[CM (B:=B) (by omega)]
 refine Nat.div_le_of_le_mul ?_
 refine Nat.le_trans h1 ?_
 unfold sv
 rw[show(16000000:Nat)=1000000*2 ^ 4 by rfl,Nat.mul_assoc,← Nat.pow_add,show 4+((-4:Int)+(B:Int)).toNat=B by omega,Nat.mul_comm]
 exact Nat.le_refl _
theorem SD{k:FloatKind}{a b:Nat}(h:flt k a b=true):fle k a b=true:=by unfold flt at h;unfold fle;rw[h];rfl
theorem G4{a:Nat}(hp:Pos a):ox a=ia a∨(inR (ox a) 1 1024=false∧inR (ia a) 1 1024=false∧inR (ox a) 2 1024=false∧inR (ia a) 2 1024=false):=by
 unfold ox ia
 by_cases h1:flt .f32 a 1232348160=true
 ·rw[if_pos h1,if_pos (SD h1)];exact .inl rfl
 ·right
  rw[if_neg h1]
  have z:∀n:Int,1024<n->inR n 1 1024=false∧inR n 2 1024=false:=λn hn=>by
   unfold inR
   rw[decide_eq_false (p:=n≤1024) (by omega),Bool.and_false,Bool.and_false];exact⟨rfl,rfl⟩
  by_cases h2:fle .f32 a 1232348160=true
  ·rw[if_pos h2]
   obtain⟨m,e,hr,hf,hle⟩:=Df hp h2
   obtain⟨B,hB⟩:∃B:Nat,1100≤B:=⟨1100,Nat.le_refl _⟩
   have hge:fge .f32 a 1232348160=true:=by
    unfold fle at h2
    unfold flt at h1
    unfold fge
    rw[Bool.not_eq_true] at h1
    rw[h1,Bool.false_or] at h2
    rw[h2,Bool.or_true]
   rcases SF hB Cz hge with hi | ⟨s,m',e',VJ,hs,hl⟩
   ·rw[hr] at hi;cases hi
   ·rw[hr] at VJ
    obtain⟨rfl,rfl,rfl⟩:false=s∧m=m'∧e=e':=by simpa using VJ
    have h3:=fG a hr
    have:1000000≤whole m e:=by
     rw[CM (B:=B) (by omega)]
     refine(Nat.le_div_iff_mul_le (Nat.two_pow_pos _)).2 (Nat.le_trans ?_ hl)
     unfold sv
     rw[show(16000000:Nat)=1000000*2 ^ 4 by rfl,Nat.mul_assoc (1000000:Nat),← Nat.pow_add,show 4+((-4:Int)+(B:Int)).toNat=B by omega]
     exact Nat.le_refl _
    rw[hf]
    have:=z ((whole m e:Nat):Int) (by omega)
    exact⟨this.1,rfl,this.2,rfl⟩
  ·rw[if_neg h2]
   exact⟨rfl,rfl,rfl,rfl⟩
def mj(p:Int):Int:=if p / 8<1 then 1 else p / 8
def Jt(p:Int)(k l s:Nat):iU:={ bT:=⟨List.replicate (p-mj p).toNat 0,0⟩,aH:=⟨List.replicate (mj p).toNat 0,0⟩,fz:=py k,fX:=s,fT:=l }
def fp(p:Int)(k l s:Nat):iU×Int:=if inR p 2 1024 then if place k then if inside l 0 1065353216 then if fin s then(Jt p k l s,0) else(vl,2) else(vl,2) else(vl,2) else(vl,2)
theorem Jz:inside 1040187392 0 1065353216=true:=by decide +kernel
theorem c8:FW .f32 1040187392 1040187392:=eM (by decide) (by decide)
theorem Z4:f32.format.read 1040187392 = .number false (2 ^ 23) (-26):=by decide +kernel
theorem aeP{p:Nat}(h1:1≤p)(h2:p<2 ^ 24):f32.format.mul (f32.nearest (p:Int)) 1040187392=some (f32.format.nearest false p (-3))∧f32.format.mul 1040187392 (f32.nearest (p:Int))=some (f32.format.nearest false p (-3)) ∧
  ∃m e,f32.format.read (f32.format.nearest false p (-3)) = .number false m e∧whole m e=p / 8:=by
 have hl:p.log2≤23:=by
  have:=(Nat.log2_lt (n:=p) (by omega) (k:=24)).2 h2
  omega
 have rp:=DL false (m:=p) (p:=0) (by omega) h2 (by decide) (by decide)
 rw[← mI] at rp
 refine⟨?_,?_,_,_,DL false (m:=p) (p:=-3) (by omega) h2 (by decide) (by decide),?_⟩
 ·rw[zA (by rw[rp,Z4,mJ])]
  exact congrArg some (pT _ _ (23-p.log2+23) (by rw[Nat.pow_add,Nat.mul_assoc]) (by omega))
 ·rw[zA (by rw[rp,Z4,mJ])]
  exact congrArg some (pT _ _ (23-p.log2+23) (by rw[Nat.pow_add,Nat.mul_comm,Nat.mul_assoc]) (by omega))
 ·unfold whole
  rw[show((-3:Int)+(p.log2:Int)-23).toNat=0 by omega,Nat.shiftLeft_zero,show(-((-3:Int)+(p.log2:Int)-23)).toNat=3+(23-p.log2) by omega,Nat.pow_add,Nat.mul_comm p,Nat.mul_comm (2 ^ 3),Nat.mul_div_mul_left _ _ (Nat.two_pow_pos _)]
theorem FL{p:Int}(h:inR p 2 1024=true):2≤p∧p≤1024∧1≤mj p∧mj p≤p-1:=by
 simp only[inR,Bool.and_eq_true,decide_eq_true_eq] at h
 unfold mj
 refine⟨h.1,h.2,?_,?_⟩ <;> split <;> omega
theorem Wv{x:iU}{B1 B2:List Blk}{b1 b2:Option Addr}{l1 c1 l2 c2:Nat}{v:List Value}{y z:Nat}(O1:SlO 22 (rF .f32) B1 b1 l1 c1 x.bT.ae)(O2:SlO 22 (rF .f32) B2 b2 l2 c2 x.aH.ae)(hv:cx.ow [] v x.fz)(hy:FW .f32 y x.fX)(hz:FW .f32 z x.fT):
  jI.ow (B1++B2) ([.slice b1 l1 c1,.int .i64 x.bT.At]++([.slice b2 l2 c2,.int .i64 x.aH.At]++(v++[.float .f32 y,.float .f32 z]))) x:=
 ⟨B1,B2,[.slice b1 l1 c1,.int .i64 x.bT.At],_,rfl,rfl,wi O1,B2,[],[.slice b2 l2 c2,.int .i64 x.aH.At],_,by simp,rfl,wi O2,[],[],v,_,rfl,rfl,hv,[],[],[.float .f32 y],[.float .f32 z],rfl,rfl,⟨rfl,y,rfl,hy⟩,⟨rfl,z,rfl,hz⟩⟩
theorem ak0{ts:Array TypeId}{t:TypeId}{cs:Array Bool}{n m:Int}{K:Value->ab->Prop}{h:ab}(H:K (.int .i64 (if m > n then m else n)) h):jt ak (builtin .max ts t cs #[.int .i64 n,.int .i64 m]) K h:=
 vf λw hw=>⟨_,w,rfl,hZ.refl _,by rw[hw];exact H⟩
theorem ak1{ts:Array TypeId}{t:TypeId}{cs:Array Bool}{n m:Int}{K:Value->ab->Prop}{h:ab}(H:K (.int .i64 (if m<n then m else n)) h):jt ak (builtin .min ts t cs #[.int .i64 n,.int .i64 m]) K h:=
 vf λw hw=>⟨_,w,rfl,hZ.refl _,by rw[hw];exact H⟩
section
variable {h:ab}{x a:Nat}
theorem JE(hx:FW .f32 x a)(hp:Pos a):Ret ak 237 #[.float .f32 x] (.int .i64 (ia a)):=λh=>by
 refine rh.call ?_
 unfold rh.S
 rw[cw hx (show FW .f32 1232348160 1232348160 from cR)]
 refine brN (λe=>⟨by unfold ia flt;rw[e];rfl,Ext.refl _⟩) λe=>?_
 have qR:flt .f32 a 1232348160=true:=e
 obtain⟨m,e',hr,hf,hle⟩:=Df hp (SD qR)
 obtain⟨B,hB⟩:∃B:Nat,1100≤B:=⟨1100,Nat.le_refl _⟩
 obtain⟨_,_,hw,_⟩:=rO hB hr
 have Xw:wid a=wide a:=kJ hw
 have hnw:nan .f64 (wide a)=false:=by unfold Sx.nan;rw[hw];rfl
 refine cg hx λr1 h1=>?_
 rw[Xw] at h1
 have e1:=h1.eq hnw
 subst e1
 refine goX (zh hnw h) λh2 x2=>cW ?_
 refine Nc (z:=((whole m e':Nat):Int)) (by rw[C4 hr,DX false (by omega),eP,Nat.pow_zero,Nat.mul_one]) (by omega) (by omega) ⟨?_,x2⟩
 unfold ia
 rw[qR,if_pos rfl,hf]
theorem Gp(hx:FW .f32 x a)(hp:Pos a):Ret ak 184 #[.float .f32 x] (.int .i64 (ox a)):=λh=>by
 refine pD.call ?_
 unfold pD.S
 rw[cw hx (show FW .f32 1232348160 1232348160 from cR)]
 refine brN (λe=>⟨by unfold ox fle;rw[e];rfl,Ext.refl _⟩) λe=>?_
 have hle:fle .f32 a 1232348160=true:=e
 obtain⟨m,e',hr,hf,avU⟩:=Df hp hle
 have VI:nan .f32 a=false:=by unfold Sx.nan;rw[hr];rfl
 have hxa:=hx.eq VI
 subst hxa
 refine Nc (Fm hr) (by omega) (by omega) ⟨?_,Ext.refl _⟩
 unfold ox
 rw[hle,if_pos rfl,hf]
end
set_option maxHeartbeats 2000000
section
variable {h:ab}{x a:Nat}
theorem tV{p:Int}{k l s:Nat}{n:Int}{g:Nat}{hh:ab}{L:List Blk}(M:Mem h hh ((g,120,⟨dg⟩) :: L))(e:fp p k l s=(vl,n)):
  STA 12 hh ⟨g,0,none⟩ ⟨dg⟩ λh8=>LDA 12 h8 ⟨g,0,none⟩ λa9=>fk jI h h8 (.tuple ⟨[.agg a9,.int .i64 n]⟩) (fp p k l s).1 (fp p k l s).2:=by
 rw[e]
 exact M.dH .here rfl (dI rfl) rfl .here λh3 M=>M.df .here rfl ⟨_,[],rfl,Tz,(Mem.start h).grow M.ext⟩
theorem qx{n:Nat}{F:Nat->ab->Prop}{h0 hh:ab}{L:List Blk}(M:Mem h0 hh L)(hn:n≤1024)(H:∀g h' B,Ext hh h'->Mem h0 h' (B++L)->SlO 22 (rF .f32) B (some ⟨g,0,none⟩) n n (List.replicate n 0)->F g h'):MKS eC 22 (n:Int) (n:Int) F hh:=
 vW (r:=rF .f32) (z:=0) (zc:=[.float .f32 0]) ⟨rfl,0,rfl,fw0⟩ rfl rfl (by decide) M (by show 4*n≤2 ^ 48;omega) (Nat.le_trans hn (by decide)) λg h' x M O=>H g h' _ x M O
theorem MK{p:Int}(h:inR p 2 1024=true):∃N:Nat,(N:Int)=p / 8∧N≤128∧f32.format.mul (f32.nearest p) 1040187392=f32.format.mul 1040187392 (f32.nearest p) ∧
  ∀{r:Nat},IsF .f32 (f32.format.mul 1040187392 (f32.nearest p)) r->∀{r2:Nat},I3 .f32 r .f64 r2->nan .f64 r2=false∧(f64.decode (flr r2)).toInt .zero=some (N:Int):=by
 obtain⟨p1,p2,_,_⟩:=FL h
 obtain⟨P,rfl⟩:∃P:Nat,p=(P:Int):=⟨p.toNat,by omega⟩
 obtain⟨e1,e2,m,e,hr,hw⟩:=aeP (p:=P) (by omega) (by omega)
 refine⟨P / 8,by omega,by omega,by rw[e1,e2],?_⟩
 intro r hr1 r2 Mq
 rw[e2] at hr1
 have hre:r=f32.format.nearest false P (-3):=hr1
 subst hre
 obtain⟨B,hB⟩:∃B:Nat,1100≤B:=⟨1100,Nat.le_refl _⟩
 obtain⟨_,_,hwd,_⟩:=rO hB hr
 have Xw:wid (f32.format.nearest false P (-3))=wide (f32.format.nearest false P (-3)):=kJ hwd
 have hnw:nan .f64 (wide (f32.format.nearest false P (-3)))=false:=by unfold Sx.nan;rw[hwd];rfl
 have h2:r2=wide (f32.format.nearest false P (-3)):=by
  have:FW .f64 r2 (wid (f32.format.nearest false P (-3))):=cg (F:=λr=>FW .f64 r (wid (f32.format.nearest false P (-3)))) (T0 hr) (λ_ h=>h) r2 Mq
  rw[Xw] at this
  exact this.eq hnw
 subst h2
 refine⟨hnw,?_⟩
 rw[C4 hr,hw,DX false (by omega),eP,Nat.pow_zero,Nat.mul_one]
theorem XF(a b:Int):Ret ak 257 #[.int .i64 a,.int .i64 b] (.int .i64 (if a<b then a else b)):=λh=>
 yY.call (brd (λk=>⟨by rw[if_pos k],Ext.refl _⟩) λk=>⟨by rw[if_neg k],Ext.refl _⟩)
theorem XE(a b:Int):Ret ak 256 #[.int .i64 a,.int .i64 b] (.int .i64 (if b<a then a else b)):=λh=>
 yX.call (brd (λk=>⟨by rw[if_pos k],Ext.refl _⟩) λk=>⟨by rw[if_neg k],Ext.refl _⟩)
theorem J8{p:Int}{k l s k' l' s':Nat}(hk:FW .f32 k k')(hl:FW .f32 l l')(hs:FW .f32 s s'):af ak 185 #[.int .i64 p,.float .f32 1040187392,.float .f32 k,.float .f32 l,.float .f32 s] (λu h'=>fk jI h h' u (fp p k' l' s').1 (fp p k' l' s').2) h:=by
 refine iR.call ((Mem.start h).alc λg1 h1 x1 M=>goM M (kQ _ _ _ _) λh2 M=>bt (brN (λe=>tV M (by rw[fp,e];rfl)) λe1=>?_))
 have i8:=Jz
 unfold inside fge fle at i8
 rw[Bool.and_eq_true] at i8
 rw[i8.1,i8.2,cw hk fw0,cw hk c1,cw hl fw0,cw hl c1]
 refine vu rfl (cM rfl ?_)
 refine br (λk1=>brN (λk2=>tV M (by rw[fp,e1,place,fge,flt,k1,k2];rfl)) λk2=>?_) λk1=>tV M (by rw[fp,e1,place,fge,k1];rfl)
 have e2:place k'=true:=by rw[place,fge,flt,k1,k2];rfl
 refine br (λk3=>brN (λk4=>tV M (by rw[fp,e1,e2,inside,fge,fle,k3,k4];rfl)) λk4=>?_) λk3=>tV M (by rw[fp,e1,e2,inside,fge,k3];rfl)
 have e3:inside l' 0 1065353216=true:=by rw[inside,fge,fle,k3,k4];rfl
 refine goM M (jm hs _) λh3 M=>bt (brN (λe=>tV M (by rw[fp,e1,e2,e3,e];rfl)) λe4=>?_)
 have AL:fp p k' l' s'=(Jt p k' l' s',0):=by rw[fp,e1,e2,e3,e4];rfl
 rw[AL]
 obtain⟨p1,p2,b1,b2⟩:=FL e1
 obtain⟨N,hN,hN2,adm,Xx⟩:=MK e1
 unfold iR.J3
 intro Mv pw Vb vD
 obtain⟨UT,i26⟩:=Xx pw vD
 refine goM M (zh UT _) λh4 M=>cW (Nc i26 (by omega) (by omega) ?_)
 rw[wrap64 (n:=p-1) (by omega) (by omega)]
 have fin:∀{hh:ab}{B1 B2:List Blk}{g1' g2':Addr}{n1 n2:Nat}{vd:List Value},n1=(p-mj p).toNat->n2=(mj p).toNat->Mem h hh ((g1,120,⟨dg⟩) :: (B1++B2))->SlO 22 (rF .f32) B1 (some g1') n1 n1 (List.replicate n1 0)->SlO 22 (rF .f32) B2 (some g2') n2 n2 (List.replicate n2 0)->cx.ow [] vd (py k') ->
   STA 12 hh ⟨g1,0,none⟩ ⟨[.slice (some g1') n1 n1,.int .i64 (0:Int)]++([.slice (some g2') n2 n2,.int .i64 (0:Int)]++(vd++[.float .f32 s,.float .f32 l]))⟩ λxl=>LDA 12 xl ⟨g1,0,none⟩ λTL=>fk jI h xl (.tuple ⟨[.agg TL,.int .i64 (0:Int)]⟩) (Jt p k' l' s') 0:=λen1 en2 M O1 O2 hv=>by
  subst en1 en2
  have O:=Wv (x:=Jt p k' l' s') O1 O2 hv hs hl
  exact M.dH .here (jI.jX O) (jI.jy O) rfl .here λxl M=>M.df .here (jI.jX O) ⟨_,_,rfl,O,M.drop⟩
 refine goM M (XF _ _ _) λh5 M=>cN (goM M (XE _ _ _) λh6 M=>cN ?_)
 have hm:(if(if p-1<(N:Int) then p-1 else(N:Int))<1 then 1 else(if p-1<(N:Int) then p-1 else(N:Int)))=mj p:=by
  unfold mj
  rw[hN]
  repeat' split
  all_goals omega
 rw[hm,wrap64 (n:=p-mj p) (by omega) (by omega)]
 obtain⟨nb,hnb⟩:∃nb:Nat,(nb:Int)=mj p:=⟨(mj p).toNat,by omega⟩
 obtain⟨na,VI⟩:∃na:Nat,(na:Int)=p-mj p:=⟨(p-mj p).toNat,by omega⟩
 rw[← VI,← hnb]
 have f1:na=(p-mj p).toNat:=by omega
 have f2:nb=(mj p).toNat:=by omega
 have C:∀{hh:ab},af ak 254 #[.float .f32 k] (λu h'=>FlR u (py k')∧Ext hh h') hh:=yV hk
 refine⟨?_,?_,?_⟩
 ·refine qx M (by omega) λg7 h7 B7 x7 M O7=>⟨?_,?_⟩
  ·refine qx M (by omega) λg8 h8 B8 x8 M O8=>C.mono ?_
   rintro _ h9 ⟨⟨kk,yy,zz,rfl,O9⟩,x9⟩
   exact gw (siz rfl (siz rfl (siz rfl (fin f1 f2 ((M.grow x9).cnt (λp=>by simp only[bN,bu,bZ] at *;omega)) O7 O8 O9))))
  ·refine C.mono ?_
   rintro _ h9 ⟨⟨kk,yy,zz,rfl,O9⟩,x9⟩
   refine gw (qx (M.grow x9) (by omega) λg8 h8 B8 x8 M O8=>?_)
   exact siz rfl (siz rfl (siz rfl (fin f1 f2 (M.cnt (λp=>by simp only[bN,bu,bZ] at *;omega)) O7 O8 O9)))
 ·refine qx M (by omega) λg8 h8 B8 x8 M O8=>⟨?_,?_⟩
  ·refine qx M (by omega) λg7 h7 B7 x7 M O7=>C.mono ?_
   rintro _ h9 ⟨⟨kk,yy,zz,rfl,O9⟩,x9⟩
   exact gw (siz rfl (siz rfl (siz rfl (fin f1 f2 ((M.grow x9).cnt (λp=>by simp only[bN,bu,bZ] at *;omega)) O7 O8 O9))))
  ·refine C.mono ?_
   rintro _ h9 ⟨⟨kk,yy,zz,rfl,O9⟩,x9⟩
   refine gw (qx (M.grow x9) (by omega) λg7 h7 B7 x7 M O7=>?_)
   exact siz rfl (siz rfl (siz rfl (fin f1 f2 (M.cnt (λp=>by simp only[bN,bu,bZ] at *;omega)) O7 O8 O9)))
 ·refine C.mono ?_
  rintro _ h9 ⟨⟨kk,yy,zz,rfl,O9⟩,x9⟩
  have M:=M.grow x9
  refine gw ⟨?_,?_⟩
  ·refine qx M (by omega) λg7 h7 B7 x7 M O7=>qx M (by omega) λg8 h8 B8 x8 M O8=>?_
   exact siz rfl (siz rfl (siz rfl (fin f1 f2 (M.cnt (λp=>by simp only[bN,bu,bZ] at *;omega)) O7 O8 O9)))
  ·refine qx M (by omega) λg8 h8 B8 x8 M O8=>qx M (by omega) λg7 h7 B7 x7 M O7=>?_
   exact siz rfl (siz rfl (siz rfl (fin f1 f2 (M.cnt (λp=>by simp only[bN,bu,bZ] at *;omega)) O7 O8 O9)))
theorem Cn{n:Nat}{h0 hh:ab}{L:List Blk}{K:Value->ab->Prop}(M:Mem h0 hh L)(h1:1≤n)(h2:n≤1024)(H:∀h' B b l c,Ext hh h'->Mem h0 h' (B++L)->SlO 22 (rF .f32) B b l c (List.replicate n 0)->K (.tuple ⟨[.agg ⟨[.slice b l c,.int .i64 (0:Int)]⟩,.int .i64 (0:Int)]⟩) h'):af ak 281 #[.int .i64 (n:Int)] K hh:=by
 refine(Jp _ _).mono ?_
 rintro _ h' ⟨cR,BR,rfl,OR,N⟩
 have zq:inR (n:Int) 1 1024=true:=by rw[inR,decide_eq_true (by omega),decide_eq_true (by omega)];rfl
 rw[zq] at OR ⊢
 obtain⟨b,l',c',rfl,OS⟩:=wh OR
 exact H h' BR b l' c' N.ext (M.join N) OS
theorem W2{p:Int}{k l s k' l' s':Nat}(hk:FW .f32 k k')(hl:FW .f32 l l')(hs:FW .f32 s s'):af ak 238 #[.int .i64 p,.float .f32 1040187392,.float .f32 k,.float .f32 l,.float .f32 s] (λu h'=>fk jI h h' u (fp p k' l' s').1 (fp p k' l' s').2) h:=by
 refine iQ.call ((Mem.start h).alc λg1 h1 x1 M=>goM M (js _ _ _ _) λh2 M=>bt (brN (λe=>tV M (by rw[fp,e];rfl)) λe1=>?_))
 refine goM M (jO c8 fw0 c1 _) λh3 M=>bt (brN (λe=>by rw[Jz] at e;cases e) λ_=>?_)
 refine goM M (Cb hk _) λh4 M=>bt (brN (λe=>tV M (by rw[fp,e1,e];rfl)) λe2=>?_)
 refine goM M (jO hl fw0 c1 _) λh5 M=>bt (brN (λe=>tV M (by rw[fp,e1,e2,e];rfl)) λe3=>?_)
 refine goM M (mw hs _) λh6 M=>bt (brN (λe=>tV M (by rw[fp,e1,e2,e3,e];rfl)) λe4=>?_)
 have AL:fp p k' l' s'=(Jt p k' l' s',0):=by rw[fp,e1,e2,e3,e4];rfl
 rw[AL]
 obtain⟨p1,p2,b1,b2⟩:=FL e1
 obtain⟨N,hN,hN2,adm,Xx⟩:=MK e1
 unfold iQ.J3
 rw[adm]
 intro Mv pw Vb vD
 obtain⟨UT,i26⟩:=Xx pw vD
 refine goM M (zh UT _) λh7 M=>cW (Nc i26 (by omega) (by omega) (ak0 (cN (ak1 (cN ?_)))))
 have hm:(if i64.wrap (p-1)<(if(1:Int) > (N:Int) then 1 else(N:Int)) then i64.wrap (p-1) else(if(1:Int) > (N:Int) then 1 else(N:Int)))=mj p:=by
  rw[wrap64 (n:=p-1) (by omega) (by omega)]
  unfold mj
  rw[hN]
  repeat' split
  all_goals omega
 rw[hm,wrap64 (n:=p-mj p) (by omega) (by omega)]
 obtain⟨nb,hnb⟩:∃nb:Nat,(nb:Int)=mj p:=⟨(mj p).toNat,by omega⟩
 obtain⟨na,VI⟩:∃na:Nat,(na:Int)=p-mj p:=⟨(p-mj p).toNat,by omega⟩
 rw[← VI,← hnb]
 refine Cn M (by omega) (by omega) λh8 B8 q8 l8 c8' x8 M O8=>jJ (gw (cN (M.alc λg46 h9 x9 M=>M.dH .here rfl (dI rfl) rfl .here λgv M=>?_)))
 refine Cn M (by omega) (by omega) λme B11 zX l11 c11 x11 M O11=>jJ (gw (cN (M.alc λSE jl x12 M=>M.dH .here rfl (dI rfl) rfl .here λhP M=>?_)))
 have M:=M.cnt (W:=(SE,109,⟨[.slice zX l11 c11,.int .i64 (0:Int)]⟩) :: (g46,109,⟨[.slice q8 l8 c8',.int .i64 (0:Int)]⟩) :: (g1,120,⟨dg⟩) :: (B8++B11))
 refine M.df (.there .here) rfl (M.df .here rfl ((Jq hk).mono ?_))
 rintro _ j0 ⟨⟨kk,yy,zz,rfl,O9⟩,x14⟩
 have P:RdP bQ hP ⟨SE,0,none⟩ ⟨List.replicate nb 0,0⟩:=M.rdp .here (bQ.look (wi (r:=⟨List.replicate nb 0,0⟩) O11) (M.cnt (W:=B11)) (List.Sublist.refl _))
 have Q:RdP bQ hP ⟨g46,0,none⟩ ⟨List.replicate na 0,0⟩:=M.rdp (.there .here) (bQ.look (wi (r:=⟨List.replicate na 0,0⟩) O8) (M.cnt (W:=B8)) (List.Sublist.refl _))
 refine gw (P.pin rfl x14 (Q.pin rfl x14 (siz rfl (siz rfl (siz rfl ?_)))))
 have f1:na=(p-mj p).toNat:=by omega
 have f2:nb=(mj p).toNat:=by omega
 subst f1 f2
 have O:=Wv (x:=Jt p k' l' s') O8 O11 O9 hs hl
 have M:=(M.grow x14).cnt (W:=(g1,120,⟨dg⟩) :: (B8++B11))
 exact M.dH .here (jI.jX O) (jI.jy O) rfl .here λxl M=>M.df .here (jI.jX O) ⟨_,_,rfl,O,M.drop⟩
end
end Go.Sx
