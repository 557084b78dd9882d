/- Lemmas. -/
import Derived.Test.YthhepeklpgefkaaGreatDoorLk43
import Derived.Test.YthhepeklpgefkaaGreatDoorLk33
set_option linter.unusedVariables false
set_option linter.unusedSimpArgs false
namespace Go.Sx
open FloatKind (f32 f64)
open IntKind (i64)
open Go.Proofs Ieee
set_option maxRecDepth 100000
set_option maxHeartbeats 1000000
def uE(r:bc)(i:Nat):Nat:=((r.At+(i:Int)) % r.len).toNat
def chg(f:Nat->Nat->Nat)(r:bc):Nat->bc
 | 0=>r
 | i+1=>⟨(chg f r i).af.set (uE r i) (f i (chg f r i).af[uE r i]!),r.At⟩
theorem Ja(f:Nat->Nat->Nat)(r:bc)(i:Nat):(chg f r i).At=r.At:=by cases i <;> rfl
theorem EN(f:Nat->Nat->Nat)(r:bc):∀i,(chg f r i).af.length=r.af.length
 | 0=>rfl
 | i+1=>by rw[chg,List.length_set];exact EN f r i
theorem aa0{r:bc}(h:r.ok=true)(i:Nat):0≤(r.At+(i:Int)) % r.len∧uE r i<r.af.length∧(r.At+(i:Int)) % r.len<r.af.length:=by
 obtain⟨k1,k2,k3,k4,k5⟩:=mH h
 have hl:r.len=(r.af.length:Int):=rfl
 have h1:=Int.emod_nonneg (r.At+(i:Int)) (show r.len≠0 by omega)
 have h2:=Int.emod_lt_of_pos (r.At+(i:Int)) (show 0<r.len by omega)
 unfold uE
 refine ⟨h1,by omega,by omega⟩
def JH(n p f i:Nat):Nat:=fP .f32 f (if flt .f32 (f32.nearest ((i:Nat):Int)) p then fdiv .f32 (f32.nearest ((i:Nat):Int)) p else fdiv .f32 (jC .f32 n (f32.nearest ((i:Nat):Int))) (jC .f32 n p))
def oQ(n p f i a:Nat):Nat:=mF .f32 a (JH n p f i)
def bP.td(x:bP)(pl f:Nat):bP:={ x with Loop:=chg (oQ (f32.nearest ((x.Loop.af.length:Nat):Int)) (fP .f32 pl (f32.nearest ((x.Loop.af.length:Nat):Int))) f) x.Loop x.Loop.af.length }
def bP.kG(x:bP)(pl f:Nat):bP×Int:=if x.ok then if place pl then if fin f then (x.td pl f,0) else (ff,2) else (ff,2) else (ff,1)
def flT(v:Int×Nat×Nat×Nat×Nat×Nat):List Value:=flC v.1 v.2.1 v.2.2.1 v.2.2.2.1 v.2.2.2.2.1 v.2.2.2.2.2
theorem Si:Flat bQ:=DE (jm (BP _) (jm (AJ _ (nZ _)) (AJ _ (nZ _))))
theorem pq{h:ab}{vs:List Value}{f:cN}(R:bQ.rd h vs f):∃v,vs=flT v∧bQ.ow [] (flT v) f:=by
 have O:=Si _ _ _ R
 obtain⟨v1,r1,e1,e2,v2,v3,rfl,⟨l2,R2⟩,⟨l3,R3⟩⟩:=R
 have e2:v1=[.int .i64 f.Kind]:=e2
 have l2:f.C.length=3:=l2
 have l3:f.S.length=2:=l3
 obtain⟨p,q,r,hC⟩:∃p q r,f.C=[p,q,r]:=by
  match hf:f.C,l2 with
  | [p,q,r],_=>exact ⟨p,q,r,rfl⟩
 obtain⟨s,t,hS⟩:∃s t,f.S=[s,t]:=by
  match hf:f.S,l3 with
  | [s,t],_=>exact ⟨s,t,rfl⟩
 have R2:rds (rF .f32) h v2 f.C:=R2
 have R3:rds (rF .f32) h v3 f.S:=R3
 rw[hC] at R2
 rw[hS] at R3
 obtain⟨_,_,rfl,⟨a,rfl,_⟩,_,_,rfl,⟨b,rfl,_⟩,_,_,rfl,⟨c,rfl,_⟩,rfl⟩:=R2
 obtain⟨_,_,rfl,⟨d,rfl,_⟩,_,_,rfl,⟨e,rfl,_⟩,rfl⟩:=R3
 subst e2
 have hv:vs=flT (f.Kind,a,b,c,d,e):=by rw[e1];rfl
 exact ⟨_,hv,by rw[← hv];exact O⟩
def stL(b:Option Addr)(l c:Nat)(t:Int)(v1 v2:Int×Nat×Nat×Nat×Nat×Nat)(y:Nat):List Value:=[.slice b l c,.int .i64 t]++(flT v1++(flT v2++[.float .f32 y]))
theorem Tu{h:ab}{cs:Array Value}{x:bP}(R:aX.rd h cs.toList x):∃b l c v1 v2 y,cs=⟨stL b l c x.Loop.At v1 v2 y⟩∧SlR (rF .f32) h b l c x.Loop.af∧bQ.ow [] (flT v1) x.mK∧bQ.ow [] (flT v2) x.gl∧FW .f32 y x.fi:=by
 obtain⟨w1,r1,e1,⟨u1,u2,rfl,⟨b,l,c,rfl,S⟩,hat⟩,w2,r2,rfl,F1,w3,w4,rfl,F2,⟨y,rfl,Fy⟩⟩:=R
 have hat:u2=[.int .i64 x.Loop.At]:=hat
 subst hat
 obtain⟨v1,rfl,O1⟩:=pq F1
 obtain⟨v2,rfl,O2⟩:=pq F2
 exact ⟨b,l,c,v1,v2,y,by cases cs;simpa [stL] using e1,S,O1,O2,Fy⟩
theorem ZV{b:Option Addr}{l c:Nat}{t:Int}{v1 v2:Int×Nat×Nat×Nat×Nat×Nat}{y:Nat}:∀v ∈ (⟨stL b l c t v1 v2 y⟩:Array Value).toList,v.oneCell'=true:=eG rfl
section
variable {h:ab}{x a:Nat}
theorem Ql{q:Addr}{x:bP}(R:RdP aX h q x)(hl:x.Loop.af.length≤1048576):ae ai sI #[.pointer (some q)] (λu h'=>gw aX h h' u x) h:=by
 refine CH.call ((Mem.start h).alc λg1 h1 x1 M=>?_)
 have A:∀{hh:ab},Ext h hh->RdP aX hh q x:=λe=>R.ext e
 refine (A M.ext).lda dh rfl λa3 R3=>(A M.ext).lda df rfl λa4 R4=>(A M.ext).oF λr5 h5=>?_
 obtain⟨v1,e3,O1⟩:=pq R3
 obtain⟨v2,e4,O2⟩:=pq R4
 obtain rfl:a3=⟨flT v1⟩:=by cases a3;simpa using e3
 obtain rfl:a4=⟨flT v2⟩:=by cases a4;simpa using e4
 refine gw.go (Mem.start h1) (EV ((A M.ext).fst dg) hl) λh7 a8 B8 N O8 s8=>?_
 obtain⟨b,l,c,rfl,OS⟩:=oT O8
 have P:RdP aX h1 q x:=A M.ext
 refine fe (P.jQ (by decide) N.ext (P.jQ (by decide) N.ext (P.jQ (by decide) N.ext (siz rfl (siz rfl (siz rfl ?_))))))
 have M:=(M.join N).cnt (W:=(g1,aB,⟨aL⟩) :: B8)
 exact M.dy .here rfl ZV rfl .here λh8 M=>M.cM .here rfl ⟨_,B8,rfl,Bd (x:=x) OS O1 O2 h5,M.drop⟩
theorem Dk{cs:Array Value}{x:bP}(R0:aX.rd h cs.toList x)(hl:x.Loop.af.length≤1048576):ae ai mf #[.agg cs] (λu h'=>gw aX h h' u x) h:=by
 obtain⟨b,l,c,v1,v2,y,rfl,S,O1,O2,hy⟩:=Tu R0
 refine sN.call ((Mem.start h).alc λg1 h1 x1 M=>M.alc λg3 h2 x2 M=>?_)
 have R:RdP aX h2 ⟨g1,0,none⟩ x:=M.rdp (.there .here) (aX.ext M.ext R0)
 refine (R.fst dg).gi rfl λa5 R5=>gw.go M (wE R5 hl) λh7 a8 B8 M O8 s8=>fe ?_
 obtain⟨b',l',c',rfl,OS⟩:=oT O8
 have M:=M.cnt (W:=(g1,aB,⟨stL b l c x.Loop.At v1 v2 y⟩) :: (g3,aB,⟨aL⟩) :: B8)
 refine M.sta .here rfl (eG rfl) (by show 0+2≤15;decide) .here λh9 M=>?_
 have M:Mem h h9 ((g1,aB,⟨stL b' l' c' x.Loop.At v1 v2 y⟩) :: (g3,aB,⟨aL⟩) :: B8):=M
 exact M.cM .here rfl (M.dy (.there .here) rfl ZV rfl (.there .here) λgd M=>M.cM (.there .here) rfl ⟨_,B8,rfl,Bd (x:=x) OS O1 O2 hy,M.drop.drop⟩)
theorem aeg{h0:ab}{q:Addr}{F:Fr}{L:List Blk}{r:bc}{i:Nat}{y d:Nat}(P:Pt bo h0 h q F L r)(hr:r.ok=true)(hi:i<1048576)(hy:FW .f32 y d):
  ae ai pY #[.pointer (some q),.int .i64 (i:Int),.float .f32 y] (λu h'=>Pt bo h0 h' q F L ⟨r.af.set (uE r i) (mF .f32 r.af[uE r i]! d),r.At⟩) h:=by
 obtain⟨b,l,c,hb,S⟩:=P.aaN
 obtain⟨k1,k2,k3,k4,k5⟩:=mH hr
 obtain⟨t1,t2,t3⟩:=aa0 hr i
 have hl:=S.len
 refine Ep.call (P.rd.oI (o_l hb (nz (by omega) (o_l hb (o_l hb ?_)))))
 have ht:Int.tmod (i64.wrap (r.At+(i:Int))) (l:Int)=(r.At+(i:Int)) % r.len:=by
  rw[wrap64 (by omega) (by omega),bc.len,hl,Int.tmod_eq_emod_of_nonneg (by omega)]
 rw[ht]
 refine S.idx (by decide) t1 (by omega) λp Rp=>Rp.oF1 λr8 h8=>fA h8 hy λr9 h9=>dS ?_
 obtain⟨a0,F',L',rfl,P',hs,close⟩:=P.Z1 hb (i:=((r.At+(i:Int)) % r.len).toNat) (by omega)
 exact idxs t1 (by omega) (P'.abW h9 λh1 P1=>(close _ _ _ P1).1)
def aoU(h0:ab)(f:Value)(g:Nat->Nat->Nat):Prop:=∀(i r a:Nat) (h:ab),Ext h0 h->i<1048576->FW .f32 r a->oc ai f #[.int .i64 (i:Int),.float .f32 r] (λu h'=>(∃y,u = .float .f32 y∧FW .f32 y (g i a))∧Ext h h') h
theorem aat{cs:Array Value}{x:bP}{f:Value}{g:Nat->Nat->Nat}(R0:aX.rd h cs.toList x)(hr:x.Loop.ok=true)(D:aoU h f g):
  ae ai nW #[.agg cs,f] (λu h'=>gw aX h h' u { x with Loop:=chg g x.Loop x.Loop.af.length }) h:=by
 obtain⟨k1,k2,k3,k4,k5⟩:=mH hr
 refine dG.call ((Mem.start h).alc λg1 h1 x1 M=>M.alc λg3 h2 x2 M=>M.cM (.there .here) (rsz R0 rfl) (gw.go M (Dk (aX.ext M.ext R0) (by omega)) λh7 a8 B8 M O8 s8=>fe ?_))
 have M:=M.cnt (W:=(g1,aB,cs) :: (B8++[(g3,aB,⟨aL⟩)]))
 refine M.dy .here s8 (aX.iH O8) (rsz R0 rfl) .here λh9 M=>?_
 have P:Pt aX h h9 ⟨g1,0,none⟩ ⟨g1,aB,[],[]⟩ [(g3,aB,⟨aL⟩)] x:=Pt.new O8 M
 obtain⟨b,l,c,hb,S⟩:=P.aaN
 have hl:=S.len
 refine o_l hb ?_
 refine loop (λy hh=>∃i:Nat,y=(f,⟨g1,0,none⟩,⟨g3,0,none⟩,(l:Int),(l:Int),(i:Int))∧i≤l∧Pt aX h hh ⟨g1,0,none⟩ ⟨g1,aB,[],[]⟩ [(g3,aB,⟨aL⟩)] { x with Loop:=chg g x.Loop i })
  (λy=>(l-y.2.2.2.2.2).toNat) ⟨0,rfl,by omega,P⟩ ?_
 rintro y hh ⟨i,rfl,hi,P⟩
 unfold dG.B4
 refine brd (λhc=>?_) λhc=>?_
 ·obtain⟨t1,t2,t3⟩:=aa0 hr i
  have ht:Int.tmod (i64.wrap (x.Loop.At+(i:Int))) (l:Int)=(x.Loop.At+(i:Int)) % x.Loop.len:=by
   rw[wrap64 (by omega) (by omega),bc.len,hl,Int.tmod_eq_emod_of_nonneg (by omega)]
  obtain⟨b',l',c',hb',S'⟩:=P.aaN
  have hl':=S'.len
  have hl':x.Loop.af.length=l':=by rw[← hl'];exact (EN g x.Loop i).symm
  refine P.rd.oI (nz (by omega) (o_l hb' (o_l hb' ?_)))
  show bg b' (Int.tmod (i64.wrap ((chg g x.Loop i).At+(i:Int))) (l:Int)) l' _
  rw[Ja,ht]
  refine S'.idx (by decide) t1 (by omega) λp Rp=>Rp.oF1 λG2 oZ=>?_
  refine oc.mono ?_ (D i G2 _ hh P.ext (by omega) oZ)
  rintro _ tz ⟨⟨Ik,rfl,jZ⟩,x19⟩
  refine dv ((P.rd.fst dg |>.fst pw).pin rfl x19 ?_)
  have P:=P.grow x19
  have awN:=AE hb' x19
  obtain⟨a0,F',L',rfl,P',hs,close⟩:=P.Z1 awN (i:=((x.Loop.At+(i:Int)) % x.Loop.len).toNat) (by omega)
  refine idxs t1 (by omega) (P'.abW jZ λrM P1=>⟨⟨i+1,by rw[ag (by omega)],by omega,?_⟩,by rw[ag (by omega)];show _<_;simp;omega⟩)
  have P2:Pt aX h rM ⟨g1,0,none⟩ ⟨g1,aB,[],[]⟩ [(g3,aB,⟨aL⟩)] { x with Loop:=⟨(chg g x.Loop i).af.set (uE x.Loop i) (g i (chg g x.Loop i).af[uE x.Loop i]!),(chg g x.Loop i).At⟩ }:=(close _ _ _ P1).1
  rw[Ja] at P2
  exact P2
 ·obtain rfl:i=l:=by omega
  obtain⟨FQ,B',M',O'⟩:=P.out
  refine M'.cM .here (osz O' rfl) ?_
  have M':=M'.cnt (W:=(g3,aB,⟨aL⟩) :: B')
  rw[hl]
  exact M'.dy .here (osz O' rfl) (aX.iH O') rfl .here λh3 M=>M.cM .here (osz O' rfl) ⟨_,B',rfl,O',M.drop⟩
theorem yr{x:bP}{pl f:Nat}{k:Int}{g:Nat}{hh:ab}{L:List Blk}(M:Mem h hh ((g,aB,⟨aL⟩) :: L))(e:x.kG pl f=(ff,k)):
  STA 15 hh ⟨g,0,none⟩ ⟨aL⟩ λh8=>LDA 15 h8 ⟨g,0,none⟩ λa9=>jG aX h h8 (.tuple ⟨[.agg a9,.int .i64 k]⟩) (x.kG pl f).1 (x.kG pl f).2:=by
 rw[e]
 exact M.dy .here rfl (eG rfl) rfl .here λh3 M=>M.cM .here rfl ⟨_,[],rfl,uG,(Mem.start h).grow M.ext⟩
theorem Qf{x:bP}(h:x.ok=true):x.Loop.ok=true:=by
 unfold bP.ok at h
 simp only[Bool.and_eq_true] at h
 exact h.1.1.1
theorem H2{cs:Array Value}{x:bP}{y z pl f:Nat}(R0:aX.rd h cs.toList x)(hp:FW .f32 y pl)(hf:FW .f32 z f):
  ae ai ld #[.agg cs,.float .f32 y,.float .f32 z] (λu h'=>jG aX h h' u (x.kG pl f).1 (x.kG pl f).2) h:=by
 refine cU.call ((Mem.start h).alc λg1 h1 x1 M=>M.alc λg3 h2 x2 M=>?_)
 have R:RdP aX h2 ⟨g1,0,none⟩ x:=M.rdp (.there .here) (aX.ext M.ext R0)
 refine goM M (Zn R) λh3 M=>bd (brN (λe=>yr M (by rw[bP.kG,e];rfl)) λe1=>?_)
 rw[cY hp fw0,cY hp c1]
 refine br (λk1=>brN (λk2=>yr M (by rw[bP.kG,e1,place,fge,flt,k1,k2];rfl)) λk2=>?_) λk1=>yr M (by rw[bP.kG,e1,place,fge,k1];rfl)
 have e2:place pl=true:=by rw[place,fge,flt,k1,k2];rfl
 refine goM M (kX hf _) λh4 M=>bd (brN (λe=>yr M (by rw[bP.kG,e1,e2,e];rfl)) λe3=>?_)
 have Gz:x.kG pl f=(x.td pl f,0):=by rw[bP.kG,e1,e2,e3];rfl
 rw[Gz]
 have hr:=Qf e1
 obtain⟨k1,k2,k3,k4,k5⟩:=mH hr
 unfold cU.J5
 have R4:RdP aX h4 ⟨g1,0,none⟩ x:=M.rdp (.there .here) (aX.ext M.ext R0)
 refine gw.go M (Ql R4 (by omega)) λh5 c5 B5 M O5 s5=>fe (M.alc λMi h6 x6 M=>M.dy .here s5 (aX.iH O5) rfl .here λh7 M=>?_)
 have P:Pt aX h h7 ⟨Mi,0,none⟩ ⟨Mi,aB,[],[]⟩ [(g3,aB,⟨aL⟩),(g1,aB,cs)] x:=Pt.new O5 M
 have A:∀{hh:ab}{W:bP},Pt aX h hh ⟨Mi,0,none⟩ ⟨Mi,aB,[],[]⟩ [(g3,aB,⟨aL⟩),(g1,aB,cs)] W->RdP aX hh ⟨g1,0,none⟩ x:=λP=>P.mem.rdp (.there .here) (aX.ext P.ext R0)
 refine (A P).oL1 λb l c S=>fM hp (dr .f32 _) λG3 uN=>?_
 have hl:=S.len
 have S:x.Loop.af.length=l:=hl
 refine loop (λw hh=>∃i:Nat,w=(z,⟨g1,0,none⟩,⟨g3,0,none⟩,⟨Mi,0,none⟩,f32.nearest (l:Int),G3,(i:Int))∧i≤l∧Pt aX h hh ⟨Mi,0,none⟩ ⟨Mi,aB,[],[]⟩ [(g3,aB,⟨aL⟩),(g1,aB,cs)] { x with Loop:=chg (oQ (f32.nearest (l:Int)) (fP .f32 pl (f32.nearest (l:Int))) f) x.Loop i })
  (λw=>(l-w.2.2.2.2.2.2).toNat) ⟨0,rfl,by omega,P⟩ ?_
 rintro w hh ⟨i,rfl,hi,P⟩
 unfold cU.B9
 refine (A P).oL1 λb' l' c' S'=>?_
 have hl':x.Loop.af.length=l':=S'.len
 have hll:l'=l:=by omega
 subst hll
 have hri:(chg (oQ (f32.nearest (l':Int)) (fP .f32 pl (f32.nearest (l':Int))) f) x.Loop i).ok=true:=by
  rw[bc.ok,bc.len,Ja,EN];exact hr
 have next:∀{d:Nat},d=JH (f32.nearest (l':Int)) (fP .f32 pl (f32.nearest (l':Int))) f i->i<l'->∀{y9:Nat},FW .f32 y9 d->∀{K:Value->ab->Prop},
   (∀u h',Pt aX h h' ⟨Mi,0,none⟩ ⟨Mi,aB,[],[]⟩ [(g3,aB,⟨aL⟩),(g1,aB,cs)] { x with Loop:=chg (oQ (f32.nearest (l':Int)) (fP .f32 pl (f32.nearest (l':Int))) f) x.Loop (i+1) }->K u h') ->
   ae ai pY #[.pointer (some ⟨Mi,0,none⟩),.int .i64 (i:Int),.float .f32 y9] K hh:=by
  intro d hd Oj y9 hy9 K H
  obtain⟨F',L',P',hs,close⟩:=P.foc dg
  rw[ny] at P'
  refine (aeg P' hri (by omega) hy9).mono λu h' P1=>H u h' ?_
  have P2:=close _ _ _ (by rw[ny];exact P1)
  have et:∀r:bc,r.af.length=x.Loop.af.length->r.At=x.Loop.At->uE r i=uE x.Loop i:=λr h1 h2=>by unfold uE bc.len;rw[h1,h2]
  have e4:=et (chg (oQ (f32.nearest (l':Int)) (fP .f32 pl (f32.nearest (l':Int))) f) x.Loop i) (EN _ _ _) (Ja _ _ _)
  have P2:Pt aX h h' ⟨Mi,0,none⟩ ⟨Mi,aB,[],[]⟩ [(g3,aB,⟨aL⟩),(g1,aB,cs)] { x with Loop:=⟨(chg (oQ (f32.nearest (l':Int)) (fP .f32 pl (f32.nearest (l':Int))) f) x.Loop i).af.set (uE (chg (oQ (f32.nearest (l':Int)) (fP .f32 pl (f32.nearest (l':Int))) f) x.Loop i) i) (mF .f32 (chg (oQ (f32.nearest (l':Int)) (fP .f32 pl (f32.nearest (l':Int))) f) x.Loop i).af[uE (chg (oQ (f32.nearest (l':Int)) (fP .f32 pl (f32.nearest (l':Int))) f) x.Loop i) i]! d),(chg (oQ (f32.nearest (l':Int)) (fP .f32 pl (f32.nearest (l':Int))) f) x.Loop i).At⟩ }:=P2
  rw[e4,Ja,hd] at P2
  exact P2
 have done:∀{h':ab},Pt aX h h' ⟨Mi,0,none⟩ ⟨Mi,aB,[],[]⟩ [(g3,aB,⟨aL⟩),(g1,aB,cs)] { x with Loop:=chg (oQ (f32.nearest (l':Int)) (fP .f32 pl (f32.nearest (l':Int))) f) x.Loop (i+1) }->i<l' ->
   ((∃i':Nat,(z,(⟨g1,0,none⟩:Addr),(⟨g3,0,none⟩:Addr),(⟨Mi,0,none⟩:Addr),f32.nearest (l':Int),G3,i64.wrap ((i:Int)+1))=(z,⟨g1,0,none⟩,⟨g3,0,none⟩,⟨Mi,0,none⟩,f32.nearest (l':Int),G3,(i':Int))∧i'≤l'∧Pt aX h h' ⟨Mi,0,none⟩ ⟨Mi,aB,[],[]⟩ [(g3,aB,⟨aL⟩),(g1,aB,cs)] { x with Loop:=chg (oQ (f32.nearest (l':Int)) (fP .f32 pl (f32.nearest (l':Int))) f) x.Loop i' })∧((l':Int)-i64.wrap ((i:Int)+1)).toNat<((l':Int)-i).toNat):=λP Oj=>
  ⟨⟨i+1,by rw[ag (by omega)],by omega,P⟩,by rw[ag (by omega)];omega⟩
 refine brd (λhc=>?_) λhc=>?_
 ·rw[cY (dr .f32 _) uN]
  refine br (λkk=>fD (dr .f32 _) uN λWe JY=>fM hf JY λr33 Lk=>next (by unfold JH flt;rw[if_pos kk]) (by omega) Lk λu h' P=>done P (by omega)) λkk=>?_
  refine fS (dr .f32 _) (dr .f32 _) λTP Ur=>fS (dr .f32 _) uN λWf CW=>fD Ur CW λZF Jl=>fM hf Jl λr39 DM=>next (by unfold JH flt;rw[kk];rfl) (by omega) DM λu h' P=>done P (by omega)
 ·obtain rfl:i=l':=by omega
  obtain⟨FQ,B',M',O'⟩:=P.out
  refine M'.cM .here (osz O' rfl) ?_
  have M':=M'.cnt (W:=(g3,aB,⟨aL⟩) :: B')
  refine M'.dy .here (osz O' rfl) (aX.iH O') rfl .here λh3 M=>M.cM .here (osz O' rfl) ⟨_,B',rfl,?_,M.drop⟩
  have:x.td pl f={ x with Loop:=chg (oQ (f32.nearest (i:Int)) (fP .f32 pl (f32.nearest (i:Int))) f) x.Loop i }:=by unfold bP.td;rw[S]
  rw[this];exact O'
theorem Ya{g1 g2 g3 n p f r1 r2 r3:Nat}{h0:ab}(hn:RdP (rF .f32) h0 ⟨g3,0,none⟩ n)(hp:RdP (rF .f32) h0 ⟨g1,0,none⟩ p)(hf:RdP (rF .f32) h0 ⟨g2,0,none⟩ f):
  aoU h0 (.func (.func nU) #[] #[.pointer (some ⟨g1,0,none⟩),.pointer (some ⟨g2,0,none⟩),.pointer (some ⟨g3,0,none⟩)]) (oQ n p f):=λi r a h X hi hr=>by
 show ae ai nU #[.int .i64 (i:Int),.float .f32 r,.pointer (some ⟨g1,0,none⟩),.pointer (some ⟨g2,0,none⟩),.pointer (some ⟨g3,0,none⟩)] _ h
 have N:=hn.ext X
 have Q:=hp.ext X
 have R:=hf.ext X
 refine pR.call (Q.oF1 λy1 h1=>?_)
 rw[cY (dr .f32 _) h1]
 refine br (λkk=>R.oF1 λy2 h2=>Q.oF1 λy3 h3=>fD (dr .f32 _) h3 λr4 h4=>fM h2 h4 λr5 h5=>fA hr h5 λr6 h6=>⟨⟨r6,rfl,?_⟩,Ext.refl _⟩) λkk=>?_
 ·unfold oQ JH flt
  rw[if_pos kk];exact h6
 ·refine R.oF1 λy2 h2=>N.oF1 λy3 h3=>fS h3 (dr .f32 _) λr9 h9=>N.oF1 λy4 h4=>Q.oF1 λy5 h5=>fS h4 h5 λwX iG=>fD h9 iG λCu gf=>fM h2 gf λFJ ke=>fA hr ke λuQ kB=>⟨⟨uQ,rfl,?_⟩,Ext.refl _⟩
  unfold oQ JH flt
  rw[kk];exact kB
theorem OF{cs:Array Value}{x:bP}{y z pl f:Nat}(R0:aX.rd h cs.toList x)(hp:FW .f32 y pl)(hf:FW .f32 z f):
  ae ai qJ #[.agg cs,.float .f32 y,.float .f32 z] (λu h'=>jG aX h h' u (x.kG pl f).1 (x.kG pl f).2) h:=by
 refine gO.call ((Mem.start h).alc λg1 h1 x1 M=>M.alc λg3 h2 x2 M=>M.alc λg5 h3 x3 M=>M.cM (.there (.there .here)) (rsz R0 rfl) ?_)
 have fw:∀{y a:Nat},FW .f32 y a->∀{hh:ab},(rF .f32).rd hh [.float .f32 y] a:=λhy _=>⟨_,rfl,hy⟩
 refine goM M (FN (aX.ext M.ext R0)) λh4 M=>bd (brN (λe=>yr M (by rw[bP.kG,e];rfl)) λe1=>?_)
 refine goM M (Qj hp _) λh5 M=>bd (brN (λe=>yr M (by rw[bP.kG,e1,e];rfl)) λe2=>?_)
 have RF:RdP (rF .f32) h5 ⟨g3,0,none⟩ f:=M.rdp (.there .here) (fw hf)
 refine RF.oF1 λzf jn=>goM M (nh jn _) λh6 M=>bd (brN (λe=>yr M (by rw[bP.kG,e1,e2,e];rfl)) λe3=>?_)
 have Gz:x.kG pl f=(x.td pl f,0):=by rw[bP.kG,e1,e2,e3];rfl
 rw[Gz]
 have hr:=Qf e1
 unfold gO.J5
 have R6:RdP aX h6 ⟨g1,0,none⟩ x:=M.rdp (.there (.there .here)) (aX.ext M.ext R0)
 refine R6.oL1 λb l c S=>M.alc λg27 h7 x7 M=>M.st1 .here (by decide) .here λh8 M=>?_
 have hl:x.Loop.af.length=l:=S.len
 have M:Mem h h8 ((g27,au,⟨[.float .f32 (f32.nearest (l:Int))]⟩) :: _):=M
 have RN:RdP (rF .f32) h8 ⟨g27,0,none⟩ (f32.nearest (l:Int)):=M.rdp .here (fw (dr .f32 _))
 refine RN.oF1 λQM GD=>fM hp GD λYj DL=>M.alc λg32 h9 x9 M=>M.st1 .here (by decide) .here λgd M=>?_
 have M:Mem h gd ((g32,au,⟨[.float .f32 Yj]⟩) :: (g27,au,⟨[.float .f32 (f32.nearest (l:Int))]⟩) :: _):=M
 have D:=Ya (r1:=0) (r2:=0) (r3:=0) (M.rdp (.there .here) (fw (dr .f32 (l:Int)))) (M.rdp .here (fw DL)) (M.rdp (.there (.there (.there .here))) (fw hf))
 refine M.cM (.there (.there (.there (.there .here)))) (rsz R0 rfl) (gw.go M (aat (aX.ext M.ext R0) hr D) λkc c11 B11 M O11 s11=>fe ?_)
 have M:=M.cnt (W:=(g5,aB,⟨aL⟩) :: B11)
 refine M.dy .here s11 (aX.iH O11) rfl .here λiG M=>M.cM .here s11 ⟨_,B11,rfl,?_,M.drop⟩
 have:x.td pl f={ x with Loop:=chg (oQ (f32.nearest (l:Int)) (fP .f32 pl (f32.nearest (l:Int))) f) x.Loop x.Loop.af.length }:=by unfold bP.td;rw[hl]
 rw[this];exact O11
end
def jM(a:Nat):Int:=if flt .f32 a 1232348160 then ((zO a:Nat):Int) else 0
def u5(a:Nat):Int:=if fle .f32 a 1232348160 then ((zO a:Nat):Int) else 1000000
theorem Im:f32.format.read 1232348160 = .number false 16000000 (-4):=by decide +kernel
theorem Yc{a c n:Nat}{j:Int}(hp:Pos a)(hc:f32.format.read c = .number false n j)(h:fle .f32 a c=true):∃m e,f32.format.read a = .number false m e:=by
 have hn:=Ii hp
 unfold fle at h
 cases e:f32.format.read a with
 | nan s t=>rw[jt e hc] at h;cases h
 | infinity s=>
  rw[e] at hn
  obtain rfl:s=false:=hn
  rw[jt e hc] at h;cases h
 | number s m i=>
  rw[e] at hn
  obtain rfl:s=false:=hn
  exact ⟨m,i,rfl⟩
theorem Je{a:Nat}(hp:Pos a)(h:fle .f32 a 1232348160=true):∃m e,f32.format.read a = .number false m e∧zO a=whole m e∧whole m e≤1000000:=by
 obtain⟨m,e,hr⟩:=Yc hp Im h
 obtain⟨B,hB⟩:∃B:Nat,1100≤B:=⟨1100,Nat.le_refl _⟩
 have h1:=Zp hB Im hr (λh=>by cases h) h
 have h2:=hU a hr
 refine ⟨m,e,hr,by unfold zO;rw[hr],?_⟩
 rw[Iy (B:=B) (by omega)]
 refine Nat.div_le_of_le_mul ?_
 refine Nat.le_trans h1 ?_
 unfold sv
 rw[show (16000000:Nat)=1000000*2 ^ 4 by rfl,Nat.mul_assoc,← Nat.pow_add,show 4+((-4:Int)+(B:Int)).toNat=B by omega,Nat.mul_comm]
 exact Nat.le_refl _
theorem Z4{k:FloatKind}{a b:Nat}(h:flt k a b=true):fle k a b=true:=by unfold flt at h;unfold fle;rw[h];rfl
theorem LZ{a:Nat}(hp:Pos a):u5 a=jM a∨(inR (u5 a) 1 1024=false∧inR (jM a) 1 1024=false∧inR (u5 a) 2 1024=false∧inR (jM a) 2 1024=false):=by
 unfold u5 jM
 by_cases h1:flt .f32 a 1232348160=true
 ·rw[if_pos h1,if_pos (Z4 h1)];exact .inl rfl
 ·right
  rw[if_neg h1]
  have z:∀n:Int,1024<n->inR n 1 1024=false∧inR n 2 1024=false:=λn hn=>by
   unfold inR
   rw[decide_eq_false (p:=n≤1024) (by omega),Bool.and_false,Bool.and_false];exact ⟨rfl,rfl⟩
  by_cases h2:fle .f32 a 1232348160=true
  ·rw[if_pos h2]
   obtain⟨m,e,hr,hf,hle⟩:=Je hp h2
   obtain⟨B,hB⟩:∃B:Nat,1100≤B:=⟨1100,Nat.le_refl _⟩
   have hge:fge .f32 a 1232348160=true:=by
    unfold fle at h2
    unfold flt at h1
    unfold fge
    rw[Bool.not_eq_true] at h1
    rw[h1,Bool.false_or] at h2
    rw[h2,Bool.or_true]
   rcases Z8 hB Im hge with hi | ⟨s,m',e',hr',hs,hl⟩
   ·rw[hr] at hi;cases hi
   ·rw[hr] at hr'
    obtain⟨rfl,rfl,rfl⟩:false=s∧m=m'∧e=e':=by simpa using hr'
    have h3:=hU a hr
    have:1000000≤whole m e:=by
     rw[Iy (B:=B) (by omega)]
     refine (Nat.le_div_iff_mul_le (Nat.two_pow_pos _)).2 (Nat.le_trans ?_ hl)
     unfold sv
     rw[show (16000000:Nat)=1000000*2 ^ 4 by rfl,Nat.mul_assoc (1000000:Nat),← Nat.pow_add,show 4+((-4:Int)+(B:Int)).toNat=B by omega]
     exact Nat.le_refl _
    rw[hf]
    have:=z ((whole m e:Nat):Int) (by omega)
    exact ⟨this.1,rfl,this.2,rfl⟩
  ·rw[if_neg h2]
   exact ⟨rfl,rfl,rfl,rfl⟩
def qF(p:Int):Int:=if p / 8<1 then 1 else p / 8
def Q0(p:Int)(k l s:Nat):jh:={ bX:=⟨List.replicate (p-qF p).toNat 0,0⟩,aK:=⟨List.replicate (qF p).toNat 0,0⟩,gl:=uP k,fG:=s,fi:=l }
def gU(p:Int)(k l s:Nat):jh×Int:=if inR p 2 1024 then if place k then if inside l 0 1065353216 then if fin s then (Q0 p k l s,0) else (mD,2) else (mD,2) else (mD,2) else (mD,2)
theorem Q7:inside 1040187392 0 1065353216=true:=by decide +kernel
theorem c8:FW .f32 1040187392 1040187392:=fK (by decide) (by decide)
theorem afC:f32.format.read 1040187392 = .number false (2 ^ 23) (-26):=by decide +kernel
theorem ale{p:Nat}(h1:1≤p)(h2:p<2 ^ 24):f32.format.mul (f32.nearest (p:Int)) 1040187392=some (f32.format.nearest false p (-3))∧f32.format.mul 1040187392 (f32.nearest (p:Int))=some (f32.format.nearest false p (-3)) ∧
  ∃m e,f32.format.read (f32.format.nearest false p (-3)) = .number false m e∧whole m e=p / 8:=by
 have hl:p.log2≤23:=by
  have:=(Nat.log2_lt (n:=p) (by omega) (k:=24)).2 h2
  omega
 have rp:=JJ false (m:=p) (p:=0) (by omega) h2 (by decide) (by decide)
 rw[← rE] at rp
 refine ⟨?_,?_,_,_,JJ false (m:=p) (p:=-3) (by omega) h2 (by decide) (by decide),?_⟩
 ·rw[F0 (by rw[rp,afC,rG])]
  exact congrArg some (vc _ _ (23-p.log2+23) (by rw[Nat.pow_add,Nat.mul_assoc]) (by omega))
 ·rw[F0 (by rw[rp,afC,rG])]
  exact congrArg some (vc _ _ (23-p.log2+23) (by rw[Nat.pow_add,Nat.mul_comm,Nat.mul_assoc]) (by omega))
 ·unfold whole
  rw[show ((-3:Int)+(p.log2:Int)-23).toNat=0 by omega,Nat.shiftLeft_zero,show (-((-3:Int)+(p.log2:Int)-23)).toNat=3+(23-p.log2) by omega,Nat.pow_add,Nat.mul_comm p,Nat.mul_comm (2 ^ 3),Nat.mul_div_mul_left _ _ (Nat.two_pow_pos _)]
theorem LK{p:Int}(h:inR p 2 1024=true):2≤p∧p≤1024∧1≤qF p∧qF p≤p-1:=by
 simp only[inR,Bool.and_eq_true,decide_eq_true_eq] at h
 unfold qF
 refine ⟨h.1,h.2,?_,?_⟩ <;> split <;> omega
theorem Sb{x:jh}{B1 B2:List Blk}{b1 b2:Option Addr}{l1 c1 l2 c2:Nat}{v:List Value}{y z:Nat}(O1:SlO au (rF .f32) B1 b1 l1 c1 x.bX.af)(O2:SlO au (rF .f32) B2 b2 l2 c2 x.aK.af)(hv:bQ.ow [] v x.gl)(hy:FW .f32 y x.fG)(hz:FW .f32 z x.fi):
  fQ.ow (B1++B2) ([.slice b1 l1 c1,.int .i64 x.bX.At]++([.slice b2 l2 c2,.int .i64 x.aK.At]++(v++[.float .f32 y,.float .f32 z]))) x:=
 ⟨B1,B2,[.slice b1 l1 c1,.int .i64 x.bX.At],_,rfl,rfl,Cx O1,B2,[],[.slice b2 l2 c2,.int .i64 x.aK.At],_,by simp,rfl,Cx O2,[],[],v,_,rfl,rfl,hv,[],[],[.float .f32 y],[.float .f32 z],rfl,rfl,⟨rfl,y,rfl,hy⟩,⟨rfl,z,rfl,hz⟩⟩
theorem ar1{ts:Array TypeId}{t:TypeId}{cs:Array Bool}{n m:Int}{K:Value->ab->Prop}{h:ab}(H:K (.int .i64 (if m > n then m else n)) h):lK ai (builtin .max ts t cs #[.int .i64 n,.int .i64 m]) K h:=
 AZ λw hw=>⟨_,w,rfl,jH.refl _,by rw[hw];exact H⟩
theorem ar2{ts:Array TypeId}{t:TypeId}{cs:Array Bool}{n m:Int}{K:Value->ab->Prop}{h:ab}(H:K (.int .i64 (if m<n then m else n)) h):lK ai (builtin .min ts t cs #[.int .i64 n,.int .i64 m]) K h:=
 AZ λw hw=>⟨_,w,rfl,jH.refl _,by rw[hw];exact H⟩
section
variable {h:ab}{x a:Nat}
theorem Qc(hx:FW .f32 x a)(hp:Pos a):Ret ai si #[.float .f32 x] (.int .i64 (jM a)):=λh=>by
 refine wS.call ?_
 unfold wS.S
 rw[cY hx (show FW .f32 1232348160 1232348160 from cR)]
 refine brN (λe=>⟨by unfold jM flt;rw[e];rfl,Ext.refl _⟩) λe=>?_
 have vR:flt .f32 a 1232348160=true:=e
 obtain⟨m,e',hr,hf,hle⟩:=Je hp (Z4 vR)
 obtain⟨B,hB⟩:∃B:Nat,1100≤B:=⟨1100,Nat.le_refl _⟩
 obtain⟨_,_,hw,_⟩:=xr hB hr
 have ae5:wid a=wide a:=nR hw
 have hnw:nan .f64 (wide a)=false:=by unfold Sx.nan;rw[hw];rfl
 refine cK hx λr1 h1=>?_
 rw[ae5] at h1
 have e1:=h1.eq hnw
 subst e1
 refine goX (EJ hnw h) λh2 x2=>dv ?_
 refine Ul (z:=((whole m e':Nat):Int)) (by rw[HI hr,JP false (by omega),fZ,Nat.pow_zero,Nat.mul_one]) (by omega) (by omega) ⟨?_,x2⟩
 unfold jM
 rw[vR,if_pos rfl,hf]
theorem Mv(hx:FW .f32 x a)(hp:Pos a):Ret ai eA #[.float .f32 x] (.int .i64 (u5 a)):=λh=>by
 refine uU.call ?_
 unfold uU.S
 rw[cY hx (show FW .f32 1232348160 1232348160 from cR)]
 refine brN (λe=>⟨by unfold u5 fle;rw[e];rfl,Ext.refl _⟩) λe=>?_
 have hle:fle .f32 a 1232348160=true:=e
 obtain⟨m,e',hr,hf,aDL⟩:=Je hp hle
 have hna:nan .f32 a=false:=by unfold Sx.nan;rw[hr];rfl
 have hxa:=hx.eq hna
 subst hxa
 refine Ul (Ln hr) (by omega) (by omega) ⟨?_,Ext.refl _⟩
 unfold u5
 rw[hle,if_pos rfl,hf]
end
set_option maxHeartbeats 2000000
section
variable {h:ab}{x a:Nat}
theorem zu{p:Int}{k l s:Nat}{n:Int}{g:Nat}{hh:ab}{L:List Blk}(M:Mem h hh ((g,dc,⟨cH⟩) :: L))(e:gU p k l s=(mD,n)):
  STA 12 hh ⟨g,0,none⟩ ⟨cH⟩ λh8=>LDA 12 h8 ⟨g,0,none⟩ λa9=>jG fQ h h8 (.tuple ⟨[.agg a9,.int .i64 n]⟩) (gU p k l s).1 (gU p k l s).2:=by
 rw[e]
 exact M.dy .here rfl (eG rfl) rfl .here λh3 M=>M.cM .here rfl ⟨_,[],rfl,Lu,(Mem.start h).grow M.ext⟩
theorem we{n:Nat}{F:Nat->ab->Prop}{h0 hh:ab}{L:List Blk}(M:Mem h0 hh L)(hn:n≤1024)(H:∀g h' B,Ext hh h'->Mem h0 h' (B++L)->SlO au (rF .f32) B (some ⟨g,0,none⟩) n n (List.replicate n 0)->F g h'):MKS fh au (n:Int) (n:Int) F hh:=
 wV (r:=rF .f32) (z:=0) (zc:=[.float .f32 0]) ⟨rfl,0,rfl,fw0⟩ rfl rfl (by decide) M (by show 4*n≤2 ^ 48;omega) (Nat.le_trans hn (by decide)) λg h' x M O=>H g h' _ x M O
theorem U6{p:Int}(h:inR p 2 1024=true):∃N:Nat,(N:Int)=p / 8∧N≤128∧f32.format.mul (f32.nearest p) 1040187392=f32.format.mul 1040187392 (f32.nearest p) ∧
  ∀{r:Nat},IsF .f32 (f32.format.mul 1040187392 (f32.nearest p)) r->∀{r2:Nat},Oz .f32 r .f64 r2->nan .f64 r2=false∧(f64.decode (flr r2)).toInt .zero=some (N:Int):=by
 obtain⟨p1,p2,_,_⟩:=LK h
 obtain⟨P,rfl⟩:∃P:Nat,p=(P:Int):=⟨p.toNat,by omega⟩
 obtain⟨e1,e2,m,e,hr,hw⟩:=ale (p:=P) (by omega) (by omega)
 refine ⟨P / 8,by omega,by omega,by rw[e1,e2],?_⟩
 intro r hr1 r2 TM
 rw[e2] at hr1
 have hre:r=f32.format.nearest false P (-3):=hr1
 subst hre
 obtain⟨B,hB⟩:∃B:Nat,1100≤B:=⟨1100,Nat.le_refl _⟩
 obtain⟨_,_,hwd,_⟩:=xr hB hr
 have ae5:wid (f32.format.nearest false P (-3))=wide (f32.format.nearest false P (-3)):=nR hwd
 have hnw:nan .f64 (wide (f32.format.nearest false P (-3)))=false:=by unfold Sx.nan;rw[hwd];rfl
 have h2:r2=wide (f32.format.nearest false P (-3)):=by
  have:FW .f64 r2 (wid (f32.format.nearest false P (-3))):=cK (F:=λr=>FW .f64 r (wid (f32.format.nearest false P (-3)))) (Zv hr) (λ_ h=>h) r2 TM
  rw[ae5] at this
  exact this.eq hnw
 subst h2
 refine ⟨hnw,?_⟩
 rw[HI hr,hw,JP false (by omega),fZ,Nat.pow_zero,Nat.mul_one]
theorem aef(a b:Int):Ret ai zK #[.int .i64 a,.int .i64 b] (.int .i64 (if a<b then a else b)):=λh=>
 Em.call (brd (λk=>⟨by rw[if_pos k],Ext.refl _⟩) λk=>⟨by rw[if_neg k],Ext.refl _⟩)
theorem aee(a b:Int):Ret ai zJ #[.int .i64 a,.int .i64 b] (.int .i64 (if b<a then a else b)):=λh=>
 El.call (brd (λk=>⟨by rw[if_pos k],Ext.refl _⟩) λk=>⟨by rw[if_neg k],Ext.refl _⟩)
theorem PM{p:Int}{k l s k' l' s':Nat}(hk:FW .f32 k k')(hl:FW .f32 l l')(hs:FW .f32 s s'):ae ai pX #[.int .i64 p,.float .f32 1040187392,.float .f32 k,.float .f32 l,.float .f32 s] (λu h'=>jG fQ h h' u (gU p k' l' s').1 (gU p k' l' s').2) h:=by
 refine kY.call ((Mem.start h).alc λg1 h1 x1 M=>goM M (mg _ _ _ _) λh2 M=>bd (brN (λe=>zu M (by rw[gU,e];rfl)) λe1=>?_))
 have i8:=Q7
 unfold inside fge fle at i8
 rw[Bool.and_eq_true] at i8
 rw[i8.1,i8.2,cY hk fw0,cY hk c1,cY hl fw0,cY hl c1]
 refine BB rfl (dp rfl ?_)
 refine br (λk1=>brN (λk2=>zu M (by rw[gU,e1,place,fge,flt,k1,k2];rfl)) λk2=>?_) λk1=>zu M (by rw[gU,e1,place,fge,k1];rfl)
 have e2:place k'=true:=by rw[place,fge,flt,k1,k2];rfl
 refine br (λk3=>brN (λk4=>zu M (by rw[gU,e1,e2,inside,fge,fle,k3,k4];rfl)) λk4=>?_) λk3=>zu M (by rw[gU,e1,e2,inside,fge,k3];rfl)
 have e3:inside l' 0 1065353216=true:=by rw[inside,fge,fle,k3,k4];rfl
 refine goM M (kX hs _) λh3 M=>bd (brN (λe=>zu M (by rw[gU,e1,e2,e3,e];rfl)) λe4=>?_)
 have Gz:gU p k' l' s'=(Q0 p k' l' s',0):=by rw[gU,e1,e2,e3,e4];rfl
 rw[Gz]
 obtain⟨p1,p2,b1,b2⟩:=LK e1
 obtain⟨N,hN,hN2,ajO,ae6⟩:=U6 e1
 unfold kY.J3
 intro QL oJ Yi wO
 obtain⟨XV,i26⟩:=ae6 oJ wO
 refine goM M (EJ XV _) λh4 M=>dv (Ul i26 (by omega) (by omega) ?_)
 rw[wrap64 (n:=p-1) (by omega) (by omega)]
 have fin:∀{hh:ab}{B1 B2:List Blk}{g1' g2':Addr}{n1 n2:Nat}{vd:List Value},n1=(p-qF p).toNat->n2=(qF p).toNat->Mem h hh ((g1,dc,⟨cH⟩) :: (B1++B2))->SlO au (rF .f32) B1 (some g1') n1 n1 (List.replicate n1 0)->SlO au (rF .f32) B2 (some g2') n2 n2 (List.replicate n2 0)->bQ.ow [] vd (uP k') ->
   STA 12 hh ⟨g1,0,none⟩ ⟨[.slice (some g1') n1 n1,.int .i64 (0:Int)]++([.slice (some g2') n2 n2,.int .i64 (0:Int)]++(vd++[.float .f32 s,.float .f32 l]))⟩ λwQ=>LDA 12 wQ ⟨g1,0,none⟩ λRQ=>jG fQ h wQ (.tuple ⟨[.agg RQ,.int .i64 (0:Int)]⟩) (Q0 p k' l' s') 0:=λen1 en2 M O1 O2 hv=>by
  subst en1 en2
  have O:=Sb (x:=Q0 p k' l' s') O1 O2 hv hs hl
  exact M.dy .here (fQ.kF O) (fQ.iH O) rfl .here λwQ M=>M.cM .here (fQ.kF O) ⟨_,_,rfl,O,M.drop⟩
 refine goM M (aef _ _ _) λh5 M=>cX (goM M (aee _ _ _) λh6 M=>cX ?_)
 have hm:(if (if p-1<(N:Int) then p-1 else (N:Int))<1 then 1 else (if p-1<(N:Int) then p-1 else (N:Int)))=qF p:=by
  unfold qF
  rw[hN]
  repeat' split
  all_goals omega
 rw[hm,wrap64 (n:=p-qF p) (by omega) (by omega)]
 obtain⟨nb,hnb⟩:∃nb:Nat,(nb:Int)=qF p:=⟨(qF p).toNat,by omega⟩
 obtain⟨na,hna⟩:∃na:Nat,(na:Int)=p-qF p:=⟨(p-qF p).toNat,by omega⟩
 rw[← hna,← hnb]
 have f1:na=(p-qF p).toNat:=by omega
 have f2:nb=(qF p).toNat:=by omega
 have C:∀{hh:ab},ae ai iN #[.float .f32 k] (λu h'=>FlR u (uP k')∧Ext hh h') hh:=Ej hk
 refine ⟨?_,?_,?_⟩
 ·refine we M (by omega) λg7 h7 B7 x7 M O7=>⟨?_,?_⟩
  ·refine we M (by omega) λg8 h8 B8 x8 M O8=>C.mono ?_
   rintro _ h9 ⟨⟨kk,yy,zz,rfl,O9⟩,x9⟩
   exact fe (siz rfl (siz rfl (siz rfl (fin f1 f2 ((M.grow x9).cnt (λp=>by simp only[bO,bz,cg] at *;omega)) O7 O8 O9))))
  ·refine C.mono ?_
   rintro _ h9 ⟨⟨kk,yy,zz,rfl,O9⟩,x9⟩
   refine fe (we (M.grow x9) (by omega) λg8 h8 B8 x8 M O8=>?_)
   exact siz rfl (siz rfl (siz rfl (fin f1 f2 (M.cnt (λp=>by simp only[bO,bz,cg] at *;omega)) O7 O8 O9)))
 ·refine we M (by omega) λg8 h8 B8 x8 M O8=>⟨?_,?_⟩
  ·refine we M (by omega) λg7 h7 B7 x7 M O7=>C.mono ?_
   rintro _ h9 ⟨⟨kk,yy,zz,rfl,O9⟩,x9⟩
   exact fe (siz rfl (siz rfl (siz rfl (fin f1 f2 ((M.grow x9).cnt (λp=>by simp only[bO,bz,cg] at *;omega)) O7 O8 O9))))
  ·refine C.mono ?_
   rintro _ h9 ⟨⟨kk,yy,zz,rfl,O9⟩,x9⟩
   refine fe (we (M.grow x9) (by omega) λg7 h7 B7 x7 M O7=>?_)
   exact siz rfl (siz rfl (siz rfl (fin f1 f2 (M.cnt (λp=>by simp only[bO,bz,cg] at *;omega)) O7 O8 O9)))
 ·refine C.mono ?_
  rintro _ h9 ⟨⟨kk,yy,zz,rfl,O9⟩,x9⟩
  have M:=M.grow x9
  refine fe ⟨?_,?_⟩
  ·refine we M (by omega) λg7 h7 B7 x7 M O7=>we M (by omega) λg8 h8 B8 x8 M O8=>?_
   exact siz rfl (siz rfl (siz rfl (fin f1 f2 (M.cnt (λp=>by simp only[bO,bz,cg] at *;omega)) O7 O8 O9)))
  ·refine we M (by omega) λg8 h8 B8 x8 M O8=>we M (by omega) λg7 h7 B7 x7 M O7=>?_
   exact siz rfl (siz rfl (siz rfl (fin f1 f2 (M.cnt (λp=>by simp only[bO,bz,cg] at *;omega)) O7 O8 O9)))
theorem Ia{n:Nat}{h0 hh:ab}{L:List Blk}{K:Value->ab->Prop}(M:Mem h0 hh L)(h1:1≤n)(h2:n≤1024)(H:∀h' B b l c,Ext hh h'->Mem h0 h' (B++L)->SlO au (rF .f32) B b l c (List.replicate n 0)->K (.tuple ⟨[.agg ⟨[.slice b l c,.int .i64 (0:Int)]⟩,.int .i64 (0:Int)]⟩) h'):ae ai jX #[.int .i64 (n:Int)] K hh:=by
 refine (PU _ _).mono ?_
 rintro _ h' ⟨cR,BR,rfl,OR,N⟩
 have K6:inR (n:Int) 1 1024=true:=by rw[inR,decide_eq_true (by omega),decide_eq_true (by omega)];rfl
 rw[K6] at OR ⊢
 obtain⟨b,l',c',rfl,OS⟩:=oT OR
 exact H h' BR b l' c' N.ext (M.join N) OS
theorem acN{p:Int}{k l s k' l' s':Nat}(hk:FW .f32 k k')(hl:FW .f32 l l')(hs:FW .f32 s s'):ae ai zx #[.int .i64 p,.float .f32 1040187392,.float .f32 k,.float .f32 l,.float .f32 s] (λu h'=>jG fQ h h' u (gU p k' l' s').1 (gU p k' l' s').2) h:=by
 refine kW.call ((Mem.start h).alc λg1 h1 x1 M=>goM M (kJ _ _ _ _) λh2 M=>bd (brN (λe=>zu M (by rw[gU,e];rfl)) λe1=>?_))
 refine goM M (lS c8 fw0 c1 _) λh3 M=>bd (brN (λe=>by rw[Q7] at e;cases e) λ_=>?_)
 refine goM M (HR hk _) λh4 M=>bd (brN (λe=>zu M (by rw[gU,e1,e];rfl)) λe2=>?_)
 refine goM M (lS hl fw0 c1 _) λh5 M=>bd (brN (λe=>zu M (by rw[gU,e1,e2,e];rfl)) λe3=>?_)
 refine goM M (nh hs _) λh6 M=>bd (brN (λe=>zu M (by rw[gU,e1,e2,e3,e];rfl)) λe4=>?_)
 have Gz:gU p k' l' s'=(Q0 p k' l' s',0):=by rw[gU,e1,e2,e3,e4];rfl
 rw[Gz]
 obtain⟨p1,p2,b1,b2⟩:=LK e1
 obtain⟨N,hN,hN2,ajO,ae6⟩:=U6 e1
 unfold kW.J3
 rw[ajO]
 intro QL oJ Yi wO
 obtain⟨XV,i26⟩:=ae6 oJ wO
 refine goM M (EJ XV _) λh7 M=>dv (Ul i26 (by omega) (by omega) (ar1 (cX (ar2 (cX ?_)))))
 have hm:(if i64.wrap (p-1)<(if (1:Int) > (N:Int) then 1 else (N:Int)) then i64.wrap (p-1) else (if (1:Int) > (N:Int) then 1 else (N:Int)))=qF p:=by
  rw[wrap64 (n:=p-1) (by omega) (by omega)]
  unfold qF
  rw[hN]
  repeat' split
  all_goals omega
 rw[hm,wrap64 (n:=p-qF p) (by omega) (by omega)]
 obtain⟨nb,hnb⟩:∃nb:Nat,(nb:Int)=qF p:=⟨(qF p).toNat,by omega⟩
 obtain⟨na,hna⟩:∃na:Nat,(na:Int)=p-qF p:=⟨(p-qF p).toNat,by omega⟩
 rw[← hna,← hnb]
 refine Ia M (by omega) (by omega) λh8 B8 q8 l8 c8' x8 M O8=>nq (fe (cX (M.alc λg46 h9 x9 M=>M.dy .here rfl (eG rfl) rfl .here λgd M=>?_)))
 refine Ia M (by omega) (by omega) λkc B11 wi l11 c11 x11 M O11=>nq (fe (cX (M.alc λZ7 iG x12 M=>M.dy .here rfl (eG rfl) rfl .here λgf M=>?_)))
 have M:=M.cnt (W:=(Z7,aq,⟨[.slice wi l11 c11,.int .i64 (0:Int)]⟩) :: (g46,aq,⟨[.slice q8 l8 c8',.int .i64 (0:Int)]⟩) :: (g1,dc,⟨cH⟩) :: (B8++B11))
 refine M.cM (.there .here) rfl (M.cM .here rfl ((PV hk).mono ?_))
 rintro _ ke ⟨⟨kk,yy,zz,rfl,O9⟩,x14⟩
 have P:RdP bo gf ⟨Z7,0,none⟩ ⟨List.replicate nb 0,0⟩:=M.rdp .here (bo.look (Cx (r:=⟨List.replicate nb 0,0⟩) O11) (M.cnt (W:=B11)) (List.Sublist.refl _))
 have Q:RdP bo gf ⟨g46,0,none⟩ ⟨List.replicate na 0,0⟩:=M.rdp (.there .here) (bo.look (Cx (r:=⟨List.replicate na 0,0⟩) O8) (M.cnt (W:=B8)) (List.Sublist.refl _))
 refine fe (P.pin rfl x14 (Q.pin rfl x14 (siz rfl (siz rfl (siz rfl ?_)))))
 have f1:na=(p-qF p).toNat:=by omega
 have f2:nb=(qF p).toNat:=by omega
 subst f1 f2
 have O:=Sb (x:=Q0 p k' l' s') O8 O11 O9 hs hl
 have M:=(M.grow x14).cnt (W:=(g1,dc,⟨cH⟩) :: (B8++B11))
 exact M.dy .here (fQ.kF O) (fQ.iH O) rfl .here λwQ M=>M.cM .here (fQ.kF O) ⟨_,_,rfl,O,M.drop⟩
end
end Go.Sx
