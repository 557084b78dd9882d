/- Lemmas. -/
import Derived.Test.YthhepeklpgefkaaGreatDoorLk35
import Derived.Test.YthhepeklpgefkaaGreatDoorLk56
import Derived.Test.YthhepeklpgefkaaGreatDoorLk43
import Derived.Test.YthhepeklpgefkaaGreatDoorTab
set_option linter.unusedVariables false
set_option linter.unusedSimpArgs false
namespace Go.Sx
open Go.Proofs Ieee
set_option maxRecDepth 100000
set_option maxHeartbeats 4000000
def Oy(h h':ab)(u:Value)(o:Option aJ):Prop:=∃(cs:Array Value) (B:List Blk) (v:aJ),u = .tuple ⟨[.agg cs,.bool o.isSome]⟩∧az.ow B cs.toList v∧Mem h h' B∧∀w,o=some w->v=w
theorem afP{h0 h:ab}{L:List Blk}{g:Nat}{n:Int}(M:Mem h0 h L)(l:iR L g ⟨[.int .i64 n]⟩):SlR (rI .i64) h (some ⟨g,0,none⟩) 1 1 [n]:=
 ⟨rfl,Nat.le_refl _,by decide,[.int .i64 n],λi hi=>by
  have h0:i=0:=by simpa using hi
  subst h0
  exact ⟨⟨g,0,none⟩,rfl,by rw[ny,M.cell l];rfl⟩,⟨[.int .i64 n],[],rfl,rfl,rfl⟩⟩
theorem anY{h:ab}{g:Nat}:SlR (rF .f32) h (some ⟨g,0,none⟩) 0 0 []:=⟨rfl,Nat.le_refl _,Nat.zero_le _,[],λi hi=>by simp at hi,rfl⟩
section
variable {h:ab}{x a:Nat}
theorem Sn{h0 hh:ab}{g1 g6:Nat}{L:List Blk}{v:aJ}{o:Option aJ}(P:Pt az h0 hh ⟨g6,0,none⟩ ⟨g6,ao,[],[]⟩ ((g1,ao,⟨aW⟩) :: L) v){b:Bool}(hb:b=o.isSome)(hv:∀w,o=some w->v=w):
  LDA 45 hh ⟨g6,0,none⟩ λa=>STA 45 hh ⟨g1,0,none⟩ a λh1=>LDA 45 h1 ⟨g1,0,none⟩ λa'=>Oy h0 h1 (.tuple ⟨[.agg a',.bool b]⟩) o:=by
 obtain⟨FQ,B',M',O'⟩:=P.out
 refine M'.cM .here (osz O' rfl) ?_
 have M':=M'.cnt (W:=(g1,ao,⟨aW⟩) :: B')
 refine M'.dy .here (osz O' rfl) (az.iH O') rfl .here λh3 M=>M.cM .here (osz O' rfl) ⟨_,B',v,by rw[hb],O',M.drop,hv⟩
theorem adt{h0 hh:ab}{g1:Nat}{L:List Blk}{o:Option aJ}(M:Mem h0 hh ((g1,ao,⟨aW⟩) :: L))(ho:o=none):
  STA 45 hh ⟨g1,0,none⟩ ⟨aW⟩ λh1=>LDA 45 h1 ⟨g1,0,none⟩ λa=>Oy h0 h1 (.tuple ⟨[.agg a,.bool false]⟩) o:=by
 subst ho
 exact M.dy .here rfl (eG rfl) rfl .here λh3 M=>M.cM .here rfl ⟨_,[],tp,rfl,rL,(Mem.start h0).grow M.ext,λw e=>by cases e⟩
theorem PN{p q:Addr}{s:cA}{e:bf}(Rs:RdP da h p s)(Re:RdP bD h q e)(hs:s.ok=true)(hi:0≤e.ar∧e.ar<s.aI.length):
  ae ai zM #[.pointer (some p),.pointer (some q)] (λu h'=>Oy h h' u (iE s e)) h:=by
 refine aZ.call ((Mem.start h).alc λg1 h1 x1 M=>?_)
 have A:∀{hh:ab},Ext h hh->RdP da hh p s:=λe=>Rs.ext e
 have E:∀{hh:ab},Ext h hh->RdP bD hh q e:=λe=>Re.ext e
 refine (E M.ext).oI ((E M.ext).oI ((E M.ext).oI1 (M.alc λg6 h2 x2 M2=>(E M.ext).Da (by decide) x2 ((E M.ext).jQ (by decide) x2 ((E M.ext).jQ (by decide) x2 ?_)))))
 refine M2.dy .here rfl (eG rfl) rfl .here λh3 M=>?_
 have M:Mem h h3 [(g6,ao,⟨vcC e.aT e.ar e.At⟩),(g1,ao,⟨aW⟩)]:=M
 refine (A M.ext).oL λb l c S=>(E M.ext).oI (S.idx (by decide) hi.1 (by rw[← S.len];exact hi.2) λpa Ra=>Ra.gi rfl λc12 R12=>M.alc λBQ h4 x4 M4=>?_)
 refine Ra.pin rfl x4 ((E M.ext).jQ (by decide) x4 ((A M.ext).jQ (by decide) x4 ?_))
 refine M4.dy .here (rsz R12 rfl) (aM.rQ R12) rfl .here λh5 M=>?_
 have hx:∃ins,ins=s.aI[e.ar.toNat]!:=⟨_,rfl⟩
 obtain⟨ins,hx⟩:=hx
 rw[← hx] at R12
 have O12:=qy _ _ _ R12
 have I:∀{hh:ab}{L:List Blk},Mem h hh L->iR L BQ c12->RdP aM hh ⟨BQ,0,none⟩ ins:=λM l=>M.rdp l (aM.look O12 M (List.nil_sublist _))
 refine (A M.ext).lda fl rfl λc16 R16=>(E M.ext).oI ((A M.ext).oF1 λzf jn=>ahk (H0 R16 jn) λh6 F9 x6 mZ=>nq (dv (cX ?_)))
 have M:=M.grow x6
 have y0:s.er.Di<2 ^ 32:=by
  obtain⟨v1,r1,_,⟨y,rfl,hy⟩,_⟩:=R16
  exact hy.lt
 have Jn:=λhz=>Nf (key:=e.Key) y0 jn.lt hz
 have hvo:∀{o:Option aJ},o=iE s e->iE s e=o:=λh=>h.symm
 unfold iE
 rw[← hx]
 dsimp only
 refine br (λk=>?_) λk=>?_
 ·have k:¬(s.er.period e.Key s.yI).2=0:=by simpa using k
  exact adt (M.cnt (W:=(g1,ao,⟨aW⟩) :: [])) (by rw[if_neg k])
 have k:(s.er.period e.Key s.yI).2=0:=by simpa using k
 have Jn:=Jn k
 rw[if_pos k]
 generalize (s.er.period e.Key s.yI).1=F7 at *
 have IM:=I M .here
 refine IM.oI2 ?_
 have J12:∀{hh:ab}{gp:Nat}{B X:List Blk}{cs:Array Value}{y:bP}{two:Int}{o:Option aJ},aX.ow B cs.toList y->Mem h hh ((gp,aB,cs) :: (g6,ao,⟨vcC e.aT e.ar e.At⟩) :: (g1,ao,⟨aW⟩) :: (B++X))->(two==0)=o.isSome->(∀w,o=some w->{ tv e with String:=y }=w) ->
   aZ.J12 (λu h'=>Oy h h' u o) ⟨g1,0,none⟩ ⟨g6,0,none⟩ ⟨gp,0,none⟩ two hh:=λ{hh gp B X cs y two o} O M hb hv=>by
  unfold aZ.J12
  refine M.cM .here (osz O rfl) ?_
  have M:=M.cnt (W:=(g6,ao,⟨vcC e.aT e.ar e.At⟩) :: ([]++(B++((g1,ao,⟨aW⟩) :: X))))
  have P:Pt az h hh ⟨g6,0,none⟩ ⟨g6,ao,[],[]⟩ (B++((g1,ao,⟨aW⟩) :: X)) (tv e):=Pt.new (Hx e) M
  exact P.sts bu rfl O λh1 P=>Sn P hb hv
 have J19:∀{hh:ab}{gp:Nat}{B X:List Blk}{cs:Array Value}{y:cF}{two:Int}{o:Option aJ},ck.ow B cs.toList y->Mem h hh ((gp,av,cs) :: (g6,ao,⟨vcC e.aT e.ar e.At⟩) :: (g1,ao,⟨aW⟩) :: (B++X))->(two==0)=o.isSome->(∀w,o=some w->{ tv e with aP:=y,ja:=e.iK }=w) ->
   aZ.J19 (λu h'=>Oy h h' u o) q ⟨g1,0,none⟩ ⟨g6,0,none⟩ ⟨gp,0,none⟩ two hh:=λ{hh gp B X cs y two o} O M hb hv=>by
  unfold aZ.J19
  refine M.cM .here (osz O rfl) ?_
  have M:=M.cnt (W:=(g6,ao,⟨vcC e.aT e.ar e.At⟩) :: ([]++(B++((g1,ao,⟨aW⟩) :: X))))
  have P:Pt az h hh ⟨g6,0,none⟩ ⟨g6,ao,[],[]⟩ (B++((g1,ao,⟨aW⟩) :: X)) (tv e):=Pt.new (Hx e) M
  exact P.sts bV rfl O λh1 P=>(E P.ext).oF λr hr=>P.stF hr λh2 P=>Sn P hb hv
 have J23:∀{hh:ab}{gp:Nat}{B X:List Blk}{cs:Array Value}{y:jh}{two:Int}{o:Option aJ},fQ.ow B cs.toList y->Mem h hh ((gp,dc,cs) :: (g6,ao,⟨vcC e.aT e.ar e.At⟩) :: (g1,ao,⟨aW⟩) :: (B++X))->(two==0)=o.isSome->(∀w,o=some w->{ tv e with cz:=y,ja:=e.iK }=w) ->
   aZ.J23 (λu h'=>Oy h h' u o) q ⟨g1,0,none⟩ ⟨g6,0,none⟩ ⟨gp,0,none⟩ two hh:=λ{hh gp B X cs y two o} O M hb hv=>by
  unfold aZ.J23
  refine M.cM .here (osz O rfl) ?_
  have M:=M.cnt (W:=(g6,ao,⟨vcC e.aT e.ar e.At⟩) :: ([]++(B++((g1,ao,⟨aW⟩) :: X))))
  have P:Pt az h hh ⟨g6,0,none⟩ ⟨g6,ao,[],[]⟩ (B++((g1,ao,⟨aW⟩) :: X)) (tv e):=Pt.new (Hx e) M
  exact P.sts cm rfl O λh1 P=>(E P.ext).oF λr hr=>P.stF hr λh2 P=>Sn P hb hv
 refine br (λk1=>?_) λk1=>?_
 ·rw[if_pos (show ins.Kind=1 by simpa using k1)]
  refine IM.oF2 λG3 uN=>IM.oF2 λKk ry=>jG.go M (JM mZ uN ry) λh7 c7 B7 M O7 s7=>nq (fe (cX (M.alc λg36 h8 x8 M=>M.dy .here s7 (aX.iH O7) rfl .here λh9 M=>?_)))
  refine br (λk2=>?_) λk2=>?_
  ·exact adt (M.cnt (W:=(g1,ao,⟨aW⟩) :: [])) (by rw[if_neg (by simpa using k2)])
  have k2:(cT F7 ins.A ins.B).2=0:=by simpa using k2
  rw[if_pos k2]
  have I9:=I M (.there (iR.skip .here))
  have R7:aX.rd h9 c7.toList (cT F7 ins.A ins.B).1:=aX.look O7 (M.cnt (W:=B7)) (List.Sublist.refl _)
  refine M.cM .here s7 (I9.oF2 λr42 KT=>(E M.ext).oF λr43 GF=>?_)
  have Q:RdP aX h9 ⟨g36,0,none⟩ (cT F7 ins.A ins.B).1:=M.rdp .here R7
  have PS:∀{hh:ab},Ext h9 hh->ae ai ld #[.agg c7,.float .f32 r42,.float .f32 r43] (λu h'=>jG aX hh h' u ((cT F7 ins.A ins.B).1.kG ins.C e.iK).1 ((cT F7 ins.A ins.B).1.kG ins.C e.iK).2) hh:=λx=>H2 (aX.ext x R7) KT GF
  have last:∀{hh:ab}{gp:Nat}{cs:Array Value}{B:List Blk},aX.ow B cs.toList ((cT F7 ins.A ins.B).1.kG ins.C e.iK).1->Mem h9 hh ((gp,aB,⟨aL⟩) :: B) ->
    STA 15 hh ⟨gp,0,none⟩ cs λh52=>aZ.J12 (λu h'=>Oy h h' u (if ((cT F7 ins.A ins.B).1.kG ins.C e.iK).2=0 then some { tv e with String:=((cT F7 ins.A ins.B).1.kG ins.C e.iK).1 } else none)) ⟨g1,0,none⟩ ⟨g6,0,none⟩ ⟨gp,0,none⟩ ((cT F7 ins.A ins.B).1.kG ins.C e.iK).2 h52:=λ{hh gp cs B} O N=>by
   have M:=(M.join N).cnt (W:=(gp,aB,⟨aL⟩) :: (g6,ao,⟨vcC e.aT e.ar e.At⟩) :: (g1,ao,⟨aW⟩) :: (B++[]))
   refine M.dy .here (osz O rfl) (aX.iH O) rfl .here λh52 M=>J12 O M ?_ ?_
   ·by_cases k3:((cT F7 ins.A ins.B).1.kG ins.C e.iK).2=0
    ·rw[if_pos k3,k3];rfl
    ·rw[if_neg k3];simpa using k3
   ·intro w hw
    by_cases k3:((cT F7 ins.A ins.B).1.kG ins.C e.iK).2=0
    ·rw[if_pos k3] at hw;exact Option.some.inj hw
    ·rw[if_neg k3] at hw;cases hw
  have E9:=E M.ext
  clear J12 J19 J23
  refine ⟨?_,?_⟩
  ·refine jG.go (Mem.start h9) (PS (Ext.refl _)) λgd c10 B10 N O10 s10=>nq (fe (cX (N.alc λg50 kc x11 N=>E9.jQ (by decide) N.ext (I9.Cs (by decide) N.ext (Q.pin rfl N.ext ?_)))))
   exact last O10 (N.cnt (λp=>by simp only[List.append_eq,bO,bz,cg] at *;omega))
  ·refine (Mem.start h9).alc λg53 gd x10 N=>E9.jQ (by decide) N.ext (I9.Cs (by decide) N.ext (Q.pin rfl N.ext ?_))
   refine jG.go N (PS N.ext) λkc c11 B11 N O11 s11=>nq (fe (cX ?_))
   exact last O11 (N.cnt (λp=>by simp only[bO,bz,cg] at *;omega))
 have k1':¬ins.Kind=1:=by simpa using k1
 rw[if_neg k1']
 refine br (λk2=>?_) λk2=>?_
 ·rw[if_pos (show ins.Kind=2 by simpa using k2)]
  clear J12 J23
  have ap:Pos (fdiv .f32 F7 (by2 ins.C)):=Tg Jn (adi _)
  have ak1:∀by',FW .f32 by' (by2 ins.C)->aZ.J18 (λu h'=>Oy h h' u (if (gh (jM (fdiv .f32 F7 (by2 ins.C))) (feq .f32 ins.C 1065353216) ins.A ins.B).2=0 then some { tv e with aP:=(gh (jM (fdiv .f32 F7 (by2 ins.C))) (feq .f32 ins.C 1065353216) ins.A ins.B).1,ja:=e.iK } else none)) q ⟨g1,0,none⟩ ⟨g6,0,none⟩ ⟨BQ,0,none⟩ F9 by' h6:=by
   intro by' hby
   unfold aZ.J18
   refine IM.oF λwj WQ=>IM.oF λuv Sp=>IM.oF λwk adz=>?_
   rw[cY WQ c1]
   have key:∀{hh:ab}{gA:Nat}{B:List Blk}{cs:Array Value},ck.ow B cs.toList (gh (u5 (fdiv .f32 F7 (by2 ins.C))) (feq .f32 ins.C 1065353216) ins.A ins.B).1->Mem h6 hh ((gA,av,⟨aH⟩) :: B) ->
     STA 13 hh ⟨gA,0,none⟩ cs λh'=>aZ.J19 (λu h'=>Oy h h' u (if (gh (jM (fdiv .f32 F7 (by2 ins.C))) (feq .f32 ins.C 1065353216) ins.A ins.B).2=0 then some { tv e with aP:=(gh (jM (fdiv .f32 F7 (by2 ins.C))) (feq .f32 ins.C 1065353216) ins.A ins.B).1,ja:=e.iK } else none)) q ⟨g1,0,none⟩ ⟨g6,0,none⟩ ⟨gA,0,none⟩ (gh (u5 (fdiv .f32 F7 (by2 ins.C))) (feq .f32 ins.C 1065353216) ins.A ins.B).2 h':=λ{hh gA B cs} O N=>by
    rw[abG ap] at O ⊢
    have M:=(M.join N).cnt (W:=(gA,av,⟨aH⟩) :: (g6,ao,⟨vcC e.aT e.ar e.At⟩) :: (g1,ao,⟨aW⟩) :: (B++[]))
    refine M.dy .here (osz O rfl) (ck.iH O) rfl .here λh52 M=>J19 O M ?_ ?_
    ·by_cases k3:(gh (jM (fdiv .f32 F7 (by2 ins.C))) (feq .f32 ins.C 1065353216) ins.A ins.B).2=0
     ·rw[if_pos k3,k3];rfl
     ·rw[if_neg k3];simpa using k3
    ·intro w hw
     by_cases k3:(gh (jM (fdiv .f32 F7 (by2 ins.C))) (feq .f32 ins.C 1065353216) ins.A ins.B).2=0
     ·rw[if_pos k3] at hw;exact Option.some.inj hw
     ·rw[if_neg k3] at hw;cases hw
   have N0:=Mem.start h6
   clear J19 M A E S Ra R12 R16 I hvo O12
   (repeat' (first
    | refine RdP.jQ IM (by decide) (Mem.ext (by assumption)) ?_
    | refine fD mZ hby λ_ _=>?_
    | refine goM (by assumption) (Mv (by assumption) ap _) λ_ _=>?_
    | refine cX ?_
    | refine nq ?_
    | refine fe ?_
    | refine jG.go (by assumption) (NI (afP (by assumption) (by repeat (first | exact iR.here | apply iR.there | apply iR.skip))) anY Sp adz) λ_ _ _ _ _ _=>?_
    | refine Mem.alc (by assumption) λ_ _ _ _=>?_
    | exact key (by assumption) (Mem.cnt (by assumption) (λp=>by simp only[List.append_eq,bO,bz,cg] at *;omega))
    | refine And.intro ?_ ?_))
  refine IM.oF2 λr62 h62=>?_
  rw[cY h62 c1]
  exact br (λk3=>ak1 _ (by unfold by2 feq;rw[if_pos k3];exact c2)) λk3=>ak1 _ (by unfold by2 feq;rw[k3];exact fK (by decide) (by decide))
 ·rw[if_neg (show ¬ins.Kind=2 by simpa using k2)]
  clear J12 J19
  refine IM.oF2 λr63 Pe=>IM.oF2 λr64 h64=>IM.oF2 λr65 h65=>?_
  have key:∀{hh:ab}{gA:Nat}{B:List Blk}{cs:Array Value},fQ.ow B cs.toList (gU (u5 F7) ins.A ins.B ins.C).1->Mem h6 hh ((gA,dc,⟨cH⟩) :: B) ->
    STA 12 hh ⟨gA,0,none⟩ cs λh'=>aZ.J23 (λu h'=>Oy h h' u (if (gU (jM F7) ins.A ins.B ins.C).2=0 then some { tv e with cz:=(gU (jM F7) ins.A ins.B ins.C).1,ja:=e.iK } else none)) q ⟨g1,0,none⟩ ⟨g6,0,none⟩ ⟨gA,0,none⟩ (gU (u5 F7) ins.A ins.B ins.C).2 h':=λ{hh gA B cs} O N=>by
   rw[adh Jn] at O ⊢
   have M:=(M.join N).cnt (W:=(gA,dc,⟨cH⟩) :: (g6,ao,⟨vcC e.aT e.ar e.At⟩) :: (g1,ao,⟨aW⟩) :: (B++[]))
   refine M.dy .here (osz O rfl) (fQ.iH O) rfl .here λh52 M=>J23 O M ?_ ?_
   ·by_cases k3:(gU (jM F7) ins.A ins.B ins.C).2=0
    ·rw[if_pos k3,k3];rfl
    ·rw[if_neg k3];simpa using k3
   ·intro w hw
    by_cases k3:(gU (jM F7) ins.A ins.B ins.C).2=0
    ·rw[if_pos k3] at hw;exact Option.some.inj hw
    ·rw[if_neg k3] at hw;cases hw
  have N0:=Mem.start h6
  clear J23 M A E S Ra R12 R16 I hvo O12
  (repeat' (first
   | refine RdP.Cs IM (by decide) (Mem.ext (by assumption)) ?_
   | refine goM (by assumption) (Mv mZ Jn _) λ_ _=>?_
   | refine cX ?_
   | refine nq ?_
   | refine fe ?_
   | refine jG.go (by assumption) (PM Pe h64 h65) λ_ _ _ _ _ _=>?_
   | refine Mem.alc (by assumption) λ_ _ _ _=>?_
   | exact key (by assumption) (Mem.cnt (by assumption) (λp=>by simp only[List.append_eq,bO,bz,cg] at *;omega))
   | refine And.intro ?_ ?_))
end
section
variable {h:ab}{x a:Nat}
theorem aja{h:ab}:SlR (rF .f32) h none 0 0 []:=⟨rfl,Nat.le_refl _,Nat.zero_le _,[],λi hi=>by simp at hi,rfl⟩
abbrev WO(o:Option aJ):aJ:=o.getD tp
abbrev ads(o:Option aJ):Int:=if o.isSome then 0 else 2
theorem xh{hh:ab}{g5 g10:Nat}{X:List Blk}{v:aJ}{o:Option aJ}{code:Int}(P:Pt az h hh ⟨g10,0,none⟩ ⟨g10,ao,[],[]⟩ ((g5,ao,⟨aW⟩) :: X) v)(h1:code=0->o=some v)(h2:code≠0->o=none):
  de.J19 (λu h'=>jG az h h' u (WO o) (ads o)) ⟨g5,0,none⟩ ⟨g10,0,none⟩ code hh:=by
 unfold de.J19
 refine br (λk=>?_) λk=>?_
 ·have ho:=h2 (by simpa using k)
  subst ho
  have M:=P.mem
  exact M.dy .here rfl (eG rfl) rfl .here λh3 M=>M.cM .here rfl ⟨_,[],rfl,rL,(Mem.start h).grow M.ext⟩
 ·have ho:=h1 (by simpa using k)
  subst ho
  obtain⟨FQ,B',M',O'⟩:=P.out
  refine M'.cM .here (osz O' rfl) ?_
  have M':=M'.cnt (W:=(g5,ao,⟨aW⟩) :: B')
  exact M'.dy .here (osz O' rfl) (az.iH O') rfl .here λh3 M=>M.cM .here (osz O' rfl) ⟨_,B',rfl,O',M.drop⟩
theorem YH{cs ce:Array Value}{s:cA}{e:bf}(R0:da.rd h cs.toList s)(E0:bD.rd h ce.toList e)(hs:s.ok=true)(hi:0≤e.ar∧e.ar<s.aI.length):
  ae ai nB #[.agg cs,.agg ce] (λu h'=>jG az h h' u (WO (iE s e)) (ads (iE s e))) h:=by
 refine de.call ((Mem.start h).alc λg1 h1 x1 M=>M.alc λg3 h2 x2 M=>M.alc λg5 h3 x3 M=>?_)
 have A:∀{hh:ab}{L:List Blk},Mem h hh L->iR L g1 cs->RdP da hh ⟨g1,0,none⟩ s:=λM l=>M.rdp l (da.ext M.ext R0)
 have E:∀{hh:ab}{L:List Blk},Mem h hh L->iR L g3 ce->RdP bD hh ⟨g3,0,none⟩ e:=λM l=>M.rdp l (bD.ext M.ext E0)
 have E3:=E M (.there .here)
 refine E3.oI2 (E3.oI2 (E3.oI2 (M.alc λg10 h4 x4 M=>M.dy .here rfl (eG rfl) rfl .here λh5 M=>?_)))
 have M:Mem h h5 [(g10,ao,⟨vcC e.aT e.ar e.At⟩),(g5,ao,⟨aW⟩),(g3,bq,ce),(g1,bt,cs)]:=M
 refine (A M (.there (.there (.there .here)))).oL2 λb l c S=>(E M (.there (.there .here))).oI2 (S.idx (by decide) hi.1 (by rw[← S.len];exact hi.2) λpa Ra=>Ra.gi rfl λc12 R12=>M.alc λDK h6 x6 M=>M.dy .here (rsz R12 rfl) (aM.rQ R12) rfl .here λh7 M=>?_)
 have hx:∃ins,ins=s.aI[e.ar.toNat]!:=⟨_,rfl⟩
 obtain⟨ins,hx⟩:=hx
 rw[← hx] at R12
 have O12:=qy _ _ _ R12
 have I:∀{hh:ab}{L:List Blk},Mem h hh L->iR L DK c12->RdP aM hh ⟨DK,0,none⟩ ins:=λM l=>M.rdp l (aM.look O12 M (List.nil_sublist _))
 have A7:=A M (.there (.there (.there (.there .here))))
 refine A7.fc fl rfl λc16 R16=>(E M (.there (.there (.there .here)))).oI2 (A7.oF2 λzf jn=>ahk (OB R16 jn) λh8 F9 x8 mZ=>nq (dv (cX ?_)))
 have M:=M.grow x8
 have y0:s.er.Di<2 ^ 32:=by
  obtain⟨v1,r1,_,⟨y,rfl,hy⟩,_⟩:=R16
  exact hy.lt
 have Jn:=λhz=>Nf (key:=e.Key) y0 jn.lt hz
 unfold iE
 rw[← hx]
 dsimp only
 refine br (λk=>?_) λk=>?_
 ·have k:¬(s.er.period e.Key s.yI).2=0:=by simpa using k
  rw[if_neg k]
  have M:=M.cnt (W:=[(g5,ao,⟨aW⟩)])
  exact M.dy .here rfl (eG rfl) rfl .here λh3 M=>M.cM .here rfl ⟨_,[],rfl,rL,(Mem.start h).grow M.ext⟩
 have k:(s.er.period e.Key s.yI).2=0:=by simpa using k
 have Jn:=Jn k
 rw[if_pos k]
 generalize (s.er.period e.Key s.yI).1=F7 at *
 have IM:=I M .here
 refine IM.oI2 ?_
 have Mr:Mem h h8 ((g10,ao,⟨vcC e.aT e.ar e.At⟩) :: ([]++[(g5,ao,⟨aW⟩),(DK,bk,c12),(g3,bq,ce),(g1,bt,cs)])):=M.cnt (λp=>by simp only[bO,bz,cg] at *;omega)
 refine br (λk1=>?_) λk1=>?_
 ·rw[if_pos (show ins.Kind=1 by simpa using k1)]
  refine IM.oF2 λG3 uN=>IM.oF2 λKk ry=>jG.go M (TS mZ uN ry) λh9 c9 B9 M O9 s9=>nq (fe (cX ?_))
  have P:Pt az h h9 ⟨g10,0,none⟩ ⟨g10,ao,[],[]⟩ (B9++[(g5,ao,⟨aW⟩),(DK,bk,c12),(g3,bq,ce)]) (tv e):=Pt.new (Hx e) (M.cnt (W:=(g10,ao,⟨vcC e.aT e.ar e.At⟩) :: ([]++(B9++[(g5,ao,⟨aW⟩),(DK,bk,c12),(g3,bq,ce)]))))
  refine P.Eu bu rfl O9 λgd P=>br (λk2=>?_) λk2=>?_
  ·have k2:(cT F7 ins.A ins.B).2=0:=by simpa using k2
   rw[if_pos k2]
   refine P.rd.fc bu rfl λc11 R11=>(I P.mem (.there .here)).oF2 λr42 KT=>(E P.mem (.there (.there .here))).oF2 λr43 GF=>?_
   refine (OF R11 KT GF).mono ?_
   rintro _ iG ⟨apj,B12,rfl,acO,N⟩
   have P:=P.join N
   refine nq (fe (cX (P.Eu bu rfl acO λgf P=>xh P ?_ ?_)))
   ·intro k3;rw[if_pos k3]
   ·intro k3;rw[if_neg k3]
  ·have k2:¬(cT F7 ins.A ins.B).2=0:=by simpa using k2
   rw[if_neg k2]
   exact xh P (λk3=>absurd k3 k2) λ_=>rfl
 have k1':¬ins.Kind=1:=by simpa using k1
 rw[if_neg k1']
 have P:Pt az h h8 ⟨g10,0,none⟩ ⟨g10,ao,[],[]⟩ [(g5,ao,⟨aW⟩),(DK,bk,c12),(g3,bq,ce),(g1,bt,cs)] (tv e):=Pt.new (Hx e) Mr
 refine br (λk2=>?_) λk2=>?_
 ·rw[if_pos (show ins.Kind=2 by simpa using k2)]
  have ap:Pos (fdiv .f32 F7 (by2 ins.C)):=Tg Jn (adi _)
  have ak0:∀by',FW .f32 by' (by2 ins.C)->de.J17 (λu h'=>jG az h h' u (WO (if (gh (jM (fdiv .f32 F7 (by2 ins.C))) (feq .f32 ins.C 1065353216) ins.A ins.B).2=0 then some { tv e with aP:=(gh (jM (fdiv .f32 F7 (by2 ins.C))) (feq .f32 ins.C 1065353216) ins.A ins.B).1,ja:=e.iK } else none)) (ads (if (gh (jM (fdiv .f32 F7 (by2 ins.C))) (feq .f32 ins.C 1065353216) ins.A ins.B).2=0 then some { tv e with aP:=(gh (jM (fdiv .f32 F7 (by2 ins.C))) (feq .f32 ins.C 1065353216) ins.A ins.B).1,ja:=e.iK } else none))) ⟨g3,0,none⟩ ⟨g5,0,none⟩ ⟨g10,0,none⟩ ⟨DK,0,none⟩ F9 (feq .f32 ins.C 1065353216) by' h8:=by
   intro by' hby
   unfold de.J17
   refine (E P.mem (.there (.there .here))).oF λr72 h72=>P.stF h72 λh9 P=>?_
   have I9:=I P.mem (.there .here)
   refine I9.oF λr74 X7=>I9.oF λr75 h75=>fD mZ hby λr76 KU=>dS (dS ?_)
   refine goX (Qc KU ap _) λgd x10=>cX (I9.jQ (by decide) x10 (I9.jQ (by decide) x10 ((Mem.start gd).alc λg80 kc x11 N=>I9.jQ (by decide) (x10.trans x11) (I9.jQ (by decide) (x10.trans x11) ?_))))
   refine (aac (afP N .here) aja X7 h75).mono ?_
   rintro _ iG ⟨apj,B12,rfl,acO,N12⟩
   have P:=(P.grow (x10.trans x11)).join N12
   refine nq (fe (cX (P.sts bV rfl acO λgf P=>xh P ?_ ?_)))
   ·intro k3;rw[if_pos k3]
   ·intro k3;rw[if_neg k3]
  refine IM.oF2 λZG Za=>?_
  rw[cY Za c1]
  exact br (λk3=>ak0 _ (by unfold by2 feq;rw[if_pos k3];exact c2)) λk3=>ak0 _ (by unfold by2 feq;rw[k3];exact fK (by decide) (by decide))
 ·rw[if_neg (show ¬ins.Kind=2 by simpa using k2)]
  refine (E P.mem (.there (.there .here))).oF2 λr52 h52=>P.H7 h52 λh9 P=>?_
  have I9:=I P.mem (.there .here)
  refine I9.oF2 λr54 Us=>I9.oF2 λr55 h55=>I9.oF2 λr56 JZ=>goX (Qc mZ Jn _) λgd x10=>cX (I9.Cs (by decide) x10 (I9.Cs (by decide) x10 (I9.Cs (by decide) x10 ?_)))
  refine (acN Us h55 JZ).mono ?_
  rintro _ iG ⟨apj,B12,rfl,acO,N12⟩
  have P:=(P.grow x10).join N12
  refine nq (fe (cX (P.Eu cm rfl acO λgf P=>xh P ?_ ?_)))
  ·intro k3;rw[if_pos k3]
  ·intro k3;rw[if_neg k3]
end
theorem VF{es:List bf}{ni:Int}(G:mh es ni){e:bf}(hs:fL e=true)(hm:e ∈ es):ln es e.aT=some e:=by
 unfold ln
 cases hf:es.find? λx=>fL x&&x.aT==e.aT with
 | none=>
  have:=List.find?_eq_none.1 hf e hm
  exact absurd (by rw[hs];simp) this
 | some x=>
  have hx:=List.mem_of_find?_eq_some hf
  have hp:=List.find?_some hf
  simp only[Bool.and_eq_true,beq_iff_eq] at hp
  obtain⟨i,hi,rfl⟩:=List.mem_iff_getElem.1 hx
  obtain⟨j,hj,rfl⟩:=List.mem_iff_getElem.1 hm
  have:=G.st1 i j hi hj (by rw[getElem!_pos es i hi];exact hp.1) (by rw[getElem!_pos es j hj];exact hs) (by rw[getElem!_pos es i hi,getElem!_pos es j hj];exact hp.2)
  subst this
  rfl
theorem abZ{es:List bf}{n:Int}{e:bf}(h:ln es n=some e):e ∈ es∧fL e=true∧e.aT=n:=by
 have hx:=List.mem_of_find?_eq_some h
 have hp:=List.find?_some h
 simp only[Bool.and_eq_true,beq_iff_eq] at hp
 exact ⟨hx,hp.1,hp.2⟩
end Go.Sx
namespace Go.Sx
open Go.Proofs
set_option maxRecDepth 100000
set_option maxHeartbeats 2000000
def nT(vs:List aJ):Nat->Nat
 | 0=>0
 | i+1=>if vs[i]!.lq<vs[nT vs i]!.lq then i else nT vs i
def C6(v:aJ):Bool:=v.aT == -1
def placeOf(vs:List aJ):Nat:=if ko C6 vs = -1 then nT vs vs.length else (ko C6 vs).toNat
theorem EP{vs:List aJ}(h:1≤vs.length):∀i,i≤vs.length->nT vs i<vs.length
 | 0,_=>h
 | i+1,hi=>by
  unfold nT
  split
  ·omega
  ·exact EP h i (by omega)
theorem Nj{vs:List aJ}(h:1≤vs.length):placeOf vs<vs.length:=by
 unfold placeOf
 split
 ·exact EP h _ (Nat.le_refl _)
 ·next hf=>
  rcases oG C6 vs with ⟨e,_⟩ | ⟨n,hn,e,_⟩
  ·exact absurd e hf
  ·rw[e];exact hn
def cA.kind(s:cA)(v:aJ):Int:=s.aI[v.ar.toNat]!.Kind
def tx(s:cA)(v:aJ):aJ:=if s.kind v=1 then { v with Gone:=true,ja:=0,String:={ v.String with fi:=fP .f32 v.String.fi half } } else { v with Gone:=true,ja:=0 }
def k9(s:cA)(n:Int)(v:aJ):aJ:=if v.aT=n then tx s v else v
def ay.vQ(p:ay)(e:bf):ay:=
 if e.Kind=2 then match iE p.Score e with | some v=>{ p with al:=p.al.set (placeOf p.al) v } | none=>{ p with eF:=p.eF+1 }
 else { p with al:=p.al.map (k9 p.Score e.aT) }
structure acL (p:ay) (e:bf):Prop where
 s:p.Score.ok=true
 n1:1≤p.al.length
 st:e.Kind=2->0≤e.ar∧e.ar<p.Score.aI.length
 sk:0≤p.eF∧p.eF≤1000
 ins:∀i,i<p.al.length->p.al[i]!.aT=e.aT->0≤p.al[i]!.ar∧p.al[i]!.ar<p.Score.aI.length
 one:∀i j,i<j->j<p.al.length->p.al[i]!.aT=e.aT->¬p.al[j]!.aT=e.aT
def Ou(h:ab)(q e1:Addr)(n:Nat):Prop:=∃a5 l5 c5,cell h (q.add 5)=some (.slice (some a5) l5 c5)∧e1=a5.add (n*6)∧n<l5
section
variable {h0 h:ab}{q e1:Addr}{F:Fr}{L:List Blk}{p:ay}{n:Nat}
theorem Ou.axl{h':ab}(E:Ou h q e1 n)(hk:∀k,cell h' (q.add k)=cell h (q.add k)):Ou h' q e1 n:=by
 obtain⟨a5,l5,c5,e,r⟩:=E
 exact ⟨a5,l5,c5,by rw[hk];exact e,r⟩
theorem Ou.rd(P:Pt aR h0 h q F L p)(E:Ou h q e1 n):RdP bD h e1 p.Score.aU[n]!:=by
 obtain⟨a5,l5,c5,e,rfl,hn⟩:=E
 have S:=P.slr (off:=5) e
 obtain⟨a,ha,R⟩:=S.elem (i:=n) hn (by decide)
 cases ha
 exact R
theorem Xn{b:Option Addr}{l c:Nat}{vs:List aJ}(S:SlR az h b l c vs)(h1:1≤vs.length):ae ai vL #[.slice b l c] (λu h'=>u = .int .i64 (placeOf vs:Int)∧Ext h h') h:=by
 have hl:=S.len
 have s1:=S.2.1
 have s2:=S.2.2.1
 have:=bW
 refine im.call (loop (λy hh=>∃i:Nat,y=(b,l,c,(nT vs i:Int),(i:Int))∧i≤l∧hh=h∧∀j,j<i->C6 vs[j]! = false) (λy=>(l-y.2.2.2.2).toNat) ⟨0,rfl,by omega,rfl,λj hj=>by omega⟩ ?_)
 rintro y hh ⟨i,rfl,hi,rfl,hf⟩
 have hel:=EP h1 i (by omega)
 refine brd (λhc=>?_) λhc=>⟨?_,Ext.refl _⟩
 ·refine S.idn (by decide) (by omega) λa Ra=>Ra.oI1 (br (λk=>⟨?_,Ext.refl _⟩) λk=>?_)
  ·unfold placeOf
   rw[pv (n:=i) (by omega) hf k,if_neg (by omega)]
   rfl
  have next:(nT vs (i+1):Int)=(if vs[i]!.lq<vs[nT vs i]!.lq then (i:Int) else (nT vs i:Int)):=by
   show ((if vs[i]!.lq<vs[nT vs i]!.lq then i else nT vs i:Nat):Int)=_
   split <;> rfl
  have hf':∀j,j<i+1->C6 vs[j]! = false:=λj hj=>by
   by_cases e:j=i
   ·subst e;exact k
   ·exact hf j (by omega)
  refine S.idn (by decide) (by omega) λa Ra=>Ra.oI (S.idn (by decide) (by omega) λa' Rb=>Rb.oI (brd (λhb=>⟨⟨i+1,?_,by omega,rfl,hf'⟩,?_⟩) λhb=>⟨⟨i+1,?_,by omega,rfl,hf'⟩,?_⟩))
  ·rw[next,if_pos hb,ag (by omega)]
  ·rw[ag (by omega)];show _<_;simp;omega
  ·rw[next,if_neg hb,ag (by omega)]
  ·rw[ag (by omega)];show _<_;simp;omega
 ·obtain rfl:i=l:=by omega
  unfold placeOf
  rw[pr λj hj=>hf j (by omega),if_pos rfl,hl]
theorem ahd(h0:ab):Dp ai az h0 (.func (.func iB) #[] #[]) C6:=λcs v hx xx R=>by
 show ae ai iB #[.agg cs] _ hx
 exact HQ R
theorem aiN(R:RdP aR h q p)(h1:1≤p.al.length):ae ai nY #[.pointer (some q)] (λu h'=>u = .int .i64 (placeOf p.al:Int)∧Ext h h') h:=by
 have:=bW
 refine dX.call (R.oL λb l c S=>goX (yQ S (ahd h)) λh2 x2=>cX ?_)
 rcases oG C6 p.al with ⟨e,hf⟩ | ⟨m,hm,e,_⟩
 ·have hp:placeOf p.al=nT p.al p.al.length:=by unfold placeOf;rw[e,if_pos rfl]
  rw[e]
  refine brd (λk=>by omega) λ_=>(R.ext x2).oL λb l c S=>?_
  have hl:=S.len
  have s1:=S.2.1
  have s2:=S.2.2.1
  refine loop (λy hh=>∃i:Nat,y=(q,(nT p.al i:Int),b,l,c,(l:Int),(i:Int))∧i≤l∧Ext h2 hh) (λy=>(l-y.2.2.2.2.2.2).toNat) ⟨0,rfl,by omega,Ext.refl _⟩ ?_
  rintro y hh ⟨i,rfl,hi,X⟩
  have hel:=EP h1 i (by omega)
  refine brd (λhc=>?_) λhc=>⟨?_,x2.trans X⟩
  ·have next:(nT p.al (i+1):Int)=(if p.al[i]!.lq<p.al[nT p.al i]!.lq then (i:Int) else (nT p.al i:Int)):=by
    show ((if p.al[i]!.lq<p.al[nT p.al i]!.lq then i else nT p.al i:Nat):Int)=_
    split <;> rfl
   refine (S.ext X).idn (by decide) (by omega) λa Ra=>Ra.gi rfl λcs Rc=>(Mem.start hh).alc λg h3 x3 N=>N.dy .here (rsz Rc rfl) (az.rQ Rc) rfl .here λh4 N=>?_
   have Rv:RdP az h4 ⟨g,0,none⟩ p.al[i]!:=N.rdp .here (az.ext N.ext Rc)
   refine Rv.oI2 ((R.ext (x2.trans (X.trans N.ext))).oL λb4 l4 c4 S4=>?_)
   have e4:=S4.len
   have X4:=X.trans N.ext
   refine S4.idn (by decide) (by omega) λa' Rb=>Rb.oI (brd (λhb=>⟨⟨i+1,?_,by omega,X4⟩,?_⟩) λhb=>⟨⟨i+1,?_,by omega,X4⟩,?_⟩)
   ·rw[next,if_pos hb,ag (by omega)]
   ·rw[ag (by omega)];show _<_;simp;omega
   ·rw[next,if_neg hb,ag (by omega)]
   ·rw[ag (by omega)];show _<_;simp;omega
  ·obtain rfl:i=l:=by omega
   rw[hp,hl]
 ·rw[e]
  have hp:placeOf p.al=m:=by unfold placeOf;rw[e,if_neg (by omega)];rfl
  exact brd (λk=>⟨by rw[hp],x2⟩) λk=>by omega
end
end Go.Sx
