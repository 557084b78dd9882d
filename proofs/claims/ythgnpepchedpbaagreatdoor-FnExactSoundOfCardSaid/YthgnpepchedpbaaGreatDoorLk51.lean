/- Lemmas. -/
import Derived.Test.YthgnpepchedpbaaGreatDoorLk50
import Derived.Test.YthgnpepchedpbaaGreatDoorLk35
import Derived.Test.YthgnpepchedpbaaGreatDoorLk17
import Derived.Test.YthgnpepchedpbaaGreatDoorLk29
import Derived.Test.YthgnpepchedpbaaGreatDoorTab
import Derived.Test.YthgnpepchedpbaaGreatDoorLk54
set_option linter.unusedVariables false
set_option linter.unusedSimpArgs false
namespace Go.Sx
open Go.Proofs Ieee
set_option maxRecDepth 100000
set_option maxHeartbeats 4000000
def I0(h h':ab)(u:Value)(o:Option aK):Prop:=∃(cs:Array Value) (B:List Blk) (v:aK),u = .tuple ⟨[.agg cs,.bool o.isSome]⟩∧aQ.ow B cs.toList v∧Mem h h' B∧∀w,o=some w->v=w
theorem Zf{h0 h:ab}{L:List Blk}{g:Nat}{n:Int}(M:Mem h0 h L)(l:gi L g ⟨[.int .i64 n]⟩):SlR (rI .i64) h (some ⟨g,0,none⟩) 1 1 [n]:=
 ⟨rfl,Nat.le_refl _,by decide,[.int .i64 n],λi hi=>by
  have h0:i=0:=by simpa using hi
  subst h0
  exact⟨⟨g,0,none⟩,rfl,by rw[kW,M.cell l];rfl⟩,⟨[.int .i64 n],[],rfl,rfl,rfl⟩⟩
theorem agV{h:ab}{g:Nat}:SlR (rF .f32) h (some ⟨g,0,none⟩) 0 0 []:=⟨rfl,Nat.le_refl _,Nat.zero_le _,[],λi hi=>by simp at hi,rfl⟩
section
variable {h:ab}{x a:Nat}
theorem L9{h0 hh:ab}{g1 g6:Nat}{L:List Blk}{v:aK}{o:Option aK}(P:Pt aQ h0 hh ⟨g6,0,none⟩ ⟨g6,122,[],[]⟩ ((g1,122,⟨bg⟩) :: L) v){b:Bool}(hb:b=o.isSome)(hv:∀w,o=some w->v=w):
  LDA 45 hh ⟨g6,0,none⟩ λa=>STA 45 hh ⟨g1,0,none⟩ a λh1=>LDA 45 h1 ⟨g1,0,none⟩ λa'=>I0 h0 h1 (.tuple ⟨[.agg a',.bool b]⟩) o:=by
 obtain⟨BP,B',M',O'⟩:=P.out
 refine M'.df .here (osz O' rfl) ?_
 have M':=M'.cnt (W:=(g1,122,⟨bg⟩) :: B')
 refine M'.dH .here (osz O' rfl) (aQ.jy O') rfl .here λh3 M=>M.df .here (osz O' rfl) ⟨_,B',v,by rw[hb],O',M.drop,hv⟩
theorem WL{h0 hh:ab}{g1:Nat}{L:List Blk}{o:Option aK}(M:Mem h0 hh ((g1,122,⟨bg⟩) :: L))(ho:o=none):
  STA 45 hh ⟨g1,0,none⟩ ⟨bg⟩ λh1=>LDA 45 h1 ⟨g1,0,none⟩ λa=>I0 h0 h1 (.tuple ⟨[.agg a,.bool false]⟩) o:=by
 subst ho
 exact M.dH .here rfl (dI rfl) rfl .here λh3 M=>M.df .here rfl ⟨_,[],CW,rfl,vm,(Mem.start h0).grow M.ext,λw e=>by cases e⟩
theorem Ja{p q:Addr}{s:bI}{e:aZ}(Rs:RdP bU h p s)(Re:RdP bF h q e)(hs:s.ok=true)(hi:0≤e.aq∧e.aq<s.az.length):
  af ak 117 #[.pointer (some p),.pointer (some q)] (λu h'=>I0 h h' u (g0 s e)) h:=by
 refine aM.call ((Mem.start h).alc λg1 h1 x1 M=>?_)
 have A:∀{hh:ab},Ext h hh->RdP bU hh p s:=λe=>Rs.ext e
 have E:∀{hh:ab},Ext h hh->RdP bF hh q e:=λe=>Re.ext e
 refine(E M.ext).oI ((E M.ext).oI ((E M.ext).oI1 (M.alc λg6 h2 x2 M2=>(E M.ext).xy (by decide) x2 ((E M.ext).lN (by decide) x2 ((E M.ext).lN (by decide) x2 ?_)))))
 refine M2.dH .here rfl (dI rfl) rfl .here λh3 M=>?_
 have M:Mem h h3 [(g6,122,⟨vcC e.aT e.aq e.At⟩),(g1,122,⟨bg⟩)]:=M
 refine(A M.ext).oL λb l c S=>(E M.ext).oI (S.idx (by decide) hi.1 (by rw[← S.len];exact hi.2) λpa Ra=>Ra.jc rfl λc12 W6=>M.alc λAp h4 x4 M4=>?_)
 refine Ra.pin rfl x4 ((E M.ext).lN (by decide) x4 ((A M.ext).lN (by decide) x4 ?_))
 refine M4.dH .here (rsz W6 rfl) (aA.wj W6) rfl .here λh5 M=>?_
 have hx:∃ins,ins=s.az[e.aq.toNat]!:=⟨_,rfl⟩
 obtain⟨ins,hx⟩:=hx
 rw[← hx] at W6
 have O12:=mb _ _ _ W6
 have I:∀{hh:ab}{L:List Blk},Mem h hh L->gi L Ap c12->RdP aA hh ⟨Ap,0,none⟩ ins:=λM l=>M.rdp l (aA.look O12 M (List.nil_sublist _))
 refine(A M.ext).lda ed rfl λc16 R16=>(E M.ext).oI ((A M.ext).oF1 λvn jF=>aaG (Bc R16 jF) λh6 zF x6 nR=>jJ (cW (cN ?_)))
 have M:=M.grow x6
 have sC:s.dv.xH<2 ^ 32:=by
  obtain⟨v1,r1,_,⟨y,rfl,hy⟩,_⟩:=R16
  exact hy.lt
 have Dp:=λhz=>GR (key:=e.Key) sC jF.lt hz
 have hvo:∀{o:Option aK},o=g0 s e->g0 s e=o:=λh=>h.symm
 unfold g0
 rw[← hx]
 dsimp only
 refine br (λk=>?_) λk=>?_
 ·have k:¬(s.dv.period e.Key s.sY).2=0:=by simpa using k
  exact WL (M.cnt (W:=(g1,122,⟨bg⟩) :: [])) (by rw[if_neg k])
 have k:(s.dv.period e.Key s.sY).2=0:=by simpa using k
 have Dp:=Dp k
 rw[if_pos k]
 generalize (s.dv.period e.Key s.sY).1=zD at *
 have IM:=I M .here
 refine IM.oI2 ?_
 have J12:∀{hh:ab}{gp:Nat}{B X:List Blk}{cs:Array Value}{y:bK}{two:Int}{o:Option aK},bf.ow B cs.toList y->Mem h hh ((gp,115,cs) :: (g6,122,⟨vcC e.aT e.aq e.At⟩) :: (g1,122,⟨bg⟩) :: (B++X))->(two==0)=o.isSome->(∀w,o=some w->{ nW e with String:=y }=w) ->
   aM.J12 (λu h'=>I0 h h' u o) ⟨g1,0,none⟩ ⟨g6,0,none⟩ ⟨gp,0,none⟩ two hh:=λ{hh gp B X cs y two o} O M hb hv=>by
  unfold aM.J12
  refine M.df .here (osz O rfl) ?_
  have M:=M.cnt (W:=(g6,122,⟨vcC e.aT e.aq e.At⟩) :: ([]++(B++((g1,122,⟨bg⟩) :: X))))
  have P:Pt aQ h hh ⟨g6,0,none⟩ ⟨g6,122,[],[]⟩ (B++((g1,122,⟨bg⟩) :: X)) (nW e):=Pt.new (BO e) M
  exact P.sts bO rfl O λh1 P=>L9 P hb hv
 have J19:∀{hh:ab}{gp:Nat}{B X:List Blk}{cs:Array Value}{y:cp}{two:Int}{o:Option aK},dX.ow B cs.toList y->Mem h hh ((gp,118,cs) :: (g6,122,⟨vcC e.aT e.aq e.At⟩) :: (g1,122,⟨bg⟩) :: (B++X))->(two==0)=o.isSome->(∀w,o=some w->{ nW e with aI:=y,gR:=e.gd }=w) ->
   aM.J19 (λu h'=>I0 h h' u o) q ⟨g1,0,none⟩ ⟨g6,0,none⟩ ⟨gp,0,none⟩ two hh:=λ{hh gp B X cs y two o} O M hb hv=>by
  unfold aM.J19
  refine M.df .here (osz O rfl) ?_
  have M:=M.cnt (W:=(g6,122,⟨vcC e.aT e.aq e.At⟩) :: ([]++(B++((g1,122,⟨bg⟩) :: X))))
  have P:Pt aQ h hh ⟨g6,0,none⟩ ⟨g6,122,[],[]⟩ (B++((g1,122,⟨bg⟩) :: X)) (nW e):=Pt.new (BO e) M
  exact P.sts cE rfl O λh1 P=>(E P.ext).oF λr hr=>P.stF hr λh2 P=>L9 P hb hv
 have J23:∀{hh:ab}{gp:Nat}{B X:List Blk}{cs:Array Value}{y:iU}{two:Int}{o:Option aK},jI.ow B cs.toList y->Mem h hh ((gp,120,cs) :: (g6,122,⟨vcC e.aT e.aq e.At⟩) :: (g1,122,⟨bg⟩) :: (B++X))->(two==0)=o.isSome->(∀w,o=some w->{ nW e with bY:=y,gR:=e.gd }=w) ->
   aM.J23 (λu h'=>I0 h h' u o) q ⟨g1,0,none⟩ ⟨g6,0,none⟩ ⟨gp,0,none⟩ two hh:=λ{hh gp B X cs y two o} O M hb hv=>by
  unfold aM.J23
  refine M.df .here (osz O rfl) ?_
  have M:=M.cnt (W:=(g6,122,⟨vcC e.aT e.aq e.At⟩) :: ([]++(B++((g1,122,⟨bg⟩) :: X))))
  have P:Pt aQ h hh ⟨g6,0,none⟩ ⟨g6,122,[],[]⟩ (B++((g1,122,⟨bg⟩) :: X)) (nW e):=Pt.new (BO e) M
  exact P.sts cP rfl O λh1 P=>(E P.ext).oF λr hr=>P.stF hr λh2 P=>L9 P hb hv
 refine br (λk1=>?_) λk1=>?_
 ·rw[if_pos (show ins.Kind=1 by simpa using k1)]
  refine IM.oF2 λBz sW=>IM.oF2 λFs re=>fk.go M (DO nR sW re) λh7 c7 B7 M O7 s7=>jJ (gw (cN (M.alc λg36 h8 x8 M=>M.dH .here s7 (bf.jy O7) rfl .here λh9 M=>?_)))
  refine br (λk2=>?_) λk2=>?_
  ·exact WL (M.cnt (W:=(g1,122,⟨bg⟩) :: [])) (by rw[if_neg (by simpa using k2)])
  have k2:(ck zD ins.A ins.B).2=0:=by simpa using k2
  rw[if_pos k2]
  have I9:=I M (.there (gi.skip .here))
  have R7:bf.rd h9 c7.toList (ck zD ins.A ins.B).1:=bf.look O7 (M.cnt (W:=B7)) (List.Sublist.refl _)
  refine M.df .here s7 (I9.oF2 λVd JJ=>(E M.ext).oF λVe Nh=>?_)
  have Q:RdP bf h9 ⟨g36,0,none⟩ (ck zD ins.A ins.B).1:=M.rdp .here R7
  have PS:∀{hh:ab},Ext h9 hh->af ak 182 #[.agg c7,.float .f32 Vd,.float .f32 Ve] (λu h'=>fk bf hh h' u ((ck zD ins.A ins.B).1.iH ins.C e.gd).1 ((ck zD ins.A ins.B).1.iH ins.C e.gd).2) hh:=λx=>Bd (bf.ext x R7) JJ Nh
  have last:∀{hh:ab}{gp:Nat}{cs:Array Value}{B:List Blk},bf.ow B cs.toList ((ck zD ins.A ins.B).1.iH ins.C e.gd).1->Mem h9 hh ((gp,115,⟨aF⟩) :: B) ->
    STA 15 hh ⟨gp,0,none⟩ cs λNi=>aM.J12 (λu h'=>I0 h h' u (if((ck zD ins.A ins.B).1.iH ins.C e.gd).2=0 then some { nW e with String:=((ck zD ins.A ins.B).1.iH ins.C e.gd).1 } else none)) ⟨g1,0,none⟩ ⟨g6,0,none⟩ ⟨gp,0,none⟩ ((ck zD ins.A ins.B).1.iH ins.C e.gd).2 Ni:=λ{hh gp cs B} O N=>by
   have M:=(M.join N).cnt (W:=(gp,115,⟨aF⟩) :: (g6,122,⟨vcC e.aT e.aq e.At⟩) :: (g1,122,⟨bg⟩) :: (B++[]))
   refine M.dH .here (osz O rfl) (bf.jy O) rfl .here λNi M=>J12 O M ?_ ?_
   ·by_cases k3:((ck zD ins.A ins.B).1.iH ins.C e.gd).2=0
    ·rw[if_pos k3,k3];rfl
    ·rw[if_neg k3];simpa using k3
   ·intro w hw
    by_cases k3:((ck zD ins.A ins.B).1.iH ins.C e.gd).2=0
    ·rw[if_pos k3] at hw;exact Option.some.inj hw
    ·rw[if_neg k3] at hw;cases hw
  have E9:=E M.ext
  clear J12 J19 J23
  refine⟨?_,?_⟩
  ·refine fk.go (Mem.start h9) (PS (Ext.refl _)) λgv ZH B10 N O10 s10=>jJ (gw (cN (N.alc λg50 me x11 N=>E9.lN (by decide) N.ext (I9.IT (by decide) N.ext (Q.pin rfl N.ext ?_)))))
   exact last O10 (N.cnt (λp=>by simp only[List.append_eq,bN,bu,bZ] at *;omega))
  ·refine(Mem.start h9).alc λg53 gv Tw N=>E9.lN (by decide) N.ext (I9.IT (by decide) N.ext (Q.pin rfl N.ext ?_))
   refine fk.go N (PS N.ext) λme c11 B11 N O11 s11=>jJ (gw (cN ?_))
   exact last O11 (N.cnt (λp=>by simp only[bN,bu,bZ] at *;omega))
 have k1':¬ins.Kind=1:=by simpa using k1
 rw[if_neg k1']
 refine br (λk2=>?_) λk2=>?_
 ·rw[if_pos (show ins.Kind=2 by simpa using k2)]
  clear J12 J23
  have ap:Pos (fdiv .f32 zD (by2 ins.C)):=LU Dp (Wx _)
  have adA:∀by',FW .f32 by' (by2 ins.C)->aM.J18 (λu h'=>I0 h h' u (if(eR (ia (fdiv .f32 zD (by2 ins.C))) (feq .f32 ins.C 1065353216) ins.A ins.B).2=0 then some { nW e with aI:=(eR (ia (fdiv .f32 zD (by2 ins.C))) (feq .f32 ins.C 1065353216) ins.A ins.B).1,gR:=e.gd } else none)) q ⟨g1,0,none⟩ ⟨g6,0,none⟩ ⟨Ap,0,none⟩ zF by' h6:=by
   intro by' hby
   unfold aM.J18
   refine IM.oF λqA af4=>IM.oF λoW Lc=>IM.oF λqB WT=>?_
   rw[cw af4 c1]
   have key:∀{hh:ab}{gA:Nat}{B:List Blk}{cs:Array Value},dX.ow B cs.toList (eR (ox (fdiv .f32 zD (by2 ins.C))) (feq .f32 ins.C 1065353216) ins.A ins.B).1->Mem h6 hh ((gA,118,⟨aJ⟩) :: B) ->
     STA 13 hh ⟨gA,0,none⟩ cs λh'=>aM.J19 (λu h'=>I0 h h' u (if(eR (ia (fdiv .f32 zD (by2 ins.C))) (feq .f32 ins.C 1065353216) ins.A ins.B).2=0 then some { nW e with aI:=(eR (ia (fdiv .f32 zD (by2 ins.C))) (feq .f32 ins.C 1065353216) ins.A ins.B).1,gR:=e.gd } else none)) q ⟨g1,0,none⟩ ⟨g6,0,none⟩ ⟨gA,0,none⟩ (eR (ox (fdiv .f32 zD (by2 ins.C))) (feq .f32 ins.C 1065353216) ins.A ins.B).2 h':=λ{hh gA B cs} O N=>by
    rw[V7 ap] at O ⊢
    have M:=(M.join N).cnt (W:=(gA,118,⟨aJ⟩) :: (g6,122,⟨vcC e.aT e.aq e.At⟩) :: (g1,122,⟨bg⟩) :: (B++[]))
    refine M.dH .here (osz O rfl) (dX.jy O) rfl .here λNi M=>J19 O M ?_ ?_
    ·by_cases k3:(eR (ia (fdiv .f32 zD (by2 ins.C))) (feq .f32 ins.C 1065353216) ins.A ins.B).2=0
     ·rw[if_pos k3,k3];rfl
     ·rw[if_neg k3];simpa using k3
    ·intro w hw
     by_cases k3:(eR (ia (fdiv .f32 zD (by2 ins.C))) (feq .f32 ins.C 1065353216) ins.A ins.B).2=0
     ·rw[if_pos k3] at hw;exact Option.some.inj hw
     ·rw[if_neg k3] at hw;cases hw
   have N0:=Mem.start h6
   clear J19 M A E S Ra W6 R16 I hvo O12
   (repeat' (first
    | refine RdP.lN IM (by decide) (Mem.ext (by assumption)) ?_
    | refine fD nR hby λ_ _=>?_
    | refine goM (by assumption) (Gp (by assumption) ap _) λ_ _=>?_
    | refine cN ?_
    | refine jJ ?_
    | refine gw ?_
    | refine fk.go (by assumption) (Hj (Zf (by assumption) (by repeat (first | exact gi.here | apply gi.there | apply gi.skip))) agV Lc WT) λ_ _ _ _ _ _=>?_
    | refine Mem.alc (by assumption) λ_ _ _ _=>?_
    | exact key (by assumption) (Mem.cnt (by assumption) (λp=>by simp only[List.append_eq,bN,bu,bZ] at *;omega))
    | refine And.intro ?_ ?_))
  refine IM.oF2 λr62 h62=>?_
  rw[cw h62 c1]
  exact br (λk3=>adA _ (by unfold by2 feq;rw[if_pos k3];exact c2)) λk3=>adA _ (by unfold by2 feq;rw[k3];exact eM (by decide) (by decide))
 ·rw[if_neg (show ¬ins.Kind=2 by simpa using k2)]
  clear J12 J19
  refine IM.oF2 λr63 Iz=>IM.oF2 λr64 VD=>IM.oF2 λVX h65=>?_
  have key:∀{hh:ab}{gA:Nat}{B:List Blk}{cs:Array Value},jI.ow B cs.toList (fp (ox zD) ins.A ins.B ins.C).1->Mem h6 hh ((gA,120,⟨dg⟩) :: B) ->
    STA 12 hh ⟨gA,0,none⟩ cs λh'=>aM.J23 (λu h'=>I0 h h' u (if(fp (ia zD) ins.A ins.B ins.C).2=0 then some { nW e with bY:=(fp (ia zD) ins.A ins.B ins.C).1,gR:=e.gd } else none)) q ⟨g1,0,none⟩ ⟨g6,0,none⟩ ⟨gA,0,none⟩ (fp (ox zD) ins.A ins.B ins.C).2 h':=λ{hh gA B cs} O N=>by
   rw[Ww Dp] at O ⊢
   have M:=(M.join N).cnt (W:=(gA,120,⟨dg⟩) :: (g6,122,⟨vcC e.aT e.aq e.At⟩) :: (g1,122,⟨bg⟩) :: (B++[]))
   refine M.dH .here (osz O rfl) (jI.jy O) rfl .here λNi M=>J23 O M ?_ ?_
   ·by_cases k3:(fp (ia zD) ins.A ins.B ins.C).2=0
    ·rw[if_pos k3,k3];rfl
    ·rw[if_neg k3];simpa using k3
   ·intro w hw
    by_cases k3:(fp (ia zD) ins.A ins.B ins.C).2=0
    ·rw[if_pos k3] at hw;exact Option.some.inj hw
    ·rw[if_neg k3] at hw;cases hw
  have N0:=Mem.start h6
  clear J23 M A E S Ra W6 R16 I hvo O12
  (repeat' (first
   | refine RdP.IT IM (by decide) (Mem.ext (by assumption)) ?_
   | refine goM (by assumption) (Gp nR Dp _) λ_ _=>?_
   | refine cN ?_
   | refine jJ ?_
   | refine gw ?_
   | refine fk.go (by assumption) (J8 Iz VD h65) λ_ _ _ _ _ _=>?_
   | refine Mem.alc (by assumption) λ_ _ _ _=>?_
   | exact key (by assumption) (Mem.cnt (by assumption) (λp=>by simp only[List.append_eq,bN,bu,bZ] at *;omega))
   | refine And.intro ?_ ?_))
end
section
variable {h:ab}{x a:Nat}
theorem acu{h:ab}:SlR (rF .f32) h none 0 0 []:=⟨rfl,Nat.le_refl _,Nat.zero_le _,[],λi hi=>by simp at hi,rfl⟩
abbrev Q9(o:Option aK):aK:=o.getD CW
abbrev WK(o:Option aK):Int:=if o.isSome then 0 else 2
theorem rv{hh:ab}{g5 g10:Nat}{X:List Blk}{v:aK}{o:Option aK}{code:Int}(P:Pt aQ h hh ⟨g10,0,none⟩ ⟨g10,122,[],[]⟩ ((g5,122,⟨bg⟩) :: X) v)(h1:code=0->o=some v)(h2:code≠0->o=none):
  cF.J19 (λu h'=>fk aQ h h' u (Q9 o) (WK o)) ⟨g5,0,none⟩ ⟨g10,0,none⟩ code hh:=by
 unfold cF.J19
 refine br (λk=>?_) λk=>?_
 ·have ho:=h2 (by simpa using k)
  subst ho
  have M:=P.mem
  exact M.dH .here rfl (dI rfl) rfl .here λh3 M=>M.df .here rfl ⟨_,[],rfl,vm,(Mem.start h).grow M.ext⟩
 ·have ho:=h1 (by simpa using k)
  subst ho
  obtain⟨BP,B',M',O'⟩:=P.out
  refine M'.df .here (osz O' rfl) ?_
  have M':=M'.cnt (W:=(g5,122,⟨bg⟩) :: B')
  exact M'.dH .here (osz O' rfl) (aQ.jy O') rfl .here λh3 M=>M.df .here (osz O' rfl) ⟨_,B',rfl,O',M.drop⟩
theorem Sg{cs ce:Array Value}{s:bI}{e:aZ}(R0:bU.rd h cs.toList s)(E0:bF.rd h ce.toList e)(hs:s.ok=true)(hi:0≤e.aq∧e.aq<s.az.length):
  af ak 168 #[.agg cs,.agg ce] (λu h'=>fk aQ h h' u (Q9 (g0 s e)) (WK (g0 s e))) h:=by
 refine cF.call ((Mem.start h).alc λg1 h1 x1 M=>M.alc λg3 h2 x2 M=>M.alc λg5 h3 x3 M=>?_)
 have A:∀{hh:ab}{L:List Blk},Mem h hh L->gi L g1 cs->RdP bU hh ⟨g1,0,none⟩ s:=λM l=>M.rdp l (bU.ext M.ext R0)
 have E:∀{hh:ab}{L:List Blk},Mem h hh L->gi L g3 ce->RdP bF hh ⟨g3,0,none⟩ e:=λM l=>M.rdp l (bF.ext M.ext E0)
 have E3:=E M (.there .here)
 refine E3.oI2 (E3.oI2 (E3.oI2 (M.alc λg10 h4 x4 M=>M.dH .here rfl (dI rfl) rfl .here λh5 M=>?_)))
 have M:Mem h h5 [(g10,122,⟨vcC e.aT e.aq e.At⟩),(g5,122,⟨bg⟩),(g3,131,ce),(g1,39,cs)]:=M
 refine(A M (.there (.there (.there .here)))).oL2 λb l c S=>(E M (.there (.there .here))).oI2 (S.idx (by decide) hi.1 (by rw[← S.len];exact hi.2) λpa Ra=>Ra.jc rfl λc12 W6=>M.alc λyv h6 x6 M=>M.dH .here (rsz W6 rfl) (aA.wj W6) rfl .here λh7 M=>?_)
 have hx:∃ins,ins=s.az[e.aq.toNat]!:=⟨_,rfl⟩
 obtain⟨ins,hx⟩:=hx
 rw[← hx] at W6
 have O12:=mb _ _ _ W6
 have I:∀{hh:ab}{L:List Blk},Mem h hh L->gi L yv c12->RdP aA hh ⟨yv,0,none⟩ ins:=λM l=>M.rdp l (aA.look O12 M (List.nil_sublist _))
 have A7:=A M (.there (.there (.there (.there .here))))
 refine A7.jH ed rfl λc16 R16=>(E M (.there (.there (.there .here)))).oI2 (A7.oF2 λvn jF=>aaG (I5 R16 jF) λh8 zF x8 nR=>jJ (cW (cN ?_)))
 have M:=M.grow x8
 have sC:s.dv.xH<2 ^ 32:=by
  obtain⟨v1,r1,_,⟨y,rfl,hy⟩,_⟩:=R16
  exact hy.lt
 have Dp:=λhz=>GR (key:=e.Key) sC jF.lt hz
 unfold g0
 rw[← hx]
 dsimp only
 refine br (λk=>?_) λk=>?_
 ·have k:¬(s.dv.period e.Key s.sY).2=0:=by simpa using k
  rw[if_neg k]
  have M:=M.cnt (W:=[(g5,122,⟨bg⟩)])
  exact M.dH .here rfl (dI rfl) rfl .here λh3 M=>M.df .here rfl ⟨_,[],rfl,vm,(Mem.start h).grow M.ext⟩
 have k:(s.dv.period e.Key s.sY).2=0:=by simpa using k
 have Dp:=Dp k
 rw[if_pos k]
 generalize (s.dv.period e.Key s.sY).1=zD at *
 have IM:=I M .here
 refine IM.oI2 ?_
 have Mr:Mem h h8 ((g10,122,⟨vcC e.aT e.aq e.At⟩) :: ([]++[(g5,122,⟨bg⟩),(yv,135,c12),(g3,131,ce),(g1,39,cs)])):=M.cnt (λp=>by simp only[bN,bu,bZ] at *;omega)
 refine br (λk1=>?_) λk1=>?_
 ·rw[if_pos (show ins.Kind=1 by simpa using k1)]
  refine IM.oF2 λBz sW=>IM.oF2 λFs re=>fk.go M (Mw nR sW re) λh9 c9 B9 M O9 s9=>jJ (gw (cN ?_))
  have P:Pt aQ h h9 ⟨g10,0,none⟩ ⟨g10,122,[],[]⟩ (B9++[(g5,122,⟨bg⟩),(yv,135,c12),(g3,131,ce)]) (nW e):=Pt.new (BO e) (M.cnt (W:=(g10,122,⟨vcC e.aT e.aq e.At⟩) :: ([]++(B9++[(g5,122,⟨bg⟩),(yv,135,c12),(g3,131,ce)]))))
  refine P.acw bO rfl O9 λgv P=>br (λk2=>?_) λk2=>?_
  ·have k2:(ck zD ins.A ins.B).2=0:=by simpa using k2
   rw[if_pos k2]
   refine P.rd.jH bO rfl λc11 R11=>(I P.mem (.there .here)).oF2 λVd JJ=>(E P.mem (.there (.there .here))).oF2 λVe Nh=>?_
   refine(I7 R11 JJ Nh).mono ?_
   rintro _ jl ⟨aib,B12,rfl,W3,N⟩
   have P:=P.join N
   refine jJ (gw (cN (P.acw bO rfl W3 λhP P=>rv P ?_ ?_)))
   ·intro k3;rw[if_pos k3]
   ·intro k3;rw[if_neg k3]
  ·have k2:¬(ck zD ins.A ins.B).2=0:=by simpa using k2
   rw[if_neg k2]
   exact rv P (λk3=>absurd k3 k2) λ_=>rfl
 have k1':¬ins.Kind=1:=by simpa using k1
 rw[if_neg k1']
 have P:Pt aQ h h8 ⟨g10,0,none⟩ ⟨g10,122,[],[]⟩ [(g5,122,⟨bg⟩),(yv,135,c12),(g3,131,ce),(g1,39,cs)] (nW e):=Pt.new (BO e) Mr
 refine br (λk2=>?_) λk2=>?_
 ·rw[if_pos (show ins.Kind=2 by simpa using k2)]
  have ap:Pos (fdiv .f32 zD (by2 ins.C)):=LU Dp (Wx _)
  have adz:∀by',FW .f32 by' (by2 ins.C)->cF.J17 (λu h'=>fk aQ h h' u (Q9 (if(eR (ia (fdiv .f32 zD (by2 ins.C))) (feq .f32 ins.C 1065353216) ins.A ins.B).2=0 then some { nW e with aI:=(eR (ia (fdiv .f32 zD (by2 ins.C))) (feq .f32 ins.C 1065353216) ins.A ins.B).1,gR:=e.gd } else none)) (WK (if(eR (ia (fdiv .f32 zD (by2 ins.C))) (feq .f32 ins.C 1065353216) ins.A ins.B).2=0 then some { nW e with aI:=(eR (ia (fdiv .f32 zD (by2 ins.C))) (feq .f32 ins.C 1065353216) ins.A ins.B).1,gR:=e.gd } else none))) ⟨g3,0,none⟩ ⟨g5,0,none⟩ ⟨g10,0,none⟩ ⟨yv,0,none⟩ zF (feq .f32 ins.C 1065353216) by' h8:=by
   intro by' hby
   unfold cF.J17
   refine(E P.mem (.there (.there .here))).oF λr72 SI=>P.stF SI λh9 P=>?_
   have I9:=I P.mem (.there .here)
   refine I9.oF λr74 Qk=>I9.oF λr75 h75=>fD nR hby λr76 ER=>dT (dT ?_)
   refine goX (JE ER ap _) λgv Tw=>cN (I9.lN (by decide) Tw (I9.lN (by decide) Tw ((Mem.start gv).alc λg80 me x11 N=>I9.lN (by decide) (Tw.trans x11) (I9.lN (by decide) (Tw.trans x11) ?_))))
   refine(TF (Zf N .here) acu Qk h75).mono ?_
   rintro _ jl ⟨aib,B12,rfl,W3,N12⟩
   have P:=(P.grow (Tw.trans x11)).join N12
   refine jJ (gw (cN (P.sts cE rfl W3 λhP P=>rv P ?_ ?_)))
   ·intro k3;rw[if_pos k3]
   ·intro k3;rw[if_neg k3]
  refine IM.oF2 λTb SH=>?_
  rw[cw SH c1]
  exact br (λk3=>adz _ (by unfold by2 feq;rw[if_pos k3];exact c2)) λk3=>adz _ (by unfold by2 feq;rw[k3];exact eM (by decide) (by decide))
 ·rw[if_neg (show ¬ins.Kind=2 by simpa using k2)]
  refine(E P.mem (.there (.there .here))).oF2 λr52 Ni=>P.ON Ni λh9 P=>?_
  have I9:=I P.mem (.there .here)
  refine I9.oF2 λVW Xb=>I9.oF2 λr55 h55=>I9.oF2 λr56 Ed=>goX (JE nR Dp _) λgv Tw=>cN (I9.IT (by decide) Tw (I9.IT (by decide) Tw (I9.IT (by decide) Tw ?_)))
  refine(W2 Xb h55 Ed).mono ?_
  rintro _ jl ⟨aib,B12,rfl,W3,N12⟩
  have P:=(P.grow Tw).join N12
  refine jJ (gw (cN (P.acw cP rfl W3 λhP P=>rv P ?_ ?_)))
  ·intro k3;rw[if_pos k3]
  ·intro k3;rw[if_neg k3]
end
theorem OP{es:List aZ}{ni:Int}(G:kU es ni){e:aZ}(hs:fF e=true)(hm:e ∈ es):tS es e.aT=some e:=by
 unfold tS
 cases hf:es.find? λx=>fF x&&x.aT==e.aT with
 | none=>
  have:=List.find?_eq_none.1 hf e hm
  exact absurd (by rw[hs];simp) this
 | some x=>
  have hx:=List.mem_of_find?_eq_some hf
  have hp:=List.find?_some hf
  simp only[Bool.and_eq_true,beq_iff_eq] at hp
  obtain⟨i,hi,rfl⟩:=List.mem_iff_getElem.1 hx
  obtain⟨j,hj,rfl⟩:=List.mem_iff_getElem.1 hm
  have:=G.st1 i j hi hj (by rw[getElem!_pos es i hi];exact hp.1) (by rw[getElem!_pos es j hj];exact hs) (by rw[getElem!_pos es i hi,getElem!_pos es j hj];exact hp.2)
  subst this
  rfl
theorem aqK{es:List aZ}{n:Int}{e:aZ}(h:tS es n=some e):e ∈ es∧fF e=true∧e.aT=n:=by
 have hx:=List.mem_of_find?_eq_some h
 have hp:=List.find?_some h
 simp only[Bool.and_eq_true,beq_iff_eq] at hp
 exact⟨hx,hp.1,hp.2⟩
end Go.Sx
namespace Go.Sx
open Go.Proofs
set_option maxRecDepth 100000
set_option maxHeartbeats 2000000
def kL(vs:List aK):Nat->Nat
 | 0=>0
 | i+1=>if vs[i]!.mh<vs[kL vs i]!.mh then i else kL vs i
def vK(v:aK):Bool:=v.aT == -1
def placeOf(vs:List aK):Nat:=if jL vK vs = -1 then kL vs vs.length else(jL vK vs).toNat
theorem zo{vs:List aK}(h:1≤vs.length):∀i,i≤vs.length->kL vs i<vs.length
 | 0,_=>h
 | i+1,hi=>by
  unfold kL
  split
  ·omega
  ·exact zo h i (by omega)
theorem GU{vs:List aK}(h:1≤vs.length):placeOf vs<vs.length:=by
 unfold placeOf
 split
 ·exact zo h _ (Nat.le_refl _)
 ·next hf=>
  rcases yq vK vs with⟨e,_⟩ | ⟨n,hn,e,_⟩
  ·exact absurd e hf
  ·rw[e];exact hn
def bI.kind(s:bI)(v:aK):Int:=s.az[v.aq.toNat]!.Kind
def o5(s:bI)(v:aK):aK:=if s.kind v=1 then { v with Gone:=true,gR:=0,String:={ v.String with fT:=eG .f32 v.String.fT half } } else { v with Gone:=true,gR:=0 }
def ir(s:bI)(n:Int)(v:aK):aK:=if v.aT=n then o5 s v else v
def aC.qm(p:aC)(e:aZ):aC:=
 if e.Kind=2 then match g0 p.Score e with | some v=>{ p with al:=p.al.set (placeOf p.al) v } | none=>{ p with ft:=p.ft+1 }
 else { p with al:=p.al.map (ir p.Score e.aT) }
structure W0 (p:aC) (e:aZ):Prop where
 s:p.Score.ok=true
 n1:1≤p.al.length
 st:e.Kind=2->0≤e.aq∧e.aq<p.Score.az.length
 sk:0≤p.ft∧p.ft≤1000
 ins:∀i,i<p.al.length->p.al[i]!.aT=e.aT->0≤p.al[i]!.aq∧p.al[i]!.aq<p.Score.az.length
 one:∀i j,i<j->j<p.al.length->p.al[i]!.aT=e.aT->¬p.al[j]!.aT=e.aT
def HY(h:ab)(q e1:Addr)(n:Nat):Prop:=∃a5 l5 c5,cell h (q.add 5)=some (.slice (some a5) l5 c5)∧e1=a5.add (n*6)∧n<l5
section
variable {h0 h:ab}{q e1:Addr}{F:Fr}{L:List Blk}{p:aC}{n:Nat}
theorem HY.aph{h':ab}(E:HY h q e1 n)(hk:∀k,cell h' (q.add k)=cell h (q.add k)):HY h' q e1 n:=by
 obtain⟨a5,l5,c5,e,r⟩:=E
 exact⟨a5,l5,c5,by rw[hk];exact e,r⟩
theorem HY.rd(P:Pt bz h0 h q F L p)(E:HY h q e1 n):RdP bF h e1 p.Score.bo[n]!:=by
 obtain⟨a5,l5,c5,e,rfl,hn⟩:=E
 have S:=P.slr (off:=5) e
 obtain⟨a,ha,R⟩:=S.elem (i:=n) hn (by decide)
 cases ha
 exact R
theorem Qu{b:Option Addr}{l c:Nat}{vs:List aK}(S:SlR aQ h b l c vs)(h1:1≤vs.length):af ak 118 #[.slice b l c] (λu h'=>u = .int .i64 (placeOf vs:Int)∧Ext h h') h:=by
 have hl:=S.len
 have s1:=S.2.1
 have s2:=S.2.2.1
 have:=cu
 refine fR.call (loop (λy hh=>∃i:Nat,y=(b,l,c,(kL vs i:Int),(i:Int))∧i≤l∧hh=h∧∀j,j<i->vK vs[j]! = false) (λy=>(l-y.2.2.2.2).toNat) ⟨0,rfl,by omega,rfl,λj hj=>by omega⟩ ?_)
 rintro y hh ⟨i,rfl,hi,rfl,hf⟩
 have hel:=zo h1 i (by omega)
 refine brd (λhc=>?_) λhc=>⟨?_,Ext.refl _⟩
 ·refine S.idn (by decide) (by omega) λa Ra=>Ra.oI1 (br (λk=>⟨?_,Ext.refl _⟩) λk=>?_)
  ·unfold placeOf
   rw[ra (n:=i) (by omega) hf k,if_neg (by omega)]
   rfl
  have next:(kL vs (i+1):Int)=(if vs[i]!.mh<vs[kL vs i]!.mh then(i:Int) else(kL vs i:Int)):=by
   show((if vs[i]!.mh<vs[kL vs i]!.mh then i else kL vs i:Nat):Int)=_
   split <;> rfl
  have hf':∀j,j<i+1->vK vs[j]! = false:=λj hj=>by
   by_cases e:j=i
   ·subst e;exact k
   ·exact hf j (by omega)
  refine S.idn (by decide) (by omega) λa Ra=>Ra.oI (S.idn (by decide) (by omega) λa' Rb=>Rb.oI (brd (λhb=>⟨⟨i+1,?_,by omega,rfl,hf'⟩,?_⟩) λhb=>⟨⟨i+1,?_,by omega,rfl,hf'⟩,?_⟩))
  ·rw[next,if_pos hb,ag (by omega)]
  ·rw[ag (by omega)];show _<_;simp;omega
  ·rw[next,if_neg hb,ag (by omega)]
  ·rw[ag (by omega)];show _<_;simp;omega
 ·obtain rfl:i=l:=by omega
  unfold placeOf
  rw[qZ λj hj=>hf j (by omega),if_pos rfl,hl]
theorem aaz(h0:ab):FD ak aQ h0 (.func (.func 97) #[] #[]) vK:=λcs v hx xx R=>by
 show af ak 97 #[.agg cs] _ hx
 exact Ns R
theorem ac4(R:RdP bz h q p)(h1:1≤p.al.length):af ak 169 #[.pointer (some q)] (λu h'=>u = .int .i64 (placeOf p.al:Int)∧Ext h h') h:=by
 have:=cu
 refine dq.call (R.oL λb l c S=>goX (td S (aaz h)) λh2 x2=>cN ?_)
 rcases yq vK p.al with⟨e,hf⟩ | ⟨m,hm,e,_⟩
 ·have hp:placeOf p.al=kL p.al p.al.length:=by unfold placeOf;rw[e,if_pos rfl]
  rw[e]
  refine brd (λk=>by omega) λ_=>(R.ext x2).oL λb l c S=>?_
  have hl:=S.len
  have s1:=S.2.1
  have s2:=S.2.2.1
  refine loop (λy hh=>∃i:Nat,y=(q,(kL p.al i:Int),b,l,c,(l:Int),(i:Int))∧i≤l∧Ext h2 hh) (λy=>(l-y.2.2.2.2.2.2).toNat) ⟨0,rfl,by omega,Ext.refl _⟩ ?_
  rintro y hh ⟨i,rfl,hi,X⟩
  have hel:=zo h1 i (by omega)
  refine brd (λhc=>?_) λhc=>⟨?_,x2.trans X⟩
  ·have next:(kL p.al (i+1):Int)=(if p.al[i]!.mh<p.al[kL p.al i]!.mh then(i:Int) else(kL p.al i:Int)):=by
    show((if p.al[i]!.mh<p.al[kL p.al i]!.mh then i else kL p.al i:Nat):Int)=_
    split <;> rfl
   refine(S.ext X).idn (by decide) (by omega) λa Ra=>Ra.jc rfl λcs Rc=>(Mem.start hh).alc λg h3 x3 N=>N.dH .here (rsz Rc rfl) (aQ.wj Rc) rfl .here λh4 N=>?_
   have Rv:RdP aQ h4 ⟨g,0,none⟩ p.al[i]!:=N.rdp .here (aQ.ext N.ext Rc)
   refine Rv.oI2 ((R.ext (x2.trans (X.trans N.ext))).oL λb4 l4 c4 S4=>?_)
   have e4:=S4.len
   have X4:=X.trans N.ext
   refine S4.idn (by decide) (by omega) λa' Rb=>Rb.oI (brd (λhb=>⟨⟨i+1,?_,by omega,X4⟩,?_⟩) λhb=>⟨⟨i+1,?_,by omega,X4⟩,?_⟩)
   ·rw[next,if_pos hb,ag (by omega)]
   ·rw[ag (by omega)];show _<_;simp;omega
   ·rw[next,if_neg hb,ag (by omega)]
   ·rw[ag (by omega)];show _<_;simp;omega
  ·obtain rfl:i=l:=by omega
   rw[hp,hl]
 ·rw[e]
  have hp:placeOf p.al=m:=by unfold placeOf;rw[e,if_neg (by omega)];rfl
  exact brd (λk=>⟨by rw[hp],x2⟩) λk=>by omega
end
end Go.Sx
