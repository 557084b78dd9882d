/- Lemmas. -/
import Derived.Test.YthgnpepchedpbaaGreatDoorLk24
import Derived.Test.YthgnpepchedpbaaGreatDoorLk0b
set_option linter.unusedVariables false
set_option linter.unusedSimpArgs false
namespace Go.Sx
open Go.Proofs
set_option maxRecDepth 100000
theorem Pt.agX{α:Type}{r:Rep α}{h0 h:ab}{q:Addr}{F:Fr}{L:List Blk}{a:α}{off:Nat}{get:α->List Nat}{put:α->List Nat->α}{x y m n:Nat}{K:ab->Prop}(P:Pt r h0 h q F L a)(Fc:Foc r (iT 2 (rF .f32)) off get put)(hx:FW .f32 x m)(hy:FW .f32 y n)(H:∀h',Pt r h0 h' q F L (put a [m,n])->K h'):STA 2 h (q.add off) ⟨[.float .f32 x,.float .f32 y]⟩ K:=
 Pt.sts (B':=[]) (b:=[m,n]) P Fc rfl ⟨rfl,[],[],[.float .f32 x],[.float .f32 y],rfl,rfl,⟨rfl,x,rfl,hx⟩,[],[],[.float .f32 y],[],rfl,rfl,⟨rfl,y,rfl,hy⟩,rfl,rfl⟩ H
theorem Za{l:List Nat}(h:l.length=2)(a b:Nat):(l.set 0 a).set 1 b=[a,b]:=by
 match l,h with
 | [x,y],_=>rfl
def qE(h0 h':ab)(q:Addr)(F:Fr)(L:List Blk)(f:cz)(a:Nat)(u:Value):Prop:=(∃y,u = .float .f32 y∧FW .f32 y (f.step a).2)∧Pt cx h0 h' q F L (f.step a).1
section
variable {h0 h:ab}{q:Addr}{F:Fr}{L:List Blk}{f:cz}{x a:Nat}
theorem Zh(hk:f.Kind=1):f.step a=({ f with S:=f.S.set 0 (kept (jW .f32 (eG .f32 f.C[0]! a) (eG .f32 f.C[1]! f.S[0]!))) },jW .f32 (eG .f32 f.C[0]! a) (eG .f32 f.C[1]! f.S[0]!)):=by unfold cz.step;rw[if_pos hk]
theorem aed(hk:f.Kind=2):f.step a=({ f with S:=f.S.set 0 (kept a) },jW .f32 (eG .f32 f.C[0]! a) (eG .f32 f.C[1]! f.S[0]!)):=by unfold cz.step;rw[if_neg (by omega),if_pos hk]
theorem aee(hk:f.Kind=3):f.step a=({ f with S:=(f.S.set 0 (kept a)).set 1 (kept (jW .f32 (eG .f32 f.C[0]! (hH .f32 a f.S[1]!)) f.S[0]!)) },jW .f32 (eG .f32 f.C[0]! (hH .f32 a f.S[1]!)) f.S[0]!):=by
 unfold cz.step;rw[if_neg (by omega),if_neg (by omega),if_pos hk]
theorem aef(hk:f.Kind=4):f.step a=({ f with S:=(f.S.set 0 (kept (hH .f32 (hH .f32 (eG .f32 f.C[0]! a) (eG .f32 f.C[1]! f.S[0]!)) (eG .f32 f.C[2]! f.S[1]!)))).set 1 (kept f.S[0]!) },hH .f32 (hH .f32 (eG .f32 f.C[0]! a) (eG .f32 f.C[1]! f.S[0]!)) (eG .f32 f.C[2]! f.S[1]!)):=by
 unfold cz.step;rw[if_neg (by omega),if_neg (by omega),if_neg (by omega),if_pos hk]
theorem aeg(h1:f.Kind≠1)(h2:f.Kind≠2)(h3:f.Kind≠3)(h4:f.Kind≠4):f.step a=({ f with S:=(f.S.set 0 (kept a)).set 1 (kept (jW .f32 (hH .f32 a f.S[0]!) (eG .f32 f.C[0]! f.S[1]!))) },jW .f32 (hH .f32 a f.S[0]!) (eG .f32 f.C[0]! f.S[1]!)):=by
 unfold cz.step;rw[if_neg h1,if_neg h2,if_neg h3,if_neg h4]
theorem qE.of{f':cz}{b y:Nat}(e:f.step a=(f',b))(hy:FW .f32 y b)(P:Pt cx h0 h q F L f'):qE h0 h q F L f a (.float .f32 y):=by
 unfold qE
 rw[e]
 exact⟨⟨y,rfl,hy⟩,P⟩
theorem agZ(hk:f.Kind=4):f.step a=({ f with S:=(f.S.set 1 (kept f.S[0]!)).set 0 (kept (hH .f32 (hH .f32 (eG .f32 f.C[0]! a) (eG .f32 f.C[1]! f.S[0]!)) (eG .f32 f.C[2]! f.S[1]!))) },hH .f32 (hH .f32 (eG .f32 f.C[0]! a) (eG .f32 f.C[1]! f.S[0]!)) (eG .f32 f.C[2]! f.S[1]!)):=by
 rw[aef hk,List.set_comm _ _ (by decide)]
set_option maxHeartbeats 2000000 in
theorem zw(P:Pt cx h0 h q F L f)(hx:FW .f32 x a):af ak 186 #[.pointer (some q),.float .f32 x] (λu h'=>qE h0 h' q F L f a u) h:=by
 have R:=P.rd
 refine wz.call (idx (by omega) (by omega) (R.oF λy1 hy1=>idx (by omega) (by omega) (R.oF λy2 VL=>R.oI1 (br (λhb=>?_) λhb1=>br (λhb=>?_) λU9=>br (λhb=>?_) λNl=>br (λhb=>?_) λhb4=>?_))))
 ·have hb:f.Kind=1:=by simpa using hb
  refine idx (by omega) (by omega) (R.oF λz1 Ll=>idx (by omega) (by omega) (R.oF λz2 HQ=>?_))
  (repeat' (first | refine dT ?_ | refine fM (by assumption) (by assumption) λ_ _=>?_ | refine And.intro ?_ ?_ | refine fA (by assumption) (by assumption) λ_ _=>?_ | refine fS (by assumption) (by assumption) λ_ _=>?_))
  all_goals (
   refine Fl.go (ic (by assumption)) λh1 y x1 hy=>?_
   exact cW (idx (by omega) (by omega) ((P.grow x1).stF hy λh2 P2=>qE.of (Zh hb) (by assumption) P2)))
 ·have hb:f.Kind=2:=by simpa using hb
  refine idx (by omega) (by omega) (R.oF λz1 Ll=>idx (by omega) (by omega) (R.oF λz2 HQ=>?_))
  (repeat' (first | refine dT ?_ | refine fM (by assumption) (by assumption) λ_ _=>?_ | refine And.intro ?_ ?_ | refine fA (by assumption) (by assumption) λ_ _=>?_ | refine fS (by assumption) (by assumption) λ_ _=>?_))
  all_goals (
   refine(ic hx).go λh1 y x1 hy=>?_
   exact cW (idx (by omega) (by omega) ((P.grow x1).stF hy λh2 P2=>qE.of (aed hb) (by assumption) P2)))
 ·have hb:f.Kind=3:=by simpa using hb
  refine idx (by omega) (by omega) (R.oF λz1 Ll=>?_)
  (repeat' (first | refine dT ?_ | refine fM (by assumption) (by assumption) λ_ _=>?_ | refine And.intro ?_ ?_ | refine fA (by assumption) (by assumption) λ_ _=>?_ | refine fS (by assumption) (by assumption) λ_ _=>?_))
  all_goals (
   refine(ic hx).go λh1 y x1 hy=>cW (idx (by omega) (by omega) ((P.grow x1).stF hy λh2 P2=>?_))
   refine Fl.go (ic (by assumption)) λh3 y x3 hy=>?_
   exact cW (idx (by omega) (by omega) ((P2.grow x3).stF hy λh4 P4=>qE.of (aee hb) (by assumption) P4)))
 ·have hb:f.Kind=4:=by simpa using hb
  refine idx (by omega) (by omega) (R.oF λz1 Ll=>idx (by omega) (by omega) (R.oF λz2 HQ=>idx (by omega) (by omega) (R.oF λz3 ZT=>?_)))
  (repeat' (first | refine dT ?_ | refine fM (by assumption) (by assumption) λ_ _=>?_ | refine And.intro ?_ ?_ | refine fA (by assumption) (by assumption) λ_ _=>?_ | refine fS (by assumption) (by assumption) λ_ _=>?_))
  all_goals (
   refine(ic hy1).go λh1 y x1 hy=>?_
   refine cW (idx (by omega) (by omega) ((P.grow x1).stF hy λh2 P2=>?_))
   refine Fl.go (ic (by assumption)) λh3 y x3 hy=>?_
   exact cW (idx (by omega) (by omega) ((P2.grow x3).stF hy λh4 P4=>qE.of (agZ hb) (by assumption) P4)))
 ·refine fS hx hy1 λw1 ZS=>idx (by omega) (by omega) (R.oF λz1 Ll=>?_)
  (repeat' (first | refine dT ?_ | refine fM (by assumption) (by assumption) λ_ _=>?_ | refine And.intro ?_ ?_ | refine fA (by assumption) (by assumption) λ_ _=>?_ | refine fS (by assumption) (by assumption) λ_ _=>?_))
  all_goals (
   refine(ic hx).go λh1 y x1 hy=>cW (idx (by omega) (by omega) ((P.grow x1).stF hy λh2 P2=>?_))
   refine Fl.go (ic (by assumption)) λh3 y x3 hy=>?_
   exact cW (idx (by omega) (by omega) ((P2.grow x3).stF hy λh4 P4=>qE.of (aeg (by simpa using hb1) (by simpa using U9) (by simpa using Nl) (by simpa using hb4)) (by assumption) P4)))
theorem pk(P:Pt cx h0 h q F L f)(hx:FW .f32 x a):af ak 240 #[.pointer (some q),.float .f32 x] (λu h'=>qE h0 h' q F L f a u) h:=by
 have R:=P.rd
 have RC:=R.foc dU
 have RS:=R.foc dx
 have hS:f.S.length=2:=RS.len
 have key:∀{hh:ab}{L':List Blk}{c s:Addr},L.Sublist L'->Pt cx h0 hh q F L' f->RdP (iT 3 (rF .f32)) hh c f.C->RdP (iT 2 (rF .f32)) hh s f.S->dS.J2 (λu h'=>qE h0 h' q F L f a u) q x c s hh:=by
  intro hh L' c s hs P C S
  replace P:=P.sub hs
  have R:=P.rd
  refine R.oI1 (br (λhb=>?_) λhb1=>br (λhb=>?_) λU9=>br (λhb=>?_) λNl=>br (λhb=>?_) λhb4=>?_)
  ·have hb:f.Kind=1:=by simpa using hb
   refine idx (by omega) (by omega) (C.oF1 λz1 Ll=>fM Ll hx λw1 ZS=>idx (by omega) (by omega) (C.oF λz2 HQ=>idx (by omega) (by omega) (S.oF1 λz3 ZT=>fM HQ ZT λw2 hw2=>fA ZS hw2 λw3 VK=>?_)))
   exact(mz VK).go λh1 y x1 hy=>cW (idx (by omega) (by omega) ((P.grow x1).stF hy λh2 P2=>qE.of (Zh hb) VK P2))
  ·have hb:f.Kind=2:=by simpa using hb
   refine idx (by omega) (by omega) (C.oF1 λz1 Ll=>fM Ll hx λw1 ZS=>idx (by omega) (by omega) (C.oF λz2 HQ=>idx (by omega) (by omega) (S.oF1 λz3 ZT=>fM HQ ZT λw2 hw2=>fA ZS hw2 λw3 VK=>?_)))
   exact(mz hx).go λh1 y x1 hy=>cW (idx (by omega) (by omega) ((P.grow x1).stF hy λh2 P2=>qE.of (aed hb) VK P2))
  ·have hb:f.Kind=3:=by simpa using hb
   refine idx (by omega) (by omega) (C.oF1 λz1 Ll=>idx (by omega) (by omega) (S.oF λz2 HQ=>fS hx HQ λw1 ZS=>fM Ll ZS λw2 hw2=>idx (by omega) (by omega) (S.oF1 λz3 ZT=>fA hw2 ZT λw3 VK=>?_)))
   refine(mz hx).go λh1 y1 x1 hy1=>cW ((mz VK).go λh2 y2 x2 VL=>cW ((P.grow (x1.trans x2)).agX dx hy1 VL λh3 P3=>?_))
   exact qE.of (by rw[aee hb,Za hS]) VK P3
  ·have hb:f.Kind=4:=by simpa using hb
   refine idx (by omega) (by omega) (C.oF1 λz1 Ll=>fM Ll hx λw1 ZS=>idx (by omega) (by omega) (C.oF λz2 HQ=>idx (by omega) (by omega) (S.oF1 λz3 ZT=>fM HQ ZT λw2 hw2=>fS ZS hw2 λw3 VK=>?_)))
   refine idx (by omega) (by omega) (C.oF λz4 hz4=>idx (by omega) (by omega) (S.oF λz5 hz5=>fM hz4 hz5 λw4 hw4=>fS VK hw4 λw5 hw5=>idx (by omega) (by omega) (S.oF1 λz6 hz6=>?_)))
   refine(mz hw5).go λh1 y1 x1 hy1=>cW ((S.fst (Foc.arr _ 0 (by decide))).pin rfl x1 ((mz hz6).go λh2 y2 x2 VL=>cW ((P.grow (x1.trans x2)).agX dx hy1 VL λh3 P3=>?_)))
   exact qE.of (by rw[aef hb,Za hS]) hw5 P3
  ·refine idx (by omega) (by omega) (S.oF1 λz1 Ll=>fS hx Ll λw1 ZS=>idx (by omega) (by omega) (C.oF1 λz2 HQ=>idx (by omega) (by omega) (S.oF λz3 ZT=>fM HQ ZT λw2 hw2=>fA ZS hw2 λw3 VK=>?_)))
   refine(mz hx).go λh1 y1 x1 hy1=>cW ((mz VK).go λh2 y2 x2 VL=>cW ((P.grow (x1.trans x2)).agX dx hy1 VL λh3 P3=>?_))
   exact qE.of (by rw[aeg (by simpa using hb1) (by simpa using U9) (by simpa using Nl) (by simpa using hb4),Za hS]) VK P3
 refine dS.call (R.lda dU rfl λcC rC=>R.lda dx rfl λcS rS=>?_)
 have l3:cC.size=3:=by have:=(iT 3 (rF .f32)).tc rC;rw[Array.length_toList] at this;exact this
 have l2:cS.size=2:=by have:=(iT 2 (rF .f32)).tc rS;rw[Array.length_toList] at this;exact this
 refine⟨?_,?_⟩
 ·refine(Mem.start h).alc λg1 h1 x1 M=>RS.pin rfl x1 (RC.pin rfl x1 (M.alc λg2 h2 x2 M=>RS.pin rfl M.ext (RC.pin rfl M.ext ?_)))
  refine M.dH (.there .here) l3 ((iT 3 (rF .f32)).wj rC) rfl (.there .here) λh3 M=>RS.pin rfl M.ext ?_
  refine M.dH .here l2 ((iT 2 (rF .f32)).wj rS) rfl .here λh4 M=>?_
  exact key (List.sublist_append_right _ _) (P.join M) (M.rdp (.there .here) ((iT 3 (rF .f32)).ext M.ext rC)) (M.rdp .here ((iT 2 (rF .f32)).ext M.ext rS))
 ·refine(Mem.start h).alc λg1 h1 x1 M=>RS.pin rfl x1 (RC.pin rfl x1 (M.alc λg2 h2 x2 M=>RS.pin rfl M.ext (RC.pin rfl M.ext ?_)))
  refine M.dH .here l3 ((iT 3 (rF .f32)).wj rC) rfl .here λh3 M=>RS.pin rfl M.ext ?_
  refine M.dH (.there .here) l2 ((iT 2 (rF .f32)).wj rS) rfl (.there .here) λh4 M=>?_
  exact key (List.sublist_append_right _ _) (P.join M) (M.rdp .here ((iT 3 (rF .f32)).ext M.ext rC)) (M.rdp (.there .here) ((iT 2 (rF .f32)).ext M.ext rS))
end
end Go.Sx
namespace Go.Sx
section
variable {α β:Type}{r:Rep α}{h0 h:ab}{q:Addr}{F:Fr}{L:List Blk}{a:α}{off e:Nat}{s:Rep β}{get:α->List β}{put:α->List β->α}
theorem Pt.anf{γ:Type}{p:Rep γ}{get:α->γ}{put:α->γ->α}(P:Pt r h0 h q F L a)(Fc:Foc r p off get put):∃F' L',Pt p h0 h (q.add off) F' L' (get a)∧L.Sublist L' ∧
  ∀lS h' b',Pt p lS h' (q.add off) F' L' b'->Pt r lS h' q F L (put a b')∧∀k,(k<off∨off+p.sz≤k)->cell h' (q.add k)=cell h (q.add k):=by
 obtain⟨rfl,iS,B,M,O⟩:=P
 obtain⟨pre,md,post,B1,Bm,B2,e1,rfl,rfl,O1,O2⟩:=Fc.fo O
 refine⟨⟨F.g,F.T,F.pre++pre,post++F.post⟩,B1++(B2++L),⟨?_,md,Bm,?_,O1⟩,?_,λlS h' b' P'=>?_⟩
 ·rw[dQ];simp[e1]
 ·have:=M.perm (m5 _ _ _ _ _)
  simpa using this
 ·exact(List.sublist_append_right _ _).trans (List.sublist_append_right _ _)
 ·obtain⟨_,vY,B',M',O'⟩:=P'
  have M2:=M'.perm (m5 _ _ _ _ _).symm
  refine⟨⟨rfl,pre++(vY++post),B1++(B'++B2),by simpa using M2,O2 B' vY b' O'⟩,λk hk=>?_⟩
  have l1:=p.jX O1
  have l2:=p.jX O'
  rw[dQ,M.cell .here,M2.cell .here]
  simp only[List.getElem?_toArray,List.append_assoc]
  rw[List.getElem?_append_right (Nat.le_add_right _ _),List.getElem?_append_right (Nat.le_add_right _ _)]
  rw[Nat.add_sub_cancel_left]
  rcases hk with hk | hk
  ·rw[List.getElem?_append_left (by omega),List.getElem?_append_left (by omega)]
  ·rw[List.getElem?_append_right (l₁:=pre) (by omega),List.getElem?_append_right (l₁:=pre) (by omega),List.getElem?_append_right (l₁:=vY) (by omega),List.getElem?_append_right (l₁:=md) (by omega),l1,l2]
theorem Pt.ad6[Inhabited β]{i l c:Nat}{b:Option Addr}(P:Pt r h0 h q F L a)[Fc:cJ r off (rSl e s) get put](hb:cell h (q.add off)=some (.slice b l c))(hi:i<l):
  ∃a0 F' L',b=some a0∧Pt s h0 h (a0.add (i*s.sz)) F' L' (get a)[i]! ∧ L.Sublist L'∧∀lS h' x,Pt s lS h' (a0.add (i*s.sz)) F' L' x->Pt r lS h' q F L (put a ((get a).set i x))∧∀k,cell h' (q.add k)=cell h (q.add k):=by
 obtain⟨F1,L1,P1,hs,close⟩:=P.anf Fc.f
 obtain⟨eq,iS,B,M,b',l',c',rfl,S⟩:=P1
 have e0:cell h (q.add off)=some (.slice b' l' c'):=by
  rw[eq,M.cell .here];simp
 rw[hb] at e0
 cases e0
 have M1:Mem h0 h (B++((F1.g,F1.T,⟨F1.pre++([.slice b l c]++F1.post)⟩) :: L1)):=M.perm List.perm_middle.symm
 obtain⟨a0,F2,L2,rfl,P2,Fk,FO⟩:=S.elem M1 hi
 refine⟨a0,F2,L2,rfl,P2,(hs.trans (List.sublist_cons_self _ _)).trans Fk,λlS h' x P'=>?_⟩
 obtain⟨B',S',M'⟩:=FO lS h' x P'
 have M2:=M'.perm List.perm_middle
 obtain⟨P3,hk⟩:=close lS h' _ ⟨eq,[.slice (some a0) l c],B',M2,_,_,_,rfl,S'⟩
 refine⟨P3,λk=>?_⟩
 by_cases h1:k<off∨off+(rSl e s).sz≤k
 ·exact hk k h1
 ·obtain rfl:k=off:=by
   have:(rSl e s).sz=1:=rfl
   omega
  rw[hb,eq,M2.cell .here];simp
theorem Pt.aeQ[Inhabited β]{i l c:Nat}{b:Option Addr}(P:Pt r h0 h q F L a)[Fc:cJ r 0 (rSl e s) get put](hb:cell h q=some (.slice b l c))(hi:i<l):
  ∃a0 F' L',b=some a0∧Pt s h0 h (a0.add (i*s.sz)) F' L' (get a)[i]! ∧ L.Sublist L'∧∀lS h' x,Pt s lS h' (a0.add (i*s.sz)) F' L' x->Pt r lS h' q F L (put a ((get a).set i x))∧∀k,cell h' (q.add k)=cell h (q.add k):=
 P.ad6 (off:=0) (by rwa [kW]) hi
theorem Pt.slr{l c:Nat}{b:Option Addr}(P:Pt r h0 h q F L a)[Fc:cJ r off (rSl e s) get put](hb:cell h (q.add off)=some (.slice b l c)):SlR s h b l c (get a):=by
 obtain⟨v,e1,b',l',c',e2,S⟩:=P.rd.cell Fc.f rfl
 obtain rfl:v = .slice b' l' c':=by simpa using e2
 rw[hb] at e1
 cases e1
 exact S
end
end Go.Sx
namespace Go.Sx
open Go.Proofs
set_option maxRecDepth 100000
section
variable {h:ab}{q:Addr}
theorem drop_cons{α:Type}[Inhabited α]{l:List α}{n:Nat}(h:n<l.length):l.drop n=l[n]! :: l.drop (n+1):=by
 rw[List.drop_eq_getElem_cons h,getElem!_pos l n h]
theorem vk{α:Type}[Inhabited α]{l:List α}{n:Nat}(h:n<l.length):l.take (n+1)=l.take n++[l[n]!]:=by
 rw[List.take_succ_eq_append_getElem h,getElem!_pos l n h]
theorem Po(n:Nat):ows (rF .f32) [] (List.replicate n (.float .f32 0)) (List.replicate n 0):=by
 induction n with
 | zero=>exact⟨rfl,rfl⟩
 | succ n ih=>exact⟨[],[],[.float .f32 0],List.replicate n (.float .f32 0),rfl,rfl,⟨rfl,0,rfl,fw0⟩,ih⟩
theorem Ei{h0:ab}{L:List Blk}{n:Nat}{F:Nat->ab->Prop}(M:Mem h0 h L)(hn:n≤1048576)(H:∀g h',Ext h h'->Mem h0 h' ((g,22,⟨List.replicate n (.float .f32 0)⟩) :: L)->SlO 22 (rF .f32) [(g,22,⟨List.replicate n (.float .f32 0)⟩)] (some ⟨g,0,none⟩) n n (List.replicate n 0)->F g h'):MKS eC 22 (n:Int) (n:Int) F h:=by
 refine apY M rfl rfl (by show 4*n≤2 ^ 48;omega) (by omega) λg h' x' M'=>H g h' x' M' ?_
 have:n≤maxLen:=by
  have:(1048576:Nat)≤maxLen:=by decide
  omega
 exact⟨by simp,List.replicate n (.float .f32 0),[_],[],rfl,⟨by rw[List.length_replicate,show(rF .f32).sz=1 from rfl,Nat.mul_one],.inr ⟨g,_,rfl,rfl,Nat.le_refl _,this,by rw[List.size_toArray,List.length_replicate,show(rF .f32).sz=1 from rfl,Nat.mul_one],by
  rw[List.take_of_length_le]
  show(List.replicate n (Value.float .f32 0)).length≤n*1
  simp⟩⟩,Po n⟩
end
def fk{α:Type}(r:Rep α)(h h':ab)(u:Value)(a:α)(code:Int):Prop:=∃cs B,u = .tuple ⟨[.agg cs,.int .i64 code]⟩∧r.ow B cs.toList a∧Mem h h' B
section
variable {α β:Type}{r:Rep α}{h0 h:ab}{q:Addr}{F:Fr}{L:List Blk}{a:α}{off:Nat}
theorem Pt.atC{p:Rep β}{get:α->β}{put:α->β->α}{b:β}{n:Nat}{vs:Array Value}{B':List Blk}{K:ab->Prop}(P:Pt r h0 h q F (B'++L) a)(Fc:Foc r p 0 get put)(hp:p.sz=n)(O:p.ow B' vs.toList b)(H:∀h',Pt r h0 h' q F L (put a b)->K h'):STA n h q vs K:=by
 have:=P.sts Fc hp O H
 rwa [kW] at this
end
def rP:Rep Addr:=Vf (λa=>.pointer (some a)) λ_=>rfl
theorem RdP.oP1{h:ab}{q a:Addr}{K:Addr->Prop}(R:RdP rP h q a)(H:K a):Sx.oP (Sx.cell h q) K:=by
 obtain⟨vs,h1,e⟩:=R
 have:=h1 0 (.pointer (some a)) (by rw[show vs=[.pointer (some a)] from e];rfl)
 rw[kW] at this
 rw[this];exact H
theorem is2{α:Type}{l:List α}(h:l.length=2):∃a b,l=[a,b]:=by
 match l,h with
 | [a,b],_=>exact⟨a,b,rfl⟩
def oN{α:Type}(f:α->α)(l:List α)(n:Nat):List α:=(l.take n).map f++l.drop n
section
variable {α:Type}{f:α->α}{l:List α}{n:Nat}
theorem DA:oN f l 0=l:=by simp[oN]
theorem Gy(h:n=l.length):oN f l n=l.map f:=by subst h;simp[oN]
theorem yL:(oN f l n).length=l.length:=by simp only[oN,List.length_append,List.length_map,List.length_take,List.length_drop];omega
theorem NY[Inhabited α](hn:n<l.length):(oN f l n)[n]! = l[n]!:=by
 rw[getElem!_pos _ n (by rw[yL];exact hn),getElem!_pos l n hn]
 unfold oN
 have hl:((l.take n).map f).length=n:=by rw[List.length_map,List.length_take];omega
 rw[List.getElem_append_right (by omega)]
 simp only[hl,Nat.sub_self,List.getElem_drop,Nat.add_zero]
theorem JS[Inhabited α](hn:n<l.length):(oN f l n).set n (f l[n]!)=oN f l (n+1):=by
 unfold oN
 have hl:((l.take n).map f).length=n:=by rw[List.length_map,List.length_take];omega
 rw[List.set_append_right _ _ (by omega),hl,Nat.sub_self,drop_cons hn,List.set_cons_zero,vk hn,List.map_append]
 simp
end
def pR{α:Type}[Inhabited α](f:Nat->α)(l:List α)(n:Nat):List α:=(List.range l.length).map λi=>if i<n then f i else l[i]!
section
variable {α:Type} [Inhabited α] {f:Nat->α}{l:List α}{n i:Nat}
theorem uZ:(pR f l n).length=l.length:=by simp[pR]
theorem zx(hi:i<l.length):(pR f l n)[i]? = some (if i<n then f i else l[i]!):=by
 unfold pR
 rw[List.getElem?_map,List.getElem?_range hi];rfl
theorem NX(hi:i<l.length):(pR f l n)[i]! = if i<n then f i else l[i]!:=by
 rw[List.getElem!_eq_getElem?_getD,zx hi];rfl
theorem SW(hi:i<l.length)(h:n≤i):(pR f l n)[i]! = l[i]!:=by rw[NX hi,if_neg (by omega)]
theorem SX(hi:i<l.length)(h:i<n):(pR f l n)[i]! = f i:=by rw[NX hi,if_pos h]
theorem zy:pR f l 0=l:=by
 apply List.ext_getElem?
 intro i
 by_cases hi:i<l.length
 ·rw[zx hi,if_neg (by omega),getElem!_pos l i hi,List.getElem?_eq_getElem hi]
 ·rw[List.getElem?_eq_none (by rw[uZ];omega),List.getElem?_eq_none (by omega)]
theorem NW(h:l.length≤n):pR f l n=(List.range l.length).map f:=by
 unfold pR
 refine List.map_congr_left λi hi=>?_
 rw[if_pos (by have:=List.mem_range.1 hi;omega)]
theorem Gx(hn:n<l.length):(pR f l n).set n (f n)=pR f l (n+1):=by
 apply List.ext_getElem?
 intro i
 by_cases hi:i<l.length
 ·rw[zx hi,List.getElem?_set]
  by_cases e:n=i
  ·subst e
   rw[if_pos rfl,if_pos (by rw[uZ];exact hn),if_pos (by omega)]
  ·rw[if_neg e,zx hi]
   congr 1
   by_cases h:i<n
   ·rw[if_pos h,if_pos (by omega)]
   ·rw[if_neg h,if_neg (by omega)]
 ·rw[List.getElem?_eq_none (by rw[List.length_set,uZ];omega),List.getElem?_eq_none (by rw[uZ];omega)]
end
theorem Fq{r:aY}{a:Nat}(h:r.ok=true):(r.push a).ok=true∧(r.push a).len=r.len:=by
 have k:=kO h
 have e:(r.push a).len=r.len:=by simp[aY.push,aY.len]
 refine⟨?_,e⟩
 have hl:r.len=r.ae.length:=rfl
 have h1:(r.push a).At=(r.At+1) % r.len:=rfl
 have h2:=Int.emod_nonneg (r.At+1) (show r.len≠0 by omega)
 have h3:=Int.emod_lt_of_pos (r.At+1) (show 0<r.len by omega)
 unfold aY.ok inR
 rw[e,h1]
 simp only[Bool.and_eq_true,decide_eq_true_eq]
 omega
theorem iL{α:Type}[Inhabited α]{l:List α}{i:Nat}(h:i<l.length):l[i]! ∈ l:=by rw[getElem!_pos l i h];exact List.getElem_mem h
theorem goS{α:Type}{e:Nat}{r:Rep α}{P:Program}{f:FuncId}{args:Array Value}{xs:List α}{hb h:ab}{L:List Blk}{l:Nat}{K:Value->ab->Prop}(M:Mem hb h L)(k:af P f args (λu h'=>∃b' c' B,u = .slice b' l c'∧SlO e r B b' l c' xs∧Mem h h' B) h)(H:∀h' b' c' B,Mem hb h' (B++L)->SlO e r B b' l c' xs->K (.slice b' l c') h'):af P f args K h:=
 k.mono λu h' ⟨b',c',B,e,O,N⟩=>by subst e;exact H h' b' c' B (M.join N) O
end Go.Sx
