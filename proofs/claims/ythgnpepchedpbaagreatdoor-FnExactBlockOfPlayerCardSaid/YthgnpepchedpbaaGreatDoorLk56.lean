/- Lemmas. -/
import Derived.Test.YthgnpepchedpbaaGreatDoorLk54
import Derived.Test.YthgnpepchedpbaaGreatDoorLk33
import Derived.Test.YthgnpepchedpbaaGreatDoorLk24
import Derived.Test.YthgnpepchedpbaaGreatDoorTab
import Derived.Test.YthgnpepchedpbaaGreatDoorLk35
import Derived.Test.YthgnpepchedpbaaGreatDoorLk29
set_option linter.unusedVariables false
set_option linter.unusedSimpArgs false
namespace Go.Sx
open Go.Proofs
set_option maxRecDepth 100000
set_option maxHeartbeats 1000000
def aK.sound(k:Int)(v:aK):aK×Nat:=
 if k=1 then({ v with String:=(v.String.step 0).1 },(v.String.step 0).2)
 else if k=2 then({ v with aI:=(v.aI.step v.gR).1 },(v.aI.step v.gR).2)
 else({ v with bY:=(v.bY.step v.gR).1 },(v.bY.step v.gR).2)
def aK.quiet(k:Int)(v:aK):Bool:=if k=1 then v.String.nK else if k=2 then v.aI.nK else v.bY.nK
def fB(k:Int)(v:aK):Prop:=if k=1 then v.String.Loop.ok=true else if k=2 then v.aI.iW else v.bY.ok=true
theorem LY{k:Int}(v:aK)(h1:¬k=1)(h2:¬k=2):v.sound k=({ v with bY:=(v.bY.step v.gR).1 },(v.bY.step v.gR).2):=by
 unfold aK.sound;rw[if_neg h1,if_neg h2]
theorem wm(k:Int)(v:aK):(v.sound k).1.Gone=v.Gone∧(v.sound k).1.aT=v.aT∧(v.sound k).1.aq=v.aq:=by
 unfold aK.sound
 split
 ·exact⟨rfl,rfl,rfl⟩
 ·split <;> exact⟨rfl,rfl,rfl⟩
theorem Nu(a:Nat):fin (kept a)=true:=by
 unfold kept
 split
 ·next h=>
  unfold flush
  split
  ·decide +kernel
  ·exact h
 ·decide +kernel
theorem Oy{r:aY}{a:Nat}(h:r.okf=true):(r.push (kept a)).okf=true:=by
 unfold aY.okf at *
 rw[Bool.and_eq_true] at *
 refine⟨(Fq h.1).1,?_⟩
 have h2:=h.2
 unfold pW at *
 rw[List.all_eq_true] at *
 intro x hx
 rcases List.mem_or_eq_of_mem_set hx with hx | rfl
 ·exact h2 x hx
 ·exact Nu a
theorem Vs{l:List Nat}{n:Int}{a:Nat}(h:used l n=true)(hn:1≤n):used (l.set 0 (kept a)) n=true:=by
 unfold used at *
 rw[List.all_eq_true] at *
 intro i hi
 rw[List.mem_range,List.length_set] at hi
 have:=h i (List.mem_range.2 hi)
 rw[Bool.and_eq_true] at *
 by_cases e:i=0
 ·subst e
  rw[getElem!_pos _ 0 (by rw[List.length_set];exact hi),List.getElem_set_self]
  exact⟨Nu a,by rw[decide_eq_true (by omega)];rfl⟩
 ·rw[getElem!_pos _ i (by rw[List.length_set];exact hi),List.getElem_set_ne (by omega),← getElem!_pos l i hi]
  exact this
theorem L5{f:cz}{a:Nat}(h:(f.ok&&f.Kind==1)=true):((f.step a).1.ok&&(f.step a).1.Kind==1)=true:=by
 rw[Bool.and_eq_true,beq_iff_eq] at h
 rw[Zh h.2]
 have h1:=h.1
 unfold cz.ok at *
 simp only[Bool.and_eq_true] at *
 exact⟨⟨h1.1,Vs h1.2 (by unfold o6;rw[if_pos (.inl h.2)];decide)⟩,by rw[h.2];rfl⟩
theorem MJ{x:iU}{a:Nat}(h:x.ok=true):(x.step a).1.ok=true:=by
 unfold iU.ok at *
 rw[Bool.and_eq_true,Bool.and_eq_true,Bool.and_eq_true] at *
 obtain⟨⟨⟨h1,h2⟩,h3⟩,h4⟩:=h
 exact⟨⟨⟨Oy h1,Oy h2⟩,L5 h3⟩,h4⟩
theorem rD{x:iU}(h:x.ok=true):x.bT.ok=true∧x.aH.ok=true:=by
 unfold iU.ok aY.okf at h
 simp only[Bool.and_eq_true] at h
 exact⟨h.1.1.1.1,h.1.1.2.1⟩
theorem wk{k:Int}{v:aK}(h:fB k v):fB k (v.sound k).1:=by
 unfold fB at *
 by_cases h1:k=1
 ·subst h1;exact(Fq h).1
 rw[if_neg h1] at *
 by_cases h2:k=2
 ·subst h2;exact Rz h _
 rw[if_neg h2] at *
 rw[LY v h1 h2]
 exact MJ h
section
variable {h0 h:ab}{q:Addr}{F:Fr}{L:List Blk}{v:aK}{k:Int}
def Wh(h0 h':ab)(q:Addr)(F:Fr)(L:List Blk)(k:Int)(v:aK)(u:Value):Prop:=(∃y,u = .float .f32 y∧FW .f32 y (v.sound k).2)∧Pt aQ h0 h' q F L (v.sound k).1
theorem Qw(P:Pt aQ h0 h q F L v)(B:fB k v):af ak 75 #[.int .i64 k,.pointer (some q)] (λu h'=>Wh h0 h' q F L k v u) h:=by
 unfold fB at B
 refine uz.call (br (λk1=>?_) λk1=>br (λk2=>?_) λk2=>?_)
 ·obtain rfl:k=1:=by simpa using k1
  obtain⟨F1,L1,P1,hs,close⟩:=P.foc bO
  refine(Ur P1 B fw0).mono ?_
  rintro _ h1 ⟨⟨y,rfl,hy⟩,P1⟩
  exact cW ⟨⟨y,rfl,hy⟩,close _ _ _ P1⟩
 ·obtain rfl:k=2:=by simpa using k2
  refine P.rd.oF λd hd=>?_
  obtain⟨F1,L1,P1,hs,close⟩:=P.foc cE
  refine(Ut P1 B hd).mono ?_
  rintro _ h1 ⟨⟨y,rfl,hy⟩,P1⟩
  exact cW ⟨⟨y,rfl,hy⟩,close _ _ _ P1⟩
 ·have n1:¬k=1:=by simpa using k1
  have n2:¬k=2:=by simpa using k2
  rw[if_neg n1,if_neg n2] at B
  unfold Wh
  rw[LY v n1 n2]
  refine P.rd.oF λd hd=>?_
  obtain⟨F1,L1,P1,hs,close⟩:=P.foc cP
  refine(Lu P1 (rD B).1 (rD B).2 hd).mono ?_
  rintro _ h1 ⟨⟨y,rfl,hy⟩,P1⟩
  exact cW ⟨⟨y,rfl,hy⟩,close _ _ _ P1⟩
theorem Qv(R:RdP aQ h q v)(B:fB k v):af ak 76 #[.int .i64 k,.pointer (some q)] (λu h'=>u = .bool (v.quiet k)∧Ext h h') h:=by
 unfold fB at B
 refine uy.call (br (λk1=>?_) λk1=>br (λk2=>?_) λk2=>?_)
 ·obtain rfl:k=1:=by simpa using k1
  exact goX (Nx (R.foc bO)) λh1 x1=>bt ⟨rfl,x1⟩
 ·obtain rfl:k=2:=by simpa using k2
  exact goX (Nz (R.foc cE)) λh1 x1=>bt ⟨rfl,x1⟩
 ·have n1:¬k=1:=by simpa using k1
  have n2:¬k=2:=by simpa using k2
  rw[if_neg n1,if_neg n2] at B
  refine R.lda cP rfl λcs Rc=>goX (I4 Rc B) λh1 x1=>jJ (bt (cN ⟨?_,x1⟩))
  unfold aK.quiet;rw[if_neg n1,if_neg n2]
def Wg(h0 h':ab)(q:Addr)(F:Fr)(L:List Blk)(k:Int)(v:aK)(u:Value):Prop:=(∃y,u = .tuple ⟨[.float .f32 y,.bool (v.Gone&&(v.sound k).1.quiet k)]⟩∧FW .f32 y (v.sound k).2)∧Pt aQ h0 h' q F L (v.sound k).1
theorem Kv(P:Pt aQ h0 h q F L v)(B:fB k v):af ak 115 #[.pointer (some q),.int .i64 k] (λu h'=>Wg h0 h' q F L k v u) h:=by
 have B':=wk B
 unfold fB at B B'
 have hG:=(wm k v).1
 refine nG.call (br (λk1=>?_) λk1=>br (λk2=>?_) λk2=>?_)
 ·obtain rfl:k=1:=by simpa using k1
  obtain⟨F1,L1,P1,hs,close⟩:=P.foc bO
  refine(Ia P1 B fw0).mono ?_
  rintro _ h1 ⟨⟨y,rfl,hy⟩,P1⟩
  have P:Pt aQ h0 h1 q F L (v.sound 1).1:=close _ _ _ P1
  refine cW (P.rd.oB (br (λhb=>?_) λhb=>?_))
  ·have hb:v.Gone=true:=hb
   exact P.rd.lda bO rfl λcs Rc=>goX (BB Rc B') λh2 x2=>bt ⟨⟨y,by rw[hb];rfl,hy⟩,P.grow x2⟩
  ·have hb:v.Gone=false:=hb
   exact⟨⟨y,by rw[hb];rfl,hy⟩,P⟩
 ·obtain rfl:k=2:=by simpa using k2
  refine P.rd.oF λd hd=>?_
  obtain⟨F1,L1,P1,hs,close⟩:=P.foc cE
  refine(Mx P1 B hd).mono ?_
  rintro _ h1 ⟨⟨y,rfl,hy⟩,P1⟩
  have P:Pt aQ h0 h1 q F L (v.sound 2).1:=close _ _ _ P1
  refine cW (P.rd.oB (br (λhb=>?_) λhb=>?_))
  ·have hb:v.Gone=true:=hb
   have Ru:(v.sound 2).1.aI.iW:=B'
   refine(atv (P.rd.foc cE) Ru).mono ?_
   rintro _ h2 ⟨b,l,c,Bp,ps,rfl,O,N,H⟩
   refine lR (goX (PQ (O.look N (List.Sublist.refl _)) (H.ext N.ext)) λh3 x3=>bt ?_)
   have P:=P.grow (N.ext.trans x3)
   have hq:(v.sound 2).1.quiet 2=((v.sound 2).1.aI.aW.all aY.zero&&(v.sound 2).1.aI.Left.all aY.zero&&(v.sound 2).1.aI.End.still):=rfl
   rw[IU Ru]
   refine br (λhz=>P.rd.lda ((cE.trans gK).at rfl) rfl λcs Rc=>goX (lF Rc) λh4 x4=>bt ⟨⟨y,?_,hy⟩,P.grow x4⟩) λhz=>⟨⟨y,?_,hy⟩,P⟩
   ·rw[hb,hq,hz];rfl
   ·rw[hb,hq,hz];rfl
  ·have hb:v.Gone=false:=hb
   exact⟨⟨y,by rw[hb];rfl,hy⟩,P⟩
 ·have n1:¬k=1:=by simpa using k1
  have n2:¬k=2:=by simpa using k2
  rw[if_neg n1,if_neg n2] at B B'
  unfold Wg
  have hq:(v.sound k).1.quiet k=((v.sound k).1.bY.bT.zero&&(v.sound k).1.bY.aH.zero&&(v.sound k).1.bY.fz.still):=by unfold aK.quiet;rw[if_neg n1,if_neg n2];rfl
  have ajz:=LY v n1 n2
  generalize v.sound k=w at *
  refine P.rd.oF λd hd=>?_
  obtain⟨F1,L1,P1,hs,close⟩:=P.foc cP
  refine(PF P1 (rD B).1 (rD B).2 hd).mono ?_
  rintro _ h1 ⟨⟨y,rfl,hy⟩,P1⟩
  have P:Pt aQ h0 h1 q F L w.1:=by rw[ajz];exact close _ _ _ P1
  have hy:FW .f32 y w.2:=by rw[ajz];exact hy
  obtain⟨o1,o2⟩:=rD B'
  refine cW (P.rd.oB (br (λhb=>?_) λhb=>?_))
  ·rw[hG] at hb
   refine P.rd.lda (Foc.at (cP.trans ik) rfl) rfl λc1 R1=>goX (zs R1 o1) λh2 x2=>bt (br (λz1=>?_) λz1=>⟨⟨y,by rw[hb,hq,z1];rfl,hy⟩,P.grow x2⟩)
   refine(P.grow x2).rd.lda (Foc.at (cP.trans fE) rfl) rfl λc1 R1=>goX (zs R1 o2) λh3 x3=>bt (br (λz2=>?_) λz2=>⟨⟨y,by rw[hb,hq,z1,z2];rfl,hy⟩,P.grow (x2.trans x3)⟩)
   exact(P.grow (x2.trans x3)).rd.lda (Foc.at (cP.trans gj) rfl) rfl λc1 R1=>goX (lF R1) λh4 x4=>bt ⟨⟨y,by rw[hb,hq,z1,z2];rfl,hy⟩,P.grow (x2.trans (x3.trans x4))⟩
  ·rw[hG] at hb
   exact⟨⟨y,by rw[hb];rfl,hy⟩,P⟩
end
end Go.Sx
namespace Go.Sx
section
variable {α β:Type}{r:Rep α}{h0 h:ab}{q:Addr}{F:Fr}{L:List Blk}{a:α}{off:Nat}
theorem Pt.aie{p:Rep β}{get:α->β}{put:α->β->α}(P:Pt r h0 h q F L a)(Fc:Foc r p off get put):∃F' C,Pt p h0 h (q.add off) F' (C++L) (get a)∧∀lS h' L' b',Pt p lS h' (q.add off) F' (C++L') b'->Pt r lS h' q F L' (put a b')∧∀k,(k<off∨off+p.sz≤k)->cell h' (q.add k)=cell h (q.add k):=by
 obtain⟨rfl,iS,B,M,O⟩:=P
 obtain⟨pre,md,post,B1,Bm,B2,e1,rfl,rfl,O1,O2⟩:=Fc.fo O
 refine⟨⟨F.g,F.T,F.pre++pre,post++F.post⟩,B1++B2,⟨?_,md,Bm,?_,O1⟩,λlS h' L' b' P'=>?_⟩
 ·rw[dQ];simp[e1]
 ·have:=M.perm (m5 _ _ _ _ _)
  simpa using this
 ·obtain⟨_,vY,B',M',O'⟩:=P'
  have M'':Mem lS h' ((F.g,F.T,⟨(F.pre++pre)++(vY++(post++F.post))⟩) :: (B'++(B1++(B2++L')))):=by simpa using M'
  have M2:=M''.perm (m5 _ _ _ _ _).symm
  refine⟨⟨rfl,pre++(vY++post),B1++(B'++B2),by simpa using M2,O2 B' vY b' O'⟩,λk hk=>?_⟩
  have l1:=p.jX O1
  have l2:=p.jX O'
  rw[dQ,M.cell .here,M2.cell .here]
  simp only[List.getElem?_toArray,List.append_assoc]
  rw[List.getElem?_append_right (Nat.le_add_right _ _),List.getElem?_append_right (Nat.le_add_right _ _)]
  rw[Nat.add_sub_cancel_left]
  rcases hk with hk | hk
  ·rw[List.getElem?_append_left (by omega),List.getElem?_append_left (by omega)]
  ·rw[List.getElem?_append_right (l₁:=pre) (by omega),List.getElem?_append_right (l₁:=pre) (by omega),List.getElem?_append_right (l₁:=vY) (by omega),List.getElem?_append_right (l₁:=md) (by omega),l1,l2]
theorem SlO.JA[Inhabited β]{e:Nat}{s:Rep β}{B:List Blk}{b:Option Addr}{l c i:Nat}{iD:List β}(S:SlO e s B b l c iD)(hi:i<l):
  ∃a0 F' C,b=some a0∧(∀h0 h L,Mem h0 h (B++L)->Pt s h0 h (a0.add (i*s.sz)) F' (C++L) iD[i]!)∧∀lS h' L' x,Pt s lS h' (a0.add (i*s.sz)) F' (C++L') x->∃B',SlO e s B' b l c (iD.set i x)∧Mem lS h' (B'++L'):=by
 obtain⟨h1,ws,B1,B2,rfl,O,h3⟩:=S
 rcases O.2 with⟨_,_,h4,_⟩ | ⟨g,cs,rfl,rfl,h5,h6,h7,h8⟩
 ·omega
 obtain⟨pre,iS,post,C1,Cm,C2,e1,e2,rfl,O1,O2⟩:=h3.at (i:=i) (by omega)
 have hc:cs=⟨pre++(iS++(post++cs.toList.drop (l*s.sz)))⟩:=by
  have:cs.toList=ws++cs.toList.drop (l*s.sz):=by rw[← h8,List.take_append_drop]
  rw[e2] at this
  cases cs;simpa using this
 refine⟨_,⟨g,e,pre,post++cs.toList.drop (l*s.sz)⟩,C1++C2,rfl,λh0 h L M=>⟨?_,iS,Cm,?_,by rw[getElem!_pos _ i (by omega)];exact O1⟩,λlS h' L' x P'=>?_⟩
 ·rw[dQ];simp[e1]
 ·rw[← hc]
  have:Mem h0 h ((g,e,cs) :: ((C1++(Cm++C2))++L)):=by simpa using M
  have:=this.perm (m5 _ _ _ _ _)
  simpa using this
 ·obtain⟨_,vY,B',M',O'⟩:=P'
  have hm:=s.jX O'
  have hm0:=s.jX O1
  have hws:ws.length=l*s.sz:=O.1
  have hlen:(pre++(vY++post)).length=l*s.sz:=by rw[← hws,e2];simp[hm,hm0]
  refine⟨(g,e,⟨pre++(vY++(post++cs.toList.drop (l*s.sz)))⟩) :: (C1++(B'++C2)),⟨by simpa using h1,pre++(vY++post),[_],_,rfl,⟨hlen,.inr ⟨g,_,rfl,rfl,h5,h6,?_,?_⟩⟩,O2 _ _ _ O'⟩,?_⟩
  ·have:cs.toList.length=c*s.sz:=by simpa using h7
   have hle:=Nat.mul_le_mul_right s.sz h5
   simp only[List.size_toArray]
   have:(pre++(vY++(post++cs.toList.drop (l*s.sz)))).length=(pre++(vY++post)).length+(cs.toList.drop (l*s.sz)).length:=by simp;omega
   rw[this,hlen,List.length_drop];omega
  ·show List.take _ (pre++(vY++(post++_)))=_
   have e5:pre++(vY++(post++cs.toList.drop (l*s.sz)))=(pre++(vY++post))++cs.toList.drop (l*s.sz):=by simp
   rw[e5,← hlen]
   exact List.take_left
  ·have M'':Mem lS h' ((g,e,⟨pre++(vY++(post++cs.toList.drop (l*s.sz)))⟩) :: (B'++(C1++(C2++L')))):=by simpa using M'
   have:=M''.perm (m5 _ _ _ _ _).symm
   simpa using this
theorem Pt.JA[Inhabited β]{e:Nat}{s:Rep β}{get:α->List β}{put:α->List β->α}{i l c:Nat}{b:Option Addr}(P:Pt r h0 h q F L a)[Fc:cJ r off (rSl e s) get put](hb:cell h (q.add off)=some (.slice b l c))(hi:i<l):
  ∃a0 F' C,b=some a0∧Pt s h0 h (a0.add (i*s.sz)) F' (C++L) (get a)[i]! ∧ ∀lS h' L' x,Pt s lS h' (a0.add (i*s.sz)) F' (C++L') x->Pt r lS h' q F L' (put a ((get a).set i x))∧∀k,cell h' (q.add k)=cell h (q.add k):=by
 obtain⟨F1,C1,P1,close⟩:=P.aie Fc.f
 obtain⟨eq,iS,B,M,b',l',c',rfl,S⟩:=P1
 have e0:cell h (q.add off)=some (.slice b' l' c'):=by
  rw[eq,M.cell .here];simp
 rw[hb] at e0
 cases e0
 obtain⟨a0,F2,C2,rfl,P2,FO⟩:=S.JA hi
 refine⟨a0,F2,C2++((F1.g,F1.T,⟨F1.pre++([.slice (some a0) l c]++F1.post)⟩) :: C1),rfl,?_,λlS h' L' x P'=>?_⟩
 ·have:=P2 h0 h ((F1.g,F1.T,⟨F1.pre++([.slice (some a0) l c]++F1.post)⟩) :: (C1++L)) (M.perm List.perm_middle.symm)
  simpa using this
 ·have P'':Pt s lS h' (a0.add (i*s.sz)) F2 (C2++((F1.g,F1.T,⟨F1.pre++([.slice (some a0) l c]++F1.post)⟩) :: (C1++L'))) x:=by simpa using P'
  obtain⟨B',S',M'⟩:=FO lS h' _ x P''
  have M2:=M'.perm List.perm_middle
  obtain⟨P3,hk⟩:=close lS h' _ _ ⟨eq,[.slice (some a0) l c],B',M2,_,_,_,rfl,S'⟩
  refine⟨P3,λk=>?_⟩
  by_cases h1:k<off∨off+(rSl e s).sz≤k
  ·exact hk k h1
  ·obtain rfl:k=off:=by
    have:(rSl e s).sz=1:=rfl
    omega
   rw[hb,eq,M2.cell .here];simp
theorem Pt.stE[Inhabited β]{e:Nat}{s:Rep β}{get:α->List β}{put:α->List β->α}{i l c n:Nat}{b:Option Addr}{vs:Array Value}{B':List Blk}{x:β}{K:ab->Prop}(P:Pt r h0 h q F (B'++L) a)[Fc:cJ r off (rSl e s) get put](hb:cell h (q.add off)=some (.slice b l c))(hi:i<l)(hn:s.sz=n)(O:s.ow B' vs.toList x)(H:∀h',Pt r h0 h' q F L (put a ((get a).set i x))->(∀k,cell h' (q.add k)=cell h (q.add k))->K h'):∃a0,b=some a0∧STA n h (a0.add (i*n)) vs K:=by
 subst hn
 obtain⟨a0,F',C,rfl,P1,close⟩:=P.JA hb hi
 refine⟨a0,rfl,?_⟩
 have P2:Pt s h0 h (a0.add (i*s.sz)) F' (B'++(C++L)) (get a)[i]!:=P1.cnt λp=>by simp only[bN];omega
 refine P2.atC (Foc.here s) rfl O λh' P3=>?_
 obtain⟨P4,e4⟩:=close _ _ _ _ P3
 exact H h' P4 e4
end
def alT{α:Type}(r:Rep α):Rep (α ⊕ List Value) where
 sz:=r.sz
 rd h vs x:=match x with | .inl a=>r.rd h vs a | .inr ws=>vs=ws∧ws.length=r.sz∧∀v ∈ ws,v.oneCell'=true
 ow B vs x:=match x with | .inl a=>r.ow B vs a | .inr ws=>B=[]∧vs=ws∧ws.length=r.sz∧∀v ∈ ws,v.oneCell'=true
 tc {h vs x} e:=by
  cases x with
  | inl a=>exact r.tc e
  | inr ws=>rw[e.1];exact e.2.1
 jX {B vs x} e:=by
  cases x with
  | inl a=>exact r.jX e
  | inr ws=>rw[e.2.1];exact e.2.2.1
 ext {h h' vs x} X e:=by
  cases x with
  | inl a=>exact r.ext X e
  | inr ws=>exact e
 look {h0 h L B vs x} e M s:=by
  cases x with
  | inl a=>exact r.look e M s
  | inr ws=>exact e.2
 wj {h vs x} e:=by
  cases x with
  | inl a=>exact r.wj e
  | inr ws=>rw[e.1];exact e.2.2
 jy {B vs x} e:=by
  cases x with
  | inl a=>exact r.jy e
  | inr ws=>rw[e.2.1];exact e.2.2.2
end Go.Sx
namespace Go.Sx
open Go.Proofs
set_option maxRecDepth 100000
def aX.B2(aa:VH)(b:(Option Addr×Nat×Nat×Value×Int×Int)->ab->Prop):Option Addr×Nat×Nat×Value×Int×Int->ab->Prop |(ja,iN,jz,f_1,t7,t8),h=> BIF (decide (t8<t7)) (bd ja t8 iN λc=> LDA 45 h ((Addr.add c (t8.toNat*45))) λd=> pE ak f_1 #[.agg d] (λe a=> asB e λf=> BIF f (aa (.int .i64 t8) a) (b (ja,iN,jz,f_1,t7,((IntKind.i64.wrap (t8+1)))) a)) h) (aa (.int .i64 (-1)) h)
def aX.g2(fr:Frame):Option Addr×Nat×Nat×Value×Int×Int:=((gLb (ah fr 0)),(gLl (ah fr 0)),(gLc (ah fr 0)),(ah fr 1),(gI (ah fr 7)),(gI (ah fr 8)))
def aX.l2(aa:VH):=gg (kds 19 [(0,.l),(1,.v),(7,.i .i64),(8,.i .i64)]) λfr=>bk (aX.B2 aa) (aX.g2 fr)
def aX.S(ja:Option Addr)(iN jz:Nat)(f_1:Value)(aa:VH)(h:ab):=bk (aX.B2 aa) (ja,iN,jz,f_1,(iN:Int),0) h
theorem aX.call{ja iN jz f_1 aa h}(H:aX.S ja iN jz f_1 aa h):af ak 170 #[.slice ja iN jz,f_1] aa h:=qc (Λ:=aS [(1000002,aX.l2 aa)]) Tryz.func170 (qs qf (qs (qs qf (Rq.block (ql (aX.l2 aa) (qg (g:=aX.g2) (Λ:=λa=>aS []) (λ_ _ _=>by kernel_rfl) (λa=>qf))))) qf)) (qe H)
set_option maxHeartbeats 1000000
section
variable {h:ab}
theorem td{b:Option Addr}{l c:Nat}{xs:List aK}{f:Value}{p:aK->Bool}(S:SlR aQ h b l c xs)(T:FD ak aQ h f p):
  af ak 170 #[.slice b l c,f] (λu h'=>u = .int .i64 (jL p xs)∧Ext h h') h:=by
 refine aX.call ?_
 have Fi:=S.2.2.1
 have VF:=S.2.1
 have:=cu
 have hl:=S.len
 refine loop (λx hh=>∃n:Nat,x=(b,l,c,f,(l:Int),(n:Int))∧n≤l∧Ext h hh∧∀i,i<n->p xs[i]! = false) (λx=>(l-x.2.2.2.2.2).toNat) ⟨0,rfl,by omega,Ext.refl _,λi hi=>by omega⟩ ?_
 rintro x hh ⟨n,rfl,hn,X,hf⟩
 refine brd (λhc=>?_) λhc=>⟨by rw[qZ λi hi=>hf i (by omega)],X⟩
 refine(S.ext X).idx (by decide) (by omega) (by omega) λa Ra=>Ra.jc rfl λcs Rc=>goD X (T _ _ _ X Rc) λh1 x1=>bt (br (λhb=>?_) λhb=>?_)
 ·exact⟨by rw[ra (by omega) hf (by simpa using hb)],x1⟩
 ·refine⟨⟨n+1,by rw[ag (by omega)],by omega,x1,λi hi=>?_⟩,by rw[ag (by omega)];show _<_;simp;omega⟩
  by_cases e:i=n
  ·subst e;simpa using hb
  ·exact hf i (by omega)
end
def wE.S(s_0:Addr)(aa:VH)(h:ab):=ALC ⟨dw⟩ 39 (λb c=> LDA 6 c s_0 λe=> ALC ⟨dw⟩ 39 (λa f=> STA 6 f ⟨a,0,none⟩ e λg=> ALC ⟨[]⟩ 22 (λi d=> oL (cell d (s_0.add 3)) λj k l=> gC ak (Builtin.append_ #[23,23] 23 #[.slice (some ⟨i,0,none⟩) 0 0,.slice j k l]) (λCx me=> asL Cx λXK XM XL=> ST1 me ⟨a,3,none⟩ (.slice XK XM XL) λhP=> ALC ⟨[]⟩ 135 (λm kB=> oL (cell kB (s_0.add 4)) λLw Lx ND=> gC ak (Builtin.append_ #[36,36] 36 #[.slice (some ⟨m,0,none⟩) 0 0,.slice Lw Lx ND]) (λDJ jF=> asL DJ λNF Ly Qz=> ST1 jF ⟨a,4,none⟩ (.slice NF Ly Qz) λjU=> ALC ⟨[]⟩ 131 (λn uD=> oL (cell uD (s_0.add 5)) λQB QC UD=> gC ak (Builtin.append_ #[37,37] 37 #[.slice (some ⟨n,0,none⟩) 0 0,.slice QB QC UD]) (λRA pw=> asL RA λafs aft ajR=> ST1 pw ⟨a,5,none⟩ (.slice afs aft ajR) λEc=> LDA 6 Ec ⟨a,0,none⟩ λo=> STA 6 Ec ⟨b,0,none⟩ o λre=> LDA 6 re ⟨b,0,none⟩ λp=> aa (.agg p) re) uD) jU) kB) hP) d) g) c) h
theorem wE.call{s_0 aa h}(H:wE.S s_0 aa h):af ak 65 #[.pointer (some s_0)] aa h:=qk Tryz.func65 H
def sQ.S(aa:VH)(h:ab):=ALC ⟨bg⟩ 122 (λa c=> STA 45 c ⟨a,0,none⟩ ⟨[.int .i64 (-1),.int .i64 0,.int .i64 0,.bool false,.float .f32 0,.slice none 0 0,.int .i64 0,.int .i64 0,.float .f32 0,.float .f32 0,.float .f32 0,.float .f32 0,.float .f32 0,.int .i64 0,.float .f32 0,.float .f32 0,.float .f32 0,.float .f32 0,.float .f32 0,.float .f32 0,.slice none 0 0,.slice none 0 0,.slice none 0 0,.int .i64 0,.float .f32 0,.float .f32 0,.float .f32 0,.float .f32 0,.float .f32 0,.bool false,.float .f32 0,.float .f32 0,.float .f32 0,.slice none 0 0,.int .i64 0,.slice none 0 0,.int .i64 0,.int .i64 0,.float .f32 0,.float .f32 0,.float .f32 0,.float .f32 0,.float .f32 0,.float .f32 0,.float .f32 0]⟩ λb=> LDA 45 b ⟨a,0,none⟩ λd=> aa (.agg d) b) h
theorem sQ.call{aa h}(H:sQ.S  aa h):af ak 66 #[] aa h:=qk Tryz.func66 H
def ew.S(ja:Option Addr)(iN jz:Nat)(aa:VH)(h:ab):=CMP ak .eql 36 (.tmp 3) (.const (.slice none 0 0)) (.slice ja iN jz) (.slice none 0 0) (λb a=> BIF b (aa (.slice none 0 0) a) (ALC ⟨[]⟩ 135 (λc d=> gC ak (Builtin.append_ #[36,36] 36 #[.slice (some ⟨c,0,none⟩) 0 0,.slice ja iN jz]) (λe f=> asL e λHS Gr IJ=> aa (.slice HS Gr IJ) f) d) a)) h
theorem ew.call{ja iN jz aa h}(H:ew.S ja iN jz aa h):af ak 112 #[.slice ja iN jz] aa h:=qk Tryz.func112 H
def fW.S(ja:Option Addr)(iN jz:Nat)(aa:VH)(h:ab):=CMP ak .eql 37 (.tmp 3) (.const (.slice none 0 0)) (.slice ja iN jz) (.slice none 0 0) (λb a=> BIF b (aa (.slice none 0 0) a) (ALC ⟨[]⟩ 131 (λc d=> gC ak (Builtin.append_ #[37,37] 37 #[.slice (some ⟨c,0,none⟩) 0 0,.slice ja iN jz]) (λe f=> asL e λHS Gr IJ=> aa (.slice HS Gr IJ) f) d) a)) h
theorem fW.call{ja iN jz aa h}(H:fW.S ja iN jz aa h):af ak 113 #[.slice ja iN jz] aa h:=qk Tryz.func113 H
def oD.S(s_0:Array Value)(aa:VH)(h:ab):=ALC s_0 39 (λa e=> ALC ⟨dw⟩ 39 (λd b=> oL (cell b ⟨a,3,none⟩) λII HR PA=> oL (cell b ⟨a,4,none⟩) λUH UI f=> oL (cell b ⟨a,5,none⟩) λHS Gr IJ=> af ak 111 #[.slice II HR PA] (λg c=> asL g λzU uf Du=> PIN b ⟨a,5,none⟩ 1 c <|PIN b ⟨a,4,none⟩ 1 c <|af ak 112 #[.slice UH UI f] (λzX jl=> asL zX λXN XO afp=> PIN b ⟨a,5,none⟩ 1 jl <|af ak 113 #[.slice HS Gr IJ] (λDI kB=> asL DI λLw Lx ND=> ST1 kB ⟨a,3,none⟩ (.slice zU uf Du) λqQ=> ST1 qQ ⟨a,4,none⟩ (.slice XN XO afp) λjF=> ST1 jF ⟨a,5,none⟩ (.slice Lw Lx ND) λta=> LDA 6 ta ⟨a,0,none⟩ λMF=> STA 6 ta ⟨d,0,none⟩ MF λvC=> LDA 6 vC ⟨d,0,none⟩ λi=> aa (.agg i) vC) jl) c) b) e) h
theorem oD.call{s_0 aa h}(H:oD.S s_0 aa h):af ak 69 #[.agg s_0] aa h:=qk Tryz.func69 H
def sD.S(aa:VH)(h:ab):=ALC ⟨bg⟩ 122 (λa c=> STA 45 c ⟨a,0,none⟩ ⟨[.int .i64 (-1),.int .i64 0,.int .i64 0,.bool false,.float .f32 0,.slice none 0 0,.int .i64 0,.int .i64 0,.float .f32 0,.float .f32 0,.float .f32 0,.float .f32 0,.float .f32 0,.int .i64 0,.float .f32 0,.float .f32 0,.float .f32 0,.float .f32 0,.float .f32 0,.float .f32 0,.slice none 0 0,.slice none 0 0,.slice none 0 0,.int .i64 0,.float .f32 0,.float .f32 0,.float .f32 0,.float .f32 0,.float .f32 0,.bool false,.float .f32 0,.float .f32 0,.float .f32 0,.slice none 0 0,.int .i64 0,.slice none 0 0,.int .i64 0,.int .i64 0,.float .f32 0,.float .f32 0,.float .f32 0,.float .f32 0,.float .f32 0,.float .f32 0,.float .f32 0]⟩ λb=> LDA 45 b ⟨a,0,none⟩ λd=> aa (.agg d) b) h
theorem sD.call{aa h}(H:sD.S  aa h):af ak 70 #[] aa h:=qk Tryz.func70 H
theorem mb:Flat aA:=G3 (lh aeS (lh (AM _) (lh (u0 _) (lh (u0 _) (u0 _)))))
theorem Qn:0<aA.sz:=by decide
def scC(y1 y2 y3:Nat)(b1:Option Addr)(l1 c1:Nat)(b2:Option Addr)(l2 c2:Nat)(b3:Option Addr)(l3 c3:Nat):List Value:=[.float .f32 y1,.float .f32 y2,.float .f32 y3,.slice b1 l1 c1,.slice b2 l2 c2,.slice b3 l3 c3]
section
variable {h:ab}
theorem tP{cs:Array Value}{s:bI}(R:bU.rd h cs.toList s):∃y1 y2 y3 b1 l1 c1 b2 l2 c2 b3 l3 c3,cs=⟨scC y1 y2 y3 b1 l1 c1 b2 l2 c2 b3 l3 c3⟩∧FW .f32 y1 s.sY∧FW .f32 y2 s.dv.xH∧FW .f32 y3 s.dv.iV ∧
  SlR (rF .f32) h b1 l1 c1 s.dv.bG∧SlR aA h b2 l2 c2 s.az∧SlR bF h b3 l3 c3 s.bo:=by
 obtain⟨v1,r1,e1,⟨y1,rfl,F1⟩,vT,r2,rfl,⟨v2,r3,rfl,⟨y2,rfl,F2⟩,v3,r4,rfl,⟨y3,rfl,F3⟩,b1,l1,c1,rfl,S1⟩,v5,v6,rfl,⟨b2,l2,c2,rfl,S2⟩,b3,l3,c3,rfl,S3⟩:=R
 exact⟨y1,y2,y3,b1,l1,c1,b2,l2,c2,b3,l3,c3,by cases cs;simpa [scC] using e1,F1,F2,F3,S1,S2,S3⟩
theorem OJ{s:bI}{y1 y2 y3:Nat}{b1 b2 b3:Option Addr}{l1 c1 l2 c2 l3 c3:Nat}{B1 B2 B3:List Blk}(F1:FW .f32 y1 s.sY)(F2:FW .f32 y2 s.dv.xH)(F3:FW .f32 y3 s.dv.iV)(O1:SlO 22 (rF .f32) B1 b1 l1 c1 s.dv.bG)(O2:SlO 135 aA B2 b2 l2 c2 s.az)(O3:SlO 131 bF B3 b3 l3 c3 s.bo):bU.ow (B1++(B2++B3)) (scC y1 y2 y3 b1 l1 c1 b2 l2 c2 b3 l3 c3) s:=
 ⟨[],B1++(B2++B3),[.float .f32 y1],_,rfl,rfl,⟨rfl,y1,rfl,F1⟩,B1,B2++B3,[.float .f32 y2,.float .f32 y3,.slice b1 l1 c1],[.slice b2 l2 c2,.slice b3 l3 c3],rfl,rfl,
  ⟨[],B1,[.float .f32 y2],[.float .f32 y3,.slice b1 l1 c1],rfl,rfl,⟨rfl,y2,rfl,F2⟩,[],B1,[.float .f32 y3],[.slice b1 l1 c1],rfl,rfl,⟨rfl,y3,rfl,F3⟩,b1,l1,c1,rfl,O1⟩,
  B2,B3,[.slice b2 l2 c2],[.slice b3 l3 c3],rfl,rfl,⟨b2,l2,c2,rfl,O2⟩,b3,l3,c3,rfl,O3⟩
theorem RO{y1 y2 y3:Nat}{b1 b2 b3:Option Addr}{l1 c1 l2 c2 l3 c3:Nat}:∀v ∈ (⟨scC y1 y2 y3 b1 l1 c1 b2 l2 c2 b3 l3 c3⟩:Array Value).toList,v.oneCell'=true:=λv hv=>by
 simp only[scC,List.mem_cons,List.mem_nil_iff,or_false] at hv
 rcases hv with rfl | rfl | rfl | rfl | rfl | rfl <;> rfl
theorem Tn{α:Type}{r:Rep α}{l c:Nat}{xs:List α}(hz:0<r.sz)(S:SlR r h none l c xs):xs=[]∧l=0:=by
 obtain⟨h1,h2,h3,ws,C,R⟩:=S
 have hw:ws=[]:=by
  cases ws with
  | nil=>rfl
  | cons w ws=>obtain⟨a,e,_⟩:=C 0 (by simp);cases e
 subst hw
 have hx:xs.length*r.sz=0:=by rw[← R.len];rfl
 have hl:xs.length=0:=by
  rcases Nat.mul_eq_zero.1 hx with h | h <;> omega
 exact⟨List.eq_nil_of_length_eq_zero hl,by omega⟩
theorem Az{b:Option Addr}{l c:Nat}{xs:List bh}(S:SlR aA h b l c xs)(hl:l≤1048576):
  af ak 112 #[.slice b l c] (λu h'=>∃b' c' B,u = .slice b' l c'∧SlO 135 aA B b' l c' xs∧Mem h h' B) h:=by
 refine ew.call (KT xO (br (λhb=>?_) λhb=>?_))
 ·obtain rfl:b=none:=by simpa using hb
  obtain⟨rfl,rfl⟩:=Tn Qn S
  exact⟨none,0,[],rfl,SlO.nil,Mem.start h⟩
 ·exact(Mem.start h).alc λg h1 x1 M=>jZ pF Qn mb (S.ext x1) M (by omega) λb' c' h' B' O' M'=>lR ⟨b',c',B',rfl,O',by simpa using M'⟩
theorem HX{b:Option Addr}{l c:Nat}{xs:List aZ}(S:SlR bF h b l c xs)(hl:l≤1048576):
  af ak 113 #[.slice b l c] (λu h'=>∃b' c' B,u = .slice b' l c'∧SlO 131 bF B b' l c' xs∧Mem h h' B) h:=by
 refine fW.call (KT Ey (br (λhb=>?_) λhb=>?_))
 ·obtain rfl:b=none:=by simpa using hb
  obtain⟨rfl,rfl⟩:=Tn tk S
  exact⟨none,0,[],rfl,SlO.nil,Mem.start h⟩
 ·exact(Mem.start h).alc λg h1 x1 M=>jZ wM tk G1 (S.ext x1) M (by omega) λb' c' h' B' O' M'=>lR ⟨b',c',B',rfl,O',by simpa using M'⟩
theorem yU{s:bI}(h:s.ok=true):s.dv.bG.length≤31∧s.az.length≤6∧s.bo.length≤128:=by
 have G:=sP h
 have g1:=G.even
 have g2:=G.UQ
 unfold bI.ok at h
 simp only[Bool.and_eq_true,decide_eq_true_eq] at h
 have ht:=h.1.1.2
 unfold bC.ok at ht
 simp only[Bool.and_eq_true,inR,decide_eq_true_eq] at ht
 exact⟨by omega,h.1.2.1,by omega⟩
theorem Uw{q:Addr}{s:bI}(R:RdP bU h q s)(hs:s.ok=true):af ak 65 #[.pointer (some q)] (λu h'=>mN bU h h' u s) h:=by
 obtain⟨z1,z2,z3⟩:=yU hs
 refine wE.call ((Mem.start h).alc λg1 h1 x1 M=>(R.ext M.ext).jc rfl λcs Rc=>?_)
 obtain⟨y1,y2,y3,b1,l1,c1,b2,l2,c2,b3,l3,c3,rfl,F1,F2,F3,S1,S2,S3⟩:=tP Rc
 refine M.alc λg4 h2 x2 M=>M.dH .here rfl RO rfl .here λh3 M=>M.alc λg7 h4 x4 M=>?_
 have A:∀{hh:ab},Ext h hh->RdP bU hh q s:=λe=>R.ext e
 refine(A M.ext).oL λb lA c S=>jZ lD (by decide) (u0 _) S M (by have:=S.len;omega) λb1' c1' h5 B1 O1 M=>lR ?_
 have e1:=S.len
 have M:=M.cnt (W:=(g4,39,⟨scC y1 y2 y3 b1 l1 c1 b2 l2 c2 b3 l3 c3⟩) :: (B1++[(g1,39,⟨dw⟩)]))
 refine M.st1 .here (by show 3<6;decide) .here λh6 M=>?_
 have M:Mem h h6 ((g4,39,⟨scC y1 y2 y3 b1' lA c1' b2 l2 c2 b3 l3 c3⟩) :: (B1++[(g1,39,⟨dw⟩)])):=M
 refine M.alc λg8 h7 x7 M=>(A M.ext).oL λb lB c S=>jZ pF Qn mb S M (by have:=S.len;omega) λb2' c2' h8 B2 O2 M=>lR ?_
 have e2:=S.len
 have M:=M.cnt (W:=(g4,39,⟨scC y1 y2 y3 b1' lA c1' b2 l2 c2 b3 l3 c3⟩) :: (B2++(B1++[(g1,39,⟨dw⟩)])))
 refine M.st1 .here (by show 4<6;decide) .here λh9 M=>?_
 have M:Mem h h9 ((g4,39,⟨scC y1 y2 y3 b1' lA c1' b2' lB c2' b3 l3 c3⟩) :: (B2++(B1++[(g1,39,⟨dw⟩)]))):=M
 refine M.alc λg9 gv Tw M=>(A M.ext).oL λb lC c S=>jZ wM tk G1 S M (by have:=S.len;omega) λb3' c3' me B3 O3 M=>lR ?_
 have e3:=S.len
 have M:=M.cnt (W:=(g4,39,⟨scC y1 y2 y3 b1' lA c1' b2' lB c2' b3 l3 c3⟩) :: (B3++(B2++(B1++[(g1,39,⟨dw⟩)]))))
 refine M.st1 .here (by show 5<6;decide) .here λjl M=>?_
 have M:Mem h jl ((g4,39,⟨scC y1 y2 y3 b1' lA c1' b2' lB c2' b3' lC c3'⟩) :: (B3++(B2++(B1++[(g1,39,⟨dw⟩)])))):=M
 refine M.df .here rfl ?_
 have M:=M.cnt (W:=(g1,39,⟨dw⟩) :: (B1++(B2++B3)))
 exact M.dH .here rfl RO rfl .here λhP M=>M.df .here rfl ⟨_,B1++(B2++B3),rfl,OJ F1 F2 F3 O1 O2 O3,M.drop⟩
theorem I8{cs:Array Value}{s:bI}(R0:bU.rd h cs.toList s)(hs:s.ok=true):af ak 69 #[.agg cs] (λu h'=>mN bU h h' u s) h:=by
 obtain⟨z1,z2,z3⟩:=yU hs
 obtain⟨y1,y2,y3,b1,l1,c1,b2,l2,c2,b3,l3,c3,rfl,F1,F2,F3,S1,S2,S3⟩:=tP R0
 have e1:=S1.len
 have e2:=S2.len
 have e3:=S3.len
 refine oD.call ((Mem.start h).alc λg1 h1 x1 M=>M.alc λg3 h2 x2 M=>?_)
 have M:=M.cnt (W:=(g1,39,⟨scC y1 y2 y3 b1 l1 c1 b2 l2 c2 b3 l3 c3⟩) :: [(g3,39,⟨dw⟩)])
 have P:RdP bU h2 ⟨g1,0,none⟩ s:=M.rdp .here (bU.ext M.ext R0)
 refine o_l (M.cell .here 3) (o_l (M.cell .here 4) (o_l (M.cell .here 5) ?_))
 refine(xI (S1.ext M.ext) (by omega)).mono ?_
 rintro _ h3 ⟨b1',c1',B1,rfl,O1,N⟩
 refine lR (P.IT (by decide) N.ext (P.IT (by decide) N.ext ?_))
 have x3:=N.ext
 have M:=M.join N
 refine(Az (S2.ext M.ext) (by omega)).mono ?_
 rintro _ h4 ⟨b2',c2',B2,rfl,O2,N⟩
 refine lR (P.IT (by decide) (x3.trans N.ext) ?_)
 have M:=M.join N
 refine(HX (S3.ext M.ext) (by omega)).mono ?_
 rintro _ h5 ⟨b3',c3',B3,rfl,O3,N⟩
 refine lR ?_
 have M:=(M.join N).cnt (W:=(g1,39,⟨scC y1 y2 y3 b1 l1 c1 b2 l2 c2 b3 l3 c3⟩) :: (B1++(B2++(B3++[(g3,39,⟨dw⟩)]))))
 refine M.st1 .here (by show 3<6;decide) .here λh6 M=>M.st1 .here (by show 4<6;decide) .here λh7 M=>M.st1 .here (by show 5<6;decide) .here λh8 M=>?_
 have M:Mem h h8 ((g1,39,⟨scC y1 y2 y3 b1' l1 c1' b2' l2 c2' b3' l3 c3'⟩) :: (B1++(B2++(B3++[(g3,39,⟨dw⟩)])))):=M
 refine M.df .here rfl ?_
 have M:=M.cnt (W:=(g3,39,⟨dw⟩) :: (B1++(B2++B3)))
 exact M.dH .here rfl RO rfl .here λhP M=>M.df .here rfl ⟨_,B1++(B2++B3),rfl,OJ F1 F2 F3 O1 O2 O3,M.drop⟩
end
end Go.Sx
