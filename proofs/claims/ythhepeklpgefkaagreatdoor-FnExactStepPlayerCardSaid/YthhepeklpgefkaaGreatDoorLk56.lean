/- Lemmas. -/
import Derived.Test.YthhepeklpgefkaaGreatDoorLk54
import Derived.Test.YthhepeklpgefkaaGreatDoorLk33
import Derived.Test.YthhepeklpgefkaaGreatDoorLk24
import Derived.Test.YthhepeklpgefkaaGreatDoorTab
import Derived.Test.YthhepeklpgefkaaGreatDoorLk35
import Derived.Test.YthhepeklpgefkaaGreatDoorLk29
set_option linter.unusedVariables false
set_option linter.unusedSimpArgs false
namespace Go.Sx
open Go.Proofs
set_option maxRecDepth 100000
set_option maxHeartbeats 1000000
def aJ.sound(k:Int)(v:aJ):aJ×Nat:=
 if k=1 then ({ v with String:=(v.String.step 0).1 },(v.String.step 0).2)
 else if k=2 then ({ v with aP:=(v.aP.step v.ja).1 },(v.aP.step v.ja).2)
 else ({ v with cz:=(v.cz.step v.ja).1 },(v.cz.step v.ja).2)
def aJ.quiet(k:Int)(v:aJ):Bool:=if k=1 then v.String.tg else if k=2 then v.aP.tg else v.cz.tg
def gz(k:Int)(v:aJ):Prop:=if k=1 then v.String.Loop.ok=true else if k=2 then v.aP.mi else v.cz.ok=true
theorem Tq{k:Int}(v:aJ)(h1:¬k=1)(h2:¬k=2):v.sound k=({ v with cz:=(v.cz.step v.ja).1 },(v.cz.step v.ja).2):=by
 unfold aJ.sound;rw[if_neg h1,if_neg h2]
theorem Cz(k:Int)(v:aJ):(v.sound k).1.Gone=v.Gone∧(v.sound k).1.aT=v.aT∧(v.sound k).1.ar=v.ar:=by
 unfold aJ.sound
 split
 ·exact ⟨rfl,rfl,rfl⟩
 ·split <;> exact ⟨rfl,rfl,rfl⟩
theorem UC(a:Nat):fin (kept a)=true:=by
 unfold kept
 split
 ·next h=>
  unfold flush
  split
  ·decide +kernel
  ·exact h
 ·decide +kernel
theorem Vn{r:bc}{a:Nat}(h:r.okf=true):(r.push (kept a)).okf=true:=by
 unfold bc.okf at *
 rw[Bool.and_eq_true] at *
 refine ⟨(Lr h.1).1,?_⟩
 have h2:=h.2
 unfold oq at *
 rw[List.all_eq_true] at *
 intro x hx
 rcases List.mem_or_eq_of_mem_set hx with hx | rfl
 ·exact h2 x hx
 ·exact UC a
theorem ac7{l:List Nat}{n:Int}{a:Nat}(h:used l n=true)(hn:1≤n):used (l.set 0 (kept a)) n=true:=by
 unfold used at *
 rw[List.all_eq_true] at *
 intro i hi
 rw[List.mem_range,List.length_set] at hi
 have:=h i (List.mem_range.2 hi)
 rw[Bool.and_eq_true] at *
 by_cases e:i=0
 ·subst e
  rw[getElem!_pos _ 0 (by rw[List.length_set];exact hi),List.getElem_set_self]
  exact ⟨UC a,by rw[decide_eq_true (by omega)];rfl⟩
 ·rw[getElem!_pos _ i (by rw[List.length_set];exact hi),List.getElem_set_ne (by omega),← getElem!_pos l i hi]
  exact this
theorem Sh{f:cN}{a:Nat}(h:(f.ok&&f.Kind==1)=true):((f.step a).1.ok&&(f.step a).1.Kind==1)=true:=by
 rw[Bool.and_eq_true,beq_iff_eq] at h
 rw[afR h.2]
 have h1:=h.1
 unfold cN.ok at *
 simp only[Bool.and_eq_true] at *
 exact ⟨⟨h1.1,ac7 h1.2 (by unfold tE;rw[if_pos (.inl h.2)];decide)⟩,by rw[h.2];rfl⟩
theorem U5{x:jh}{a:Nat}(h:x.ok=true):(x.step a).1.ok=true:=by
 unfold jh.ok at *
 rw[Bool.and_eq_true,Bool.and_eq_true,Bool.and_eq_true] at *
 obtain⟨⟨⟨h1,h2⟩,h3⟩,h4⟩:=h
 exact ⟨⟨⟨Vn h1,Vn h2⟩,Sh h3⟩,h4⟩
theorem xj{x:jh}(h:x.ok=true):x.bX.ok=true∧x.aK.ok=true:=by
 unfold jh.ok bc.okf at h
 simp only[Bool.and_eq_true] at h
 exact ⟨h.1.1.1.1,h.1.1.2.1⟩
theorem Cy{k:Int}{v:aJ}(h:gz k v):gz k (v.sound k).1:=by
 unfold gz at *
 by_cases h1:k=1
 ·subst h1;exact (Lr h).1
 rw[if_neg h1] at *
 by_cases h2:k=2
 ·subst h2;exact Yd h _
 rw[if_neg h2] at *
 rw[Tq v h1 h2]
 exact U5 h
section
variable {h0 h:ab}{q:Addr}{F:Fr}{L:List Blk}{v:aJ}{k:Int}
def ad2(h0 h':ab)(q:Addr)(F:Fr)(L:List Blk)(k:Int)(v:aJ)(u:Value):Prop:=(∃y,u = .float .f32 y∧FW .f32 y (v.sound k).2)∧Pt az h0 h' q F L (v.sound k).1
theorem Xp(P:Pt az h0 h q F L v)(B:gz k v):ae ai vN #[.int .i64 k,.pointer (some q)] (λu h'=>ad2 h0 h' q F L k v u) h:=by
 unfold gz at B
 refine An.call (br (λk1=>?_) λk1=>br (λk2=>?_) λk2=>?_)
 ·obtain rfl:k=1:=by simpa using k1
  obtain⟨F1,L1,P1,hs,close⟩:=P.foc bu
  refine (ab1 P1 B fw0).mono ?_
  rintro _ h1 ⟨⟨y,rfl,hy⟩,P1⟩
  exact dv ⟨⟨y,rfl,hy⟩,close _ _ _ P1⟩
 ·obtain rfl:k=2:=by simpa using k2
  refine P.rd.oF λd hd=>?_
  obtain⟨F1,L1,P1,hs,close⟩:=P.foc bV
  refine (ab4 P1 B hd).mono ?_
  rintro _ h1 ⟨⟨y,rfl,hy⟩,P1⟩
  exact dv ⟨⟨y,rfl,hy⟩,close _ _ _ P1⟩
 ·have n1:¬k=1:=by simpa using k1
  have n2:¬k=2:=by simpa using k2
  rw[if_neg n1,if_neg n2] at B
  unfold ad2
  rw[Tq v n1 n2]
  refine P.rd.oF λd hd=>?_
  obtain⟨F1,L1,P1,hs,close⟩:=P.foc cm
  refine (SK P1 (xj B).1 (xj B).2 hd).mono ?_
  rintro _ h1 ⟨⟨y,rfl,hy⟩,P1⟩
  exact dv ⟨⟨y,rfl,hy⟩,close _ _ _ P1⟩
theorem Xo(R:RdP az h q v)(B:gz k v):ae ai vM #[.int .i64 k,.pointer (some q)] (λu h'=>u = .bool (v.quiet k)∧Ext h h') h:=by
 unfold gz at B
 refine Am.call (br (λk1=>?_) λk1=>br (λk2=>?_) λk2=>?_)
 ·obtain rfl:k=1:=by simpa using k1
  exact goX (UF (R.foc bu)) λh1 x1=>bd ⟨rfl,x1⟩
 ·obtain rfl:k=2:=by simpa using k2
  exact goX (UG (R.foc bV)) λh1 x1=>bd ⟨rfl,x1⟩
 ·have n1:¬k=1:=by simpa using k1
  have n2:¬k=2:=by simpa using k2
  rw[if_neg n1,if_neg n2] at B
  refine R.lda cm rfl λcs Rc=>goX (OA Rc B) λh1 x1=>nq (bd (cX ⟨?_,x1⟩))
  unfold aJ.quiet;rw[if_neg n1,if_neg n2]
def ad1(h0 h':ab)(q:Addr)(F:Fr)(L:List Blk)(k:Int)(v:aJ)(u:Value):Prop:=(∃y,u = .tuple ⟨[.float .f32 y,.bool (v.Gone&&(v.sound k).1.quiet k)]⟩∧FW .f32 y (v.sound k).2)∧Pt az h0 h' q F L (v.sound k).1
theorem Ro(P:Pt az h0 h q F L v)(B:gz k v):ae ai pN #[.pointer (some q),.int .i64 k] (λu h'=>ad1 h0 h' q F L k v u) h:=by
 have B':=Cy B
 unfold gz at B B'
 have hG:=(Cz k v).1
 refine tc.call (br (λk1=>?_) λk1=>br (λk2=>?_) λk2=>?_)
 ·obtain rfl:k=1:=by simpa using k1
  obtain⟨F1,L1,P1,hs,close⟩:=P.foc bu
  refine (OH P1 B fw0).mono ?_
  rintro _ h1 ⟨⟨y,rfl,hy⟩,P1⟩
  have P:Pt az h0 h1 q F L (v.sound 1).1:=close _ _ _ P1
  refine dv (P.rd.oB (br (λhb=>?_) λhb=>?_))
  ·have hb:v.Gone=true:=hb
   exact P.rd.lda bu rfl λcs Rc=>goX (Hf Rc B') λh2 x2=>bd ⟨⟨y,by rw[hb];rfl,hy⟩,P.grow x2⟩
  ·have hb:v.Gone=false:=hb
   exact ⟨⟨y,by rw[hb];rfl,hy⟩,P⟩
 ·obtain rfl:k=2:=by simpa using k2
  refine P.rd.oF λd hd=>?_
  obtain⟨F1,L1,P1,hs,close⟩:=P.foc bV
  refine (TT P1 B hd).mono ?_
  rintro _ h1 ⟨⟨y,rfl,hy⟩,P1⟩
  have P:Pt az h0 h1 q F L (v.sound 2).1:=close _ _ _ P1
  refine dv (P.rd.oB (br (λhb=>?_) λhb=>?_))
  ·have hb:v.Gone=true:=hb
   have Ru:(v.sound 2).1.aP.mi:=B'
   refine (aBa (P.rd.foc bV) Ru).mono ?_
   rintro _ h2 ⟨b,l,c,Bp,ps,rfl,O,N,H⟩
   refine lZ (goX (Wx (O.look N (List.Sublist.refl _)) (H.ext N.ext)) λh3 x3=>bd ?_)
   have P:=P.grow (N.ext.trans x3)
   have hq:(v.sound 2).1.quiet 2=((v.sound 2).1.aP.aY.all bc.zero&&(v.sound 2).1.aP.Left.all bc.zero&&(v.sound 2).1.aP.End.still):=rfl
   rw[PE Ru]
   refine br (λhz=>P.rd.lda ((bV.trans dO).at rfl) rfl λcs Rc=>goX (pe Rc) λh4 x4=>bd ⟨⟨y,?_,hy⟩,P.grow x4⟩) λhz=>⟨⟨y,?_,hy⟩,P⟩
   ·rw[hb,hq,hz];rfl
   ·rw[hb,hq,hz];rfl
  ·have hb:v.Gone=false:=hb
   exact ⟨⟨y,by rw[hb];rfl,hy⟩,P⟩
 ·have n1:¬k=1:=by simpa using k1
  have n2:¬k=2:=by simpa using k2
  rw[if_neg n1,if_neg n2] at B B'
  unfold ad1
  have hq:(v.sound k).1.quiet k=((v.sound k).1.cz.bX.zero&&(v.sound k).1.cz.aK.zero&&(v.sound k).1.cz.gl.still):=by unfold aJ.quiet;rw[if_neg n1,if_neg n2];rfl
  have aqE:=Tq v n1 n2
  generalize v.sound k=w at *
  refine P.rd.oF λd hd=>?_
  obtain⟨F1,L1,P1,hs,close⟩:=P.foc cm
  refine (Wi P1 (xj B).1 (xj B).2 hd).mono ?_
  rintro _ h1 ⟨⟨y,rfl,hy⟩,P1⟩
  have P:Pt az h0 h1 q F L w.1:=by rw[aqE];exact close _ _ _ P1
  have hy:FW .f32 y w.2:=by rw[aqE];exact hy
  obtain⟨o1,o2⟩:=xj B'
  refine dv (P.rd.oB (br (λhb=>?_) λhb=>?_))
  ·rw[hG] at hb
   refine P.rd.lda (Foc.at (cm.trans fa) rfl) rfl λc1 R1=>goX (ET R1 o1) λh2 x2=>bd (br (λz1=>?_) λz1=>⟨⟨y,by rw[hb,hq,z1];rfl,hy⟩,P.grow x2⟩)
   refine (P.grow x2).rd.lda (Foc.at (cm.trans dz) rfl) rfl λc1 R1=>goX (ET R1 o2) λh3 x3=>bd (br (λz2=>?_) λz2=>⟨⟨y,by rw[hb,hq,z1,z2];rfl,hy⟩,P.grow (x2.trans x3)⟩)
   exact (P.grow (x2.trans x3)).rd.lda (Foc.at (cm.trans eP) rfl) rfl λc1 R1=>goX (pe R1) λh4 x4=>bd ⟨⟨y,by rw[hb,hq,z1,z2];rfl,hy⟩,P.grow (x2.trans (x3.trans x4))⟩
  ·rw[hG] at hb
   exact ⟨⟨y,by rw[hb];rfl,hy⟩,P⟩
end
end Go.Sx
namespace Go.Sx
section
variable {α β:Type}{r:Rep α}{h0 h:ab}{q:Addr}{F:Fr}{L:List Blk}{a:α}{off:Nat}
theorem Pt.apl{p:Rep β}{get:α->β}{put:α->β->α}(P:Pt r h0 h q F L a)(Fc:Foc r p off get put):∃F' C,Pt p h0 h (q.add off) F' (C++L) (get a)∧∀pP h' L' b',Pt p pP h' (q.add off) F' (C++L') b'->Pt r pP h' q F L' (put a b')∧∀k,(k<off∨off+p.sz≤k)->cell h' (q.add k)=cell h (q.add k):=by
 obtain⟨rfl,jV,B,M,O⟩:=P
 obtain⟨pre,md,post,B1,Bm,B2,e1,rfl,rfl,O1,O2⟩:=Fc.fo O
 refine ⟨⟨F.g,F.T,F.pre++pre,post++F.post⟩,B1++B2,⟨?_,md,Bm,?_,O1⟩,λpP h' L' b' P'=>?_⟩
 ·rw[eW];simp[e1]
 ·have:=M.perm (qk _ _ _ _ _)
  simpa using this
 ·obtain⟨_,Ck,B',M',O'⟩:=P'
  have M'':Mem pP h' ((F.g,F.T,⟨(F.pre++pre)++(Ck++(post++F.post))⟩) :: (B'++(B1++(B2++L')))):=by simpa using M'
  have M2:=M''.perm (qk _ _ _ _ _).symm
  refine ⟨⟨rfl,pre++(Ck++post),B1++(B'++B2),by simpa using M2,O2 B' Ck b' O'⟩,λk hk=>?_⟩
  have l1:=p.kF O1
  have l2:=p.kF O'
  rw[eW,M.cell .here,M2.cell .here]
  simp only[List.getElem?_toArray,List.append_assoc]
  rw[List.getElem?_append_right (Nat.le_add_right _ _),List.getElem?_append_right (Nat.le_add_right _ _)]
  rw[Nat.add_sub_cancel_left]
  rcases hk with hk | hk
  ·rw[List.getElem?_append_left (by omega),List.getElem?_append_left (by omega)]
  ·rw[List.getElem?_append_right (l₁:=pre) (by omega),List.getElem?_append_right (l₁:=pre) (by omega),List.getElem?_append_right (l₁:=Ck) (by omega),List.getElem?_append_right (l₁:=md) (by omega),l1,l2]
theorem SlO.LR[Inhabited β]{e:Nat}{s:Rep β}{B:List Blk}{b:Option Addr}{l c i:Nat}{ji:List β}(S:SlO e s B b l c ji)(hi:i<l):
  ∃a0 F' C,b=some a0∧(∀h0 h L,Mem h0 h (B++L)->Pt s h0 h (a0.add (i*s.sz)) F' (C++L) ji[i]!)∧∀pP h' L' x,Pt s pP h' (a0.add (i*s.sz)) F' (C++L') x->∃B',SlO e s B' b l c (ji.set i x)∧Mem pP h' (B'++L'):=by
 obtain⟨h1,ws,B1,B2,rfl,O,h3⟩:=S
 rcases O.2 with ⟨_,_,h4,_⟩ | ⟨g,cs,rfl,rfl,h5,h6,h7,h8⟩
 ·omega
 obtain⟨pre,jV,post,C1,Cm,C2,e1,e2,rfl,O1,O2⟩:=h3.at (i:=i) (by omega)
 have hc:cs=⟨pre++(jV++(post++cs.toList.drop (l*s.sz)))⟩:=by
  have:cs.toList=ws++cs.toList.drop (l*s.sz):=by rw[← h8,List.take_append_drop]
  rw[e2] at this
  cases cs;simpa using this
 refine ⟨_,⟨g,e,pre,post++cs.toList.drop (l*s.sz)⟩,C1++C2,rfl,λh0 h L M=>⟨?_,jV,Cm,?_,by rw[getElem!_pos _ i (by omega)];exact O1⟩,λpP h' L' x P'=>?_⟩
 ·rw[eW];simp[e1]
 ·rw[← hc]
  have:Mem h0 h ((g,e,cs) :: ((C1++(Cm++C2))++L)):=by simpa using M
  have:=this.perm (qk _ _ _ _ _)
  simpa using this
 ·obtain⟨_,Ck,B',M',O'⟩:=P'
  have hm:=s.kF O'
  have hm0:=s.kF O1
  have hws:ws.length=l*s.sz:=O.1
  have hlen:(pre++(Ck++post)).length=l*s.sz:=by rw[← hws,e2];simp[hm,hm0]
  refine ⟨(g,e,⟨pre++(Ck++(post++cs.toList.drop (l*s.sz)))⟩) :: (C1++(B'++C2)),⟨by simpa using h1,pre++(Ck++post),[_],_,rfl,⟨hlen,.inr ⟨g,_,rfl,rfl,h5,h6,?_,?_⟩⟩,O2 _ _ _ O'⟩,?_⟩
  ·have:cs.toList.length=c*s.sz:=by simpa using h7
   have hle:=Nat.mul_le_mul_right s.sz h5
   simp only[List.size_toArray]
   have:(pre++(Ck++(post++cs.toList.drop (l*s.sz)))).length=(pre++(Ck++post)).length+(cs.toList.drop (l*s.sz)).length:=by simp;omega
   rw[this,hlen,List.length_drop];omega
  ·show List.take _ (pre++(Ck++(post++_)))=_
   have e5:pre++(Ck++(post++cs.toList.drop (l*s.sz)))=(pre++(Ck++post))++cs.toList.drop (l*s.sz):=by simp
   rw[e5,← hlen]
   exact List.take_left
  ·have M'':Mem pP h' ((g,e,⟨pre++(Ck++(post++cs.toList.drop (l*s.sz)))⟩) :: (B'++(C1++(C2++L')))):=by simpa using M'
   have:=M''.perm (qk _ _ _ _ _).symm
   simpa using this
theorem Pt.LR[Inhabited β]{e:Nat}{s:Rep β}{get:α->List β}{put:α->List β->α}{i l c:Nat}{b:Option Addr}(P:Pt r h0 h q F L a)[Fc:dn r off (rSl e s) get put](hb:cell h (q.add off)=some (.slice b l c))(hi:i<l):
  ∃a0 F' C,b=some a0∧Pt s h0 h (a0.add (i*s.sz)) F' (C++L) (get a)[i]! ∧ ∀pP h' L' x,Pt s pP h' (a0.add (i*s.sz)) F' (C++L') x->Pt r pP h' q F L' (put a ((get a).set i x))∧∀k,cell h' (q.add k)=cell h (q.add k):=by
 obtain⟨F1,C1,P1,close⟩:=P.apl Fc.f
 obtain⟨eq,jV,B,M,b',l',c',rfl,S⟩:=P1
 have e0:cell h (q.add off)=some (.slice b' l' c'):=by
  rw[eq,M.cell .here];simp
 rw[hb] at e0
 cases e0
 obtain⟨a0,F2,C2,rfl,P2,LN⟩:=S.LR hi
 refine ⟨a0,F2,C2++((F1.g,F1.T,⟨F1.pre++([.slice (some a0) l c]++F1.post)⟩) :: C1),rfl,?_,λpP h' L' x P'=>?_⟩
 ·have:=P2 h0 h ((F1.g,F1.T,⟨F1.pre++([.slice (some a0) l c]++F1.post)⟩) :: (C1++L)) (M.perm List.perm_middle.symm)
  simpa using this
 ·have P'':Pt s pP h' (a0.add (i*s.sz)) F2 (C2++((F1.g,F1.T,⟨F1.pre++([.slice (some a0) l c]++F1.post)⟩) :: (C1++L'))) x:=by simpa using P'
  obtain⟨B',S',M'⟩:=LN pP h' _ x P''
  have M2:=M'.perm List.perm_middle
  obtain⟨P3,hk⟩:=close pP h' _ _ ⟨eq,[.slice (some a0) l c],B',M2,_,_,_,rfl,S'⟩
  refine ⟨P3,λk=>?_⟩
  by_cases h1:k<off∨off+(rSl e s).sz≤k
  ·exact hk k h1
  ·obtain rfl:k=off:=by
    have:(rSl e s).sz=1:=rfl
    omega
   rw[hb,eq,M2.cell .here];simp
theorem Pt.stE[Inhabited β]{e:Nat}{s:Rep β}{get:α->List β}{put:α->List β->α}{i l c n:Nat}{b:Option Addr}{vs:Array Value}{B':List Blk}{x:β}{K:ab->Prop}(P:Pt r h0 h q F (B'++L) a)[Fc:dn r off (rSl e s) get put](hb:cell h (q.add off)=some (.slice b l c))(hi:i<l)(hn:s.sz=n)(O:s.ow B' vs.toList x)(H:∀h',Pt r h0 h' q F L (put a ((get a).set i x))->(∀k,cell h' (q.add k)=cell h (q.add k))->K h'):∃a0,b=some a0∧STA n h (a0.add (i*n)) vs K:=by
 subst hn
 obtain⟨a0,F',C,rfl,P1,close⟩:=P.LR hb hi
 refine ⟨a0,rfl,?_⟩
 have P2:Pt s h0 h (a0.add (i*s.sz)) F' (B'++(C++L)) (get a)[i]!:=P1.cnt λp=>by simp only[bO];omega
 refine P2.asO (Foc.here s) rfl O λh' P3=>?_
 obtain⟨P4,e4⟩:=close _ _ _ _ P3
 exact H h' P4 e4
end
def Vr{α:Type}(r:Rep α):Rep (α ⊕ List Value) where
 sz:=r.sz
 rd h vs x:=match x with | .inl a=>r.rd h vs a | .inr ws=>vs=ws∧ws.length=r.sz∧∀v ∈ ws,v.oneCell'=true
 ow B vs x:=match x with | .inl a=>r.ow B vs a | .inr ws=>B=[]∧vs=ws∧ws.length=r.sz∧∀v ∈ ws,v.oneCell'=true
 tt {h vs x} e:=by
  cases x with
  | inl a=>exact r.tt e
  | inr ws=>rw[e.1];exact e.2.1
 kF {B vs x} e:=by
  cases x with
  | inl a=>exact r.kF e
  | inr ws=>rw[e.2.1];exact e.2.2.1
 ext {h h' vs x} X e:=by
  cases x with
  | inl a=>exact r.ext X e
  | inr ws=>exact e
 look {h0 h L B vs x} e M s:=by
  cases x with
  | inl a=>exact r.look e M s
  | inr ws=>exact e.2
 rQ {h vs x} e:=by
  cases x with
  | inl a=>exact r.rQ e
  | inr ws=>rw[e.1];exact e.2.2
 iH {B vs x} e:=by
  cases x with
  | inl a=>exact r.iH e
  | inr ws=>rw[e.2.1];exact e.2.2.2
end Go.Sx
namespace Go.Sx
open Go.Proofs
set_option maxRecDepth 100000
def bn.B2(aa:VH)(d:(Option Addr×Nat×Nat×Value×Int×Int)->ab->Prop):Option Addr×Nat×Nat×Value×Int×Int->ab->Prop
 | (hO,gx,iz,f_1,b,a),h=>
 BIF (decide (a<b)) (
 bg hO a gx λe=>
 LDA 45 h ((Addr.add e (a.toNat*45))) λf=>
 oc ai f_1 #[.agg f] (λg c=>
 asB g λi=>
 BIF i (
 aa (.int .i64 a) c) (
 d (hO,gx,iz,f_1,b,((IntKind.i64.wrap (a+1)))) c)) h) (
 aa (.int .i64 (-1)) h)
def bn.g2(fr:Frame):Option Addr×Nat×Nat×Value×Int×Int:=((gLb (ah fr 0)),(gLl (ah fr 0)),(gLc (ah fr 0)),(ah fr 1),(gI (ah fr 7)),(gI (ah fr 8)))
def bn.l2(aa:VH):=gg (kds 19 [(0,.l),(1,.v),(7,.i .i64),(8,.i .i64)]) λfr=>bh (bn.B2 aa) (bn.g2 fr)
def bn.S(hO:Option Addr)(gx iz:Nat)(f_1:Value)(aa:VH)(h:ab):=
 bh (bn.B2 aa) (hO,gx,iz,f_1,(gx:Int),0) h
theorem bn.call{hO:Option Addr}{gx iz:Nat}{f_1:Value}{aa:VH}{h:ab}(H:bn.S hO gx iz f_1 aa h):ae ai eI #[.slice hO gx iz,f_1] aa h:=
 qc (Λ:=an [(1000002,bn.l2 aa)]) Tryz.func282
 (qs qf (qs (qs qf (Rq.block (ql (bn.l2 aa) (qg (g:=bn.g2) (Λ:=λa=>an []) (λ_ _ _=>by kernel_rfl) (λa=>qf))))) qf))
 (qe H)
set_option maxHeartbeats 1000000
section
variable {h:ab}
theorem yQ{b:Option Addr}{l c:Nat}{xs:List aJ}{f:Value}{p:aJ->Bool}(S:SlR az h b l c xs)(T:Dp ai az h f p):
  ae ai eI #[.slice b l c,f] (λu h'=>u = .int .i64 (ko p xs)∧Ext h h') h:=by
 refine bn.call ?_
 have K7:=S.2.2.1
 have Ze:=S.2.1
 have:=bW
 have hl:=S.len
 refine loop (λx hh=>∃n:Nat,x=(b,l,c,f,(l:Int),(n:Int))∧n≤l∧Ext h hh∧∀i,i<n->p xs[i]! = false) (λx=>(l-x.2.2.2.2.2).toNat) ⟨0,rfl,by omega,Ext.refl _,λi hi=>by omega⟩ ?_
 rintro x hh ⟨n,rfl,hn,X,hf⟩
 refine brd (λhc=>?_) λhc=>⟨by rw[pr λi hi=>hf i (by omega)],X⟩
 refine (S.ext X).idx (by decide) (by omega) (by omega) λa Ra=>Ra.gi rfl λcs Rc=>goD X (T _ _ _ X Rc) λh1 x1=>bd (br (λhb=>?_) λhb=>?_)
 ·exact ⟨by rw[pv (by omega) hf (by simpa using hb)],x1⟩
 ·refine ⟨⟨n+1,by rw[ag (by omega)],by omega,x1,λi hi=>?_⟩,by rw[ag (by omega)];show _<_;simp;omega⟩
  by_cases e:i=n
  ·subst e;simpa using hb
  ·exact hf i (by omega)
end
def CM.S(s_0:Addr)(aa:VH)(h:ab):=
 ALC ⟨eN⟩ bt (λb c=>
 LDA 6 c s_0 λe=>
 ALC ⟨eN⟩ bt (λa f=>
 STA 6 f ⟨a,0,none⟩ e λg=>
 ALC ⟨[]⟩ au (λi d=>
 oL (cell d (s_0.add 3)) λj k l=>
 iA ai (Builtin.append_ #[bI,bI] bI #[.slice (some ⟨i,0,none⟩) 0 0,.slice j k l]) (λAf kc=>
 asL Af λKY Js KZ=>
 ST1 kc ⟨a,3,none⟩ (.slice KY Js KZ) λgf=>
 ALC ⟨[]⟩ bk (λm kB=>
 oL (cell kB (s_0.add 4)) λDY DZ FE=>
 iA ai (Builtin.append_ #[fx,fx] fx #[.slice (some ⟨m,0,none⟩) 0 0,.slice DY DZ FE]) (λGV jn=>
 asL GV λUN SN Xu=>
 ST1 jn ⟨a,4,none⟩ (.slice UN SN Xu) λjZ=>
 ALC ⟨[]⟩ bq (λn rM=>
 oL (cell rM (s_0.add 5)) λPu My Xz=>
 iA ai (Builtin.append_ #[iS,iS] iS #[.slice (some ⟨n,0,none⟩) 0 0,.slice Pu My Xz]) (λVo oJ=>
 asL Vo λaen aeo alR=>
 ST1 oJ ⟨a,5,none⟩ (.slice aen aeo alR) λwP=>
 LDA 6 wP ⟨a,0,none⟩ λo=>
 STA 6 wP ⟨b,0,none⟩ o λry=>
 LDA 6 ry ⟨b,0,none⟩ λp=>
 aa (.agg p) ry) rM) jZ) kB) gf) d) g) c) h
theorem CM.call{s_0:Addr}{aa:VH}{h:ab}(H:CM.S s_0 aa h):ae ai sL #[.pointer (some s_0)] aa h:=
 qc (Λ:=an []) Tryz.func61
 qf
 (qe H)
def yt.S(aa:VH)(h:ab):=
 ALC ⟨aW⟩ ao (λa c=>
 STA 45 c ⟨a,0,none⟩ ⟨[.int .i64 (-1),.int .i64 0,.int .i64 0,.bool false,.float .f32 0,.slice none 0 0,.int .i64 0,.int .i64 0,.float .f32 0,.float .f32 0,.float .f32 0,.float .f32 0,.float .f32 0,.int .i64 0,.float .f32 0,.float .f32 0,.float .f32 0,.float .f32 0,.float .f32 0,.float .f32 0,.slice none 0 0,.slice none 0 0,.slice none 0 0,.int .i64 0,.float .f32 0,.float .f32 0,.float .f32 0,.float .f32 0,.float .f32 0,.bool false,.float .f32 0,.float .f32 0,.float .f32 0,.slice none 0 0,.int .i64 0,.slice none 0 0,.int .i64 0,.int .i64 0,.float .f32 0,.float .f32 0,.float .f32 0,.float .f32 0,.float .f32 0,.float .f32 0,.float .f32 0]⟩ λb=>
 LDA 45 b ⟨a,0,none⟩ λd=>
 aa (.agg d) b) h
theorem yt.call{aa:VH}{h:ab}(H:yt.S  aa h):ae ai tU #[] aa h:=
 qc (Λ:=an []) Tryz.func62
 qf
 (qe H)
def fF.S(hO:Option Addr)(gx iz:Nat)(aa:VH)(h:ab):=
 CMP ai .eql fx (.tmp 3) (.const (.slice none 0 0)) (.slice hO gx iz) (.slice none 0 0) (λb a=>
 BIF b (
 aa (.slice none 0 0) a) (
 ALC ⟨[]⟩ bk (λc d=>
 iA ai (Builtin.append_ #[fx,fx] fx #[.slice (some ⟨c,0,none⟩) 0 0,.slice hO gx iz]) (λe f=>
 asL e λAu yL AN=>
 aa (.slice Au yL AN) f) d) a)) h
theorem fF.call{hO:Option Addr}{gx iz:Nat}{aa:VH}{h:ab}(H:fF.S hO gx iz aa h):ae ai fb #[.slice hO gx iz] aa h:=
 qc (Λ:=an []) Tryz.func137
 qf
 (qe H)
def iw.S(hO:Option Addr)(gx iz:Nat)(aa:VH)(h:ab):=
 CMP ai .eql iS (.tmp 3) (.const (.slice none 0 0)) (.slice hO gx iz) (.slice none 0 0) (λb a=>
 BIF b (
 aa (.slice none 0 0) a) (
 ALC ⟨[]⟩ bq (λc d=>
 iA ai (Builtin.append_ #[iS,iS] iS #[.slice (some ⟨c,0,none⟩) 0 0,.slice hO gx iz]) (λe f=>
 asL e λAu yL AN=>
 aa (.slice Au yL AN) f) d) a)) h
theorem iw.call{hO:Option Addr}{gx iz:Nat}{aa:VH}{h:ab}(H:iw.S hO gx iz aa h):ae ai hD #[.slice hO gx iz] aa h:=
 qc (Λ:=an []) Tryz.func138
 qf
 (qe H)
def ua.S(s_0:Array Value)(aa:VH)(h:ab):=
 ALC s_0 bt (λa e=>
 ALC ⟨eN⟩ bt (λd b=>
 oL (cell b ⟨a,3,none⟩) λEY Df HY=>
 oL (cell b ⟨a,4,none⟩) λMz MA TO=>
 oL (cell b ⟨a,5,none⟩) λAu yL AN=>
 ae ai eo #[.slice EY Df HY] (λf c=>
 asL f λuY rj yg=>
 PIN b ⟨a,5,none⟩ 1 c <|
 PIN b ⟨a,4,none⟩ 1 c <|
 ae ai fb #[.slice Mz MA TO] (λwi iG=>
 asL wi λHV HW Mw=>
 PIN b ⟨a,5,none⟩ 1 iG <|
 ae ai hD #[.slice Au yL AN] (λDb kB=>
 asL Db λDY DZ FE=>
 ST1 kB ⟨a,3,none⟩ (.slice uY rj yg) λoZ=>
 ST1 oZ ⟨a,4,none⟩ (.slice HV HW Mw) λjn=>
 ST1 jn ⟨a,5,none⟩ (.slice DY DZ FE) λtz=>
 LDA 6 tz ⟨a,0,none⟩ λHu=>
 STA 6 tz ⟨d,0,none⟩ Hu λqz=>
 LDA 6 qz ⟨d,0,none⟩ λg=>
 aa (.agg g) qz) iG) c) b) e) h
theorem ua.call{s_0:Array Value}{aa:VH}{h:ab}(H:ua.S s_0 aa h):ae ai qK #[.agg s_0] aa h:=
 qc (Λ:=an []) Tryz.func68
 qf
 (qe H)
def yb.S(aa:VH)(h:ab):=
 ALC ⟨aW⟩ ao (λa c=>
 STA 45 c ⟨a,0,none⟩ ⟨[.int .i64 (-1),.int .i64 0,.int .i64 0,.bool false,.float .f32 0,.slice none 0 0,.int .i64 0,.int .i64 0,.float .f32 0,.float .f32 0,.float .f32 0,.float .f32 0,.float .f32 0,.int .i64 0,.float .f32 0,.float .f32 0,.float .f32 0,.float .f32 0,.float .f32 0,.float .f32 0,.slice none 0 0,.slice none 0 0,.slice none 0 0,.int .i64 0,.float .f32 0,.float .f32 0,.float .f32 0,.float .f32 0,.float .f32 0,.bool false,.float .f32 0,.float .f32 0,.float .f32 0,.slice none 0 0,.int .i64 0,.slice none 0 0,.int .i64 0,.int .i64 0,.float .f32 0,.float .f32 0,.float .f32 0,.float .f32 0,.float .f32 0,.float .f32 0,.float .f32 0]⟩ λb=>
 LDA 45 b ⟨a,0,none⟩ λd=>
 aa (.agg d) b) h
theorem yb.call{aa:VH}{h:ab}(H:yb.S  aa h):ae ai tM #[] aa h:=
 qc (Λ:=an []) Tryz.func69
 qf
 (qe H)
theorem qy:Flat aM:=DE (jm ali (jm (BP _) (jm (nZ _) (jm (nZ _) (nZ _)))))
theorem Xf:0<aM.sz:=by decide
def scC(y1 y2 y3:Nat)(b1:Option Addr)(l1 c1:Nat)(b2:Option Addr)(l2 c2:Nat)(b3:Option Addr)(l3 c3:Nat):List Value:=[.float .f32 y1,.float .f32 y2,.float .f32 y3,.slice b1 l1 c1,.slice b2 l2 c2,.slice b3 l3 c3]
section
variable {h:ab}
theorem ve{cs:Array Value}{s:cA}(R:da.rd h cs.toList s):∃y1 y2 y3 b1 l1 c1 b2 l2 c2 b3 l3 c3,cs=⟨scC y1 y2 y3 b1 l1 c1 b2 l2 c2 b3 l3 c3⟩∧FW .f32 y1 s.yI∧FW .f32 y2 s.er.Di∧FW .f32 y3 s.er.kZ ∧
  SlR (rF .f32) h b1 l1 c1 s.er.bU∧SlR aM h b2 l2 c2 s.aI∧SlR bD h b3 l3 c3 s.aU:=by
 obtain⟨v1,r1,e1,⟨y1,rfl,F1⟩,vT,r2,rfl,⟨v2,r3,rfl,⟨y2,rfl,F2⟩,v3,r4,rfl,⟨y3,rfl,F3⟩,b1,l1,c1,rfl,S1⟩,v5,v6,rfl,⟨b2,l2,c2,rfl,S2⟩,b3,l3,c3,rfl,S3⟩:=R
 exact ⟨y1,y2,y3,b1,l1,c1,b2,l2,c2,b3,l3,c3,by cases cs;simpa [scC] using e1,F1,F2,F3,S1,S2,S3⟩
theorem Vz{s:cA}{y1 y2 y3:Nat}{b1 b2 b3:Option Addr}{l1 c1 l2 c2 l3 c3:Nat}{B1 B2 B3:List Blk}(F1:FW .f32 y1 s.yI)(F2:FW .f32 y2 s.er.Di)(F3:FW .f32 y3 s.er.kZ)(O1:SlO au (rF .f32) B1 b1 l1 c1 s.er.bU)(O2:SlO bk aM B2 b2 l2 c2 s.aI)(O3:SlO bq bD B3 b3 l3 c3 s.aU):da.ow (B1++(B2++B3)) (scC y1 y2 y3 b1 l1 c1 b2 l2 c2 b3 l3 c3) s:=
 ⟨[],B1++(B2++B3),[.float .f32 y1],_,rfl,rfl,⟨rfl,y1,rfl,F1⟩,B1,B2++B3,[.float .f32 y2,.float .f32 y3,.slice b1 l1 c1],[.slice b2 l2 c2,.slice b3 l3 c3],rfl,rfl,
  ⟨[],B1,[.float .f32 y2],[.float .f32 y3,.slice b1 l1 c1],rfl,rfl,⟨rfl,y2,rfl,F2⟩,[],B1,[.float .f32 y3],[.slice b1 l1 c1],rfl,rfl,⟨rfl,y3,rfl,F3⟩,b1,l1,c1,rfl,O1⟩,
  B2,B3,[.slice b2 l2 c2],[.slice b3 l3 c3],rfl,rfl,⟨b2,l2,c2,rfl,O2⟩,b3,l3,c3,rfl,O3⟩
theorem Tl{y1 y2 y3:Nat}{b1 b2 b3:Option Addr}{l1 c1 l2 c2 l3 c3:Nat}:∀v ∈ (⟨scC y1 y2 y3 b1 l1 c1 b2 l2 c2 b3 l3 c3⟩:Array Value).toList,v.oneCell'=true:=λv hv=>by
 simp only[scC,List.mem_cons,List.mem_nil_iff,or_false] at hv
 rcases hv with rfl | rfl | rfl | rfl | rfl | rfl <;> rfl
theorem Tp{α:Type}{r:Rep α}{l c:Nat}{xs:List α}(hz:0<r.sz)(S:SlR r h none l c xs):xs=[]∧l=0:=by
 obtain⟨h1,h2,h3,ws,C,R⟩:=S
 have hw:ws=[]:=by
  cases ws with
  | nil=>rfl
  | cons w ws=>obtain⟨a,e,_⟩:=C 0 (by simp);cases e
 subst hw
 have hx:xs.length*r.sz=0:=by rw[← R.len];rfl
 have hl:xs.length=0:=by
  rcases Nat.mul_eq_zero.1 hx with h | h <;> omega
 exact ⟨List.eq_nil_of_length_eq_zero hl,by omega⟩
theorem Gi{b:Option Addr}{l c:Nat}{xs:List bA}(S:SlR aM h b l c xs)(hl:l≤1048576):
  ae ai fb #[.slice b l c] (λu h'=>∃b' c' B,u = .slice b' l c'∧SlO bk aM B b' l c' xs∧Mem h h' B) h:=by
 refine fF.call (Lf Dq (br (λhb=>?_) λhb=>?_))
 ·obtain rfl:b=none:=by simpa using hb
  obtain⟨rfl,rfl⟩:=Tp Xf S
  exact ⟨none,0,[],rfl,SlO.nil,Mem.start h⟩
 ·exact (Mem.start h).alc λg h1 x1 M=>lL uV Xf qy (S.ext x1) M (by omega) λb' c' h' B' O' M'=>lZ ⟨b',c',B',rfl,O',by simpa using M'⟩
theorem Oq{b:Option Addr}{l c:Nat}{xs:List bf}(S:SlR bD h b l c xs)(hl:l≤1048576):
  ae ai hD #[.slice b l c] (λu h'=>∃b' c' B,u = .slice b' l c'∧SlO bq bD B b' l c' xs∧Mem h h' B) h:=by
 refine iw.call (Lf Ky (br (λhb=>?_) λhb=>?_))
 ·obtain rfl:b=none:=by simpa using hb
  obtain⟨rfl,rfl⟩:=Tp ru S
  exact ⟨none,0,[],rfl,SlO.nil,Mem.start h⟩
 ·exact (Mem.start h).alc λg h1 x1 M=>lL CR ru GA (S.ext x1) M (by omega) λb' c' h' B' O' M'=>lZ ⟨b',c',B',rfl,O',by simpa using M'⟩
theorem Ei{s:cA}(h:s.ok=true):s.er.bU.length≤31∧s.aI.length≤6∧s.aU.length≤128:=by
 have G:=qo h
 have g1:=G.even
 have g2:=G.MP
 unfold cA.ok at h
 simp only[Bool.and_eq_true,decide_eq_true_eq] at h
 have ht:=h.1.1.2
 unfold bR.ok at ht
 simp only[Bool.and_eq_true,inR,decide_eq_true_eq] at ht
 exact ⟨by omega,h.1.2.1,by omega⟩
theorem Qm{q:Addr}{s:cA}(R:RdP da h q s)(hs:s.ok=true):ae ai sL #[.pointer (some q)] (λu h'=>gw da h h' u s) h:=by
 obtain⟨z1,z2,z3⟩:=Ei hs
 refine CM.call ((Mem.start h).alc λg1 h1 x1 M=>(R.ext M.ext).gi rfl λcs Rc=>?_)
 obtain⟨y1,y2,y3,b1,l1,c1,b2,l2,c2,b3,l3,c3,rfl,F1,F2,F3,S1,S2,S3⟩:=ve Rc
 refine M.alc λg4 h2 x2 M=>M.dy .here rfl Tl rfl .here λh3 M=>M.alc λg7 h4 x4 M=>?_
 have A:∀{hh:ab},Ext h hh->RdP da hh q s:=λe=>R.ext e
 refine (A M.ext).oL λb lA c S=>lL pd (by decide) (nZ _) S M (by have:=S.len;omega) λb1' c1' h5 B1 O1 M=>lZ ?_
 have e1:=S.len
 have M:=M.cnt (W:=(g4,bt,⟨scC y1 y2 y3 b1 l1 c1 b2 l2 c2 b3 l3 c3⟩) :: (B1++[(g1,bt,⟨eN⟩)]))
 refine M.st1 .here (by show 3<6;decide) .here λh6 M=>?_
 have M:Mem h h6 ((g4,bt,⟨scC y1 y2 y3 b1' lA c1' b2 l2 c2 b3 l3 c3⟩) :: (B1++[(g1,bt,⟨eN⟩)])):=M
 refine M.alc λg8 h7 x7 M=>(A M.ext).oL λb lB c S=>lL uV Xf qy S M (by have:=S.len;omega) λb2' c2' h8 B2 O2 M=>lZ ?_
 have e2:=S.len
 have M:=M.cnt (W:=(g4,bt,⟨scC y1 y2 y3 b1' lA c1' b2 l2 c2 b3 l3 c3⟩) :: (B2++(B1++[(g1,bt,⟨eN⟩)])))
 refine M.st1 .here (by show 4<6;decide) .here λh9 M=>?_
 have M:Mem h h9 ((g4,bt,⟨scC y1 y2 y3 b1' lA c1' b2' lB c2' b3 l3 c3⟩) :: (B2++(B1++[(g1,bt,⟨eN⟩)]))):=M
 refine M.alc λg9 gd x10 M=>(A M.ext).oL λb lC c S=>lL CR ru GA S M (by have:=S.len;omega) λb3' c3' kc B3 O3 M=>lZ ?_
 have e3:=S.len
 have M:=M.cnt (W:=(g4,bt,⟨scC y1 y2 y3 b1' lA c1' b2' lB c2' b3 l3 c3⟩) :: (B3++(B2++(B1++[(g1,bt,⟨eN⟩)]))))
 refine M.st1 .here (by show 5<6;decide) .here λiG M=>?_
 have M:Mem h iG ((g4,bt,⟨scC y1 y2 y3 b1' lA c1' b2' lB c2' b3' lC c3'⟩) :: (B3++(B2++(B1++[(g1,bt,⟨eN⟩)])))):=M
 refine M.cM .here rfl ?_
 have M:=M.cnt (W:=(g1,bt,⟨eN⟩) :: (B1++(B2++B3)))
 exact M.dy .here rfl Tl rfl .here λgf M=>M.cM .here rfl ⟨_,B1++(B2++B3),rfl,Vz F1 F2 F3 O1 O2 O3,M.drop⟩
theorem OG{cs:Array Value}{s:cA}(R0:da.rd h cs.toList s)(hs:s.ok=true):ae ai qK #[.agg cs] (λu h'=>gw da h h' u s) h:=by
 obtain⟨z1,z2,z3⟩:=Ei hs
 obtain⟨y1,y2,y3,b1,l1,c1,b2,l2,c2,b3,l3,c3,rfl,F1,F2,F3,S1,S2,S3⟩:=ve R0
 have e1:=S1.len
 have e2:=S2.len
 have e3:=S3.len
 refine ua.call ((Mem.start h).alc λg1 h1 x1 M=>M.alc λg3 h2 x2 M=>?_)
 have M:=M.cnt (W:=(g1,bt,⟨scC y1 y2 y3 b1 l1 c1 b2 l2 c2 b3 l3 c3⟩) :: [(g3,bt,⟨eN⟩)])
 have P:RdP da h2 ⟨g1,0,none⟩ s:=M.rdp .here (da.ext M.ext R0)
 refine o_l (M.cell .here 3) (o_l (M.cell .here 4) (o_l (M.cell .here 5) ?_))
 refine (yO (S1.ext M.ext) (by omega)).mono ?_
 rintro _ h3 ⟨b1',c1',B1,rfl,O1,N⟩
 refine lZ (P.Cs (by decide) N.ext (P.Cs (by decide) N.ext ?_))
 have x3:=N.ext
 have M:=M.join N
 refine (Gi (S2.ext M.ext) (by omega)).mono ?_
 rintro _ h4 ⟨b2',c2',B2,rfl,O2,N⟩
 refine lZ (P.Cs (by decide) (x3.trans N.ext) ?_)
 have M:=M.join N
 refine (Oq (S3.ext M.ext) (by omega)).mono ?_
 rintro _ h5 ⟨b3',c3',B3,rfl,O3,N⟩
 refine lZ ?_
 have M:=(M.join N).cnt (W:=(g1,bt,⟨scC y1 y2 y3 b1 l1 c1 b2 l2 c2 b3 l3 c3⟩) :: (B1++(B2++(B3++[(g3,bt,⟨eN⟩)]))))
 refine M.st1 .here (by show 3<6;decide) .here λh6 M=>M.st1 .here (by show 4<6;decide) .here λh7 M=>M.st1 .here (by show 5<6;decide) .here λh8 M=>?_
 have M:Mem h h8 ((g1,bt,⟨scC y1 y2 y3 b1' l1 c1' b2' l2 c2' b3' l3 c3'⟩) :: (B1++(B2++(B3++[(g3,bt,⟨eN⟩)])))):=M
 refine M.cM .here rfl ?_
 have M:=M.cnt (W:=(g3,bt,⟨eN⟩) :: (B1++(B2++B3)))
 exact M.dy .here rfl Tl rfl .here λgf M=>M.cM .here rfl ⟨_,B1++(B2++B3),rfl,Vz F1 F2 F3 O1 O2 O3,M.drop⟩
end
end Go.Sx
