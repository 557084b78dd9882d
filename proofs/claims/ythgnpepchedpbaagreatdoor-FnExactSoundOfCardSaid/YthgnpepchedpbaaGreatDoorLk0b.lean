/- Lemmas. -/
import Derived.Test.YthgnpepchedpbaaGreatDoorTabE
import Derived.Test.YthgnpepchedpbaaGreatDoorLp3
import Derived.Test.YthgnpepchedpbaaGreatDoorLx1
import Derived.Test.YthgnpepchedpbaaGreatDoorLp1
import Derived.Laws.Cover3
import Derived.Test.YthgnpepchedpbaaGreatDoorLg
set_option linter.unusedVariables false
set_option linter.unusedSimpArgs false
namespace Go.Sx
open Go.Proofs Ieee
set_option maxRecDepth 100000
section
variable {x y a b:Nat}
def inside(a l r:Nat):Bool:=fge .f32 a l&&fle .f32 a r
theorem jO{z c:Nat}(hx:FW .f32 x a)(hy:FW .f32 y b)(hz:FW .f32 z c):Ret ak 159 #[.float .f32 x,.float .f32 y,.float .f32 z] (.bool (inside a b c)):=λh=>by
 refine tK.call ?_
 rw[tK.S,cw hx hy,cw hx hz]
 exact br (λhb=>⟨by rw[inside,fge,hb];rfl,Ext.refl _⟩) λhb=>⟨by rw[inside,fge,hb];rfl,Ext.refl _⟩
end
end Go.Sx
namespace Go.Sx
open Go.ChangeShapes Go.WideShapes Go.ChangeAt Go.RowKit
def qF{α:Type}(P:Program)(r:Rep α)(ls:List TypeId):Prop:=
 ∀(H:Type) (enc:TypeId×Value->H) (w:World) (base:Nat) (spare:Nat->Bool) (held:Bool) (vs:List Value),o7 enc P w base spare held ls vs->∃a,r.rd w.heap vs a
section
variable {α β:Type}{P:Program}
theorem o7.split{H:Type}{enc:TypeId×Value->H}{w:World}{base:Nat}{spare:Nat->Bool}{held:Bool}:∀{l1 l2:List TypeId}{vs:List Value},o7 enc P w base spare held (l1++l2) vs ->
  ∃v1 v2,vs=v1++v2∧o7 enc P w base spare held l1 v1∧o7 enc P w base spare held l2 v2
 | [],l2,vs,h=>⟨[],vs,rfl,trivial,h⟩
 | t :: l1,l2,[],h=>h.elim
 | t :: l1,l2,v :: vs,h=>by
  obtain⟨v1,v2,rfl,h1,h2⟩:=o7.split h.2
  exact⟨v :: v1,v2,rfl,⟨h.1,h1⟩,h2⟩
theorem o7.one{H:Type}{enc:TypeId×Value->H}{w:World}{base:Nat}{spare:Nat->Bool}{held:Bool}{t:TypeId}:∀{vs:List Value},o7 enc P w base spare held [t] vs->∃v,vs=[v]∧TE enc P w base spare held t v
 | [],h=>h.elim
 | [v],h=>⟨v,rfl,h.1⟩
 | _ :: _ :: _,h=>h.2.elim
theorem rK{k:IntKind}{t:TypeId}(ht:P.underlying t=some (.int k)):qF P (rI k) [t]:=λH enc w base spare held vs h=>by
 obtain⟨v,rfl,h'⟩:=h.one
 obtain⟨n,rfl,_⟩:=Y5 ht h'
 exact⟨n,rfl⟩
theorem ZB{k:FloatKind}{n:Nat}(h:(Lit.float k n).wf=true):n<2 ^ k.format.width:=by
 cases k
 ·show n<4294967296
  simpa [Lit.wf] using h
 ·show n<18446744073709551616
  simpa [Lit.wf] using h
theorem k9{k:FloatKind}{t:TypeId}(ht:P.underlying t=some (.float k)):qF P (rF k) [t]:=λH enc w base spare held vs h=>by
 obtain⟨v,rfl,h'⟩:=h.one
 obtain⟨n,rfl,hn⟩:=QM ht h'
 exact⟨cn k n,n,rfl,aif (ZB hn)⟩
theorem V5{t:TypeId}(ht:P.underlying t=some .string):qF P rS [t]:=λH enc w base spare held vs h=>by
 obtain⟨v,rfl,h'⟩:=h.one
 obtain⟨n,rfl,hn⟩:=Y6 ht h'
 exact⟨n,rfl,hn⟩
theorem iz{r:Rep α}{s:Rep β}{l1 l2:List TypeId}(h1:qF P r l1)(h2:qF P s l2):qF P (r.seq s) (l1++l2):=λH enc w base spare held vs h=>by
 obtain⟨v1,v2,rfl,h3,h4⟩:=h.split
 obtain⟨a,ha⟩:=h1 _ _ _ _ _ _ _ h3
 obtain⟨b,hb⟩:=h2 _ _ _ _ _ _ _ h4
 exact⟨(a,b),v1,v2,rfl,ha,hb⟩
theorem zC{r:Rep β}{f:α->β}{ls:List TypeId}(g:β->α)(hg:∀b,f (g b)=b)(h1:qF P r ls):qF P (r.via f) ls:=λH enc w base spare held vs h=>by
 obtain⟨a,ha⟩:=h1 _ _ _ _ _ _ _ h
 exact⟨g a,by show r.rd _ _ (f (g a));rw[hg];exact ha⟩
theorem JZ{r:Rep α}{ls:List TypeId}(h1:qF P r ls){H:Type}{enc:TypeId×Value->H}{w:World}{base:Nat}{spare:Nat->Bool}{held:Bool}:∀{n:Nat}{vs:List Value},o7 enc P w base spare held (List.replicate n ls).flatten vs->∃iD:List α,iD.length=n∧rds r w.heap vs iD
 | 0,vs,h=>by
  cases vs with
  | nil=>exact⟨[],rfl,rfl⟩
  | cons v vs=>exact h.elim
 | n+1,vs,h=>by
  rw[List.replicate_succ,List.flatten_cons] at h
  obtain⟨v1,v2,rfl,h3,h4⟩:=h.split
  obtain⟨a,ha⟩:=h1 _ _ _ _ _ _ _ h3
  obtain⟨iD,hl,hs⟩:=JZ h1 h4
  exact⟨a :: iD,by simp[hl],v1,v2,rfl,ha,hs⟩
theorem agW{r:Rep α}{ls:List TypeId}{n:Nat}{e:TypeId}(hf:flat P n e=some ls)(hc:P.cellsOf e=r.sz)(h1:qF P r ls){H:Type}{enc:TypeId×Value->H}{w:World}{base:Nat}{spare:Nat->Bool}{held:Bool}{b:Option Addr}{l c:Nat}{vs:List Value}(S:Slc enc P w base spare held e b l c vs):∃iD:List α,SlR r w.heap b l c iD:=by
 have h2:o7 enc P w base spare held (List.replicate l ls).flatten vs:=by
  refine o7.rep (sz:=P.cellsOf e) S.len λi hi=>Nf n e ls _ hf (S.elems i hi)
 obtain⟨iD,hl,hs⟩:=JZ h1 h2
 exact⟨iD,hl,S.le,S.max,vs,S.cells,hs⟩
theorem GL{r:Rep α}{ls:List TypeId}{n e0:Nat}{t e:TypeId}(ht:P.underlying t=some (.slice e))(hf:flat P n e=some ls)(hc:P.cellsOf e=r.sz)(h1:qF P r ls):qF P (rSl e0 r) [t]:=λH enc w base spare held vs h=>by
 obtain⟨v,rfl,h'⟩:=h.one
 obtain⟨b,l,c,vs,rfl,_,S⟩:=QN ht h'
 obtain⟨iD,hs⟩:=agW hf hc h1 S
 exact⟨iD,b,l,c,rfl,hs⟩
end
end Go.Sx
namespace Go.Sx
section
variable {α β:Type}{r:Rep α}{h:ab}{q:Addr}{x:α}{off g:Nat}
theorem kW(q:Addr):q.add 0=q:=by simp[Addr.add]
theorem mR(g n:Nat):(⟨g,0,none⟩:Addr).add n=⟨g,n,none⟩:=by rw[dQ,Nat.zero_add]
theorem RdP.WJ{p:Rep β}{get:α->β}{put:α->β->α}(R:RdP r h ⟨g,0,none⟩ x)(F:Foc r p off get put):RdP p h ⟨g,off,none⟩ (get x):=by have:=R.foc F;rwa [mR] at this
theorem RdP.fst{p:Rep β}{get:α->β}{put:α->β->α}(R:RdP r h q x)(F:Foc r p 0 get put):RdP p h q (get x):=by have:=R.foc F;rwa [kW] at this
theorem RdP.oI1{k:IntKind}{get:α->Int}{put:α->Int->α}{K:Int->Prop}(R:RdP r h q x)[F:cJ r 0 (rI k) get put](H:K (get x)):Sx.oI k (Sx.cell h q) K:=by have:=RdP.oI (off:=0) R (F:=F) H;rwa [kW] at this
theorem RdP.oS1{get:α->ByteArray}{put:α->ByteArray->α}{K:ByteArray->Prop}(R:RdP r h q x)[F:cJ r 0 rS get put](H:(get x).size≤maxLen->K (get x)):Sx.oS (Sx.cell h q) K:=by have:=RdP.oS (off:=0) R (F:=F) H;rwa [kW] at this
theorem RdP.oF1{k:FloatKind}{get:α->Nat}{put:α->Nat->α}{K:Nat->Prop}(R:RdP r h q x)[F:cJ r 0 (rF k) get put](H:∀y,FW k y (get x)->K y):Sx.oF k (Sx.cell h q) K:=by have:=RdP.oF (off:=0) R (F:=F) H;rwa [kW] at this
theorem RdP.oL1{e:Nat}{s:Rep β}{get:α->List β}{put:α->List β->α}{K:Option Addr->Nat->Nat->Prop}(R:RdP r h q x)[F:cJ r 0 (rSl e s) get put](H:∀b l c,SlR s h b l c (get x)->K b l c):Sx.oL (Sx.cell h q) K:=by have:=RdP.oL (off:=0) R (F:=F) H;rwa [kW] at this
theorem RdP.jc{n:Nat}{K:Array Value->Prop}(R:RdP r h q x)(hn:r.sz=n)(H:∀cs:Array Value,r.rd h cs.toList x->K cs):LDA n h q K:=by have:=R.lda (Foc.here r) hn H;rwa [kW] at this
theorem RdP.oI2{k:IntKind}{get:α->Int}{put:α->Int->α}{K:Int->Prop}(R:RdP r h ⟨g,0,none⟩ x)[F:cJ r off (rI k) get put](H:K (get x)):Sx.oI k (Sx.cell h ⟨g,off,none⟩) K:=by have:=RdP.oI (off:=off) R (F:=F) H;rwa [mR] at this
theorem RdP.oS2{get:α->ByteArray}{put:α->ByteArray->α}{K:ByteArray->Prop}(R:RdP r h ⟨g,0,none⟩ x)[F:cJ r off rS get put](H:(get x).size≤maxLen->K (get x)):Sx.oS (Sx.cell h ⟨g,off,none⟩) K:=by have:=RdP.oS (off:=off) R (F:=F) H;rwa [mR] at this
theorem RdP.oF2{k:FloatKind}{get:α->Nat}{put:α->Nat->α}{K:Nat->Prop}(R:RdP r h ⟨g,0,none⟩ x)[F:cJ r off (rF k) get put](H:∀y,FW k y (get x)->K y):Sx.oF k (Sx.cell h ⟨g,off,none⟩) K:=by have:=RdP.oF (off:=off) R (F:=F) H;rwa [mR] at this
theorem RdP.oL2{e:Nat}{s:Rep β}{get:α->List β}{put:α->List β->α}{K:Option Addr->Nat->Nat->Prop}(R:RdP r h ⟨g,0,none⟩ x)[F:cJ r off (rSl e s) get put](H:∀b l c,SlR s h b l c (get x)->K b l c):Sx.oL (Sx.cell h ⟨g,off,none⟩) K:=by have:=RdP.oL (off:=off) R (F:=F) H;rwa [mR] at this
theorem RdP.jH{p:Rep β}{n:Nat}{get:α->β}{put:α->β->α}{K:Array Value->Prop}(R:RdP r h ⟨g,0,none⟩ x)(F:Foc r p off get put)(hn:p.sz=n)(H:∀cs:Array Value,p.rd h cs.toList (get x)->K cs):LDA n h ⟨g,off,none⟩ K:=by have:=R.lda F hn H;rwa [mR] at this
end
instance awA(k:IntKind):cJ (rI k) 0 (rI k) (λa=>a) (λ_ b=>b):=⟨Foc.here _⟩
instance awz(k:FloatKind):cJ (rF k) 0 (rF k) (λa=>a) (λ_ b=>b):=⟨Foc.here _⟩
instance awB:cJ rS 0 rS (λa=>a) (λ_ b=>b):=⟨Foc.here _⟩
instance apS:cJ (iT 2 (rF .f32)) 0 (rF .f32) (λl=>l[0]!) (λl b=>l.set 0 b):=⟨(Foc.arr (rF .f32) 0 (by decide)).at rfl⟩
instance apT:cJ (iT 2 (rF .f32)) 1 (rF .f32) (λl=>l[1]!) (λl b=>l.set 1 b):=⟨(Foc.arr (rF .f32) 1 (by decide)).at rfl⟩
instance apU:cJ (iT 3 (rF .f32)) 0 (rF .f32) (λl=>l[0]!) (λl b=>l.set 0 b):=⟨(Foc.arr (rF .f32) 0 (by decide)).at rfl⟩
instance apV:cJ (iT 3 (rF .f32)) 1 (rF .f32) (λl=>l[1]!) (λl b=>l.set 1 b):=⟨(Foc.arr (rF .f32) 1 (by decide)).at rfl⟩
instance apW:cJ (iT 3 (rF .f32)) 2 (rF .f32) (λl=>l[2]!) (λl b=>l.set 2 b):=⟨(Foc.arr (rF .f32) 2 (by decide)).at rfl⟩
section
variable {α β:Type}{r:Rep α}{h0 h h':ab}{q:Addr}{x:α}{off g n:Nat}{L:List Blk}{cs:Array Value}
theorem gD{T:Nat}{F:Nat->ab->Prop}(R:r.rd h cs.toList x)(H:∀g h',Ext h h'->RdP r h' ⟨g,0,none⟩ x->F g h'):ALC cs T F h:=by
 refine H _ _ (Ext.push _ _) ⟨cs.toList,λi v e=>?_,r.ext (Ext.push _ _) R⟩
 rw[mR]
 simpa [cell] using e
theorem Mem.rdp(M:Mem h0 h L)(l:gi L g cs)(R:r.rd h cs.toList x):RdP r h ⟨g,0,none⟩ x:=by
 refine⟨cs.toList,λi v e=>?_,R⟩
 rw[mR,M.cell l];simpa using e
theorem RdP.pin{p:Prop}(R:RdP r h q x)(hn:r.sz=n)(X:Ext h h')(H:p):PIN h q n h' p:=by
 obtain⟨vs,h1,h2⟩:=R
 have:=r.tc h2
 exact Sx.pin X (λj hj=>⟨vs[j]'(by omega),h1 j _ (List.getElem?_eq_getElem (by omega))⟩) H
theorem dT{p:Prop}{a:Addr}(H:p):PIN h a n h p:=⟨λ_ _=>rfl,H⟩
theorem Pt.join{F:Fr}{WS:ab}{L2:List Blk}(P:Pt r h0 h q F L x)(M:Mem h WS L2):Pt r h0 WS q F (L2++L) x:=by
 obtain⟨e,iS,B,N,O⟩:=P
 refine⟨e,iS,B,?_,O⟩
 have:=N.join M
 refine this.perm ?_
 refine List.perm_middle.trans (List.Perm.cons _ ?_)
 rw[← List.append_assoc,← List.append_assoc]
 exact List.Perm.append_right _ List.perm_append_comm
theorem Pt.sub{F:Fr}{L2:List Blk}(P:Pt r h0 h q F L x)(s:L2.Sublist L):Pt r h0 h q F L2 x:=by
 obtain⟨e,iS,B,N,O⟩:=P
 exact⟨e,iS,B,N.sub (List.Sublist.cons_cons _ ((List.Sublist.refl _).append s)),O⟩
theorem Pt.drop{F:Fr}{L2:List Blk}(P:Pt r h0 h q F (L2++L) x):Pt r h0 h q F L x:=P.sub (List.sublist_append_right _ _)
end
section
variable {α:Type}{r:Rep α}{h:ab}{b:Option Addr}{l c:Nat}{iD:List α}
theorem SlR.len(S:SlR r h b l c iD):iD.length=l:=S.1
theorem SlR.idx[Inhabited α]{i:Int}{F:Addr->Prop}(S:SlR r h b l c iD)(hz:0<r.sz)(h1:0≤i)(h2:i<l)(H:∀a,RdP r h (a.add (i.toNat*r.sz)) iD[i.toNat]!->F a):bd b i l F:=by
 obtain⟨a,rfl,R⟩:=S.elem (i:=i.toNat) (by omega) hz
 exact idxs h1 h2 (H a R)
theorem RdP.arr{n:Nat}{q:Addr}(R:RdP (iT n r) h q iD)(hn:n≤maxLen):SlR r h (some q) n n iD:=by
 obtain⟨vs,h1,h2,h3⟩:=R
 exact⟨h2,Nat.le_refl _,hn,vs,λi hi=>⟨q,rfl,by rw[h1 i _ (List.getElem?_eq_getElem hi),List.getElem?_eq_getElem hi]⟩,h3⟩
theorem CH(a:Addr)(n sz:Nat):slP a n 0 sz=a:=by
 unfold slP;split
 ·rfl
 ·rw[Nat.zero_mul,kW]
theorem RdP.elem[Inhabited α]{n i:Nat}{q:Addr}(R:RdP (iT n r) h q iD)(hi:i<n):RdP r h (q.add (i*r.sz)) iD[i]!:=R.foc (Foc.arr r i hi)
theorem RdP.len{n:Nat}{q:Addr}(R:RdP (iT n r) h q iD):iD.length=n:=by obtain⟨vs,_,h2,_⟩:=R;exact h2
end
theorem lI{α:Type}[Inhabited α](p:α->Bool)(l:List α):l.all p=(List.range l.length).all λi=>p l[i]!:=by
 rw[Bool.eq_iff_iff]
 simp only[List.all_eq_true,List.mem_range]
 constructor
 ·intro h i hi;rw[getElem!_pos l i hi];exact h _ (List.getElem_mem hi)
 ·intro h x hx
  obtain⟨i,hi,rfl⟩:=List.mem_iff_getElem.1 hx
  have:=h i hi
  rwa [getElem!_pos l i hi] at this
theorem all_false{f:Nat->Bool}{n i:Nat}(hi:i<n)(h:f i=false):(List.range n).all f=false:=by
 rw[List.all_eq_false]
 exact⟨i,List.mem_range.2 hi,by simp[h]⟩
theorem all_true{f:Nat->Bool}{n:Nat}(h:∀i,i<n->f i=true):(List.range n).all f=true:=by
 rw[List.all_eq_true];intro i hi;exact h i (List.mem_range.1 hi)
theorem KT{P:Program}{t e:Nat}{xo yo:Operand}{b:Option Addr}{l c:Nat}{F:Bool->ab->Prop}{h:ab}(ht:P.underlying t=some (.slice e))(H:F b.isNone h):CMP P .eql t xo yo (.slice b l c) (.slice none 0 0) F h:=by
 refine RP λw hw=>⟨.bool b.isNone,w,?_,hZ.refl _,?_⟩
 ·simp only[Sem.run_bind,eqGuard_at_slice,Sem.run_pure,Result.andThen_ok]
  simp only[binOp]
  simp[run_equal_slice_nil w t e b l c ht]
 ·rw[hw];exact H
def Flat{α:Type}(r:Rep α):Prop:=∀h vs a,r.rd h vs a->r.ow [] vs a
theorem WI{α:Type}(f:α->Value)(hf:∀a,(f a).oneCell'=true):Flat (Vf f hf):=λh vs a e=>⟨rfl,e⟩
theorem AM(k:IntKind):Flat (rI k):=WI _ _
theorem aeS:Flat rS:=λh vs a e=>⟨rfl,e⟩
theorem u0(k:FloatKind):Flat (rF k):=λh vs a e=>⟨rfl,e⟩
theorem lh{α β:Type}{r:Rep α}{s:Rep β}(hr:Flat r)(hs:Flat s):Flat (r.seq s):=λh vs a e=>by
 obtain⟨v1,v2,rfl,h1,h2⟩:=e
 exact⟨[],[],v1,v2,rfl,rfl,hr _ _ _ h1,hs _ _ _ h2⟩
theorem G3{α β:Type}{r:Rep β}{f:α->β}(hr:Flat r):Flat (r.via f):=λh vs a e=>hr _ _ _ e
theorem G2{α:Type}{r:Rep α}(hr:Flat r){h:ab}:∀{xs:List α}{vs:List Value},rds r h vs xs->ows r [] vs xs
 | [],vs,e=>⟨rfl,e⟩
 | a :: xs,vs,e=>by
  obtain⟨v1,v2,rfl,h1,h2⟩:=e
  exact⟨[],[],v1,v2,rfl,rfl,hr _ _ _ h1,G2 hr h2⟩
theorem Nd{α:Type}{r:Rep α}(n:Nat)(hr:Flat r):Flat (iT n r):=λh vs a e=>⟨e.1,G2 hr e.2⟩
section
variable {α:Type}{r:Rep α}{P:Program}{h0 h:ab}{L:List Blk}{t e bytes:Nat}{b:Option Addr}{l c:Nat}{xs:List α}{K:Value->ab->Prop}{ty:Nat}
theorem SlO.len{B:List Blk}(O:SlO e r B b l c xs):xs.length=l:=O.1
theorem SlO.nil:SlO e r [] none 0 0 []:=⟨rfl,[],[],[],rfl,⟨by simp,.inl ⟨rfl,rfl,rfl,rfl⟩⟩,rfl,rfl⟩
theorem SlO.empty(g:Nat):SlO e r [(g,e,⟨[]⟩)] (some ⟨g,0,none⟩) 0 0 []:=⟨rfl,[],[(g,e,⟨[]⟩)],[],rfl,⟨by simp,.inr ⟨g,⟨[]⟩,rfl,rfl,Nat.le_refl _,Nat.zero_le _,by simp,by simp⟩⟩,rfl,rfl⟩
theorem SlO.app{B Bn:List Blk}{a:Addr}{m mc:Nat}{news:List Value}{ys:List α}(E:xK P t e r.sz bytes)(O:SlO e r B b l c xs)(M:Mem h0 h (B++(Bn++L)))(hn:ys.length=m)(hys:ows r Bn news ys)(hr:∀j v,news[j]? = some v->cell h (a.add j)=some v)(Nq:l+m≤maxLen)(yx:(l+m)*bytes≤140737488355328)(H:∀b' c' h' B',SlO e r B' b' (l+m) c' (xs++ys)->Mem h0 h' (B'++L)->K (.slice b' (l+m) c') h'):
  gC P (Builtin.append_ #[t,t] ty #[.slice b l c,.slice (some a) m mc]) K h:=by
 obtain⟨h1,ws,B1,B2,rfl,O1,O2⟩:=O
 have S:Sl h0 h (B2++(Bn++L)) e r.sz b l c ws:=O1.sl (by simpa using M)
 refine S.app E (by rw[hys.len,hn]) hr hys.one Nq yx λb' c' h' S'=>?_
 obtain⟨B3,O3,M3⟩:=S'.own
 exact H b' c' h' (B3++(B2++Bn)) ⟨by simp[h1,hn],_,B3,_,rfl,O3,O2.append hys⟩ (by simpa using M3)
theorem Oz{B Bn:List Blk}{cs:Array Value}{x:α}(E:xK P t e r.sz bytes)(O:SlO e r B b l c xs)(M:Mem h0 h (B++(Bn++L)))(Ox:r.ow Bn cs.toList x)(Nq:l+1≤maxLen)(yx:(l+1)*bytes≤140737488355328)(H:∀b' c' h' B',SlO e r B' b' (l+1) c' (xs++[x])->Mem h0 h' (B'++L)->K (.slice b' (l+1) c') h'):
  ALC cs e (λg h=>gC P (Builtin.append_ #[t,t] ty #[.slice b l c,.slice (some ⟨g,0,none⟩) 1 1]) K h) h:=by
 refine M.alc λg h1 x1 M1=>?_
 have M2:Mem h0 h1 (B++(Bn++((g,e,cs) :: L))):=M1.perm (by
  refine List.Perm.symm ?_
  rw[← List.append_assoc,← List.append_assoc]
  exact List.perm_middle)
 refine O.app (news:=cs.toList) E M2 (ys:=[x]) rfl ⟨Bn,[],cs.toList,[],by simp,by simp,Ox,rfl,rfl⟩ (λj v hj=>?_) Nq yx λb' c' h' B' O' M'=>H b' c' h' B' O' (M'.sub (List.Sublist.append (List.Sublist.refl _) (List.sublist_cons_self _ _)))
 rw[dQ,Nat.zero_add,M1.cell .here,← hj,Array.getElem?_toList]
theorem jZ{g:Nat}(E:xK P t e r.sz bytes)(hz:0<r.sz)(hf:Flat r)(S:SlR r h b l c xs)(M:Mem h0 h ((g,e,⟨[]⟩) :: L))(hb:l*bytes≤140737488355328)(H:∀b' c' h' B',SlO e r B' b' l c' xs->Mem h0 h' (B'++L)->K (.slice b' l c') h'):gC P (Builtin.append_ #[t,t] ty #[.slice (some ⟨g,0,none⟩) 0 0,.slice b l c]) K h:=by
 obtain⟨h1,h2,h3,ws,C,R⟩:=S
 cases b with
 | some a=>
  refine(SlO.empty (r:=r) g).app (Bn:=[]) E (by simpa using M) h1 (G2 hf R) (λj v hj=>C.get hj) (by omega) (by simpa using hb) λb' c' h' B' O' M'=>?_
  rw[Nat.zero_add] at O' ⊢
  exact H b' c' h' B' (by simpa using O') M'
 | none=>
  have hw:ws=[]:=by
   cases ws with
   | nil=>rfl
   | cons w ws=>obtain⟨a,e,_⟩:=C 0 (by simp);cases e
  subst hw
  have hx:xs.length*r.sz=0:=by rw[← R.len];rfl
  have hl:l=0:=by
   rcases Nat.mul_eq_zero.1 hx with h | h <;> omega
  subst hl
  obtain rfl:xs=[]:=List.eq_nil_of_length_eq_zero h1
  obtain⟨i,z,hi,hz',e1,e2,hzs⟩:=E.hi
  refine RP λw hw=>⟨.slice (some ⟨g,0,none⟩) 0 0,w,?_,hZ.refl _,by rw[hw];exact H _ _ _ _ (SlO.empty g) (by simpa using M)⟩
  simp[Builtin.append_,run_underlying E.ht,sizeOf,typeInfo,hi,Builtin.lenOf,Builtin.firstCells,loadCells,loadCellsFrom,storeCells]
end
section
variable {α β:Type}{r:Rep α}{h0 h:ab}{q:Addr}{F:Fr}{L:List Blk}{a:α}{off:Nat}
def mN(r:Rep α)(h h':ab)(u:Value)(a:α):Prop:=∃cs B,u = .agg cs∧r.ow B cs.toList a∧Mem h h' B
theorem Pt.hdr{e:Nat}{s:Rep β}{get:α->List β}{put:α->List β->α}(P:Pt r h0 h q F L a)[Fc:cJ r off (rSl e s) get put]:∃b l c,cell h (q.add off)=some (.slice b l c)∧SlR s h b l c (get a):=by
 obtain⟨v,e1,b,l,c,e2,S⟩:=P.rd.cell Fc.f rfl
 obtain rfl:v = .slice b l c:=by simpa using e2
 exact⟨b,l,c,e1,S⟩
theorem Pt.Ua{e:Nat}{s:Rep β}{get:α->List β}{put:α->List β->α}(P:Pt r h0 h q F L a)[Fc:cJ r 0 (rSl e s) get put]:∃b l c,cell h q=some (.slice b l c)∧SlR s h b l c (get a):=by
 obtain⟨b,l,c,e,S⟩:=P.hdr (off:=0) (Fc:=Fc)
 exact⟨b,l,c,by rwa [kW] at e,S⟩
theorem Pt.SB[Inhabited β]{e:Nat}{s:Rep β}{get:α->List β}{put:α->List β->α}{i l c:Nat}{b:Option Addr}(P:Pt r h0 h q F L a)[Fc:cJ r 0 (rSl e s) get put](hb:cell h q=some (.slice b l c))(hi:i<l):
  ∃a0 F' L',b=some a0∧Pt s h0 h (a0.add (i*s.sz)) F' L' (get a)[i]! ∧ L.Sublist L'∧∀lS h' x,Pt s lS h' (a0.add (i*s.sz)) F' L' x->Pt r lS h' q F L (put a ((get a).set i x))∧cell h' q=some (.slice b l c):=by
 have:=P.elem (off:=0) (Fc:=Fc) (i:=i) (l:=l) (c:=c) (b:=b) (by rwa [kW]) hi
 simpa only[kW] using this
theorem Pt.Vj{k:FloatKind}{x n:Nat}{get:α->Nat}{put:α->Nat->α}{K:ab->Prop}(P:Pt r h0 h q F L a)[Fc:cJ r 0 (rF k) get put](hx:FW k x n)(H:∀h',Pt r h0 h' q F L (put a n)->K h'):ST1 h q (.float k x) K:=by
 have:=Pt.stF (off:=0) P (Fc:=Fc) hx H
 rwa [kW] at this
theorem Pt.akZ{k:IntKind}{n:Int}{get:α->Int}{put:α->Int->α}{K:ab->Prop}(P:Pt r h0 h q F L a)[Fc:cJ r 0 (rI k) get put](H:∀h',Pt r h0 h' q F L (put a n)->K h'):ST1 h q (.int k n) K:=by
 have:=Pt.stI (off:=0) (n:=n) P (Fc:=Fc) H
 rwa [kW] at this
end
theorem UP:(maxLen:Nat)≤9223372036854775807:=by decide
theorem nt{b:Bool}(h:(!b)=true):b=false:=by cases b <;> simp_all
theorem nf{b:Bool}(h:(!b)=false):b=true:=by cases b <;> simp_all
open Classical
noncomputable def cnt(p:Blk)(L:List Blk):Nat:=L.countP λq=>decide (q=p)
theorem bZ(p:Blk):cnt p []=0:=rfl
theorem bu(p q:Blk)(L:List Blk):cnt p (q :: L)=(if q=p then 1 else 0)+cnt p L:=by
 unfold cnt
 rw[List.countP_cons]
 by_cases h:q=p <;> simp[h];omega
theorem bN(p:Blk)(L M:List Blk):cnt p (L++M)=cnt p L+cnt p M:=by unfold cnt;exact List.countP_append
theorem Fb{p:Blk}{L:List Blk}:0<cnt p L↔p ∈ L:=by
 unfold cnt;rw[List.countP_pos_iff];simp
theorem Mem.one{h0 h:ab}{L:List Blk}(M:Mem h0 h L)(p:Blk):cnt p L≤1:=by
 have By:=M.ne
 clear M
 induction L with
 | nil=>rw[bZ];omega
 | cons q L ih=>
  obtain⟨h1,h2⟩:=List.pairwise_cons.1 By
  have h3:=ih h2
  rw[bu]
  split
  ·next e=>
   subst e
   have:cnt q L=0:=by
    rcases Nat.eq_zero_or_pos (cnt q L) with h | h
    ·exact h
    ·exact absurd rfl (h1 q (Fb.1 h))
   omega
  ·omega
theorem Mem.cnt{h0 h:ab}{L W:List Blk}(M:Mem h0 h L)(hc:∀p,Sx.cnt p W≤Sx.cnt p L:=by intro p;simp only[List.append_eq,bN,bu,bZ] at *;omega):Mem h0 h W:=by
 have hm:∀p ∈ W,p ∈ L:=λp hp=>Fb.1 (Nat.lt_of_lt_of_le (Fb.2 hp) (hc p))
 refine⟨M.ext,λp hp=>M.at_ p (hm p hp),?_⟩
 have h1:∀p,Sx.cnt p W≤1:=λp=>Nat.le_trans (hc p) (M.one p)
 have hu:∀p ∈ L,∀q ∈ L,p.1=q.1->p=q:=by
  intro p hp q hq e
  have a:=(M.at_ p hp).2
  have b:=(M.at_ q hq).2
  rw[e] at a
  rw[a] at b
  obtain⟨p1,p2,p3⟩:=p
  obtain⟨q1,q2,q3⟩:=q
  simp only at e
  subst e
  simp only[Option.some.injEq,Obj.cells.injEq] at b
  rw[b.1,b.2.1]
 clear hc
 induction W with
 | nil=>exact List.Pairwise.nil
 | cons q W ih=>
  refine List.pairwise_cons.2 ⟨λp hp e=>?_,ih (λp hp=>hm p (.tail _ hp)) (λp=>?_)⟩
  ·have:=hu q (hm q (.head _)) p (hm p (.tail _ hp)) e
   subst this
   have h2:=h1 q
   rw[bu,if_pos rfl] at h2
   have:=Fb.2 hp
   omega
  ·have h2:=h1 p
   rw[bu] at h2
   omega
section
variable {α β:Type}{r:Rep α}{p:Rep β}{h0 h h' hb:ab}{L:List Blk}
theorem aln{B B':List Blk}{cells:List Value}{cs:Array Value}{a:α}{b:β}{off n:Nat}{get:α->β}{put:α->β->α}(O:r.ow B cells a)(F:Foc r p off get put)(hn:p.sz=n)(O':p.ow B' cs.toList b):
  ∃B2,r.ow B2 (eE off n cs cells) (put a b)∧∀x,cnt x B2≤cnt x B+cnt x B':=by
 obtain⟨pre,iS,post,B1,Bm,B2,e1,rfl,rfl,h1,h2⟩:=F.fo O
 refine⟨B1++(B'++B2),?_,λx=>by simp only[bN];omega⟩
 have hm:=p.jX h1
 have e:eE off n cs (pre++(iS++post))=pre++(cs.toList++post):=by
  unfold eE
  rw[← e1,List.take_left,← List.drop_drop,List.drop_left,← hn,← hm,List.drop_left]
 rw[e]
 exact h2 _ _ _ O'
theorem alA{B B':List Blk}{cells:List Value}{v:Value}{a:α}{b:β}{off:Nat}{get:α->β}{put:α->β->α}(O:r.ow B cells a)(F:Foc r p off get put)(hn:p.sz=1)(O':p.ow B' [v] b):
  ∃B2,r.ow B2 (List.set cells off v) (put a b)∧∀x,cnt x B2≤cnt x B+cnt x B':=by
 obtain⟨pre,iS,post,B1,Bm,B2,e1,rfl,rfl,h1,h2⟩:=F.fo O
 refine⟨B1++(B'++B2),?_,λx=>by simp only[bN];omega⟩
 have hm:=p.jX h1
 rw[hn] at hm
 obtain⟨u,rfl⟩:=List.length_eq_one_iff.1 hm
 have e:List.set (pre++([u]++post)) off v=pre++([v]++post):=by
  rw[List.set_append_right _ _ (by omega),e1,Nat.sub_self];rfl
 rw[e]
 exact h2 _ _ _ O'
theorem RdP.lN{q:Addr}{x:α}{off n:Nat}{P:Prop}(R:RdP r hb q x)(ho:off+n≤r.sz)(X:Ext hb h)(H:P):PIN hb (q.add off) n h P:=by
 obtain⟨vs,h1,h2⟩:=R
 have:=r.tc h2
 exact Sx.pin X (λj hj=>⟨vs[off+j]'(by omega),by rw[mQ];exact h1 _ _ (List.getElem?_eq_getElem (by omega))⟩) H
theorem RdP.xy{q:Addr}{x:α}{n:Nat}{P:Prop}(R:RdP r hb q x)(ho:n≤r.sz)(X:Ext hb h)(H:P):PIN hb q n h P:=by
 have:=RdP.lN (off:=0) (n:=n) R (by omega) X H
 rwa [kW] at this
theorem RdP.IT{g:Nat}{x:α}{off n:Nat}{P:Prop}(R:RdP r hb ⟨g,0,none⟩ x)(ho:off+n≤r.sz)(X:Ext hb h)(H:P):PIN hb ⟨g,off,none⟩ n h P:=by
 have:=RdP.lN (off:=off) (n:=n) R ho X H
 rwa [mR] at this
theorem mN.go{P:Program}{f:FuncId}{args:Array Value}{a:α}{K:Value->ab->Prop}(M:Mem hb h L)(c:af P f args (λu h'=>mN r h h' u a) h)(H:∀h' cs B,Mem hb h' (B++L)->r.ow B cs.toList a->cs.size=r.sz->K (.agg cs) h'):af P f args K h:=
 c.mono λu h' ⟨cs,B,e,O,N⟩=>by subst e;exact H h' cs B (M.join N) O (by simpa using r.jX O)
theorem goM{P:Program}{f:FuncId}{args:Array Value}{v:Value}{K:Value->ab->Prop}(M:Mem hb h L)(c:af P f args (λu h'=>u=v∧Ext h h') h)(H:∀h',Mem hb h' L->K v h'):af P f args K h:=
 c.mono λu h' ⟨e,x⟩=>by subst e;exact H h' (M.grow x)
theorem goX{P:Program}{f:FuncId}{args:Array Value}{v:Value}{K:Value->ab->Prop}(c:af P f args (λu h'=>u=v∧Ext h h') h)(H:∀h',Ext h h'->K v h'):af P f args K h:=
 c.mono λu h' ⟨e,x⟩=>by subst e;exact H h' x
theorem alv{P:Program}{xs:List α}{t e bytes ty g l c:Nat}{b:Option Addr}{K:Value->ab->Prop}(E:xK P t e r.sz bytes)(hz:0<r.sz)(hf:Flat r)(S:SlR r hb b l c xs)(M:Mem hb h L){L':List Blk}(k:Ew L g e ⟨[]⟩ L')(hl:l*bytes≤140737488355328)(H:∀b' c' h' B',SlO e r B' b' l c' xs->Mem hb h' (B'++L')->K (.slice b' l c') h'):gC P (Builtin.append_ #[t,t] ty #[.slice (some ⟨g,0,none⟩) 0 0,.slice b l c]) K h:=
 jZ E hz hf (S.ext M.ext) (M.pick k) hl H
end
section
variable {α:Type}{r:Rep α}{h0 h h':ab}{L:List Blk}
theorem rsz{n:Nat}{cs:Array Value}{a:α}(R:r.rd h cs.toList a)(hn:r.sz=n):cs.size=n:=by have:=r.tc R;rw[Array.length_toList] at this;omega
theorem osz{n:Nat}{cs:Array Value}{B:List Blk}{a:α}(R:r.ow B cs.toList a)(hn:r.sz=n):cs.size=n:=by have:=r.jX R;rw[Array.length_toList] at this;omega
theorem Mem.aqI{g T j n:Nat}{pre iS post:List Value}{vs:Array Value}{F:ab->Prop}(M:Mem h0 h ((g,T,⟨pre++(iS++post)⟩) :: L))(hj:pre.length=j)(hn:iS.length=n)(hv:vs.size=n)(ho:∀v ∈ vs.toList,v.oneCell'=true)(H:∀h',Mem h0 h' ((g,T,⟨pre++(vs.toList++post)⟩) :: L)->F h'):STA n h ⟨g,j,none⟩ vs F:=by
 refine M.sta .here hv ho (by simp;omega) .here λh' M'=>H h' ?_
 have e2:putAt ⟨pre++(iS++post)⟩ j vs.toList=⟨pre++(vs.toList++post)⟩:=by
  have hvl:vs.toList.length=n:=by simpa using hv
  apply Array.ext_getElem?
  intro i
  rw[K8]
  simp only[List.getElem?_toArray,List.size_toArray,List.length_append]
  by_cases h1:i<pre.length
  ·rw[if_neg (by omega),List.getElem?_append_left h1,List.getElem?_append_left h1]
  ·rw[List.getElem?_append_right (l₁:=pre) (by omega),List.getElem?_append_right (l₁:=pre) (by omega)]
   by_cases h2:i-pre.length<n
   ·rw[if_pos (by omega),List.getElem?_append_left (l₁:=vs.toList) (by omega),hj]
   ·rw[if_neg (by omega),List.getElem?_append_right (l₁:=vs.toList) (by omega),List.getElem?_append_right (l₁:=iS) (by omega),hn,hvl]
 rw[e2] at M'
 exact M'
theorem an3{n:Nat}{cs:Array Value}{z:List Value}(hz:z.length=n):eE 0 n cs z=cs.toList:=by
 unfold eE
 rw[List.take_zero,List.nil_append,Nat.zero_add,List.drop_of_length_le (by omega),List.append_nil]
theorem zG{β:Type}{p:Rep β}{cells:List Value}{cs:Array Value}{a:α}{b:β}{off n:Nat}{get:α->β}{put:α->β->α}(O:r.rd h cells a)(hi:∀{vs:List Value}{x:α},r.rd h vs x->∃pre iS post,pre.length=off∧vs=pre++(iS++post)∧iS.length=n∧∀mL b',p.rd h mL b'->r.rd h (pre++(mL++post)) (put x b'))(O':p.rd h cs.toList b):r.rd h (eE off n cs cells) (put a b):=by
 obtain⟨pre,iS,post,e1,rfl,e2,k⟩:=hi O
 have e:eE off n cs (pre++(iS++post))=pre++(cs.toList++post):=by
  unfold eE
  rw[← e1,List.take_left,← List.drop_drop,List.drop_left,← e2,List.drop_left]
 rw[e]
 exact k _ _ O'
theorem F9{n i:Nat}(hi:i<n){vs:List Value}{xs:List α}(R:(iT n r).rd h vs xs):∃pre iS post,pre.length=i*r.sz∧vs=pre++(iS++post)∧iS.length=r.sz∧∀mL b',r.rd h mL b'->(iT n r).rd h (pre++(mL++post)) (xs.set i b'):=by
 obtain⟨e0,R⟩:=R
 obtain⟨pre,iS,post,e1,e2,h1,h2,h3⟩:=R.at (i:=i) (by omega)
 refine⟨pre,iS,post,e1,e2,r.tc h1,λmL b' hb=>⟨by simpa using e0,?_⟩⟩
 have:xs.set i b'=xs.take i++(b' :: xs.drop (i+1)):=by
  rw[List.set_eq_take_append_cons_drop,if_pos (by omega)]
 rw[this]
 exact rds.append h2 ⟨mL,post,rfl,hb,h3⟩
theorem H0{n:Nat}{cs:List Value}{xs:List α}(R:(iT n r).rd h cs xs){T:Nat}{F:Nat->ab->Prop}(hn:n≤maxLen)(H:∀g h',Ext h h'->SlR r h' (some ⟨g,0,none⟩) n n xs->F g h'):ALC ⟨cs⟩ T F h:=
 gD (cs:=⟨cs⟩) R λg h' x R'=>H g h' x (R'.arr hn)
end
theorem siz{n m:Nat}{p:Prop}(e:n=m)(H:p):SIZ n m p:=⟨e,H⟩
section
variable {α:Type}{r:Rep α}{h0 h:ab}{q:Addr}{F:Fr}{L W:List Blk}{a:α}
theorem Pt.cnt(P:Pt r h0 h q F L a)(hc:∀p,Sx.cnt p W≤Sx.cnt p L:=by intro p;simp only[List.append_eq,bN,bu,bZ] at *;omega):Pt r h0 h q F W a:=by
 obtain⟨e,iS,B,M,O⟩:=P
 refine⟨e,iS,B,M.cnt λp=>?_,O⟩
 have:=hc p
 simp only[bu,bN]
 omega
theorem mN.pt{β:Type}{s:Rep β}{P:Program}{f:FuncId}{args:Array Value}{b:β}{K:Value->ab->Prop}(Pa:Pt r h0 h q F L a)(c:af P f args (λu h'=>mN s h h' u b) h)(H:∀h' cs B,Pt r h0 h' q F (B++L) a->s.ow B cs.toList b->cs.size=s.sz->K (.agg cs) h'):af P f args K h:=
 c.mono λu h' ⟨cs,B,e,O,N⟩=>by subst e;exact H h' cs B (Pa.join N) O (by simpa using s.jX O)
end
theorem Ew.skip{B L L':List Blk}{g T:Nat}{cs:Array Value}(k:Ew L g T cs L'):Ew (B++L) g T cs (B++L'):=by
 induction B with
 | nil=>exact k
 | cons p B ih=>exact .there ih
theorem gi.skip{B L:List Blk}{g:Nat}{cs:Array Value}(k:gi L g cs):gi (B++L) g cs:=by
 induction B with
 | nil=>exact k
 | cons p B ih=>exact .there ih
section
variable {α β:Type}{r:Rep α}{p:Rep β}{h0 h:ab}{g:Nat}{F:Fr}{L:List Blk}{a:α}{off:Nat}
theorem DF{B:List Blk}{vs:List Value}{get:α->β}{put:α->β->α}(O:r.ow B vs a)(Fc:Foc r p off get put):∃Bm Br,(∀x,cnt x B=cnt x Bm+cnt x Br)∧p.ow Bm ((vs.drop off).take p.sz) (get a) ∧
  ∀B' b',p.ow B' ((vs.drop off).take p.sz) b'->∃B2,r.ow B2 vs (put a b')∧∀x,cnt x B2=cnt x B'+cnt x Br:=by
 obtain⟨pre,iS,post,B1,Bm,B2,e1,rfl,rfl,h1,h2⟩:=Fc.fo O
 have e:((pre++(iS++post)).drop off).take p.sz=iS:=by rw[← e1,List.drop_left,← p.jX h1,List.take_left]
 rw[e]
 refine⟨Bm,B1++B2,λx=>by simp only[bN];omega,h1,λB' b' o=>⟨_,h2 B' iS b' o,λx=>by simp only[bN];omega⟩⟩
theorem zk{cs:Array Value}{v:Value}(e:(cs.toList.drop off).take 1=[v]):cs[off]? = some v:=by
 have h1:((cs.toList.drop off).take 1)[0]? = some v:=by rw[e];rfl
 rw[List.getElem?_take_of_lt (by omega),List.getElem?_drop,Nat.add_zero,Array.getElem?_toList] at h1
 exact h1
theorem BT{cs:Array Value}{n:Nat}:(cs.extract off (off+n)).toList=(cs.toList.drop off).take n:=by
 rw[Array.toList_extract,List.extract_eq_take_drop,Nat.add_sub_cancel_left]
theorem Pt.Vk{k:IntKind}{n:Int}{get:α->Int}{put:α->Int->α}{K:ab->Prop}(P:Pt r h0 h ⟨g,0,none⟩ F L a)[Fc:cJ r off (rI k) get put](H:∀h',Pt r h0 h' ⟨g,0,none⟩ F L (put a n)->K h'):ST1 h ⟨g,off,none⟩ (.int k n) K:=by
 have:=Pt.stI (off:=off) (n:=n) P (Fc:=Fc) H
 rwa [mR] at this
theorem Pt.atB{n:ByteArray}{get:α->ByteArray}{put:α->ByteArray->α}{K:ab->Prop}(P:Pt r h0 h ⟨g,0,none⟩ F L a)[Fc:cJ r off rS get put](hn:n.size≤maxLen)(H:∀h',Pt r h0 h' ⟨g,0,none⟩ F L (put a n)->K h'):ST1 h ⟨g,off,none⟩ (.string n) K:=by
 have:=Pt.stS (off:=off) (n:=n) P (Fc:=Fc) hn H
 rwa [mR] at this
theorem Pt.ON{k:FloatKind}{x n:Nat}{get:α->Nat}{put:α->Nat->α}{K:ab->Prop}(P:Pt r h0 h ⟨g,0,none⟩ F L a)[Fc:cJ r off (rF k) get put](hx:FW k x n)(H:∀h',Pt r h0 h' ⟨g,0,none⟩ F L (put a n)->K h'):ST1 h ⟨g,off,none⟩ (.float k x) K:=by
 have:=Pt.stF (off:=off) P (Fc:=Fc) hx H
 rwa [mR] at this
theorem Pt.agY{B:List Blk}{e:Nat}{s:Rep β}{get:α->List β}{put:α->List β->α}{b:Option Addr}{l c:Nat}{xs:List β}{K:ab->Prop}(P:Pt r h0 h ⟨g,0,none⟩ F (B++L) a)[Fc:cJ r off (rSl e s) get put](O:SlO e s B b l c xs)(H:∀h',Pt r h0 h' ⟨g,0,none⟩ F L (put a xs)->K h'):ST1 h ⟨g,off,none⟩ (.slice b l c) K:=by
 have:=Pt.st P Fc.f rfl ⟨b,l,c,rfl,O⟩ H
 rwa [mR] at this
theorem Pt.acw{get:α->β}{put:α->β->α}{b:β}{n:Nat}{vs:Array Value}{B':List Blk}{K:ab->Prop}(P:Pt r h0 h ⟨g,0,none⟩ F (B'++L) a)(Fc:Foc r p off get put)(hp:p.sz=n)(O:p.ow B' vs.toList b)(H:∀h',Pt r h0 h' ⟨g,0,none⟩ F L (put a b)->K h'):STA n h ⟨g,off,none⟩ vs K:=by
 have:=Pt.sts P Fc hp O H
 rwa [mR] at this
end
def mkL{α:Type}(mk:α->Nat->α)(n:α->Nat):List α->Nat->List α
 | [],_=>[]
 | x :: xs,k=>mk x k :: mkL mk n xs (k+n x)
def nL{α:Type}(n:α->Nat):List α->Nat
 | []=>0
 | x :: xs=>n x+nL n xs
section
variable {α:Type}{mk:α->Nat->α}{n:α->Nat}
theorem YB(xs ys:List α):nL n (xs++ys)=nL n xs+nL n ys:=by
 induction xs with
 | nil=>simp[nL]
 | cons x xs ih=>simp only[List.cons_append,nL,ih];omega
theorem abU(xs ys:List α)(k:Nat):mkL mk n (xs++ys) k=mkL mk n xs k++mkL mk n ys (k+nL n xs):=by
 induction xs generalizing k with
 | nil=>simp[mkL,nL]
 | cons x xs ih=>simp only[List.cons_append,mkL,nL,ih];rw[Nat.add_assoc]
theorem vZ(xs:List α)(k:Nat):(mkL mk n xs k).length=xs.length:=by
 induction xs generalizing k with
 | nil=>rfl
 | cons x xs ih=>simp only[mkL,List.length_cons,ih]
theorem oQ(xs:List α)(i:Nat):nL n (xs.take i)≤nL n xs:=by
 have:=YB (n:=n) (xs.take i) (xs.drop i)
 rw[List.take_append_drop] at this
 omega
theorem zB[Inhabited α]{xs:List α}{i:Nat}(hi:i<xs.length):nL n (xs.take (i+1))=nL n (xs.take i)+n xs[i]!:=by
 rw[List.take_succ_eq_append_getElem hi,YB,getElem!_pos xs i hi]
 simp[nL]
theorem Ck[Inhabited α]{xs:List α}{i k:Nat}(hi:i<xs.length):(mkL mk n (xs.take i) k++xs.drop i).set i (mk xs[i]! (k+nL n (xs.take i)))=mkL mk n (xs.take (i+1)) k++xs.drop (i+1):=by
 have h1:(mkL mk n (xs.take i) k).length=i:=by rw[vZ,List.length_take];omega
 rw[List.set_append_right _ _ (by omega),h1,Nat.sub_self,List.drop_eq_getElem_cons hi,List.set_cons_zero,List.take_succ_eq_append_getElem hi,abU,getElem!_pos xs i hi]
 simp[mkL]
theorem LH[Inhabited α]{xs:List α}{i k:Nat}(hi:i<xs.length):(mkL mk n (xs.take i) k++xs.drop i)[i]! = xs[i]!:=by
 have h1:(mkL mk n (xs.take i) k).length=i:=by rw[vZ,List.length_take];omega
 rw[getElem!_pos _ i (by simp[vZ];omega),List.getElem_append_right (by omega),getElem!_pos xs i hi]
 simp[h1]
end
section
variable {α:Type}{r:Rep α}
theorem GC[Inhabited α]{n:α->Nat}{xs:List α}{i:Nat}(hi:i<xs.length):n xs[i]! ≤ nL n xs:=by
 have h1:=zB (n:=n) hi
 have h2:=oQ (n:=n) xs (i+1)
 omega
theorem T5{zc:List Value}{z:α}(O:r.ow [] zc z):∀n:Nat,ows r [] (List.replicate n zc).flatten (List.replicate n z)
 | 0=>⟨rfl,rfl⟩
 | n+1=>⟨[],[],zc,(List.replicate n zc).flatten,rfl,rfl,O,T5 O n⟩
theorem Te{zc:List Value}(hz:0<zc.length):∀(n i:Nat),i<n*zc.length->(List.replicate n zc).flatten[i]? = zc[i % zc.length]?
 | 0,i,h=>by omega
 | n+1,i,h=>by
  rw[List.replicate_succ,List.flatten_cons]
  by_cases h1:i<zc.length
  ·rw[List.getElem?_append_left h1,Nat.mod_eq_of_lt h1]
  ·rw[List.getElem?_append_right (by omega),Te hz n _ (by rw[Nat.add_mul] at h;omega)]
   conv=>rhs;rw[Nat.mod_eq_sub_mod (by omega)]
theorem vW{i:TI}{e n:Nat}{zc:List Value}{z:α}{F:Nat->ab->Prop}{h0 h:ab}{L:List Blk}(O:r.ow [] zc z)(hs:i.size=r.sz)(hz:i.zero=zc)(hp:0<r.sz)(M:Mem h0 h L)(hb:i.bytes*n≤2 ^ 48)(hn:n≤maxLen)(H:∀g h',Ext h h'->Mem h0 h' ((g,e,⟨(List.replicate n zc).flatten⟩) :: L)->SlO e r [(g,e,⟨(List.replicate n zc).flatten⟩)] (some ⟨g,0,none⟩) n n (List.replicate n z)->F g h'):MKS i e (n:Int) (n:Int) F h:=by
 have hzl:zc.length=r.sz:=r.jX O
 have By:i.zero≠[]:=by rw[hz];intro h;rw[h] at hzl;simp at hzl;omega
 have hm:=UP
 refine⟨⟨by omega,by omega,by exact_mod_cast hb,by omega,By⟩,?_⟩
 have hfl:(List.replicate n zc).flatten.length=n*r.sz:=by rw[List.length_flatten];simp[hzl]
 have e1:((Array.range ((n:Int).toNat*i.size)).map λj=>(⟨i.zero⟩:Array Value)[j % (⟨i.zero⟩:Array Value).size]!)=⟨(List.replicate n zc).flatten⟩:=by
  apply Array.ext_getElem?
  intro k
  rw[Int.toNat_natCast,hs,hz]
  simp only[Array.getElem?_map,List.getElem?_toArray,List.size_toArray]
  by_cases hk:k<n*r.sz
  ·rw[Array.getElem?_range,if_pos hk]
   simp only[Option.map_some]
   rw[Te (by omega) n k (by rw[hzl];exact hk)]
   have qR:k % zc.length<zc.length:=Nat.mod_lt _ (by omega)
   rw[List.getElem?_eq_getElem qR]
   congr 1
   rw[getElem!_pos _ _ (by simpa using qR)]
   simp
  ·rw[Array.getElem?_range,if_neg hk,List.getElem?_eq_none (by omega)];rfl
 rw[e1]
 refine M.alc λg h' x' M'=>H g h' x' M' ⟨by simp,(List.replicate n zc).flatten,[_],[],rfl,⟨hfl,.inr ⟨g,_,rfl,rfl,Nat.le_refl _,hn,by simpa using hfl,?_⟩⟩,T5 O n⟩
 rw[List.take_of_length_le]
 show(List.replicate n zc).flatten.length≤n*r.sz
 omega
end
theorem SlO.ad5{β:Type}[Inhabited β]{e:Nat}{s:Rep β}{B:List Blk}{b:Option Addr}{l c i:Nat}{xs:List β}(S:SlO e s B b l c xs)(hi:i<l):
  ∃a0 F' C,b=some a0∧(∀h0 h L,Mem h0 h (B++L)->Pt s h0 h (a0.add (i*s.sz)) F' (C++L) xs[i]!)∧∀lS h' L x,Pt s lS h' (a0.add (i*s.sz)) F' (C++L) x->∃B',SlO e s B' b l c (xs.set i x)∧Mem lS h' (B'++L):=by
 obtain⟨h1,ws,B1,B2,rfl,O,h3⟩:=S
 rcases O.2 with⟨_,_,h4,_⟩ | ⟨g,cs,rfl,rfl,h5,h6,h7,h8⟩
 ·omega
 obtain⟨pre,iS,post,C1,Cm,C2,e1,e2,rfl,O1,O2⟩:=h3.at (i:=i) (by omega)
 have hc:cs=⟨pre++(iS++(post++cs.toList.drop (l*s.sz)))⟩:=by
  have:cs.toList=ws++cs.toList.drop (l*s.sz):=by rw[← h8,List.take_append_drop]
  rw[e2] at this
  cases cs;simpa using this
 refine⟨_,⟨g,e,pre,post++cs.toList.drop (l*s.sz)⟩,C1++C2,rfl,λh0 h L M=>⟨?_,iS,Cm,?_,by rw[getElem!_pos _ i (by omega)];exact O1⟩,λlS h' L x P'=>?_⟩
 ·rw[dQ];simp[e1]
 ·rw[← hc]
  exact M.cnt λp=>by simp only[bN,bu,bZ];omega
 ·obtain⟨_,vY,B',M',O'⟩:=P'
  have hm:=s.jX O'
  have hm0:=s.jX O1
  have hws:ws.length=l*s.sz:=O.1
  have hlen:(pre++(vY++post)).length=l*s.sz:=by rw[← hws,e2];simp[hm,hm0]
  refine⟨(g,e,⟨pre++(vY++(post++cs.toList.drop (l*s.sz)))⟩) :: (C1++(B'++C2)),⟨by simpa using h1,pre++(vY++post),[_],_,rfl,⟨hlen,.inr ⟨g,_,rfl,rfl,h5,h6,?_,?_⟩⟩,O2 _ _ _ O'⟩,?_⟩
  ·have:cs.toList.length=c*s.sz:=by simpa using h7
   have hle:=Nat.mul_le_mul_right s.sz h5
   simp only[List.size_toArray]
   have:(pre++(vY++(post++cs.toList.drop (l*s.sz)))).length=(pre++(vY++post)).length+(cs.toList.drop (l*s.sz)).length:=by simp;omega
   rw[this,hlen,List.length_drop];omega
  ·show List.take _ (pre++(vY++(post++_)))=_
   have e5:pre++(vY++(post++cs.toList.drop (l*s.sz)))=(pre++(vY++post))++cs.toList.drop (l*s.sz):=by simp
   rw[e5,← hlen]
   exact List.take_left
  ·exact M'.cnt λp=>by simp only[bN,bu,bZ];omega
end Go.Sx
namespace Go.Sx
open Go.Proofs
def bQ:Rep aY:=(Rep.seq (rSl 22 (rF .f32)) ((rI .i64))).via λa=>(a.ae,a.At)
theorem lK:Foc bQ (rSl 22 (rF .f32)) 0 (λa=>a.ae) (λa b=>{ a with ae:=b }):=(Foc.via (f:=λa:aY=>(a.ae,a.At)) (get':=λa=>a.ae) (ig:=λa b=>{ a with ae:=b }) (Foc.fst (Foc.here (rSl 22 (rF .f32)))) (λ_=>rfl) (λ_ _=>rfl)).at rfl
theorem mG:Foc bQ (rI .i64) 1 (λa=>a.At) (λa b=>{ a with At:=b }):=(Foc.via (f:=λa:aY=>(a.ae,a.At)) (get':=λa=>a.At) (ig:=λa b=>{ a with At:=b }) (Foc.snd (Foc.here (rI .i64))) (λ_=>rfl) (λ_ _=>rfl)).at rfl
def wJ:aY:=⟨[],0⟩
theorem pV:bQ.ow [] [.slice none 0 0,.int .i64 0] wJ:=⟨[],[],[.slice none 0 0],_,rfl,rfl,⟨none,0,0,rfl,SlO.nil⟩,⟨rfl,rfl⟩⟩
instance Dx:cJ bQ 0 (rSl 22 (rF .f32)) (λa=>a.ae) (λa b=>{ a with ae:=b }):=⟨Foc.at lK rfl⟩
instance Dy:cJ bQ 1 (rI .i64) (λa=>a.At) (λa b=>{ a with At:=b }):=⟨Foc.at mG rfl⟩
def cx:Rep cz:=(Rep.seq (rI .i64) (Rep.seq (iT 3 (rF .f32)) ((iT 2 (rF .f32))))).via λa=>(a.Kind,a.C,a.S)
theorem EK:Foc cx (rI .i64) 0 (λa=>a.Kind) (λa b=>{ a with Kind:=b }):=(Foc.via (f:=λa:cz=>(a.Kind,a.C,a.S)) (get':=λa=>a.Kind) (ig:=λa b=>{ a with Kind:=b }) (Foc.fst (Foc.here (rI .i64))) (λ_=>rfl) (λ_ _=>rfl)).at rfl
theorem dU:Foc cx (iT 3 (rF .f32)) 1 (λa=>a.C) (λa b=>{ a with C:=b }):=(Foc.via (f:=λa:cz=>(a.Kind,a.C,a.S)) (get':=λa=>a.C) (ig:=λa b=>{ a with C:=b }) (Foc.snd (Foc.fst (Foc.here (iT 3 (rF .f32))))) (λ_=>rfl) (λ_ _=>rfl)).at rfl
theorem dx:Foc cx (iT 2 (rF .f32)) 4 (λa=>a.S) (λa b=>{ a with S:=b }):=(Foc.via (f:=λa:cz=>(a.Kind,a.C,a.S)) (get':=λa=>a.S) (ig:=λa b=>{ a with S:=b }) (Foc.snd (Foc.snd (Foc.here (iT 2 (rF .f32))))) (λ_=>rfl) (λ_ _=>rfl)).at rfl
def pU:cz:=⟨0,[0,0,0],[0,0]⟩
theorem pj:cx.ow [] [.int .i64 0,.float .f32 0,.float .f32 0,.float .f32 0,.float .f32 0,.float .f32 0] pU:=⟨[],[],[.int .i64 0],_,rfl,rfl,⟨rfl,rfl⟩,⟨[],[],[.float .f32 0,.float .f32 0,.float .f32 0],_,rfl,rfl,⟨rfl,⟨[],[],[.float .f32 0],_,rfl,rfl,⟨rfl,0,rfl,eM (by decide) (by decide)⟩,⟨[],[],[.float .f32 0],_,rfl,rfl,⟨rfl,0,rfl,eM (by decide) (by decide)⟩,⟨[],[],[.float .f32 0],_,rfl,rfl,⟨rfl,0,rfl,eM (by decide) (by decide)⟩,⟨rfl,rfl⟩⟩⟩⟩⟩,⟨rfl,⟨[],[],[.float .f32 0],_,rfl,rfl,⟨rfl,0,rfl,eM (by decide) (by decide)⟩,⟨[],[],[.float .f32 0],_,rfl,rfl,⟨rfl,0,rfl,eM (by decide) (by decide)⟩,⟨rfl,rfl⟩⟩⟩⟩⟩⟩
instance tM:cJ cx 0 (rI .i64) (λa=>a.Kind) (λa b=>{ a with Kind:=b }):=⟨Foc.at EK rfl⟩
instance adC:cJ cx 1 (rF .f32) (λa=>a.C[0]!) (λa b=>{ a with C:=a.C.set 0 b }):=⟨Foc.at (dU.trans (Foc.arr (rF .f32) 0 (by decide))) rfl⟩
instance adD:cJ cx 2 (rF .f32) (λa=>a.C[1]!) (λa b=>{ a with C:=a.C.set 1 b }):=⟨Foc.at (dU.trans (Foc.arr (rF .f32) 1 (by decide))) rfl⟩
instance adE:cJ cx 3 (rF .f32) (λa=>a.C[2]!) (λa b=>{ a with C:=a.C.set 2 b }):=⟨Foc.at (dU.trans (Foc.arr (rF .f32) 2 (by decide))) rfl⟩
instance adF:cJ cx 4 (rF .f32) (λa=>a.S[0]!) (λa b=>{ a with S:=a.S.set 0 b }):=⟨Foc.at (dx.trans (Foc.arr (rF .f32) 0 (by decide))) rfl⟩
instance adG:cJ cx 5 (rF .f32) (λa=>a.S[1]!) (λa b=>{ a with S:=a.S.set 1 b }):=⟨Foc.at (dx.trans (Foc.arr (rF .f32) 1 (by decide))) rfl⟩
end Go.Sx
