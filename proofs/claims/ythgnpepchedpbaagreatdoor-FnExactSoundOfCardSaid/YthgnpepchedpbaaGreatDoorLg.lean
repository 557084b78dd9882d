/- Lemmas. -/
import Derived.Test.YthgnpepchedpbaaGreatDoorLx1
import Derived.Laws.AppendOwn
import Derived.Laws.BytesArg
import Derived.Lib.SlBytesConst
import Derived.Laws.FloatBits
set_option linter.unusedVariables false
set_option linter.unusedSimpArgs false
namespace Go.Sx
open FloatKind (f32 f64)
open IntKind (i64)
structure aY where
 ae:List Nat
 At:Int
deriving Inhabited
structure cz where
 Kind:Int
 C:List Nat
 S:List Nat
deriving Inhabited
structure ahR where
 Ring:aY
 alN:Nat
deriving Inhabited
structure alM where
 alL:Int
 alN:Nat
deriving Inhabited
structure acM where
 acL:aY
 am8:List alM
 acJ:List ahR
 acO:List aY
 ahP:List cz
 ahS:List Nat
 Dry:Nat
 Wet:Nat
deriving Inhabited
structure bK where
 Loop:aY
 kS:cz
 fz:cz
 fT:Nat
deriving Inhabited
structure cp where
 aW:List aY
 Left:List aY
 aL:List Nat
 End:cz
 Open:Bool
 fT:Nat
 Rest:Nat
 fX:Nat
deriving Inhabited
structure iU where
 bT:aY
 aH:aY
 fz:cz
 fX:Nat
 fT:Nat
deriving Inhabited
structure bC where
 xH:Nat
 iV:Nat
 bG:List Nat
deriving Inhabited
structure bh where
 Name:ByteArray
 Kind:Int
 A:Nat
 B:Nat
 C:Nat
deriving Inhabited
structure aZ where
 At:Int
 Kind:Int
 aT:Int
 aq:Int
 Key:Int
 gd:Nat
deriving Inhabited
structure bI where
 sY:Nat
 dv:bC
 az:List bh
 bo:List aZ
deriving Inhabited
structure aK where
 aT:Int
 aq:Int
 mh:Int
 Gone:Bool
 gR:Nat
 String:bK
 aI:cp
 bY:iU
deriving Inhabited
structure aC where
 Score:bI
 al:List aK
 mO:Int
 Next:Int
 ft:Int
deriving Inhabited
structure Hs where
 Score:bI
 al:Int
 K1:Int
 Nn:Int
deriving Inhabited
def Cells(h:ab)(b:Option Addr)(vs:List Value):Prop:=∀i,i<vs.length->∃a,b=some a∧cell h (a.add i)=vs[i]?
theorem Cells.ext{h h':ab}{b:Option Addr}{vs:List Value}(C:Cells h b vs)(x:Ext h h'):Cells h' b vs:=λi hi=>by
 obtain⟨a,e,e2⟩:=C i hi
 rw[List.getElem?_eq_getElem hi] at e2 ⊢
 exact⟨a,e,x.cell e2⟩
theorem Cells.base{h:ab}{b:Option Addr}{vs:List Value}(C:Cells h b vs)(hp:0<vs.length):∃a,b=some a:=(C 0 hp).imp λ_ h=>h.1
theorem Cells.get{h:ab}{a:Addr}{vs:List Value}{i:Nat}{v:Value}(C:Cells h (some a) vs)(e:vs[i]? = some v):cell h (a.add i)=some v:=by
 obtain⟨a',e1,e2⟩:=C i (List.getElem?_eq_some_iff.1 e).1
 cases e1;rw[e2,e]
theorem Cells.nil(h:ab)(b:Option Addr):Cells h b []:=λi hi=>absurd hi (Nat.not_lt_zero _)
theorem mQ(a:Addr)(i j:Nat):(a.add i).add j=a.add (i+j):=by
 unfold Addr.add
 by_cases h1:i=0
 ·subst h1;simp
 ·by_cases h2:j=0
  ·subst h2;simp
  ·simp[h1,h2,Nat.add_assoc]
theorem idxs{a:Addr}{i:Int}{n:Nat}{F:Addr->Prop}(h1:0≤i)(h2:i<n)(H:F a):bd (some a) i n F:=⟨⟨h1,h2⟩,H⟩
theorem slb{lo hi cap:Int}{p:Prop}(h1:0≤lo)(h2:lo≤hi)(h3:hi≤cap)(H:p):SLB lo hi cap p:=⟨⟨h1,h2,h3⟩,H⟩
theorem nn{b:Int}{p:Prop}(h:0≤b)(H:p):NN b p:=⟨h,H⟩
theorem nz{b:Int}{p:Prop}(h:b≠0)(H:p):NZ b p:=⟨h,H⟩
theorem pin{h h':ab}{a:Addr}{n:Nat}{p:Prop}(x:Ext h h')(hl:∀j,j<n->∃v,cell h (a.add j)=some v)(H:p):PIN h a n h' p:=by
 refine⟨λj hj=>?_,H⟩
 obtain⟨v,e⟩:=hl j hj
 rw[x.cell e,e]
structure xK (P:Program) (t e sz bytes:Nat):Prop where
 ht:P.underlying t=some (.slice e)
 hi:∃i z,P.info? e=some i∧i.zero=some z∧i.size=sz∧i.bytes=bytes∧z.cells.size=sz
def Sl(h0 h:ab)(L:List Blk)(e sz:Nat)(b:Option Addr)(l c:Nat)(vs:List Value):Prop:=
 vs.length=l*sz∧((b=none∧l=0∧c=0∧Mem h0 h L) ∨
  ∃g cs,b=some ⟨g,0,none⟩∧l≤c∧c≤maxLen∧cs.size=c*sz∧cs.toList.take (l*sz)=vs∧Mem h0 h ((g,e,cs) :: L))
theorem Sl.nil{h0 h:ab}{L:List Blk}{e sz:Nat}(M:Mem h0 h L):Sl h0 h L e sz none 0 0 []:=⟨by simp,.inl ⟨rfl,rfl,rfl,M⟩⟩
theorem Sl.cells{h0 h:ab}{L:List Blk}{e sz:Nat}{b:Option Addr}{l c:Nat}{vs:List Value}(S:Sl h0 h L e sz b l c vs):Cells h b vs:=by
 rcases S.2 with⟨h1,h2,h3,M⟩ | ⟨g,cs,h1,h2,h3,h4,h5,M⟩
 ·have:=S.1;rw[h2,Nat.zero_mul] at this
  rw[List.eq_nil_of_length_eq_zero this];exact Cells.nil _ _
 ·subst h1
  intro i hi
  refine⟨_,rfl,?_⟩
  have hl:=S.1
  rw[dQ,Nat.zero_add,M.cell .here,← h5,List.getElem?_take_of_lt (by omega),Array.getElem?_toList]
theorem Sl.app{P:Program}{h0 h:ab}{L:List Blk}{t e sz bytes:Nat}{b:Option Addr}{l c:Nat}{vs:List Value}{K:Value->ab->Prop}{ty m mc:Nat}{a:Addr}{news:List Value}(E:xK P t e sz bytes)(S:Sl h0 h L e sz b l c vs)(hn:news.length=m*sz)(hr:∀j v,news[j]? = some v->cell h (a.add j)=some v)(h1:∀v ∈ news,v.oneCell'=true)(Nq:l+m≤maxLen)(yx:(l+m)*bytes≤140737488355328)(H:∀b' c' h',Sl h0 h' L e sz b' (l+m) c' (vs++news)->K (.slice b' (l+m) c') h'):
  gC P (Builtin.append_ #[t,t] ty #[.slice b l c,.slice (some a) m mc]) K h:=by
 obtain⟨i,z,hi,hz,rfl,rfl,hzs⟩:=E.hi
 have apa:l+m≤9223372036854775807:=by simp only[maxLen] at Nq;omega
 have hlen:(vs++news).length=(l+m)*i.size:=by rw[List.length_append,S.1,hn,Nat.add_mul]
 intro w hw
 have Xr:∀j u,news[j]? = some u->w.cell? (a.add j)=some u:=λj u hu=>by rw[tf,hw];exact hr j u hu
 have fin:∀v' w',(Builtin.append_ #[t,t] ty #[.slice b l c,.slice (some a) m mc]).run P w = .ok v' w'->hZ w w'->K v' w'.heap ->
   E2 P ((do pure (Next.value (← Builtin.append_ #[t,t] ty #[.slice b l c,.slice (some a) m mc]))).run P w) λv w'=>hZ w w'∧K v w'.heap:=by
  intro v' w' Ql hs hk
  have:((do pure (Next.value (← Builtin.append_ #[t,t] ty #[.slice b l c,.slice (some a) m mc]))):Sem Next).run P w = .ok (.value v') w':=by
   simp only[Sem.run_bind,Ql,Result.andThen_ok,Sem.run_pure]
  rw[this]
  exact⟨hs,hk⟩
 have grown:∀(old:Nat),old<l+m->Mem h0 h L->Sl h0 (w.drew.alloc (.cells (vs.toArray++news.toArray++Builtin.zeroCells z.cells (grownCap w (l+m) old e-(l+m))) e)).heap L e i.size (some ⟨w.heap.size,0,none⟩) (l+m) (grownCap w (l+m) old e) (vs++news):=by
  intro old ho M
  have hge:=grownCap_ge w (l+m) old e
  have hcm:grownCap w (l+m) old e≤maxLen:=grownCap_le_maxLen w (l+m) old e Nq
  refine⟨hlen,.inr ⟨w.heap.size,vs.toArray++news.toArray++Builtin.zeroCells z.cells (grownCap w (l+m) old e-(l+m)),rfl,hge,hcm,?_,?_,?_⟩⟩
  ·simp only[Array.size_append,List.size_toArray,size_zeroCells,hzs,S.1,hn,← Nat.add_mul]
   congr 1
   omega
  ·simp only[Array.toList_append,List.append_assoc]
   rw[← List.append_assoc,← hlen]
   exact List.take_left
  ·rw[hw]
   show Mem h0 (w.heap.push _) _
   rw[hw]
   exact M.push _ _
 rcases S.2 with⟨rfl,rfl,rfl,M⟩ | ⟨g,cs,rfl,hlc,hcm,hcs,ajA,M⟩
 ·have hx:vs=[]:=List.eq_nil_of_length_eq_zero (by simpa using S.1)
  subst hx
  by_cases hm:m=0
  ·subst hm
   have VG:news=[]:=List.eq_nil_of_length_eq_zero (by simpa using hn)
   subst VG
   refine fin (.slice none 0 0) w ?_ (hZ.refl _) (H none 0 _ (by rw[hw];exact Sl.nil M))
   simp[Builtin.append_,run_underlying E.ht,sizeOf,typeInfo,hi,Builtin.lenOf,Builtin.firstCells,loadCells,loadCellsFrom]
  ·have Mq:=run_append_nil (P:=P) w t ty e i z E.ht hi hz a m mc news hn Xr (by omega) (by omega) (by have hb:=yx;simp only[Nat.zero_add] at hb;omega)
   have hgr:=grown 0 (by omega) M
   simp only[Nat.zero_add,List.nil_append,Array.empty_append] at hgr ⊢ Mq
   refine fin _ _ Mq ⟨rfl,rfl,rfl⟩ ?_
   have:=H _ _ _ (by simpa using hgr)
   simpa using this
 ·have hg:w.heap[g]? = some (.cells cs e (0,0)):=by rw[hw];exact(M.at_ _ (.head _)).2
  by_cases Xu:l+m≤c
  ·have aoS:l*i.size+news.length≤cs.size:=by rw[hn,hcs,← Nat.add_mul];exact Nat.mul_le_mul_right _ Xu
   have Mq:=run_append_room (P:=P) w t ty e i E.ht hi g l c cs hg a m mc news hn Xr h1 Xu aoS
   refine fin _ _ Mq ⟨rfl,rfl,rfl⟩ (H _ _ _ ⟨hlen,.inr ⟨g,(cs.toList.take (l*i.size)++news++cs.toList.drop (l*i.size+news.length)).toArray,rfl,Xu,hcm,?_,?_,?_⟩⟩)
   ·simp only[List.size_toArray,List.length_append,List.length_take,List.length_drop,Array.length_toList]
    omega
   ·rw[ajA,← hlen]
    exact List.take_left
   ·refine M.mod (g:=g) .here ?_ (λk _ hk=>?_) (λT BP e'=>?_) .here
    ·simp[World.setRow,hw]
    ·rw[setRow_other w g k _ (Ne.symm hk),hw]
    ·rw[← hw] at e';exact setRow_heap w g BP _ T _ e'
  ·have holds:∀j u,vs[j]? = some u->w.cell? ((⟨g,0,none⟩:Addr).add j)=some u:=λj u hu=>by
    rw[tf,hw];exact Cells.get S.cells hu
   have Mq:=run_append_grow (P:=P) w t ty e i z E.ht hi hz ⟨g,0,none⟩ l c vs S.1 holds a m mc news hn Xr (by omega) (by omega) (growslice_fits (by omega) yx)
   exact fin _ _ Mq ⟨rfl,rfl,rfl⟩ (H _ _ _ (grown c (by omega) M.drop))
theorem Mem.join{h0 h h':ab}{L L2:List Blk}(M:Mem h0 h L)(N:Mem h h' L2):Mem h0 h' (L2++L):=by
 refine⟨M.ext.trans N.ext,λp hp=>?_,List.pairwise_append.2 ⟨N.ne,M.ne,λp hp q hq=>?_⟩⟩
 ·rcases List.mem_append.1 hp with hp | hp
  ·exact⟨Nat.le_trans M.ext.le (N.at_ p hp).1,(N.at_ p hp).2⟩
  ·exact⟨(M.at_ p hp).1,by rw[N.ext.eq _ (M.lt hp)];exact(M.at_ p hp).2⟩
 ·exact(Nat.ne_of_lt (Nat.lt_of_lt_of_le (M.lt hq) (N.at_ p hp).1)).symm
theorem RP{P:Program}{s:Sem Value}{K:Value->ab->Prop}{h:ab}(H:∀w:World,w.heap=h->∃v w',s.run P w = .ok v w'∧hZ w w'∧K v w'.heap):gC P s K h:=by
 intro w hw
 obtain⟨v,w',h1,h2,h3⟩:=H w hw
 have:((do pure (Next.value (← s))):Sem Next).run P w = .ok (.value v) w':=by
  simp only[Sem.run_bind,h1,Result.andThen_ok,Sem.run_pure]
 rw[this]
 exact⟨h2,h3⟩
theorem apY{i:TI}{e:Nat}{n:Nat}{z:Value}{F:Nat->ab->Prop}{h0 h:ab}{L:List Blk}(M:Mem h0 h L)(hs:i.size=1)(hz:i.zero=[z])(hb:i.bytes*n≤2 ^ 48)(hn:n≤9223372036854775807)(H:∀g h',Ext h h'->Mem h0 h' ((g,e,⟨List.replicate n z⟩) :: L)->F g h'):MKS i e (n:Int) (n:Int) F h:=by
 refine⟨⟨by omega,by omega,by exact_mod_cast hb,by omega,by simp[hz]⟩,?_⟩
 have e1:((Array.range ((n:Int).toNat*i.size)).map λj=>(⟨i.zero⟩:Array Value)[j % (⟨i.zero⟩:Array Value).size]!)=⟨List.replicate n z⟩:=by
  apply Array.ext_getElem?
  intro k
  simp only[hs,hz,Nat.mul_one,Int.toNat_natCast,Array.getElem?_map,List.getElem?_toArray]
  by_cases hk:k<n
  ·simp[hk,Nat.mod_one]
  ·simp[hk]
 rw[e1]
 exact M.alc H
def Own(B:List Blk)(e sz:Nat)(b:Option Addr)(l c:Nat)(vs:List Value):Prop:=
 vs.length=l*sz∧((B=[]∧b=none∧l=0∧c=0)∨∃g cs,B=[(g,e,cs)]∧b=some ⟨g,0,none⟩∧l≤c∧c≤maxLen∧cs.size=c*sz∧cs.toList.take (l*sz)=vs)
theorem Sl.own{h0 h:ab}{L:List Blk}{e sz:Nat}{b:Option Addr}{l c:Nat}{vs:List Value}(S:Sl h0 h L e sz b l c vs):∃B,Own B e sz b l c vs∧Mem h0 h (B++L):=by
 rcases S.2 with⟨h1,h2,h3,M⟩ | ⟨g,cs,h1,h2,h3,h4,h5,M⟩
 ·exact⟨[],⟨S.1,.inl ⟨rfl,h1,h2,h3⟩⟩,M⟩
 ·exact⟨[(g,e,cs)],⟨S.1,.inr ⟨g,cs,rfl,h1,h2,h3,h4,h5⟩⟩,M⟩
theorem Own.sl{h0 h:ab}{B L:List Blk}{e sz:Nat}{b:Option Addr}{l c:Nat}{vs:List Value}(O:Own B e sz b l c vs)(M:Mem h0 h (B++L)):Sl h0 h L e sz b l c vs:=by
 rcases O.2 with⟨rfl,h1,h2,h3⟩ | ⟨g,cs,rfl,h1,h2,h3,h4,h5⟩
 ·exact⟨O.1,.inl ⟨h1,h2,h3,M⟩⟩
 ·exact⟨O.1,.inr ⟨g,cs,h1,h2,h3,h4,h5,M⟩⟩
theorem Mem.sub{h0 h:ab}{L L':List Blk}(M:Mem h0 h L)(s:L'.Sublist L):Mem h0 h L':=⟨M.ext,λp hp=>M.at_ p (s.subset hp),M.ne.sublist s⟩
theorem Own.cells{h0 h:ab}{B L:List Blk}{e sz:Nat}{b:Option Addr}{l c:Nat}{vs:List Value}(O:Own B e sz b l c vs)(M:Mem h0 h L)(s:B.Sublist L):Cells h b vs:=by
 have M':Mem h0 h (B++[]):=by rw[List.append_nil];exact M.sub s
 exact(O.sl M').cells
theorem Own.le{B:List Blk}{e sz:Nat}{b:Option Addr}{l c:Nat}{vs:List Value}(O:Own B e sz b l c vs):l≤c:=by
 rcases O.2 with⟨_,_,h2,h3⟩ | ⟨g,cs,_,_,h2,_⟩ <;> omega
end Go.Sx
namespace Go.Sx
open FloatKind (f32 f64)
open IntKind (i64)
open Ieee
def nan(k:FloatKind)(x:Nat):Bool:=(k.format.read x).isNaN
def qn:FloatKind->Nat | .f32=>2143289344 | .f64=>9221120237041090561
def cn(k:FloatKind)(x:Nat):Nat:=if nan k x then qn k else x
theorem Datum.wa(d:Datum):d.order d=if d.isNaN then none else some .eq:=by
 cases d with
 | number s m i=>simp[Datum.order,Datum.isNaN]
 | infinity s=>cases s <;> rfl
 | nan s t=>rfl
theorem wa(k:FloatKind)(x:Nat):k.format.order x x=if nan k x then none else some .eq:=Datum.wa _
theorem nE{k:FloatKind}{x:Nat}(h:nan k x=true)(y:Nat):k.format.order x y=none:=by
 unfold Format.order
 unfold nan at h
 cases e:k.format.read x <;> simp_all [Datum.isNaN,Datum.order]
theorem xp{k:FloatKind}{x:Nat}(h:nan k x=true)(y:Nat):k.format.order y x=none:=by
 unfold Format.order
 unfold nan at h
 cases e:k.format.read x <;> simp_all [Datum.isNaN]
 cases k.format.read y <;> rfl
theorem ne_self(k:FloatKind)(x:Nat):(k.format.order x x != some .eq)=nan k x:=by
 rw[wa];cases nan k x <;> rfl
theorem GF(k:FloatKind):nan k (qn k)=true:=by cases k <;> decide +kernel
theorem E4(k:FloatKind)(x:Nat):cn k (cn k x)=cn k x:=by
 unfold cn
 split
 ·rw[GF];rfl
 ·next h=>simp[h]
theorem DD(k:FloatKind)(x:Nat):nan k (cn k x)=nan k x:=by
 unfold cn
 split
 ·next h=>rw[GF,h]
 ·rfl
theorem KQ{k:FloatKind}{x y:Nat}(h:cn k x=cn k y):nan k x=nan k y∧(nan k x=false->x=y):=by
 have h1:nan k x=nan k y:=by rw[← DD k x,← DD k y,h]
 refine⟨h1,λh2=>?_⟩
 unfold cn at h
 rw[if_neg (by simp[h2]),if_neg (by simp[← h1,h2])] at h
 exact h
theorem oX(f:Format)(x:Nat):(f.read x).isNaN=decide (f.infRung<x % f.signWeight∧f.binade≤x % f.signWeight):=by
 unfold Format.read
 dsimp only
 split
 ·next h=>simp[Datum.isNaN];omega
 ·split
  ·next h=>simp[Datum.isNaN];omega
  ·split
   ·next h=>simp[Datum.isNaN];omega
   ·simp[Datum.isNaN];omega
theorem m4{k:FloatKind}{r:Nat}(h:vL k r):nan k r=true:=by
 unfold nan
 rw[oX]
 cases k with
 | f32=>
  obtain⟨t,rfl⟩:=h
  have e1:f32.format.signWeight=2 ^ 31:=rfl
  have e2:f32.format.infRung=0x7f800000:=by decide +kernel
  have e3:f32.format.binade=2 ^ 23:=rfl
  rw[e1,e2,e3]
  simp only[decide_eq_true_eq]
  have hs:t % 2=0∨t % 2=1:=by omega
  have hu:t / 2 % (2 ^ 23-1)<2 ^ 23-1:=Nat.mod_lt _ (by decide)
  generalize t / 2 % (2 ^ 23-1)=u at hu ⊢
  rcases hs with hs | hs <;> rw[hs] <;> omega
 | f64=>
  obtain⟨t,rfl⟩:=h
  have e1:f64.format.signWeight=2 ^ 63:=rfl
  have e2:f64.format.infRung=0x7ff0000000000000:=by decide +kernel
  have e3:f64.format.binade=2 ^ 52:=rfl
  rw[e1,e2,e3]
  simp only[decide_eq_true_eq]
  have hs:t % 2=0∨t % 2=1:=by omega
  have hu:t / 2 % (2 ^ 52-1)<2 ^ 52-1:=Nat.mod_lt _ (by decide)
  generalize t / 2 % (2 ^ 52-1)=u at hu ⊢
  rcases hs with hs | hs <;> rw[hs] <;> omega
theorem qU{k:FloatKind}{o:Option Nat}{r:Nat}(h:IsF k o r):cn k r=cn k (o.getD (qn k)):=by
 cases o with
 | some v=>rw[show r=v from h];rfl
 | none=>
  have:=m4 (k:=k) (r:=r) h
  unfold cn
  rw[this,show(none:Option Nat).getD (qn k)=qn k from rfl,GF]
  simp
def wide(x:Nat):Nat:=f64.encode (f32.decode x)
theorem fG(x:Nat){s:Bool}{m:Nat}{e:Int}(h:f32.decode x = .number s m e):m<2 ^ 24∧-149≤e∧e≤104:=by
 have e1:f32.format.signWeight=2 ^ 31:=rfl
 have e2:f32.format.infRung=0x7f800000:=by decide +kernel
 have e3:f32.format.binade=2 ^ 23:=rfl
 have e4:f32.format.leastPlace = -149:=by decide +kernel
 unfold FloatKind.decode Format.read at h
 dsimp only at h
 rw[e1,e2,e3,e4] at h
 split at h
 ·simp only[Datum.number.injEq] at h
  omega
 ·split at h
  ·simp only[Datum.number.injEq] at h
   omega
  ·split at h <;> cases h
theorem Ip{s:Bool}{m:Nat}{e:Int}(hm:m<2 ^ 24)(h1:-149≤e)(h2:e≤104):(f64.decode (f64.encode (.number s m e))).isInfinity=false:=by
 have e1:f64.format.signWeight=2 ^ 63:=rfl
 have e2:f64.format.infRung=2047*2 ^ 52:=by decide +kernel
 have e3:f64.format.binade=2 ^ 52:=rfl
 have e4:f64.format.leastPlace = -1074:=by decide +kernel
 have e5:f64.format.fractionBits=52:=rfl
 have key:∃r,f64.encode (.number s m e)=f64.format.word s r∧r<2047*2 ^ 52:=by
  show ∃r,f64.format.nearest s m e=_∧_
  unfold Format.nearest
  split
  ·exact⟨0,rfl,by decide⟩
  ·next h0=>
   dsimp only
   have hl:m.log2≤23:=by
    have:=(Nat.log2_lt h0 (k:=24)).2 hm
    omega
   have hk:Toward.even.cut s (m <<< (e-max (e+m.log2-f64.format.fractionBits) f64.format.leastPlace).toNat) (max (e+m.log2-f64.format.fractionBits) f64.format.leastPlace-e).toNat<2 ^ 53:=by
    rw[e4,e5]
    have a1:max (e+(m.log2:Int)-(52:Nat)) (-1074)=e+m.log2-52:=by omega
    rw[a1]
    have a2:(e-(e+(m.log2:Int)-52)).toNat=52-m.log2:=by omega
    have a3:(e+(m.log2:Int)-52-e).toNat=0:=by omega
    rw[a2,a3]
    have a4:m <<< (52-m.log2)<2 ^ 53:=by
     rw[Nat.shiftLeft_eq]
     have b1:m<2 ^ (m.log2+1):=Nat.lt_log2_self
     have b2:2 ^ 53=2 ^ (m.log2+1)*2 ^ (52-m.log2):=by rw[← Nat.pow_add];congr 1;omega
     rw[b2]
     exact Nat.mul_lt_mul_of_pos_right b1 (Nat.two_pow_pos _)
    unfold Toward.cut
    simp only[Nat.zero_le,Nat.min_eq_left,Nat.shiftLeft_zero,Nat.div_one,Nat.mod_one,Nat.mul_zero]
    simpa using a4
   generalize Toward.even.cut s (m <<< (e-max (e+m.log2-f64.format.fractionBits) f64.format.leastPlace).toNat) (max (e+m.log2-f64.format.fractionBits) f64.format.leastPlace-e).toNat=kept at hk ⊢
   refine⟨_,Eq.refl _,?_⟩
   rw[e2,e3]
   have h4:(max (e+(m.log2:Int)-f64.format.fractionBits) f64.format.leastPlace-f64.format.leastPlace).toNat≤1149:=by
    rw[e4,e5];omega
   generalize (max (e+(m.log2:Int)-f64.format.fractionBits) f64.format.leastPlace-f64.format.leastPlace).toNat=q at h4 ⊢
   refine Nat.lt_of_le_of_lt (Nat.min_le_left _ _) ?_
   omega
 obtain⟨r,h3,h4⟩:=key
 rw[h3]
 unfold FloatKind.decode Format.read Format.word
 dsimp only
 rw[e1,e2,e3]
 have h5:(if s=true then 2 ^ 63+r else r) % 2 ^ 63=r:=by split <;> omega
 rw[h5]
 split
 ·rfl
 ·rfl
theorem Ul{x r:Nat}(h:I3 .f32 x .f64 r):cn .f64 r=cn .f64 (wide (cn .f32 x)):=by
 unfold I3 at h
 cases e:f32.decode x with
 | nan s t=>
  rw[e] at h
  have hn:nan .f32 x=true:=by unfold nan;rw[show f32.format.read x=_ from e];rfl
  have h1:=m4 h
  have h2:nan .f64 (wide (qn .f32))=true:=by decide +kernel
  unfold cn
  rw[h1,hn,if_pos rfl,if_pos rfl,h2,if_pos rfl]
 | infinity s=>
  rw[e] at h
  have hn:nan .f32 x=false:=by unfold nan;rw[show f32.format.read x=_ from e];rfl
  rw[show cn .f32 x=x by unfold cn;rw[hn];rfl,wide,e,show r=_ from h]
 | number s m i=>
  rw[e] at h
  obtain⟨h1,h2,h3⟩:=fG x e
  have hn:nan .f32 x=false:=by unfold nan;rw[show f32.format.read x=_ from e];rfl
  dsimp only at h
  rw[Ip h1 h2 h3] at h
  rw[show cn .f32 x=x by unfold cn;rw[hn];rfl,wide,e,show r=_ by simpa using h]
theorem nQ{k:FloatKind}{s:Bool}{r:Nat}(h:r≤k.format.infRung):nan k (k.format.word s r)=false:=by
 unfold nan
 rw[oX,decide_eq_false_iff_not]
 have h1:=k.format.infRung_lt
 unfold Format.word
 intro h2
 have h3:(if s=true then k.format.signWeight+r else r) % k.format.signWeight=r:=by
  split
  ·rw[Nat.add_mod_left,Nat.mod_eq_of_lt (by omega)]
  ·rw[Nat.mod_eq_of_lt (by omega)]
 rw[h3] at h2
 omega
theorem dp(k:FloatKind)(n:Int):nan k (k.nearest n)=false:=by
 show nan k (k.format.nearest _ _ _)=false
 unfold Format.nearest
 split
 ·exact nQ (Nat.zero_le _)
 ·exact nQ (Nat.min_le_right _ _)
theorem sN{k:FloatKind}{x:Nat}(h:nan k x=false):(k.format.order x x != some .eq)=false:=by rw[ne_self,h]
end Go.Sx
