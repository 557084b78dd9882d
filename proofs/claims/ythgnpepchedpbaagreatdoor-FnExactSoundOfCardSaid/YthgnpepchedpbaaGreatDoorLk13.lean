/- Lemmas. -/
import Derived.Test.YthgnpepchedpbaaGreatDoorLk4
import Derived.Test.YthgnpepchedpbaaGreatDoorLk50
import Derived.Test.YthgnpepchedpbaaGreatDoorLk41
set_option linter.unusedVariables false
set_option linter.unusedSimpArgs false
namespace Go.Sx
open Go.Proofs
set_option maxRecDepth 100000
set_option maxHeartbeats 1000000
section
variable {h0 h:ab}{q:Addr}{F:Fr}{L:List Blk}{x a:Nat}
theorem Pt.an9{α:Type}{r:Rep α}{d:α}{g T j:Nat}{cs:Array Value}{v:Value}{L':List Blk}{K:ab->Prop}(P:Pt r h0 h q F L d)(l:gi L g cs)(hj:j<cs.size)(k:Ew L g T cs L')(H:∀h',Pt r h0 h' q F ((g,T,cs.setIfInBounds j v) :: L') d->K h'):ST1 h ⟨g,j,none⟩ v K:=by
 obtain⟨e,iS,B,M,O⟩:=P
 have N:=M.pick (.there (Ew.skip k))
 exact N.st1 .here hj .here λh' M'=>H h' ⟨e,iS,B,M'.cnt λp=>by simp only[bN,bu,bZ];omega,O⟩
theorem Td{k:FloatKind}{y b:Nat}(hy:FW k y b):∀{xs:List Nat}{vs:List Value}{i:Nat},rds (rF k) h vs xs->rds (rF k) h (vs.set i (.float k y)) (xs.set i b)
 | [],vs,i,R=>by
  obtain rfl:vs=[]:=R
  simp[rds]
 | a :: xs,vs,i,R=>by
  obtain⟨v1,v2,rfl,⟨z,rfl,hz⟩,R2⟩:=R
  cases i with
  | zero=>exact⟨[.float k y],v2,rfl,⟨y,rfl,hy⟩,R2⟩
  | succ i=>exact⟨[.float k z],v2.set i (.float k y),rfl,⟨z,rfl,hz⟩,Td hy R2⟩
theorem aah{k:FloatKind}{y b n i:Nat}{cs:Array Value}{xs:List Nat}(hy:FW k y b)(R:(iT n (rF k)).rd h cs.toList xs):(iT n (rF k)).rd h (cs.setIfInBounds i (.float k y)).toList (xs.set i b):=
 ⟨by rw[List.length_set];exact R.1,by rw[Array.toList_setIfInBounds];exact Td hy R.2⟩
end
theorem H3{k:FloatKind}{h h':ab}:∀{xs:List Nat}{vs:List Value},rds (rF k) h vs xs->rds (rF k) h' vs xs
 | [],vs,R=>R
 | a :: xs,vs,R=>by
  obtain⟨v1,v2,rfl,R1,R2⟩:=R
  exact⟨v1,v2,rfl,R1,H3 R2⟩
def FA(n:Nat)(cs:Array Value)(xs:List Nat):Prop:=(iT n (rF .f32)).rd #[] cs.toList xs
section
variable {n:Nat}{cs:Array Value}{xs:List Nat}
theorem FA.rd(R:FA n cs xs)(h:ab):(iT n (rF .f32)).rd h cs.toList xs:=⟨R.1,H3 R.2⟩
theorem FA.size(R:FA n cs xs):cs.size=n:=by have:=rsz R rfl;rw[this];exact Nat.mul_one n
end
def alK:List Nat:=List.replicate 16 0
section
variable {h0 h:ab}{q:Addr}{F:Fr}{L:List Blk}{n:Nat}
theorem Pt.ai8{α:Type}{r:Rep α}{d:α}{g T i y b:Nat}{cs:Array Value}{xs:List Nat}{L':List Blk}{K:ab->Prop}(P:Pt r h0 h q F L d)(l:gi L g cs)(k:Ew L g T cs L')(R:FA n cs xs)(hi:i<n)(hy:FW .f32 y b)(H:∀h' BP,FA n BP (xs.set i b)->Pt r h0 h' q F ((g,T,BP) :: L') d->K h'):ST1 h ((⟨g,0,none⟩:Addr).add (i*1)) (.float .f32 y) K:=by
 rw[dQ,Nat.zero_add]
 refine P.an9 l (by rw[R.size];omega) k λh' P'=>H h' _ ?_ P'
 rw[Nat.mul_one]
 exact aah hy R
end
def wK:List Nat:=[0,0,0]
theorem FA.aeh:FA 3 ⟨jY⟩ wK:=⟨rfl,H3 (h:=#[]) ((Po 3).look (Mem.start #[]) (List.Sublist.refl _))⟩
theorem ae4{n:Nat}(f:Nat->Nat)(h:n<3):(pR f wK n).set n (f n)=pR f wK (n+1):=Gx h
section
variable {h0 h:ab}{q:Addr}{F:Fr}{L:List Blk}{x:cp}{b:Nat}
theorem Pt.head{α β:Type}{r:Rep α}{e:Nat}{s:Rep β}{get:α->List β}{put:α->List β->α}{a:α}{off:Nat}(P:Pt r h0 h q F L a)[Fc:cJ r off (rSl e s) get put]:∃bb l c,cell h (q.add off)=some (.slice bb l c)∧SlR s h bb l c (get a):=P.hdr
theorem OV{y w:Nat}(P:Pt dX h0 h q F L (x.at b x.aW.length (x.aW.length-1) x.e.1))(R:x.iW)(hy:FW .f32 y x.e.2)(hw:FW .f32 w x.back):
  bj.J21 (λu h'=>vp h0 h' q F L x b u) q (x.aW.length:Int) y w h:=by
 have n1:=R.n1
 have n3:=R.n3
 unfold bj.J21
 rw[LA n1 (by omega)]
 obtain⟨bb,l,c,eb,el⟩:=P.hdl
 refine o_l eb ?_
 obtain⟨a0,F',L',rfl,hi,P',ok,close⟩:=T7 P R (by omega) eb el
 refine idxs (by omega) (by omega) ((mz hw).go λh1 z x1 hz=>cW (P.rd.lN (off:=1) (n:=1) (by decide) x1 ?_))
 refine(kV (P'.grow x1) ok hz).mono ?_
 rintro _ h2 ⟨⟨_,rfl,_⟩,P2⟩
 rw[← SV] at P2
 obtain⟨P,_⟩:=close _ _ P2
 rw[show x.aW.length-1+1=x.aW.length by omega] at P
 exact cW (vp.of R hy P)
theorem Mx{w:Nat}(P:Pt dX h0 h q F L x)(R:x.iW)(hx:FW .f32 w b):af ak 174 #[.pointer (some q),.float .f32 w] (λu h'=>vp h0 h' q F L x b u) h:=by
 have n1:=R.n1
 have n3:=R.n3
 have nl:=R.ll
 have ns:=R.sl
 refine bj.call (P.rd.oL1 λb1 l1 c1 S1=>(Mem.start h).alc λg1 h1 x1 N=>N.alc λg2 h2 x2 N=>?_)
 have e1:=S1.len
 have P:Pt dX h0 h2 q F ((g2,110,⟨jY⟩) :: (g1,110,⟨jY⟩) :: L) x:=P.join N
 refine loop (λy hh=>∃(n:Nat) (cr cl:Array Value),y=(q,w,(l1:Int),⟨g1,0,none⟩,⟨g2,0,none⟩,(l1:Int),(n:Int))∧n≤l1∧FA 3 cr (pR (λi=>x.aW[i]!.old) wK n)∧FA 3 cl (pR (λi=>x.Left[i]!.old) wK n) ∧
  Pt dX h0 hh q F ((g2,110,cl) :: (g1,110,cr) :: L) x) (λy=>(l1-y.2.2.2.2.2.2).toNat) ⟨0,_,_,rfl,by omega,by rw[zy];exact FA.aeh,by rw[zy];exact FA.aeh,P⟩ ?_
 rintro y hh ⟨n,cr,cl,rfl,hn,Fr,Fl,P⟩
 refine brd (λhc=>?_) λhc=>?_
 ·refine P.rd.oL1 λb2 l2 c2 S2=>?_
  have e2:=S2.len
  refine S2.idx pz (by omega) (by omega) λp Rp=>Rp.jc rfl λca Ra=>P.rd.oL λb3 l3 c3 S3=>?_
  have e3:=S3.len
  refine S3.idx pz (by omega) (by omega) λp Rp=>Rp.jc rfl λcb Rb=>?_
  rw[Int.toNat_natCast] at Ra Rb
  refine(va Ra (R.r _ (iL (by omega)))).mono ?_
  rintro _ h3 ⟨⟨y1,rfl,k1⟩,x3⟩
  refine cW (Rp.pin rfl x3 (P.rd.lN (off:=1) (n:=1) (by decide) x3 (idx (by omega) (by omega) ((va (bQ.ext x3 Rb) (R.l _ (iL (by omega)))).mono ?_))))
  rintro _ h4 ⟨⟨y2,rfl,k2⟩,x4⟩
  have P:=P.grow (x3.trans x4)
  refine cW (P.ai8 (.there .here) (.there .here) Fr (i:=n) (by omega) k1 λh5 cr' Fr' P=>idx (by omega) (by omega) (P.ai8 (.there .here) (.there .here) Fl (i:=n) (by omega) k2 λh6 cl' Fl' P=>?_))
  rw[ae4 (λi=>x.aW[i]!.old) (by omega)] at Fr'
  rw[ae4 (λi=>x.Left[i]!.old) (by omega)] at Fl'
  exact⟨⟨n+1,cr',cl',by rw[ag (by omega)],by omega,Fr',Fl',P.cnt λp=>by simp only[bu];omega⟩,by rw[ag (by omega)];show _<_;simp;omega⟩
 obtain rfl:n=l1:=by omega
 clear hc hn N
 have oR:∀{i:Nat},i<n->(pR (λi=>x.aW[i]!.old) wK n)[i]! = x.aW[i]!.old:=λhi=>SX (f:=λi=>x.aW[i]!.old) (show _<3 by omega) hi
 have oL:∀{i:Nat},i<n->(pR (λi=>x.Left[i]!.old) wK n)[i]! = x.Left[i]!.old:=λhi=>SX (f:=λi=>x.Left[i]!.old) (show _<3 by omega) hi
 refine idx (by omega) (by omega) ((P.mem.rdp .here (Fl.rd hh)).fst (Foc.arr (rF .f32) 0 (by decide)) |>.oF1 λy hy=>fS hy hx λd hd=>?_)
 rw[oL (by omega)] at hd
 have hd:FW .f32 d (x.d b):=hd
 rw[← Sv x b] at P
 obtain⟨bb,l,c,eb,el⟩:=P.hd
 refine o_l eb ?_
 obtain⟨a0,F',L',rfl,hi,P',ok,close⟩:=T8 P R (by omega) eb el
 rw[Nat.zero_mul,kW] at P' close
 refine idxs (by omega) (by omega) (P.rd.oF λy1 k1=>P.rd.oF λy2 k2=>(W8 k1 k2 hd).go λh7 y3 x7 k3=>cW (P.rd.xy (by decide) x7 (fM hd k3 λw1 j1=>P.rd.xy (by decide) x7 (fA hx j1 λw2 j2=>P.rd.xy (by decide) x7 ((mz j2).go λh8 y4 x8 k4=>cW (P.rd.xy (by decide) (x7.trans x8) ?_))))))
 refine(kV (P'.grow (x7.trans x8)) ok k4).mono ?_
 rintro _ h9 ⟨⟨_,rfl,_⟩,P2⟩
 have P2:Pt bQ h0 h9 a0 F' L' (x.rt b 0):=by rw[Th];exact P2
 obtain⟨P,_⟩:=close _ _ P2
 clear P2 P' close ok eb el hi
 obtain⟨b3,l3,c3,e3,S3⟩:=P.head (off:=2) (e:=22) (s:=rF .f32)
 have n3':x.aL.length=l3:=S3.len
 refine cW (o_l e3 ?_)
 refine loop (λy hh=>∃m:Nat,y=(q,(n:Int),⟨g1,0,none⟩,⟨g2,0,none⟩,b3,l3,c3,(l3:Int),(m:Int))∧m+1≤n∧cell hh (q.add 2)=some (.slice b3 l3 c3)∧Pt dX h0 hh q F ((g2,110,cl) :: (g1,110,cr) :: L) (x.at b (m+1) m x.End)) (λy=>(l3-y.2.2.2.2.2.2.2.2).toNat) ⟨0,rfl,by omega,e3,P⟩ ?_
 rintro y hh ⟨m,rfl,hm,e3,P⟩
 have rA:∀{h':ab}{y:cp},Pt dX h0 h' q F ((g2,110,cl) :: (g1,110,cr) :: L) y->RdP (iT 3 (rF .f32)) h' ⟨g1,0,none⟩ (pR (λi=>x.aW[i]!.old) wK n):=λP=>P.mem.rdp (.there .here) (Fr.rd _)
 have lA:∀{h':ab}{y:cp},Pt dX h0 h' q F ((g2,110,cl) :: (g1,110,cr) :: L) y->RdP (iT 3 (rF .f32)) h' ⟨g2,0,none⟩ (pR (λi=>x.Left[i]!.old) wK n):=λP=>P.mem.rdp .here (Fl.rd _)
 rw[bj.B11,ag (n:=m) (by omega)]
 refine brd (λhc=>?_) λhc=>?_
 ·have S3:SlR (rF .f32) hh b3 l3 c3 x.aL:=P.slr (off:=2) e3
  refine S3.idx (by decide) (by omega) (by omega) λp Rp=>Rp.oF1 λy1 k1=>idx (by omega) (by omega) (((rA P).elem (i:=m) (by omega)).oF1 λy2 k2=>idx (by omega) (by omega) (((lA P).elem (i:=m+1) (by omega)).oF1 λy3 k3=>?_))
  rw[oR (by omega)] at k2
  rw[oL (by omega)] at k3
  have k1:FW .f32 y1 x.aL[m]!:=k1
  refine fS k2 k3 λw1 j1=>fM k1 j1 λt ht=>?_
  have ht:FW .f32 t (x.t m):=ht
  obtain⟨bb,l,c,eb,el⟩:=P.hd
  refine o_l eb ?_
  obtain⟨a0,F',L',rfl,hi,P',ok,close⟩:=T8 P R (by omega) eb el
  refine idxs (by omega) (by omega) (idx (by omega) (by omega) (((rA P).elem (i:=m) (by omega)).oF1 λy4 k4=>?_))
  rw[oR (by omega)] at k4
  refine fA k4 ht λw2 j2=>dT ((mz j2).go λh1 y5 x1 k5=>cW (P.rd.xy (by decide) x1 ?_))
  refine(kV (P'.grow x1) ok k5).mono ?_
  rintro _ h2 ⟨⟨_,rfl,_⟩,P2⟩
  rw[← Tg] at P2
  obtain⟨P,hk⟩:=close _ _ P2
  rw[← hk] at e3
  clear P2 P' close ok eb el hi hk
  obtain⟨bb,l,c,eb,el⟩:=P.hdl
  refine cW (o_l eb ?_)
  obtain⟨a0,F',L',rfl,hi,P',ok,close⟩:=T7 P R (by omega) eb el
  refine idxs (by omega) (by omega) (idx (by omega) (by omega) (((lA P).elem (i:=m+1) (by omega)).oF1 λy6 k6=>?_))
  rw[oL (by omega)] at k6
  refine fA k6 ht λw3 j3=>dT ((mz j3).go λh1 y7 x1 k7=>cW (P.rd.lN (off:=1) (n:=1) (by decide) x1 ?_))
  refine(kV (P'.grow x1) ok k7).mono ?_
  rintro _ h3 ⟨⟨_,rfl,_⟩,P2⟩
  rw[← ae1 (by omega)] at P2
  obtain⟨P,hk⟩:=close _ _ P2
  rw[← hk] at e3
  exact cW ⟨⟨m+1,rfl,by omega,e3,P⟩,by show _<_;simp;omega⟩
 ·obtain rfl:n=m+1:=by omega
  rw[LA (by omega) (by omega)]
  refine idx (by omega) (by omega) (((rA P).elem (i:=m+1-1) (by omega)).oF1 λy1 k1=>?_)
  rw[oR (by omega)] at k1
  obtain⟨F',L',P',hs,close⟩:=P.foc gK
  refine(pk P' k1).mono ?_
  rintro _ h1 ⟨⟨y,rfl,hy⟩,P2⟩
  have P:=close _ _ _ P2
  have ee:x.e=x.End.step x.aW[m+1-1]!.old:=by unfold cp.e cp.n;rw[e1]
  have P:Pt dX h0 h1 q F ((g2,110,cl) :: (g1,110,cr) :: L) (x.at b x.aW.length (x.aW.length-1) x.e.1):=by rw[ee,e1];exact P
  have hy:FW .f32 y x.e.2:=by rw[ee];exact hy
  have P:=P.sub (L2:=L) (.cons _ (.cons _ (List.Sublist.refl _)))
  refine cW (P.rd.oF λy2 k2=>fM k2 hy λw1 j1=>P.rd.oB (br (λhb=>?_) λhb=>?_))
  ·have hb:x.Open=true:=hb
   rw[show((m+1:Nat):Int)=(x.aW.length:Int) by rw[e1]]
   refine OV P R hy ?_
   unfold cp.back
   rw[hb];exact kM j1
  ·have hb:x.Open=false:=hb
   rw[show((m+1:Nat):Int)=(x.aW.length:Int) by rw[e1]]
   refine OV P R hy ?_
   unfold cp.back
   rw[hb];exact j1
end
structure acM.iW (x:acM):Prop where
 e:x.acL.ok=true
 t:∀t ∈ x.am8,inR t.alL 1 x.acL.len=true
 c:∀c ∈ x.acJ,c.Ring.ok=true
 l:∀r ∈ x.acO,r.ok=true
 c2:x.acJ.length=2
 l4:x.acO.length=4
 d4:x.ahP.length=4
 g4:x.ahS.length=4
def isZ(a:Nat):Bool:=feq .f32 a 0
def aY.yS(r:aY):List Nat:=(List.range r.ae.length).map λi:Nat=>r.back ((i:Int)+1)
def J0:List Nat->Nat
 | []=>0
 | a :: l=>if isZ a then J0 l+1 else 0
def aY.quiet(r:aY):Nat:=J0 r.yS
theorem Ti:∀l:List Nat,J0 l≤l.length
 | []=>Nat.le_refl _
 | a :: l=>by
  have:=Ti l
  unfold J0
  split
  ·simp only[List.length_cons];omega
  ·simp
theorem H8:∀l:List Nat,(J0 l=l.length)↔∀a ∈ l,isZ a=true
 | []=>by simp[J0]
 | a :: l=>by
  have ih:=H8 l
  have hle:=Ti l
  unfold J0
  constructor
  ·intro h
   split at h
   ·next hz=>
    intro b hb
    rcases List.mem_cons.1 hb with rfl | hb
    ·exact hz
    ·exact ih.1 (by simp only[List.length_cons] at h;omega) b hb
   ·simp at h
  ·intro h
   rw[if_pos (h a (List.mem_cons_self ..)),ih.2 λb hb=>h b (List.mem_cons_of_mem _ hb)]
   rfl
theorem we(r:aY):r.yS.length=r.ae.length:=by simp[aY.yS]
theorem AI{r:aY}(h:r.ok=true){i:Nat}(hi:i<r.ae.length):r.back ((i:Int)+1)=r.ae[(if i<r.At.toNat then r.At.toNat-1-i else r.At.toNat+r.ae.length-1-i)]!:=by
 obtain⟨k1,k2,k3,k4,k5⟩:=kO h
 unfold aY.back
 have hl:r.len=r.ae.length:=rfl
 congr 1
 rw[hl]
 split
 ·next qR=>
  rw[show r.At-((i:Int)+1)+(r.ae.length:Int)=(r.At-1-i)+r.ae.length by omega,Int.add_emod_right,Int.emod_eq_of_lt (by omega) (by omega)]
  omega
 ·next hge=>
  rw[Int.emod_eq_of_lt (by omega) (by omega)]
  omega
theorem H7{r:aY}(h:r.ok=true)(a:Nat):a ∈ r.yS↔a ∈ r.ae:=by
 obtain⟨k1,k2,k3,k4,k5⟩:=kO h
 unfold aY.yS
 simp only[List.mem_map,List.mem_range]
 constructor
 ·rintro⟨i,hi,rfl⟩
  rw[AI h hi]
  refine iL ?_
  split <;> omega
 ·intro ha
  obtain⟨j,hj,rfl⟩:=List.mem_iff_getElem.1 ha
  by_cases qR:j<r.At.toNat
  ·refine⟨r.At.toNat-1-j,by omega,?_⟩
   rw[AI h (by omega),if_pos (by omega),show r.At.toNat-1-(r.At.toNat-1-j)=j by omega,getElem!_pos _ j hj]
  ·refine⟨r.At.toNat+r.ae.length-1-j,by omega,?_⟩
   rw[AI h (by omega),if_neg (by omega),show r.At.toNat+r.ae.length-1-(r.At.toNat+r.ae.length-1-j)=j by omega,getElem!_pos _ j hj]
theorem RH{r:aY}(h:r.ok=true):(r.quiet=r.ae.length)↔r.zero=true:=by
 unfold aY.quiet aY.zero
 rw[← we r,H8,List.all_eq_true]
 exact⟨λH a ha=>H a ((H7 h a).2 ha),λH a ha=>H a ((H7 h a).1 ha)⟩
set_option maxHeartbeats 400000
section
variable {h0 h:ab}{q:Addr}{F:Fr}{L:List Blk}{x a:Nat}
theorem Vq{r:aY}(hr:r.ok=true){k:Int}(hk:inR k 1 r.len=true){l:Nat}(hl:r.ae.length=l):
  Int.tmod (IntKind.i64.wrap (IntKind.i64.wrap (r.At+(l:Int))-k)) (l:Int)=(r.At-k+r.len) % r.len∧0≤(r.At-k+r.len) % r.len∧(r.At-k+r.len) % r.len<(l:Int):=by
 have:=kO hr
 have e:r.len=(l:Int):=by unfold aY.len;rw[hl]
 rw[e] at hk ⊢
 unfold inR at hk
 simp only[Bool.and_eq_true,decide_eq_true_eq] at hk
 refine⟨?_,Int.emod_nonneg _ (by omega),Int.emod_lt_of_pos _ (by omega)⟩
 rw[wrap64 (n:=r.At+l) (by omega) (by omega),wrap64 (by omega) (by omega),Int.tmod_eq_emod_of_nonneg (by omega),show r.At+(l:Int)-k=r.At-k+l by omega]
theorem Sa{r:aY}(hr:r.ok=true){k:Int}(hk:inR k 1 r.len=true){l:Nat}(hl:r.ae.length=l):
  Int.tmod (IntKind.i64.wrap (IntKind.i64.wrap (r.At-k)+(l:Int))) (l:Int)=(r.At-k+r.len) % r.len:=by
 have:=kO hr
 have e:r.len=(l:Int):=by unfold aY.len;rw[hl]
 rw[e] at hk ⊢
 unfold inR at hk
 simp only[Bool.and_eq_true,decide_eq_true_eq] at hk
 rw[wrap64 (n:=r.At-k) (by omega) (by omega),wrap64 (by omega) (by omega),Int.tmod_eq_emod_of_nonneg (by omega)]
theorem E1{cs:Array Value}{r:aY}(R0:bQ.rd h cs.toList r)(hr:r.ok=true){k:Int}(hk:inR k 1 r.len=true):
  af ak 239 #[.agg cs,.int .i64 k] (λu h'=>(∃y,u = .float .f32 y∧FW .f32 y (r.back k))∧Ext h h') h:=by
 have h1:=kO hr
 refine sE.call (gD R0 λg h1 x1 R=>R.oL2 λb l c S=>goX (iK _ _ _ _) λh2 x2=>cN ((R.ext x2).oL2 λb' l' c' S'=>(R.ext x2).oI2 ?_))
 have e:=Sa hr hk S.len
 obtain⟨_,e1,e2⟩:=Vq hr hk S.len
 have hl:=S.len
 have hl':=S'.len
 refine nz (by omega) ?_
 rw[e]
 exact S'.idx (by decide) e1 (by omega) λp Rp=>Rp.oF1 λy hy=>⟨⟨y,rfl,hy⟩,x1.trans x2⟩
end
set_option maxHeartbeats 1000000
section
variable {h:ab}{q:Addr}
theorem YG{y a:Nat}(hy:FW .f32 y a):(FloatKind.f32.format.order y 0==some .eq)=isZ a:=by rw[cw hy fw0];rfl
theorem agm{y a:Nat}(hy:FW .f32 y a):(FloatKind.f32.format.order y 0 != some .eq) = !isZ a:=by rw[bne,YG hy]
theorem vM{f:cz}(R:RdP cx h q f):af ak 193 #[.pointer (some q)] (λu h'=>u = .bool f.still∧Ext h h') h:=by
 refine uv.call (idx (by omega) (by omega) (R.oF λy hy=>?_))
 rw[YG hy]
 refine br (λhb=>idx (by omega) (by omega) (R.oF λz hz=>?_)) λhb=>?_
 ·rw[YG hz]
  refine⟨?_,Ext.refl _⟩
  have hb:feq .f32 f.S[0]! 0=true:=hb
  unfold cz.still;rw[hb];rfl
 ·refine⟨?_,Ext.refl _⟩
  have hb:feq .f32 f.S[0]! 0=false:=hb
  unfold cz.still;rw[hb];rfl
theorem lF{cs:Array Value}{f:cz}(R0:cx.rd h cs.toList f):af ak 177 #[.agg cs] (λu h'=>u = .bool f.still∧Ext h h') h:=by
 refine lT.call (gD R0 λg h1 x1 R=>idx (by omega) (by omega) (R.oF2 λy hy=>?_))
 rw[YG hy]
 refine br (λhb=>idx (by omega) (by omega) (R.oF2 λz hz=>?_)) λhb=>?_
 ·rw[YG hz]
  refine⟨?_,x1⟩
  have hb:feq .f32 f.S[0]! 0=true:=hb
  unfold cz.still;rw[hb];rfl
 ·refine⟨?_,x1⟩
  have hb:feq .f32 f.S[0]! 0=false:=hb
  unfold cz.still;rw[hb];rfl
theorem Dt{b:Option Addr}{l c:Nat}{rs:List aY}(S:SlR bQ h b l c rs):af ak 194 #[.slice b l c] (λu h'=>u = .bool (rs.all aY.zero)∧Ext h h') h:=by
 have hl:=S.len
 have k1:=S.2.1
 have k2:=S.2.2.1
 have k3:=cu
 refine dt.call (loop (λy hh=>∃n:Nat,y=(b,l,c,(n:Int))∧n≤l∧hh=h∧∀i,i<n->rs[i]!.zero=true) (λy=>(l-y.2.2.2).toNat) ⟨0,rfl,by omega,rfl,λi hi=>by omega⟩ ?_)
 rintro y hh ⟨n,rfl,hn,rfl,hz⟩
 refine brd (λhc=>?_) λhc=>?_
 ·have no:(∃j,j<rs[n]!.ae.length∧isZ rs[n]!.ae[j]! = false)->(Value.bool false = .bool (rs.all aY.zero)∧Ext hh hh):=λ⟨j,hj,e⟩=>by
   refine⟨?_,Ext.refl _⟩
   have:rs[n]!.zero=false:=by
    unfold aY.zero
    rw[List.all_eq_false]
    exact⟨_,iL hj,by unfold isZ at e;rw[e];simp⟩
   rw[lI,all_false (f:=λi=>rs[i]!.zero) (i:=n) (by omega) this]
  refine loop (λy hh'=>∃k:Nat,y=(b,l,c,(n:Int),(k:Int))∧k≤rs[n]!.ae.length∧hh'=hh∧∀j,j<k->isZ rs[n]!.ae[j]! = true) (λy=>(rs[n]!.ae.length-y.2.2.2.2).toNat) ⟨0,rfl,by omega,rfl,λi hi=>by omega⟩ ?_
  rintro y hh' ⟨k,rfl,hk,rfl,hj⟩
  refine S.idx pz (by omega) (by omega) λp Rp=>Rp.oL1 λb2 l2 c2 S2=>?_
  have hl2:rs[n]!.ae.length=l2:=S2.len
  have j1:=S2.2.1
  have j2:=S2.2.2.1
  refine brd (λhc2=>?_) λhc2=>?_
  ·refine S.idx pz (by omega) (by omega) λp Rp=>Rp.oL1 λb3 l3 c3 S3=>?_
   have hl3:rs[n]!.ae.length=l3:=S3.len
   refine S3.idx (by decide) (by omega) (by omega) λp3 Rp3=>Rp3.oF1 λy hy=>?_
   rw[agm hy]
   refine br (λhb=>no ⟨k,by omega,nt hb⟩) λhb=>?_
   refine⟨⟨k+1,by rw[ag (by omega)],by omega,rfl,λj hj'=>?_⟩,by rw[ag (by omega)];show(((rs[n]!.ae.length:Nat):Int)-((k+1:Nat):Int)).toNat<(((rs[n]!.ae.length:Nat):Int)-((k:Nat):Int)).toNat;omega⟩
   by_cases e:j=k
   ·subst e;exact nf hb
   ·exact hj j (by omega)
  ·refine⟨⟨n+1,by rw[ag (by omega)],by omega,rfl,λi hi=>?_⟩,by rw[ag (by omega)];show _<_;simp;omega⟩
   by_cases e:i=n
   ·subst e
    unfold aY.zero
    rw[lI]
    exact all_true (f:=λj=>isZ rs[i]!.ae[j]!) λj hj'=>hj j (by omega)
   ·exact hz i (by omega)
 ·refine⟨?_,Ext.refl _⟩
  rw[lI,all_true λi hi=>hz i (by omega)]
theorem aco{l:List Nat}{n:Nat}(hn:n<l.length)(h1:∀i,i<n->isZ l[i]! = true)(h2:isZ l[n]! = false):J0 l=n:=by
 induction l generalizing n with
 | nil=>simp at hn
 | cons a l ih=>
  cases n with
  | zero=>unfold J0;rw[show isZ a=false from h2];rfl
  | succ n=>
   unfold J0
   rw[if_pos (show isZ a=true from h1 0 (by omega)),ih (by simpa using hn) (λi hi=>h1 (i+1) (by omega)) h2]
theorem H6{r:aY}{i:Nat}(hi:i<r.ae.length):r.yS[i]! = r.back ((i:Int)+1):=by
 rw[List.getElem!_eq_getElem?_getD]
 unfold aY.yS
 rw[List.getElem?_map,List.getElem?_range hi];rfl
theorem Ks{cs:Array Value}{r:aY}(R0:bQ.rd h cs.toList r)(hr:r.ok=true):af ak 249 #[.agg cs] (λu h'=>u = .int .i64 (r.quiet:Int)∧Ext h h') h:=by
 have h1:=kO hr
 have hlen:r.len=r.ae.length:=rfl
 refine eH.call (gD R0 λg h1 x1 R=>R.oL2 λb l c S=>goX (iK _ _ _ _) λh2 x2=>cN ?_)
 have hl:r.ae.length=l:=S.len
 have R:=R.ext x2
 refine loop (λy hh=>∃n:Nat,y=(⟨g,0,none⟩,(l:Int),(n:Int)+1)∧n≤l∧Ext h2 hh∧∀i,i<n->isZ r.yS[i]! = true) (λy=>(l+1-y.2.2).toNat) ⟨0,rfl,by omega,Ext.refl _,λi hi=>by omega⟩ ?_
 rintro y hh ⟨n,rfl,hn,X,hz⟩
 refine brd (λhc=>?_) λhc=>?_
 ·refine(R.ext X).jc rfl λBP Rc=>(E1 Rc hr (k:=(n:Int)+1) (by unfold inR;simp only[Bool.and_eq_true,decide_eq_true_eq];omega)).mono ?_
  rintro _ h3 ⟨⟨y,rfl,hy⟩,x3⟩
  refine cW ?_
  rw[agm hy]
  refine br (λhb=>?_) λhb=>?_
  ·refine⟨?_,((x1.trans x2).trans X).trans x3⟩
   have:r.quiet=n:=aco (by rw[we];omega) hz (by rw[H6 (by omega)];exact nt hb)
   rw[this,wrap64 (by omega) (by omega)]
   congr 1;omega
  ·refine⟨⟨n+1,by rw[wrap64 (n:=(n:Int)+1+1) (by omega) (by omega)];rfl,by omega,X.trans x3,λi hi=>?_⟩,by rw[wrap64 (n:=(n:Int)+1+1) (by omega) (by omega)];show _<_;simp;omega⟩
   by_cases e:i=n
   ·subst e;rw[H6 (by omega)];exact nf hb
   ·exact hz i (by omega)
 ·obtain rfl:n=l:=by omega
  refine⟨?_,(x1.trans x2).trans X⟩
  have:r.quiet=n:=by
   rw[← hl]
   unfold aY.quiet
   rw[← we r,H8]
   intro a ha
   obtain⟨j,hj,rfl⟩:=List.mem_iff_getElem.1 ha
   have:=hz j (by rw[we] at hj;omega)
   rwa [getElem!_pos _ j hj] at this
  rw[this]
end
end Go.Sx
