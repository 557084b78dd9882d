/- Lemmas. -/
import Derived.Test.YthhepeklpgefkaaGreatDoorLk35
import Derived.Test.YthhepeklpgefkaaGreatDoorLk24
import Derived.Test.YthhepeklpgefkaaGreatDoorLk29
set_option linter.unusedVariables false
set_option linter.unusedSimpArgs false
namespace Go.Sx
open Go.Proofs
set_option maxRecDepth 100000
set_option maxHeartbeats 1000000
structure cF.mi (x:cF):Prop where
 n1:1≤x.aY.length
 n3:x.aY.length≤3
 ll:x.Left.length=x.aY.length
 sl:x.aG.length+1=x.aY.length
 r:∀r ∈ x.aY,r.ok=true
 l:∀r ∈ x.Left,r.ok=true
theorem QF{x:cF}(h:x.ok=true):x.mi:=by
 obtain⟨h1,h2,h3,h4,h5,h6⟩:=Ni h
 exact ⟨h1,h2,h3,h4,λr hr=>(F6 h5 r hr).1,λr hr=>(F6 h6 r hr).1⟩
theorem qB{α β:Type}[Inhabited α][Inhabited β]{f:α->β}{l:List α}{i:Nat}(h:i<l.length):(l.map f)[i]! = f l[i]!:=by
 rw[getElem!_pos _ i (by rw[List.length_map];exact h),List.getElem_map,getElem!_pos l i h]
theorem anW{x:cF}(R:x.mi)(b:Nat):∀r ∈ (List.range x.n).map (x.rt b),r.ok=true:=λr hr=>by
 obtain⟨i,hi,rfl⟩:=List.mem_map.1 hr
 exact (Lr (R.r _ (jT (List.mem_range.1 hi)))).1
theorem amn{x:cF}(R:x.mi):∀r ∈ (List.range x.n).map x.lf,r.ok=true:=λr hr=>by
 obtain⟨i,hi,rfl⟩:=List.mem_map.1 hr
 exact (Lr (R.l _ (jT (by have:=R.ll;have:=List.mem_range.1 hi;unfold cF.n at this;omega)))).1
theorem Yd{x:cF}(R:x.mi)(b:Nat):(x.step b).1.mi:=by
 have h1:=R.n1
 have h3:=R.n3
 have hl:=R.ll
 have hs:=R.sl
 exact ⟨by simpa [cF.step,cF.n] using h1,by simpa [cF.step,cF.n] using h3,by simp[cF.step],by simpa [cF.step,cF.n] using hs,anW R b,amn R⟩
def cF.at(x:cF)(b i j:Nat)(e:cN):cF:={ x with aY:=uk (x.rt b) x.aY i,Left:=uk x.lf x.Left j,End:=e }
theorem YV(x:cF)(b:Nat):x.at b 0 0 x.End=x:=by unfold cF.at;rw[AP,AP]
theorem aft{x:cF}(R:x.mi)(b:Nat):x.step b=(x.at b x.aY.length x.aY.length x.e.1,x.e.2):=by
 unfold cF.at cF.step
 rw[MI (Nat.le_refl _),MI (by rw[R.ll];exact Nat.le_refl _),R.ll]
 rfl
theorem ZN(x:cF)(b:Nat):x.rt b 0=x.aY[0]!.push (kept (mF .f32 b (fP .f32 (x.d b) (x.asC (x.d b))))):=by simp[cF.rt]
theorem ZM(x:cF)(b i:Nat):x.rt b (i+1)=x.aY[i+1]!.push (kept (mF .f32 x.aY[i]!.old (x.t i))):=by simp[cF.rt]
theorem akr{x:cF}{i:Nat}(h:i+1<x.aY.length):x.lf i=x.Left[i]!.push (kept (mF .f32 x.Left[i+1]!.old (x.t i))):=by
 unfold cF.lf cF.n
 rw[if_neg (by omega)]
theorem Zr{x:cF}:x.lf (x.aY.length-1)=x.Left[x.aY.length-1]!.push (kept x.back):=by
 unfold cF.lf cF.n
 rw[if_pos rfl]
section
variable {h0 h:ab}{q:Addr}{F:Fr}{L:List Blk}{x:cF}{b i j l c:Nat}{e:cN}{bb:Option Addr}
theorem SlR.axj{α:Type}[Inhabited α]{r:Rep α}{xs:List α}{K:Addr->Prop}(S:SlR r h bb l c xs)(hz:0<r.sz)(h2:0<l)(H:∀a,RdP r h a xs[0]!->K a):bg bb 0 l K:=
 S.idx hz (by omega) (by omega) λa Ra=>H a (by
  have:RdP r h (a.add (0*r.sz)) xs[0]!:=Ra
  rwa [Nat.zero_mul,ny] at this)
theorem Pt.hd(P:Pt ck h0 h q F L x):∃bb l c,cell h q=some (.slice bb l c)∧x.aY.length=l:=by
 obtain⟨b,l,c,e,S⟩:=P.aaN (e:=aq) (s:=bo)
 exact ⟨b,l,c,e,S.len⟩
theorem Pt.hdl(P:Pt ck h0 h q F L x):∃bb l c,cell h (q.add 1)=some (.slice bb l c)∧x.Left.length=l:=by
 obtain⟨b,l,c,e,S⟩:=P.hdr (off:=1) (e:=aq) (s:=bo)
 exact ⟨b,l,c,e,S.len⟩
theorem ZD(P:Pt ck h0 h q F L (x.at b i j e))(R:x.mi)(hi:i<x.aY.length)(hb:cell h q=some (.slice bb l c))(hl:(x.at b i j e).aY.length=l):
  ∃a0 F' L',bb=some a0∧i<l∧Pt bo h0 h (a0.add (i*bo.sz)) F' L' x.aY[i]! ∧ x.aY[i]!.ok=true ∧
   ∀pP h',Pt bo pP h' (a0.add (i*bo.sz)) F' L' (x.rt b i)->Pt ck pP h' q F L (x.at b (i+1) j e)∧∀k,cell h' (q.add k)=cell h (q.add k):=by
 have hl:x.aY.length=l:=by rw[← hl];unfold cF.at;rw[AO]
 obtain⟨a0,F',L',eb,P',hs,close⟩:=P.alf (e:=aq) (s:=bo) (i:=i) hb (by omega)
 have P':Pt bo h0 h (a0.add (i*bo.sz)) F' L' (uk (x.rt b) x.aY i)[i]!:=P'
 rw[SY hi (Nat.le_refl _)] at P'
 refine ⟨a0,F',L',eb,by omega,P',R.r _ (jT hi),λpP h' P2=>?_⟩
 obtain⟨P3,hk⟩:=close _ _ _ P2
 have P3:Pt ck pP h' q F L { x.at b i j e with aY:=(uk (x.rt b) x.aY i).set i (x.rt b i) }:=P3
 rw[I5 hi] at P3
 exact ⟨P3,hk⟩
theorem ZC(P:Pt ck h0 h q F L (x.at b i j e))(R:x.mi)(hi:j<x.aY.length)(hb:cell h (q.add 1)=some (.slice bb l c))(hl:(x.at b i j e).Left.length=l):
  ∃a0 F' L',bb=some a0∧j<l∧Pt bo h0 h (a0.add (j*bo.sz)) F' L' x.Left[j]! ∧ x.Left[j]!.ok=true ∧
   ∀pP h',Pt bo pP h' (a0.add (j*bo.sz)) F' L' (x.lf j)->Pt ck pP h' q F L (x.at b i (j+1) e)∧∀k,cell h' (q.add k)=cell h (q.add k):=by
 have hl:x.Left.length=l:=by rw[← hl];unfold cF.at;rw[AO]
 have hi:j<x.Left.length:=by rw[R.ll];exact hi
 obtain⟨a0,F',L',eb,P',hs,close⟩:=P.ajE (off:=1) (e:=aq) (s:=bo) (i:=j) hb (by omega)
 have P':Pt bo h0 h (a0.add (j*bo.sz)) F' L' (uk x.lf x.Left j)[j]!:=P'
 rw[SY hi (Nat.le_refl _)] at P'
 refine ⟨a0,F',L',eb,by omega,P',R.l _ (jT hi),λpP h' P2=>?_⟩
 obtain⟨P3,hk⟩:=close _ _ _ P2
 have P3:Pt ck pP h' q F L { x.at b i j e with Left:=(uk x.lf x.Left j).set j (x.lf j) }:=P3
 rw[I5 hi] at P3
 exact ⟨P3,hk⟩
def Bu(h0 h':ab)(q:Addr)(F:Fr)(L:List Blk)(x:cF)(a:Nat)(u:Value):Prop:=(∃y,u = .float .f32 y∧FW .f32 y (x.step a).2)∧Pt ck h0 h' q F L (x.step a).1
theorem Bu.of{y:Nat}(R:x.mi)(hy:FW .f32 y x.e.2)(P:Pt ck h0 h q F L (x.at b x.aY.length x.aY.length x.e.1)):Bu h0 h q F L x b (.float .f32 y):=by
 unfold Bu
 rw[aft R b]
 exact ⟨⟨y,rfl,hy⟩,P⟩
theorem SR{n:Nat}(h1:1≤n)(h2:n<9223372036854775808):IntKind.i64.wrap ((n:Int)-1)=((n-1:Nat):Int):=by
 rw[wrap64 (by omega) (by omega)];omega
theorem VJ{y w:Nat}(P:Pt ck h0 h q F L (x.at b x.aY.length (x.aY.length-1) x.e.1))(R:x.mi)(hy:FW .f32 y x.e.2)(hw:FW .f32 w x.back):
  dP.J16 (λu h'=>Bu h0 h' q F L x b u) q (x.aY.length:Int) y w h:=by
 have n1:=R.n1
 have n3:=R.n3
 unfold dP.J16
 rw[SR n1 (by omega)]
 obtain⟨bb,l,c,eb,el⟩:=P.hdl
 refine o_l eb ?_
 obtain⟨a0,F',L',rfl,hi,P',ok,close⟩:=ZC P R (by omega) eb el
 refine idxs (by omega) (by omega) ((jO hw).go λh1 z x1 hz=>dv (P.rd.jQ (off:=1) (n:=1) (by decide) x1 ?_))
 refine (uh (P'.grow x1) ok hz).mono ?_
 rintro _ h2 ⟨⟨_,rfl,_⟩,P2⟩
 rw[← Zr] at P2
 obtain⟨P,_⟩:=close _ _ P2
 rw[show x.aY.length-1+1=x.aY.length by omega] at P
 exact dv (Bu.of R hy P)
theorem ab4{w:Nat}(P:Pt ck h0 h q F L x)(R:x.mi)(hx:FW .f32 w b):ae ai xQ #[.pointer (some q),.float .f32 w] (λu h'=>Bu h0 h' q F L x b u) h:=by
 have n1:=R.n1
 have n3:=R.n3
 have nl:=R.ll
 have ns:=R.sl
 refine dP.call (P.rd.oL1 λb1 l1 c1 S1=>P.rd.oL1 λb2 l2 c2 S2=>?_)
 have e1:=S1.len
 have e2:=S2.len
 refine (K9 S2 R.r (by omega)).mono ?_
 rintro _ h3 ⟨rb,cr,Br,rfl,Or,N⟩
 have P:=P.join N
 refine lZ (P.rd.oL λb4 l4 c4 S4=>(K9 S4 R.l (by have:=S4.len;omega)).mono ?_)
 rintro _ h5 ⟨bl,cl,Bl,rfl,Ol,N⟩
 have e4:=S4.len
 have P:=P.join N
 have aeU:∀{h':ab}{y:cF},Pt ck h0 h' q F (Bl++(Br++L)) y->SlR (rF .f32) h' rb l2 cr (x.aY.map bc.old):=λP=>Or.look P.mem ((List.sublist_append_left _ _).trans (List.sublist_append_right _ _))
 have aeT:∀{h':ab}{y:cF},Pt ck h0 h' q F (Bl++(Br++L)) y->SlR (rF .f32) h' bl l4 cl (x.Left.map bc.old):=λP=>Ol.look P.mem (List.sublist_append_left _ _)
 refine lZ ((aeT P).axj (by decide) (by omega) λp Rp=>Rp.oF1 λy hy=>fS hy hx λd hd=>?_)
 rw[qB (by omega)] at hd
 have hd:FW .f32 d (x.d b):=hd
 rw[← YV x b] at P
 obtain⟨bb,l,c,eb,el⟩:=P.hd
 refine o_l eb ?_
 obtain⟨a0,F',L',rfl,hi,P',ok,close⟩:=ZD P R (by omega) eb el
 rw[Nat.zero_mul,ny] at P' close
 refine idxs (by omega) (by omega) (P.rd.oF λy1 k1=>P.rd.oF λy2 k2=>(ab3 k1 k2 hd).go λh7 y3 x7 k3=>dv (P.rd.Da (by decide) x7 (fM hd k3 λw1 j1=>P.rd.Da (by decide) x7 (fA hx j1 λw2 j2=>P.rd.Da (by decide) x7 ((jO j2).go λh8 y4 x8 k4=>dv (P.rd.Da (by decide) (x7.trans x8) ?_))))))
 refine (uh (P'.grow (x7.trans x8)) ok k4).mono ?_
 rintro _ h9 ⟨⟨_,rfl,_⟩,P2⟩
 have P2:Pt bo h0 h9 a0 F' L' (x.rt b 0):=by rw[ZN];exact P2
 obtain⟨P,_⟩:=close _ _ P2
 clear P2 P' close ok eb el hi
 refine dv ?_
 refine loop (λy hh=>∃n:Nat,y=(q,(l1:Int),rb,l2,cr,bl,l4,cl,(n:Int))∧n+1≤l1∧Pt ck h0 hh q F (Bl++(Br++L)) (x.at b (n+1) n x.End)) (λy=>(l1-y.2.2.2.2.2.2.2.2).toNat) ⟨0,rfl,by omega,P⟩ ?_
 rintro y hh ⟨n,rfl,hn,P⟩
 rw[dP.B7,ag (n:=n) (by omega)]
 refine brd (λhc=>?_) λhc=>?_
 ·have hS:x.aG.length+1=l1:=by omega
  refine P.rd.oL λb3 l3 c3 S3=>?_
  have e3:x.aG.length=l3:=S3.len
  refine S3.idx (by decide) (by omega) (by omega) λp Rp=>Rp.oF1 λy1 k1=>(aeU P).idx (by decide) (by omega) (by omega) λp Rp=>Rp.oF1 λy2 k2=>(aeT P).idx (by decide) (by omega) (by omega) λp Rp=>Rp.oF1 λy3 k3=>?_
  rw[Int.toNat_natCast,qB (by omega)] at k2 k3
  have k1:FW .f32 y1 x.aG[n]!:=k1
  refine fS k2 k3 λw1 j1=>dS (dS (fM k1 j1 λt ht=>?_))
  have ht:FW .f32 t (x.t n):=ht
  obtain⟨bb,l,c,eb,el⟩:=P.hd
  refine o_l eb ?_
  obtain⟨a0,F',L',rfl,hi,P',ok,close⟩:=ZD P R (by omega) eb el
  refine idxs (by omega) (by omega) ((aeU P).idx (by decide) (by omega) (by omega) λp Rp=>Rp.oF1 λy4 k4=>?_)
  rw[Int.toNat_natCast,qB (by omega)] at k4
  refine fA k4 ht λw2 j2=>dS ((jO j2).go λh1 y5 x1 k5=>dv (P.rd.Da (by decide) x1 ?_))
  refine (uh (P'.grow x1) ok k5).mono ?_
  rintro _ h2 ⟨⟨_,rfl,_⟩,P2⟩
  rw[← ZM] at P2
  obtain⟨P,_⟩:=close _ _ P2
  clear P2 P' close ok eb el hi
  obtain⟨bb,l,c,eb,el⟩:=P.hdl
  refine dv (o_l eb ?_)
  obtain⟨a0,F',L',rfl,hi,P',ok,close⟩:=ZC P R (by omega) eb el
  refine idxs (by omega) (by omega) ((aeT P).idx (by decide) (by omega) (by omega) λp Rp=>Rp.oF1 λy6 k6=>?_)
  rw[Int.toNat_natCast,qB (by omega)] at k6
  refine fA k6 ht λw3 j3=>dS ((jO j3).go λh1 y7 x1 k7=>dv (P.rd.jQ (off:=1) (n:=1) (by decide) x1 ?_))
  refine (uh (P'.grow x1) ok k7).mono ?_
  rintro _ h3 ⟨⟨_,rfl,_⟩,P2⟩
  rw[← akr (by omega)] at P2
  obtain⟨P,_⟩:=close _ _ P2
  exact dv ⟨⟨n+1,rfl,by omega,P⟩,by show _<_;simp;omega⟩
 ·obtain rfl:l1=n+1:=by omega
  rw[SR (by omega) (by omega)]
  refine (aeU P).idx (by decide) (by omega) (by omega) λp Rp=>Rp.oF1 λy1 k1=>?_
  rw[Int.toNat_natCast,qB (by omega)] at k1
  obtain⟨F',L',P',hs,close⟩:=P.foc dO
  refine (EX P' k1).mono ?_
  rintro _ h1 ⟨⟨y,rfl,hy⟩,P2⟩
  have P:=close _ _ _ P2
  have ee:x.e=x.End.step x.aY[n+1-1]!.old:=by unfold cF.e cF.n;rw[e1]
  have P:Pt ck h0 h1 q F (Bl++(Br++L)) (x.at b x.aY.length (x.aY.length-1) x.e.1):=by rw[ee,e1];exact P
  have hy:FW .f32 y x.e.2:=by rw[ee];exact hy
  have P:=P.sub (L2:=L) ((List.sublist_append_right _ _).trans (List.sublist_append_right _ _))
  refine dv (P.rd.oF λy2 k2=>fM k2 hy λw1 j1=>P.rd.oB (br (λhb=>?_) λhb=>?_))
  ·have hb:x.Open=true:=hb
   rw[show ((n+1:Nat):Int)=(x.aY.length:Int) by rw[e1]]
   refine VJ P R hy ?_
   unfold cF.back
   rw[hb];exact o3 j1
  ·have hb:x.Open=false:=hb
   rw[show ((n+1:Nat):Int)=(x.aY.length:Int) by rw[e1]]
   refine VJ P R hy ?_
   unfold cF.back
   rw[hb];exact j1
end
section
variable {h0 h:ab}{q:Addr}{F:Fr}{L:List Blk}{x a:Nat}
theorem Pt.av9{α:Type}{r:Rep α}{d:α}{g T j:Nat}{cs:Array Value}{v:Value}{L':List Blk}{K:ab->Prop}(P:Pt r h0 h q F L d)(l:iR L g cs)(hj:j<cs.size)(k:Fp L g T cs L')(H:∀h',Pt r h0 h' q F ((g,T,cs.setIfInBounds j v) :: L') d->K h'):ST1 h ⟨g,j,none⟩ v K:=by
 obtain⟨e,jV,B,M,O⟩:=P
 have N:=M.pick (.there (Fp.skip k))
 exact N.st1 .here hj .here λh' M'=>H h' ⟨e,jV,B,M'.cnt λp=>by simp only[bO,bz,cg];omega,O⟩
theorem ZJ{k:FloatKind}{y b:Nat}(hy:FW k y b):∀{xs:List Nat}{vs:List Value}{i:Nat},rds (rF k) h vs xs->rds (rF k) h (vs.set i (.float k y)) (xs.set i b)
 | [],vs,i,R=>by
  obtain rfl:vs=[]:=R
  simp[rds]
 | a :: xs,vs,i,R=>by
  obtain⟨v1,v2,rfl,⟨z,rfl,hz⟩,R2⟩:=R
  cases i with
  | zero=>exact ⟨[.float k y],v2,rfl,⟨y,rfl,hy⟩,R2⟩
  | succ i=>exact ⟨[.float k z],v2.set i (.float k y),rfl,⟨z,rfl,hz⟩,ZJ hy R2⟩
theorem agW{k:FloatKind}{y b n i:Nat}{cs:Array Value}{xs:List Nat}(hy:FW k y b)(R:(iv n (rF k)).rd h cs.toList xs):(iv n (rF k)).rd h (cs.setIfInBounds i (.float k y)).toList (xs.set i b):=
 ⟨by rw[List.length_set];exact R.1,by rw[Array.toList_setIfInBounds];exact ZJ hy R.2⟩
end
theorem Ns{k:FloatKind}{h h':ab}:∀{xs:List Nat}{vs:List Value},rds (rF k) h vs xs->rds (rF k) h' vs xs
 | [],vs,R=>R
 | a :: xs,vs,R=>by
  obtain⟨v1,v2,rfl,R1,R2⟩:=R
  exact ⟨v1,v2,rfl,R1,Ns R2⟩
def FA(n:Nat)(cs:Array Value)(xs:List Nat):Prop:=(iv n (rF .f32)).rd #[] cs.toList xs
section
variable {n:Nat}{cs:Array Value}{xs:List Nat}
theorem FA.rd(R:FA n cs xs)(h:ab):(iv n (rF .f32)).rd h cs.toList xs:=⟨R.1,Ns R.2⟩
theorem FA.size(R:FA n cs xs):cs.size=n:=by have:=rsz R rfl;rw[this];exact Nat.mul_one n
end
section
variable {h0 h:ab}{q:Addr}{F:Fr}{L:List Blk}{n:Nat}
theorem Pt.apg{α:Type}{r:Rep α}{d:α}{g T i y b:Nat}{cs:Array Value}{xs:List Nat}{L':List Blk}{K:ab->Prop}(P:Pt r h0 h q F L d)(l:iR L g cs)(k:Fp L g T cs L')(R:FA n cs xs)(hi:i<n)(hy:FW .f32 y b)(H:∀h' FQ,FA n FQ (xs.set i b)->Pt r h0 h' q F ((g,T,FQ) :: L') d->K h'):ST1 h ((⟨g,0,none⟩:Addr).add (i*1)) (.float .f32 y) K:=by
 rw[eW,Nat.zero_add]
 refine P.av9 l (by rw[R.size];omega) k λh' P'=>H h' _ ?_ P'
 rw[Nat.mul_one]
 exact agW hy R
end
def CP:List Nat:=[0,0,0]
theorem FA.akI:FA 3 ⟨jx⟩ CP:=⟨rfl,Ns (h:=#[]) ((IJ 3).look (Mem.start #[]) (List.Sublist.refl _))⟩
theorem aku{n:Nat}(f:Nat->Nat)(h:n<3):(uk f CP n).set n (f n)=uk f CP (n+1):=I5 h
section
variable {h0 h:ab}{q:Addr}{F:Fr}{L:List Blk}{x:cF}{b:Nat}
theorem Pt.head{α β:Type}{r:Rep α}{e:Nat}{s:Rep β}{get:α->List β}{put:α->List β->α}{a:α}{off:Nat}(P:Pt r h0 h q F L a)[Fc:dn r off (rSl e s) get put]:∃bb l c,cell h (q.add off)=some (.slice bb l c)∧SlR s h bb l c (get a):=P.hdr
theorem VK{y w:Nat}(P:Pt ck h0 h q F L (x.at b x.aY.length (x.aY.length-1) x.e.1))(R:x.mi)(hy:FW .f32 y x.e.2)(hw:FW .f32 w x.back):
  bB.J21 (λu h'=>Bu h0 h' q F L x b u) q (x.aY.length:Int) y w h:=by
 have n1:=R.n1
 have n3:=R.n3
 unfold bB.J21
 rw[SR n1 (by omega)]
 obtain⟨bb,l,c,eb,el⟩:=P.hdl
 refine o_l eb ?_
 obtain⟨a0,F',L',rfl,hi,P',ok,close⟩:=ZC P R (by omega) eb el
 refine idxs (by omega) (by omega) ((ri hw).go λh1 z x1 hz=>dv (P.rd.jQ (off:=1) (n:=1) (by decide) x1 ?_))
 refine (oe (P'.grow x1) ok hz).mono ?_
 rintro _ h2 ⟨⟨_,rfl,_⟩,P2⟩
 rw[← Zr] at P2
 obtain⟨P,_⟩:=close _ _ P2
 rw[show x.aY.length-1+1=x.aY.length by omega] at P
 exact dv (Bu.of R hy P)
theorem TT{w:Nat}(P:Pt ck h0 h q F L x)(R:x.mi)(hx:FW .f32 w b):ae ai qS #[.pointer (some q),.float .f32 w] (λu h'=>Bu h0 h' q F L x b u) h:=by
 have n1:=R.n1
 have n3:=R.n3
 have nl:=R.ll
 have ns:=R.sl
 refine bB.call (P.rd.oL1 λb1 l1 c1 S1=>(Mem.start h).alc λg1 h1 x1 N=>N.alc λg2 h2 x2 N=>?_)
 have e1:=S1.len
 have P:Pt ck h0 h2 q F ((g2,dH,⟨jx⟩) :: (g1,dH,⟨jx⟩) :: L) x:=P.join N
 refine loop (λy hh=>∃(n:Nat) (cr cl:Array Value),y=(q,w,(l1:Int),⟨g1,0,none⟩,⟨g2,0,none⟩,(l1:Int),(n:Int))∧n≤l1∧FA 3 cr (uk (λi=>x.aY[i]!.old) CP n)∧FA 3 cl (uk (λi=>x.Left[i]!.old) CP n) ∧
  Pt ck h0 hh q F ((g2,dH,cl) :: (g1,dH,cr) :: L) x) (λy=>(l1-y.2.2.2.2.2.2).toNat) ⟨0,_,_,rfl,by omega,by rw[AP];exact FA.akI,by rw[AP];exact FA.akI,P⟩ ?_
 rintro y hh ⟨n,cr,cl,rfl,hn,Fr,Fl,P⟩
 refine brd (λhc=>?_) λhc=>?_
 ·refine P.rd.oL1 λb2 l2 c2 S2=>?_
  have e2:=S2.len
  refine S2.idx lV (by omega) (by omega) λp Rp=>Rp.gi rfl λca Ra=>P.rd.oL λb3 l3 c3 S3=>?_
  have e3:=S3.len
  refine S3.idx lV (by omega) (by omega) λp Rp=>Rp.gi rfl λcb Rb=>?_
  rw[Int.toNat_natCast] at Ra Rb
  refine (AU Ra (R.r _ (jT (by omega)))).mono ?_
  rintro _ h3 ⟨⟨y1,rfl,k1⟩,x3⟩
  refine dv (Rp.pin rfl x3 (P.rd.jQ (off:=1) (n:=1) (by decide) x3 (idx (by omega) (by omega) ((AU (bo.ext x3 Rb) (R.l _ (jT (by omega)))).mono ?_))))
  rintro _ h4 ⟨⟨y2,rfl,k2⟩,x4⟩
  have P:=P.grow (x3.trans x4)
  refine dv (P.apg (.there .here) (.there .here) Fr (i:=n) (by omega) k1 λh5 cr' Fr' P=>idx (by omega) (by omega) (P.apg (.there .here) (.there .here) Fl (i:=n) (by omega) k2 λh6 cl' Fl' P=>?_))
  rw[aku (λi=>x.aY[i]!.old) (by omega)] at Fr'
  rw[aku (λi=>x.Left[i]!.old) (by omega)] at Fl'
  exact ⟨⟨n+1,cr',cl',by rw[ag (by omega)],by omega,Fr',Fl',P.cnt λp=>by simp only[bz];omega⟩,by rw[ag (by omega)];show _<_;simp;omega⟩
 obtain rfl:n=l1:=by omega
 clear hc hn N
 have oR:∀{i:Nat},i<n->(uk (λi=>x.aY[i]!.old) CP n)[i]! = x.aY[i]!.old:=λhi=>Zs (f:=λi=>x.aY[i]!.old) (show _<3 by omega) hi
 have oL:∀{i:Nat},i<n->(uk (λi=>x.Left[i]!.old) CP n)[i]! = x.Left[i]!.old:=λhi=>Zs (f:=λi=>x.Left[i]!.old) (show _<3 by omega) hi
 refine idx (by omega) (by omega) ((P.mem.rdp .here (Fl.rd hh)).fst (Foc.arr (rF .f32) 0 (by decide)) |>.oF1 λy hy=>fS hy hx λd hd=>?_)
 rw[oL (by omega)] at hd
 have hd:FW .f32 d (x.d b):=hd
 rw[← YV x b] at P
 obtain⟨bb,l,c,eb,el⟩:=P.hd
 refine o_l eb ?_
 obtain⟨a0,F',L',rfl,hi,P',ok,close⟩:=ZD P R (by omega) eb el
 rw[Nat.zero_mul,ny] at P' close
 refine idxs (by omega) (by omega) (P.rd.oF λy1 k1=>P.rd.oF λy2 k2=>(acT k1 k2 hd).go λh7 y3 x7 k3=>dv (P.rd.Da (by decide) x7 (fM hd k3 λw1 j1=>P.rd.Da (by decide) x7 (fA hx j1 λw2 j2=>P.rd.Da (by decide) x7 ((ri j2).go λh8 y4 x8 k4=>dv (P.rd.Da (by decide) (x7.trans x8) ?_))))))
 refine (oe (P'.grow (x7.trans x8)) ok k4).mono ?_
 rintro _ h9 ⟨⟨_,rfl,_⟩,P2⟩
 have P2:Pt bo h0 h9 a0 F' L' (x.rt b 0):=by rw[ZN];exact P2
 obtain⟨P,_⟩:=close _ _ P2
 clear P2 P' close ok eb el hi
 obtain⟨b3,l3,c3,e3,S3⟩:=P.head (off:=2) (e:=au) (s:=rF .f32)
 have n3':x.aG.length=l3:=S3.len
 refine dv (o_l e3 ?_)
 refine loop (λy hh=>∃m:Nat,y=(q,(n:Int),⟨g1,0,none⟩,⟨g2,0,none⟩,b3,l3,c3,(l3:Int),(m:Int))∧m+1≤n∧cell hh (q.add 2)=some (.slice b3 l3 c3)∧Pt ck h0 hh q F ((g2,dH,cl) :: (g1,dH,cr) :: L) (x.at b (m+1) m x.End)) (λy=>(l3-y.2.2.2.2.2.2.2.2).toNat) ⟨0,rfl,by omega,e3,P⟩ ?_
 rintro y hh ⟨m,rfl,hm,e3,P⟩
 have rA:∀{h':ab}{y:cF},Pt ck h0 h' q F ((g2,dH,cl) :: (g1,dH,cr) :: L) y->RdP (iv 3 (rF .f32)) h' ⟨g1,0,none⟩ (uk (λi=>x.aY[i]!.old) CP n):=λP=>P.mem.rdp (.there .here) (Fr.rd _)
 have lA:∀{h':ab}{y:cF},Pt ck h0 h' q F ((g2,dH,cl) :: (g1,dH,cr) :: L) y->RdP (iv 3 (rF .f32)) h' ⟨g2,0,none⟩ (uk (λi=>x.Left[i]!.old) CP n):=λP=>P.mem.rdp .here (Fl.rd _)
 rw[bB.B11,ag (n:=m) (by omega)]
 refine brd (λhc=>?_) λhc=>?_
 ·have S3:SlR (rF .f32) hh b3 l3 c3 x.aG:=P.slr (off:=2) e3
  refine S3.idx (by decide) (by omega) (by omega) λp Rp=>Rp.oF1 λy1 k1=>idx (by omega) (by omega) (((rA P).elem (i:=m) (by omega)).oF1 λy2 k2=>idx (by omega) (by omega) (((lA P).elem (i:=m+1) (by omega)).oF1 λy3 k3=>?_))
  rw[oR (by omega)] at k2
  rw[oL (by omega)] at k3
  have k1:FW .f32 y1 x.aG[m]!:=k1
  refine fS k2 k3 λw1 j1=>fM k1 j1 λt ht=>?_
  have ht:FW .f32 t (x.t m):=ht
  obtain⟨bb,l,c,eb,el⟩:=P.hd
  refine o_l eb ?_
  obtain⟨a0,F',L',rfl,hi,P',ok,close⟩:=ZD P R (by omega) eb el
  refine idxs (by omega) (by omega) (idx (by omega) (by omega) (((rA P).elem (i:=m) (by omega)).oF1 λy4 k4=>?_))
  rw[oR (by omega)] at k4
  refine fA k4 ht λw2 j2=>dS ((ri j2).go λh1 y5 x1 k5=>dv (P.rd.Da (by decide) x1 ?_))
  refine (oe (P'.grow x1) ok k5).mono ?_
  rintro _ h2 ⟨⟨_,rfl,_⟩,P2⟩
  rw[← ZM] at P2
  obtain⟨P,hk⟩:=close _ _ P2
  rw[← hk] at e3
  clear P2 P' close ok eb el hi hk
  obtain⟨bb,l,c,eb,el⟩:=P.hdl
  refine dv (o_l eb ?_)
  obtain⟨a0,F',L',rfl,hi,P',ok,close⟩:=ZC P R (by omega) eb el
  refine idxs (by omega) (by omega) (idx (by omega) (by omega) (((lA P).elem (i:=m+1) (by omega)).oF1 λy6 k6=>?_))
  rw[oL (by omega)] at k6
  refine fA k6 ht λw3 j3=>dS ((ri j3).go λh1 y7 x1 k7=>dv (P.rd.jQ (off:=1) (n:=1) (by decide) x1 ?_))
  refine (oe (P'.grow x1) ok k7).mono ?_
  rintro _ h3 ⟨⟨_,rfl,_⟩,P2⟩
  rw[← akr (by omega)] at P2
  obtain⟨P,hk⟩:=close _ _ P2
  rw[← hk] at e3
  exact dv ⟨⟨m+1,rfl,by omega,e3,P⟩,by show _<_;simp;omega⟩
 ·obtain rfl:n=m+1:=by omega
  rw[SR (by omega) (by omega)]
  refine idx (by omega) (by omega) (((rA P).elem (i:=m+1-1) (by omega)).oF1 λy1 k1=>?_)
  rw[oR (by omega)] at k1
  obtain⟨F',L',P',hs,close⟩:=P.foc dO
  refine (uH P' k1).mono ?_
  rintro _ h1 ⟨⟨y,rfl,hy⟩,P2⟩
  have P:=close _ _ _ P2
  have ee:x.e=x.End.step x.aY[m+1-1]!.old:=by unfold cF.e cF.n;rw[e1]
  have P:Pt ck h0 h1 q F ((g2,dH,cl) :: (g1,dH,cr) :: L) (x.at b x.aY.length (x.aY.length-1) x.e.1):=by rw[ee,e1];exact P
  have hy:FW .f32 y x.e.2:=by rw[ee];exact hy
  have P:=P.sub (L2:=L) (.cons _ (.cons _ (List.Sublist.refl _)))
  refine dv (P.rd.oF λy2 k2=>fM k2 hy λw1 j1=>P.rd.oB (br (λhb=>?_) λhb=>?_))
  ·have hb:x.Open=true:=hb
   rw[show ((m+1:Nat):Int)=(x.aY.length:Int) by rw[e1]]
   refine VK P R hy ?_
   unfold cF.back
   rw[hb];exact o3 j1
  ·have hb:x.Open=false:=hb
   rw[show ((m+1:Nat):Int)=(x.aY.length:Int) by rw[e1]]
   refine VK P R hy ?_
   unfold cF.back
   rw[hb];exact j1
end
structure ajp.mi (x:ajp):Prop where
 e:x.ajo.ok=true
 t:∀t ∈ x.au9,inR t.atJ 1 x.ajo.len=true
 c:∀c ∈ x.ajm,c.Ring.ok=true
 l:∀r ∈ x.ajr,r.ok=true
 c2:x.ajm.length=2
 l4:x.ajr.length=4
 d4:x.aoT.length=4
 g4:x.aoW.length=4
def isZ(a:Nat):Bool:=feq .f32 a 0
def bc.Eg(r:bc):List Nat:=(List.range r.af.length).map λi:Nat=>r.back ((i:Int)+1)
def PJ:List Nat->Nat
 | []=>0
 | a :: l=>if isZ a then PJ l+1 else 0
def bc.quiet(r:bc):Nat:=PJ r.Eg
theorem ZO:∀l:List Nat,PJ l≤l.length
 | []=>Nat.le_refl _
 | a :: l=>by
  have:=ZO l
  unfold PJ
  split
  ·simp only[List.length_cons];omega
  ·simp
theorem Nx:∀l:List Nat,(PJ l=l.length)↔∀a ∈ l,isZ a=true
 | []=>by simp[PJ]
 | a :: l=>by
  have ih:=Nx l
  have hle:=ZO l
  unfold PJ
  constructor
  ·intro h
   split at h
   ·next hz=>
    intro b hb
    rcases List.mem_cons.1 hb with rfl | hb
    ·exact hz
    ·exact ih.1 (by simp only[List.length_cons] at h;omega) b hb
   ·simp at h
  ·intro h
   rw[if_pos (h a (List.mem_cons_self ..)),ih.2 λb hb=>h b (List.mem_cons_of_mem _ hb)]
   rfl
theorem Cv(r:bc):r.Eg.length=r.af.length:=by simp[bc.Eg]
theorem Gw{r:bc}(h:r.ok=true){i:Nat}(hi:i<r.af.length):r.back ((i:Int)+1)=r.af[(if i<r.At.toNat then r.At.toNat-1-i else r.At.toNat+r.af.length-1-i)]!:=by
 obtain⟨k1,k2,k3,k4,k5⟩:=mH h
 unfold bc.back
 have hl:r.len=r.af.length:=rfl
 congr 1
 rw[hl]
 split
 ·next vR=>
  rw[show r.At-((i:Int)+1)+(r.af.length:Int)=(r.At-1-i)+r.af.length by omega,Int.add_emod_right,Int.emod_eq_of_lt (by omega) (by omega)]
  omega
 ·next hge=>
  rw[Int.emod_eq_of_lt (by omega) (by omega)]
  omega
theorem Nw{r:bc}(h:r.ok=true)(a:Nat):a ∈ r.Eg↔a ∈ r.af:=by
 obtain⟨k1,k2,k3,k4,k5⟩:=mH h
 unfold bc.Eg
 simp only[List.mem_map,List.mem_range]
 constructor
 ·rintro ⟨i,hi,rfl⟩
  rw[Gw h hi]
  refine jT ?_
  split <;> omega
 ·intro ha
  obtain⟨j,hj,rfl⟩:=List.mem_iff_getElem.1 ha
  by_cases vR:j<r.At.toNat
  ·refine ⟨r.At.toNat-1-j,by omega,?_⟩
   rw[Gw h (by omega),if_pos (by omega),show r.At.toNat-1-(r.At.toNat-1-j)=j by omega,getElem!_pos _ j hj]
  ·refine ⟨r.At.toNat+r.af.length-1-j,by omega,?_⟩
   rw[Gw h (by omega),if_neg (by omega),show r.At.toNat+r.af.length-1-(r.At.toNat+r.af.length-1-j)=j by omega,getElem!_pos _ j hj]
theorem Yh{r:bc}(h:r.ok=true):(r.quiet=r.af.length)↔r.zero=true:=by
 unfold bc.quiet bc.zero
 rw[← Cv r,Nx,List.all_eq_true]
 exact ⟨λH a ha=>H a ((Nw h a).2 ha),λH a ha=>H a ((Nw h a).1 ha)⟩
set_option maxHeartbeats 400000
section
variable {h0 h:ab}{q:Addr}{F:Fr}{L:List Blk}{x a:Nat}
theorem ac3{r:bc}(hr:r.ok=true){k:Int}(hk:inR k 1 r.len=true){l:Nat}(hl:r.af.length=l):
  Int.tmod (IntKind.i64.wrap (IntKind.i64.wrap (r.At+(l:Int))-k)) (l:Int)=(r.At-k+r.len) % r.len∧0≤(r.At-k+r.len) % r.len∧(r.At-k+r.len) % r.len<(l:Int):=by
 have:=mH hr
 have e:r.len=(l:Int):=by unfold bc.len;rw[hl]
 rw[e] at hk ⊢
 unfold inR at hk
 simp only[Bool.and_eq_true,decide_eq_true_eq] at hk
 refine ⟨?_,Int.emod_nonneg _ (by omega),Int.emod_lt_of_pos _ (by omega)⟩
 rw[wrap64 (n:=r.At+l) (by omega) (by omega),wrap64 (by omega) (by omega),Int.tmod_eq_emod_of_nonneg (by omega),show r.At+(l:Int)-k=r.At-k+l by omega]
theorem Yz{r:bc}(hr:r.ok=true){k:Int}(hk:inR k 1 r.len=true){l:Nat}(hl:r.af.length=l):
  Int.tmod (IntKind.i64.wrap (IntKind.i64.wrap (r.At-k)+(l:Int))) (l:Int)=(r.At-k+r.len) % r.len:=by
 have:=mH hr
 have e:r.len=(l:Int):=by unfold bc.len;rw[hl]
 rw[e] at hk ⊢
 unfold inR at hk
 simp only[Bool.and_eq_true,decide_eq_true_eq] at hk
 rw[wrap64 (n:=r.At-k) (by omega) (by omega),wrap64 (by omega) (by omega),Int.tmod_eq_emod_of_nonneg (by omega)]
theorem JR{cs:Array Value}{r:bc}(R0:bo.rd h cs.toList r)(hr:r.ok=true){k:Int}(hk:inR k 1 r.len=true):
  ae ai pg #[.agg cs,.int .i64 k] (λu h'=>(∃y,u = .float .f32 y∧FW .f32 y (r.back k))∧Ext h h') h:=by
 have h1:=mH hr
 refine yc.call (fj R0 λg h1 x1 R=>R.oL2 λb l c S=>goX (kN _ _ _ _) λh2 x2=>cX ((R.ext x2).oL2 λb' l' c' S'=>(R.ext x2).oI2 ?_))
 have e:=Yz hr hk S.len
 obtain⟨_,e1,e2⟩:=ac3 hr hk S.len
 have hl:=S.len
 have hl':=S'.len
 refine nz (by omega) ?_
 rw[e]
 exact S'.idx (by decide) e1 (by omega) λp Rp=>Rp.oF1 λy hy=>⟨⟨y,rfl,hy⟩,x1.trans x2⟩
end
set_option maxHeartbeats 1000000
section
variable {h:ab}{q:Addr}
theorem afj{y a:Nat}(hy:FW .f32 y a):(FloatKind.f32.format.order y 0==some .eq)=isZ a:=by rw[cY hy fw0];rfl
theorem anm{y a:Nat}(hy:FW .f32 y a):(FloatKind.f32.format.order y 0 != some .eq) = !isZ a:=by rw[bne,afj hy]
theorem C8{f:cN}(R:RdP bQ h q f):ae ai lF #[.pointer (some q)] (λu h'=>u = .bool f.still∧Ext h h') h:=by
 refine Ai.call (idx (by omega) (by omega) (R.oF λy hy=>?_))
 rw[afj hy]
 refine br (λhb=>idx (by omega) (by omega) (R.oF λz hz=>?_)) λhb=>?_
 ·rw[afj hz]
  refine ⟨?_,Ext.refl _⟩
  have hb:feq .f32 f.S[0]! 0=true:=hb
  unfold cN.still;rw[hb];rfl
 ·refine ⟨?_,Ext.refl _⟩
  have hb:feq .f32 f.S[0]! 0=false:=hb
  unfold cN.still;rw[hb];rfl
theorem pe{cs:Array Value}{f:cN}(R0:bQ.rd h cs.toList f):ae ai iI #[.agg cs] (λu h'=>u = .bool f.still∧Ext h h') h:=by
 refine pQ.call (fj R0 λg h1 x1 R=>idx (by omega) (by omega) (R.oF2 λy hy=>?_))
 rw[afj hy]
 refine br (λhb=>idx (by omega) (by omega) (R.oF2 λz hz=>?_)) λhb=>?_
 ·rw[afj hz]
  refine ⟨?_,x1⟩
  have hb:feq .f32 f.S[0]! 0=true:=hb
  unfold cN.still;rw[hb];rfl
 ·refine ⟨?_,x1⟩
  have hb:feq .f32 f.S[0]! 0=false:=hb
  unfold cN.still;rw[hb];rfl
theorem Jr{b:Option Addr}{l c:Nat}{rs:List bc}(S:SlR bo h b l c rs):ae ai oD #[.slice b l c] (λu h'=>u = .bool (rs.all bc.zero)∧Ext h h') h:=by
 have hl:=S.len
 have k1:=S.2.1
 have k2:=S.2.2.1
 have k3:=bW
 refine ed.call (loop (λy hh=>∃n:Nat,y=(b,l,c,(n:Int))∧n≤l∧hh=h∧∀i,i<n->rs[i]!.zero=true) (λy=>(l-y.2.2.2).toNat) ⟨0,rfl,by omega,rfl,λi hi=>by omega⟩ ?_)
 rintro y hh ⟨n,rfl,hn,rfl,hz⟩
 refine brd (λhc=>?_) λhc=>?_
 ·have no:(∃j,j<rs[n]!.af.length∧isZ rs[n]!.af[j]! = false)->(Value.bool false = .bool (rs.all bc.zero)∧Ext hh hh):=λ⟨j,hj,e⟩=>by
   refine ⟨?_,Ext.refl _⟩
   have:rs[n]!.zero=false:=by
    unfold bc.zero
    rw[List.all_eq_false]
    exact ⟨_,jT hj,by unfold isZ at e;rw[e];simp⟩
   rw[jI,all_false (f:=λi=>rs[i]!.zero) (i:=n) (by omega) this]
  refine loop (λy hh'=>∃k:Nat,y=(b,l,c,(n:Int),(k:Int))∧k≤rs[n]!.af.length∧hh'=hh∧∀j,j<k->isZ rs[n]!.af[j]! = true) (λy=>(rs[n]!.af.length-y.2.2.2.2).toNat) ⟨0,rfl,by omega,rfl,λi hi=>by omega⟩ ?_
  rintro y hh' ⟨k,rfl,hk,rfl,hj⟩
  refine S.idx lV (by omega) (by omega) λp Rp=>Rp.oL1 λb2 l2 c2 S2=>?_
  have hl2:rs[n]!.af.length=l2:=S2.len
  have j1:=S2.2.1
  have j2:=S2.2.2.1
  refine brd (λXb=>?_) λXb=>?_
  ·refine S.idx lV (by omega) (by omega) λp Rp=>Rp.oL1 λb3 l3 c3 S3=>?_
   have hl3:rs[n]!.af.length=l3:=S3.len
   refine S3.idx (by decide) (by omega) (by omega) λp3 Rp3=>Rp3.oF1 λy hy=>?_
   rw[anm hy]
   refine br (λhb=>no ⟨k,by omega,nt hb⟩) λhb=>?_
   refine ⟨⟨k+1,by rw[ag (by omega)],by omega,rfl,λj hj'=>?_⟩,by rw[ag (by omega)];show (((rs[n]!.af.length:Nat):Int)-((k+1:Nat):Int)).toNat<(((rs[n]!.af.length:Nat):Int)-((k:Nat):Int)).toNat;omega⟩
   by_cases e:j=k
   ·subst e;exact nf hb
   ·exact hj j (by omega)
  ·refine ⟨⟨n+1,by rw[ag (by omega)],by omega,rfl,λi hi=>?_⟩,by rw[ag (by omega)];show _<_;simp;omega⟩
   by_cases e:i=n
   ·subst e
    unfold bc.zero
    rw[jI]
    exact all_true (f:=λj=>isZ rs[i]!.af[j]!) λj hj'=>hj j (by omega)
   ·exact hz i (by omega)
 ·refine ⟨?_,Ext.refl _⟩
  rw[jI,all_true λi hi=>hz i (by omega)]
theorem aj5{l:List Nat}{n:Nat}(hn:n<l.length)(h1:∀i,i<n->isZ l[i]! = true)(h2:isZ l[n]! = false):PJ l=n:=by
 induction l generalizing n with
 | nil=>simp at hn
 | cons a l ih=>
  cases n with
  | zero=>unfold PJ;rw[show isZ a=false from h2];rfl
  | succ n=>
   unfold PJ
   rw[if_pos (show isZ a=true from h1 0 (by omega)),ih (by simpa using hn) (λi hi=>h1 (i+1) (by omega)) h2]
theorem Nv{r:bc}{i:Nat}(hi:i<r.af.length):r.Eg[i]! = r.back ((i:Int)+1):=by
 rw[List.getElem!_eq_getElem?_getD]
 unfold bc.Eg
 rw[List.getElem?_map,List.getElem?_range hi];rfl
theorem Rl{cs:Array Value}{r:bc}(R0:bo.rd h cs.toList r)(hr:r.ok=true):ae ai sf #[.agg cs] (λu h'=>u = .int .i64 (r.quiet:Int)∧Ext h h') h:=by
 have h1:=mH hr
 have hlen:r.len=r.af.length:=rfl
 refine fR.call (fj R0 λg h1 x1 R=>R.oL2 λb l c S=>goX (kN _ _ _ _) λh2 x2=>cX ?_)
 have hl:r.af.length=l:=S.len
 have R:=R.ext x2
 refine loop (λy hh=>∃n:Nat,y=(⟨g,0,none⟩,(l:Int),(n:Int)+1)∧n≤l∧Ext h2 hh∧∀i,i<n->isZ r.Eg[i]! = true) (λy=>(l+1-y.2.2).toNat) ⟨0,rfl,by omega,Ext.refl _,λi hi=>by omega⟩ ?_
 rintro y hh ⟨n,rfl,hn,X,hz⟩
 refine brd (λhc=>?_) λhc=>?_
 ·refine (R.ext X).gi rfl λFQ Rc=>(JR Rc hr (k:=(n:Int)+1) (by unfold inR;simp only[Bool.and_eq_true,decide_eq_true_eq];omega)).mono ?_
  rintro _ h3 ⟨⟨y,rfl,hy⟩,x3⟩
  refine dv ?_
  rw[anm hy]
  refine br (λhb=>?_) λhb=>?_
  ·refine ⟨?_,((x1.trans x2).trans X).trans x3⟩
   have:r.quiet=n:=aj5 (by rw[Cv];omega) hz (by rw[Nv (by omega)];exact nt hb)
   rw[this,wrap64 (by omega) (by omega)]
   congr 1;omega
  ·refine ⟨⟨n+1,by rw[wrap64 (n:=(n:Int)+1+1) (by omega) (by omega)];rfl,by omega,X.trans x3,λi hi=>?_⟩,by rw[wrap64 (n:=(n:Int)+1+1) (by omega) (by omega)];show _<_;simp;omega⟩
   by_cases e:i=n
   ·subst e;rw[Nv (by omega)];exact nf hb
   ·exact hz i (by omega)
 ·obtain rfl:n=l:=by omega
  refine ⟨?_,(x1.trans x2).trans X⟩
  have:r.quiet=n:=by
   rw[← hl]
   unfold bc.quiet
   rw[← Cv r,Nx]
   intro a ha
   obtain⟨j,hj,rfl⟩:=List.mem_iff_getElem.1 ha
   have:=hz j (by rw[Cv] at hj;omega)
   rwa [getElem!_pos _ j hj] at this
  rw[this]
end
end Go.Sx
