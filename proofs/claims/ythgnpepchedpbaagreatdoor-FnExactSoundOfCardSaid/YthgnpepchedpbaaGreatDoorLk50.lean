/- Lemmas. -/
import Derived.Test.YthgnpepchedpbaaGreatDoorLk48
import Derived.Test.YthgnpepchedpbaaGreatDoorLk35
import Derived.Test.YthgnpepchedpbaaGreatDoorLk10
set_option linter.unusedVariables false
set_option linter.unusedSimpArgs false
namespace Go.Sx
open Go.Proofs Ieee
set_option maxRecDepth 100000
set_option maxHeartbeats 1000000
theorem YP{a m:Nat}{e:Int}(h:FloatKind.f32.format.read a = .number false m e)(ha:a<2 ^ 32):Pos a:=by
 have e1:FloatKind.f32.format.signWeight=2 ^ 31:=rfl
 unfold Format.read at h
 dsimp only at h
 rw[e1] at h
 have key:(a / 2 ^ 31 % 2==1)=false:=by
  split at h
  ·simp only[Datum.number.injEq] at h;exact h.1
  ·split at h
   ·simp only[Datum.number.injEq] at h;exact h.1
   ·split at h <;> cases h
 have:¬a / 2 ^ 31 % 2=1:=by simpa using key
 unfold Pos
 omega
theorem Gl{a d k:Nat}{i:Int}(hd:FloatKind.f32.format.read d = .number false k i)(h:inside a 1065353216 d=true)(ha:a<2 ^ 32):Pos a:=by
 have c:FloatKind.f32.format.read 1065353216 = .number false (2 ^ 23) (-23):=by decide +kernel
 obtain⟨B,hB⟩:∃B:Nat,1100≤B:=⟨1100,Nat.le_refl _⟩
 obtain⟨s,m,e,hr,hs,h1,_⟩:=pP hB c hd h
 have:s=false:=by
  cases s
  ·rfl
  ·exfalso
   rw[hs rfl] at h1
   unfold sv at h1
   rw[Nat.zero_mul] at h1
   have:=Nat.mul_pos (show 0<2 ^ 23 by decide) (Nat.two_pow_pos ((-23:Int)+(B:Int)).toNat)
   omega
 subst this
 exact YP hr ha
theorem abX{w:Nat}{j:Int}(h:Up .f64 w j):Pos (nar w):=by
 obtain⟨m,p,hr,_⟩:=h
 unfold nar
 refine YO ?_
 split
 ·show qn .f32<2 ^ 31;decide
 ·unfold FloatKind.decode
  rw[hr,og]
  exact Of m p
theorem two_pos{x:Nat}(h:kC x=true):Pos (HE x):=by
 obtain⟨_,k1,k2,_,_,hM,_⟩:=zJ h
 have hp:Up .f64 (ur (Bv x)) (Bv x):=⟨_,_,rL (by omega) (by omega),.inr ⟨by omega,Nat.pow_le_pow_right (by decide) (by omega)⟩⟩
 exact abX (CU hM.up hp (by omega) (by omega))
theorem GR{t:bC}{key:Int}{H2:Nat}(hb:t.xH<2 ^ 32)(hr:H2<2 ^ 32)(h:(t.period key H2).2=0):Pos (t.period key H2).1:=by
 have c2:FloatKind.f32.format.read 1184645120 = .number false 10240000 (-9):=by decide +kernel
 unfold bC.period at h ⊢
 by_cases e:(t.asked key).2=0
 ·rw[if_pos e] at h ⊢
  by_cases e2:inside H2 1065353216 1232348160=true
  ·rw[if_pos e2]
   refine LU (Gl Cz e2 hr) ?_
   unfold bC.asked at e ⊢
   split at e
   ·next h1=>
    split at e
    ·next h2=>
     split at e
     ·next h3=>
      rw[if_pos h1,if_pos h2,if_pos h3]
      refine ac5 (Gl c2 ?_ hb) (two_pos h3)
      unfold bC.ok at h1
      simp only[Bool.and_eq_true] at h1
      exact h1.1.1.1.1
     ·exact absurd e (by decide)
    ·exact absurd e (by decide)
   ·exact absurd e (by decide)
  ·rw[if_neg e2] at h;exact absurd h (by decide)
 ·rw[if_neg e] at h;exact absurd h e
def by2(c:Nat):Nat:=if feq .f32 c 1065353216 then 1073741824 else 1082130432
theorem Wx(c:Nat):Pos (by2 c):=by unfold by2 Pos;split <;> decide
def nW(e:aZ):aK:={ CW with aT:=e.aT,aq:=e.aq,mh:=e.At }
def g0(s:bI)(e:aZ):Option aK:=
 let x:=s.az[e.aq.toNat]!
 let p:=s.dv.period e.Key s.sY
 if p.2=0 then
  if x.Kind=1 then
   if(ck p.1 x.A x.B).2=0 then
    if((ck p.1 x.A x.B).1.iH x.C e.gd).2=0 then some { nW e with String:=((ck p.1 x.A x.B).1.iH x.C e.gd).1 } else none
   else none
  else if x.Kind=2 then
   if(eR (ia (fdiv .f32 p.1 (by2 x.C))) (feq .f32 x.C 1065353216) x.A x.B).2=0 then some { nW e with aI:=(eR (ia (fdiv .f32 p.1 (by2 x.C))) (feq .f32 x.C 1065353216) x.A x.B).1,gR:=e.gd } else none
  else if(fp (ia p.1) x.A x.B x.C).2=0 then some { nW e with bY:=(fp (ia p.1) x.A x.B x.C).1,gR:=e.gd } else none
 else none
theorem V7{a:Nat}{op:Bool}{k l:Nat}(h:Pos a):eR (ox a) op k l=eR (ia a) op k l:=by
 rcases G4 h with e | ⟨e1,e2,_⟩
 ·rw[e]
 ·unfold eR mB
  rw[e1,e2,Bool.and_false];rfl
theorem Ww{a:Nat}{k l s:Nat}(h:Pos a):fp (ox a) k l s=fp (ia a) k l s:=by
 rcases G4 h with e | ⟨_,_,e1,e2⟩
 ·rw[e]
 ·unfold fp
  rw[e1,e2];rfl
def vcC(n i b:Int):List Value:=[.int .i64 n,.int .i64 i,.int .i64 b,.bool false,.float .f32 0,.slice none 0 0,.int .i64 (0:Int),.int .i64 (0:Int),.float .f32 0,.float .f32 0,.float .f32 0,.float .f32 0,.float .f32 0,.int .i64 (0:Int),.float .f32 0,.float .f32 0,.float .f32 0,.float .f32 0,.float .f32 0,.float .f32 0,.slice none 0 0,.slice none 0 0,.slice none 0 0,.int .i64 (0:Int),.float .f32 0,.float .f32 0,.float .f32 0,.float .f32 0,.float .f32 0,.bool false,.float .f32 0,.float .f32 0,.float .f32 0,.slice none 0 0,.int .i64 (0:Int),.slice none 0 0,.int .i64 (0:Int),.int .i64 (0:Int),.float .f32 0,.float .f32 0,.float .f32 0,.float .f32 0,.float .f32 0,.float .f32 0,.float .f32 0]
theorem BO(e:aZ):aQ.ow [] (vcC e.aT e.aq e.At) (nW e):=by
 obtain⟨B1,B2,v1,v2,hB,hv,⟨rfl,rfl⟩,B3,B4,v3,v4,rfl,rfl,⟨rfl,rfl⟩,B5,B6,v5,v6,rfl,rfl,⟨rfl,rfl⟩,h6⟩:=vm
 obtain rfl:B6=[]:=by simpa using hB.symm
 exact⟨[],[],[.int .i64 e.aT],[.int .i64 e.aq]++([.int .i64 e.At]++v6),rfl,by have:=congrArg (List.drop 3) hv;rw[show v6=_ from this.symm];rfl,⟨rfl,rfl⟩,
  [],[],[.int .i64 e.aq],[.int .i64 e.At]++v6,rfl,rfl,⟨rfl,rfl⟩,[],[],[.int .i64 e.At],v6,rfl,rfl,⟨rfl,rfl⟩,h6⟩
end Go.Sx
namespace Go.Sx
open Go.Proofs
set_option maxRecDepth 100000
set_option maxHeartbeats 1000000
structure cp.small (x:cp):Prop where
 r:∀r ∈ x.aW,r.ae.length≤1048576
 l:∀r ∈ x.Left,r.ae.length≤1048576
 nr:x.aW.length≤1048576
 nl:x.Left.length≤1048576
 ns:x.aL.length≤1048576
theorem aiJ{l:List aY}(h:l.all aY.okf=true):∀r ∈ l,r.ok=true∧r.ae.length≤1048576:=λr hr=>by
 have:=List.all_eq_true.1 h r hr
 unfold aY.okf at this
 rw[Bool.and_eq_true] at this
 have k:=kO this.1
 exact⟨this.1,by omega⟩
theorem akz{x:cp}(h:x.ok=true):1≤x.aW.length∧x.aW.length≤3∧x.Left.length=x.aW.length∧x.aL.length+1=x.aW.length∧x.aW.all aY.okf=true∧x.Left.all aY.okf=true:=by
 rw[acS] at h
 unfold inR cp.n at h
 simp only[Bool.and_eq_true,decide_eq_true_eq] at h
 obtain⟨⟨⟨⟨⟨⟨⟨⟨⟨⟨⟨h1,h2⟩,h3⟩,h4⟩,h5⟩,_⟩,_⟩,_⟩,_⟩,_⟩,_⟩,_⟩:=h
 exact⟨by omega,by omega,h2,h3,h4,h5⟩
theorem an0{x:cp}(h:x.ok=true):x.small:=by
 obtain⟨h1,h2,h3,h4,h5,h6⟩:=akz h
 exact⟨λr hr=>(aiJ h5 r hr).2,λr hr=>(aiJ h6 r hr).2,by omega,by omega,by omega⟩
section
variable {h:ab}{q:Addr}{x:cp}
theorem ap9(R:RdP dX h q x)(hs:x.small):af ak 134 #[.pointer (some q)] (λu h'=>mN dX h h' u x) h:=by
 refine ahu.call ((Mem.start h).alc λg1 h2 x2 M0=>?_)
 have R2:=R.ext x2
 refine R2.oL1 λb1 l1 c1 S1=>R2.oL λb2 l2 c2 S2=>R2.oL λb3 l3 c3 S3=>R2.lda gK rfl λcE RE=>R2.oB (R2.oF λy1 k1=>R2.oF λy2 k2=>R2.oF λy3 k3=>?_)
 have n1:=S1.len
 have n2:=S2.len
 have n3:=S3.len
 have m1:=hs.nr
 have m2:=hs.nl
 have m3:=hs.ns
 have m1':l1≤1048576:=by omega
 have m2':l2≤1048576:=by omega
 have m3':l3*4≤140737488355328:=by omega
 have hr:=hs.r
 have hl:=hs.l
 have sE:cE.size=6:=rsz RE rfl
 have fE:cx.ow [] cE.toList x.End:=G3 (lh (AM _) (lh (Nd 3 (u0 _)) (Nd 2 (u0 _)))) _ _ _ RE
 have key:∀{hh:ab}{B1 B2 B3:List Blk}{d1 d2 d3:Option Addr}{e1 e2 e3:Nat},SlO 109 bQ B1 d1 l1 e1 x.aW->SlO 109 bQ B2 d2 l2 e2 x.Left->SlO 22 (rF .f32) B3 d3 l3 e3 x.aL->Mem h2 hh (B1++(B2++B3)) ->
   STA 13 hh ⟨g1,0,none⟩ ⟨(List.set (List.set (List.set (List.set (eE 3 6 cE [.slice d1 l1 e1,.slice d2 l2 e2,.slice d3 l3 e3,.int .i64 (0:Int),.float .f32 0,.float .f32 0,.float .f32 0,.float .f32 0,.float .f32 0,.bool false,.float .f32 0,.float .f32 0,.float .f32 0]) 9 (.bool x.Open)) 10 (.float .f32 y1)) 11 (.float .f32 y2)) 12 (.float .f32 y3))⟩ λuD=>
    LDA 13 uD ⟨g1,0,none⟩ λa23=>mN dX h uD (.agg a23) x:=by
  intro hh B1 B2 B3 d1 d2 d3 e1 e2 e3 O1 O2 O3 N
  have O0:dX.ow (B1++(B2++(B3++[]))) [.slice d1 l1 e1,.slice d2 l2 e2,.slice d3 l3 e3,.int .i64 (0:Int),.float .f32 0,.float .f32 0,.float .f32 0,.float .f32 0,.float .f32 0,.bool false,.float .f32 0,.float .f32 0,.float .f32 0] { wI with aW:=x.aW,Left:=x.Left,aL:=x.aL }:=by
   obtain⟨_,_,_,_,e1,e2,_,_,_,_,_,e3,e4,_,_,_,_,_,e5,e6,_,RR⟩:=Pr
   exact⟨_,_,[_],_,rfl,rfl,⟨_,_,_,rfl,O1⟩,_,_,[_],_,rfl,rfl,⟨_,_,_,rfl,O2⟩,_,[],[_],_,rfl,rfl,⟨_,_,_,rfl,O3⟩,[],[],[_,_,_,_,_,_],[_,_,_,_],rfl,rfl,pj,[],[],[_],[_,_,_],rfl,rfl,⟨rfl,rfl⟩,[],[],[_],[_,_],rfl,rfl,⟨rfl,0,rfl,fw0⟩,[],[],[_],[_],rfl,rfl,⟨rfl,0,rfl,fw0⟩,⟨rfl,0,rfl,fw0⟩⟩
  obtain⟨C1,P1,c1⟩:=aln O0 gK rfl fE
  obtain⟨C2,P2,c2⟩:=alA P1 Iv rfl ⟨rfl,rfl⟩
  obtain⟨C3,P3,c3⟩:=alA P2 Iu rfl ⟨rfl,y1,rfl,k1⟩
  obtain⟨C4,P4,c4⟩:=alA P3 Iw rfl ⟨rfl,y2,rfl,k2⟩
  obtain⟨C5,P5,c5⟩:=alA P4 G8 rfl ⟨rfl,y3,rfl,k3⟩
  have M:=(M0.join N).cnt (W:=(g1,118,⟨aJ⟩) :: C5) (λp=>by have:=c1 p;have:=c2 p;have:=c3 p;have:=c4 p;have:=c5 p;simp only[bN,bu,bZ] at *;omega)
  refine M.dH .here (osz (cs:=⟨_⟩) P5 rfl) (dX.jy P5) rfl .here λh3 M=>M.df .here (osz (cs:=⟨_⟩) P5 rfl) ?_
  exact⟨_,C5,rfl,P5,M.drop⟩
 have nil:=Mem.start h2
 have pz:∀{hh:ab}{p:Prop},Ext h2 hh->p->PIN h2 q 1 hh p:=λX H=>(kW q) ▸ R2.lN (off:=0) (n:=1) (by decide) X H
 (repeat' (first
  | refine RdP.lN R2 (by decide) (Mem.ext (by assumption)) ?_
  | refine pz (Mem.ext (by assumption)) ?_
  | refine siz (by assumption) ?_
  | refine lR ?_
  | refine goS (by assumption) (akh (SlR.ext (Mem.ext (by assumption)) S1) hr m1') λ_ _ _ _ _ _=>?_
  | refine goS (by assumption) (akh (SlR.ext (Mem.ext (by assumption)) S2) hl m2') λ_ _ _ _ _ _=>?_
  | refine Mem.alc (by assumption) λ_ _ _ _=>?_
  | refine alv lD (by decide) (u0 _) S3 (by assumption) (by repeat (first | exact Ew.here | apply Ew.there | apply Ew.skip)) m3' λ_ _ _ _ _ _=>?_
  | exact key (by assumption) (by assumption) (by assumption) (Mem.cnt (by assumption) (λp=>by simp only[bN,bu,bZ] at *;omega))
  | refine And.intro ?_ ?_))
end
structure cp.iW (x:cp):Prop where
 n1:1≤x.aW.length
 n3:x.aW.length≤3
 ll:x.Left.length=x.aW.length
 sl:x.aL.length+1=x.aW.length
 r:∀r ∈ x.aW,r.ok=true
 l:∀r ∈ x.Left,r.ok=true
theorem alo{x:cp}(h:x.ok=true):x.iW:=by
 obtain⟨h1,h2,h3,h4,h5,h6⟩:=akz h
 exact⟨h1,h2,h3,h4,λr hr=>(aiJ h5 r hr).1,λr hr=>(aiJ h6 r hr).1⟩
theorem nB{α β:Type}[Inhabited α][Inhabited β]{f:α->β}{l:List α}{i:Nat}(h:i<l.length):(l.map f)[i]! = f l[i]!:=by
 rw[getElem!_pos _ i (by rw[List.length_map];exact h),List.getElem_map,getElem!_pos l i h]
theorem agT{x:cp}(R:x.iW)(b:Nat):∀r ∈ (List.range x.n).map (x.rt b),r.ok=true:=λr hr=>by
 obtain⟨i,hi,rfl⟩:=List.mem_map.1 hr
 exact(Fq (R.r _ (iL (List.mem_range.1 hi)))).1
theorem ag4{x:cp}(R:x.iW):∀r ∈ (List.range x.n).map x.lf,r.ok=true:=λr hr=>by
 obtain⟨i,hi,rfl⟩:=List.mem_map.1 hr
 exact(Fq (R.l _ (iL (by have:=R.ll;have:=List.mem_range.1 hi;unfold cp.n at this;omega)))).1
theorem Rz{x:cp}(R:x.iW)(b:Nat):(x.step b).1.iW:=by
 have h1:=R.n1
 have h3:=R.n3
 have hl:=R.ll
 have hs:=R.sl
 exact⟨by simpa [cp.step,cp.n] using h1,by simpa [cp.step,cp.n] using h3,by simp[cp.step],by simpa [cp.step,cp.n] using hs,agT R b,ag4 R⟩
def cp.at(x:cp)(b i j:Nat)(e:cz):cp:={ x with aW:=pR (x.rt b) x.aW i,Left:=pR x.lf x.Left j,End:=e }
theorem Sv(x:cp)(b:Nat):x.at b 0 0 x.End=x:=by unfold cp.at;rw[zy,zy]
theorem YT{x:cp}(R:x.iW)(b:Nat):x.step b=(x.at b x.aW.length x.aW.length x.e.1,x.e.2):=by
 unfold cp.at cp.step
 rw[NW (Nat.le_refl _),NW (by rw[R.ll];exact Nat.le_refl _),R.ll]
 rfl
theorem Th(x:cp)(b:Nat):x.rt b 0=x.aW[0]!.push (kept (jW .f32 b (eG .f32 (x.d b) (x.akS (x.d b))))):=by simp[cp.rt]
theorem Tg(x:cp)(b i:Nat):x.rt b (i+1)=x.aW[i+1]!.push (kept (jW .f32 x.aW[i]!.old (x.t i))):=by simp[cp.rt]
theorem ae1{x:cp}{i:Nat}(h:i+1<x.aW.length):x.lf i=x.Left[i]!.push (kept (jW .f32 x.Left[i+1]!.old (x.t i))):=by
 unfold cp.lf cp.n
 rw[if_neg (by omega)]
theorem SV{x:cp}:x.lf (x.aW.length-1)=x.Left[x.aW.length-1]!.push (kept x.back):=by
 unfold cp.lf cp.n
 rw[if_pos rfl]
section
variable {h0 h:ab}{q:Addr}{F:Fr}{L:List Blk}{x:cp}{b i j l c:Nat}{e:cz}{bb:Option Addr}
theorem SlR.apf{α:Type}[Inhabited α]{r:Rep α}{xs:List α}{K:Addr->Prop}(S:SlR r h bb l c xs)(hz:0<r.sz)(h2:0<l)(H:∀a,RdP r h a xs[0]!->K a):bd bb 0 l K:=
 S.idx hz (by omega) (by omega) λa Ra=>H a (by
  have:RdP r h (a.add (0*r.sz)) xs[0]!:=Ra
  rwa [Nat.zero_mul,kW] at this)
theorem Pt.hd(P:Pt dX h0 h q F L x):∃bb l c,cell h q=some (.slice bb l c)∧x.aW.length=l:=by
 obtain⟨b,l,c,e,S⟩:=P.Ua (e:=109) (s:=bQ)
 exact⟨b,l,c,e,S.len⟩
theorem Pt.hdl(P:Pt dX h0 h q F L x):∃bb l c,cell h (q.add 1)=some (.slice bb l c)∧x.Left.length=l:=by
 obtain⟨b,l,c,e,S⟩:=P.hdr (off:=1) (e:=109) (s:=bQ)
 exact⟨b,l,c,e,S.len⟩
theorem T8(P:Pt dX h0 h q F L (x.at b i j e))(R:x.iW)(hi:i<x.aW.length)(hb:cell h q=some (.slice bb l c))(hl:(x.at b i j e).aW.length=l):
  ∃a0 F' L',bb=some a0∧i<l∧Pt bQ h0 h (a0.add (i*bQ.sz)) F' L' x.aW[i]! ∧ x.aW[i]!.ok=true ∧
   ∀lS h',Pt bQ lS h' (a0.add (i*bQ.sz)) F' L' (x.rt b i)->Pt dX lS h' q F L (x.at b (i+1) j e)∧∀k,cell h' (q.add k)=cell h (q.add k):=by
 have hl:x.aW.length=l:=by rw[← hl];unfold cp.at;rw[uZ]
 obtain⟨a0,F',L',eb,P',hs,close⟩:=P.aeQ (e:=109) (s:=bQ) (i:=i) hb (by omega)
 have P':Pt bQ h0 h (a0.add (i*bQ.sz)) F' L' (pR (x.rt b) x.aW i)[i]!:=P'
 rw[SW hi (Nat.le_refl _)] at P'
 refine⟨a0,F',L',eb,by omega,P',R.r _ (iL hi),λlS h' P2=>?_⟩
 obtain⟨P3,hk⟩:=close _ _ _ P2
 have P3:Pt dX lS h' q F L { x.at b i j e with aW:=(pR (x.rt b) x.aW i).set i (x.rt b i) }:=P3
 rw[Gx hi] at P3
 exact⟨P3,hk⟩
theorem T7(P:Pt dX h0 h q F L (x.at b i j e))(R:x.iW)(hi:j<x.aW.length)(hb:cell h (q.add 1)=some (.slice bb l c))(hl:(x.at b i j e).Left.length=l):
  ∃a0 F' L',bb=some a0∧j<l∧Pt bQ h0 h (a0.add (j*bQ.sz)) F' L' x.Left[j]! ∧ x.Left[j]!.ok=true ∧
   ∀lS h',Pt bQ lS h' (a0.add (j*bQ.sz)) F' L' (x.lf j)->Pt dX lS h' q F L (x.at b i (j+1) e)∧∀k,cell h' (q.add k)=cell h (q.add k):=by
 have hl:x.Left.length=l:=by rw[← hl];unfold cp.at;rw[uZ]
 have hi:j<x.Left.length:=by rw[R.ll];exact hi
 obtain⟨a0,F',L',eb,P',hs,close⟩:=P.ad6 (off:=1) (e:=109) (s:=bQ) (i:=j) hb (by omega)
 have P':Pt bQ h0 h (a0.add (j*bQ.sz)) F' L' (pR x.lf x.Left j)[j]!:=P'
 rw[SW hi (Nat.le_refl _)] at P'
 refine⟨a0,F',L',eb,by omega,P',R.l _ (iL hi),λlS h' P2=>?_⟩
 obtain⟨P3,hk⟩:=close _ _ _ P2
 have P3:Pt dX lS h' q F L { x.at b i j e with Left:=(pR x.lf x.Left j).set j (x.lf j) }:=P3
 rw[Gx hi] at P3
 exact⟨P3,hk⟩
def vp(h0 h':ab)(q:Addr)(F:Fr)(L:List Blk)(x:cp)(a:Nat)(u:Value):Prop:=(∃y,u = .float .f32 y∧FW .f32 y (x.step a).2)∧Pt dX h0 h' q F L (x.step a).1
theorem vp.of{y:Nat}(R:x.iW)(hy:FW .f32 y x.e.2)(P:Pt dX h0 h q F L (x.at b x.aW.length x.aW.length x.e.1)):vp h0 h q F L x b (.float .f32 y):=by
 unfold vp
 rw[YT R b]
 exact⟨⟨y,rfl,hy⟩,P⟩
theorem LA{n:Nat}(h1:1≤n)(h2:n<9223372036854775808):IntKind.i64.wrap ((n:Int)-1)=((n-1:Nat):Int):=by
 rw[wrap64 (by omega) (by omega)];omega
theorem OU{y w:Nat}(P:Pt dX h0 h q F L (x.at b x.aW.length (x.aW.length-1) x.e.1))(R:x.iW)(hy:FW .f32 y x.e.2)(hw:FW .f32 w x.back):
  de.J16 (λu h'=>vp h0 h' q F L x b u) q (x.aW.length:Int) y w h:=by
 have n1:=R.n1
 have n3:=R.n3
 unfold de.J16
 rw[LA n1 (by omega)]
 obtain⟨bb,l,c,eb,el⟩:=P.hdl
 refine o_l eb ?_
 obtain⟨a0,F',L',rfl,hi,P',ok,close⟩:=T7 P R (by omega) eb el
 refine idxs (by omega) (by omega) ((ic hw).go λh1 z x1 hz=>cW (P.rd.lN (off:=1) (n:=1) (by decide) x1 ?_))
 refine(oK (P'.grow x1) ok hz).mono ?_
 rintro _ h2 ⟨⟨_,rfl,_⟩,P2⟩
 rw[← SV] at P2
 obtain⟨P,_⟩:=close _ _ P2
 rw[show x.aW.length-1+1=x.aW.length by omega] at P
 exact cW (vp.of R hy P)
theorem Ut{w:Nat}(P:Pt dX h0 h q F L x)(R:x.iW)(hx:FW .f32 w b):af ak 120 #[.pointer (some q),.float .f32 w] (λu h'=>vp h0 h' q F L x b u) h:=by
 have n1:=R.n1
 have n3:=R.n3
 have nl:=R.ll
 have ns:=R.sl
 refine de.call (P.rd.oL1 λb1 l1 c1 S1=>P.rd.oL1 λb2 l2 c2 S2=>?_)
 have e1:=S1.len
 have e2:=S2.len
 refine(Eh S2 R.r (by omega)).mono ?_
 rintro _ h3 ⟨rb,cr,Br,rfl,Or,N⟩
 have P:=P.join N
 refine lR (P.rd.oL λb4 l4 c4 S4=>(Eh S4 R.l (by have:=S4.len;omega)).mono ?_)
 rintro _ h5 ⟨bl,cl,Bl,rfl,Ol,N⟩
 have e4:=S4.len
 have P:=P.join N
 have Yl:∀{h':ab}{y:cp},Pt dX h0 h' q F (Bl++(Br++L)) y->SlR (rF .f32) h' rb l2 cr (x.aW.map aY.old):=λP=>Or.look P.mem ((List.sublist_append_left _ _).trans (List.sublist_append_right _ _))
 have Yk:∀{h':ab}{y:cp},Pt dX h0 h' q F (Bl++(Br++L)) y->SlR (rF .f32) h' bl l4 cl (x.Left.map aY.old):=λP=>Ol.look P.mem (List.sublist_append_left _ _)
 refine lR ((Yk P).apf (by decide) (by omega) λp Rp=>Rp.oF1 λy hy=>fS hy hx λd hd=>?_)
 rw[nB (by omega)] at hd
 have hd:FW .f32 d (x.d b):=hd
 rw[← Sv x b] at P
 obtain⟨bb,l,c,eb,el⟩:=P.hd
 refine o_l eb ?_
 obtain⟨a0,F',L',rfl,hi,P',ok,close⟩:=T8 P R (by omega) eb el
 rw[Nat.zero_mul,kW] at P' close
 refine idxs (by omega) (by omega) (P.rd.oF λy1 k1=>P.rd.oF λy2 k2=>(Us k1 k2 hd).go λh7 y3 x7 k3=>cW (P.rd.xy (by decide) x7 (fM hd k3 λw1 j1=>P.rd.xy (by decide) x7 (fA hx j1 λw2 j2=>P.rd.xy (by decide) x7 ((ic j2).go λh8 y4 x8 k4=>cW (P.rd.xy (by decide) (x7.trans x8) ?_))))))
 refine(oK (P'.grow (x7.trans x8)) ok k4).mono ?_
 rintro _ h9 ⟨⟨_,rfl,_⟩,P2⟩
 have P2:Pt bQ h0 h9 a0 F' L' (x.rt b 0):=by rw[Th];exact P2
 obtain⟨P,_⟩:=close _ _ P2
 clear P2 P' close ok eb el hi
 refine cW ?_
 refine loop (λy hh=>∃n:Nat,y=(q,(l1:Int),rb,l2,cr,bl,l4,cl,(n:Int))∧n+1≤l1∧Pt dX h0 hh q F (Bl++(Br++L)) (x.at b (n+1) n x.End)) (λy=>(l1-y.2.2.2.2.2.2.2.2).toNat) ⟨0,rfl,by omega,P⟩ ?_
 rintro y hh ⟨n,rfl,hn,P⟩
 rw[de.B7,ag (n:=n) (by omega)]
 refine brd (λhc=>?_) λhc=>?_
 ·have hS:x.aL.length+1=l1:=by omega
  refine P.rd.oL λb3 l3 c3 S3=>?_
  have e3:x.aL.length=l3:=S3.len
  refine S3.idx (by decide) (by omega) (by omega) λp Rp=>Rp.oF1 λy1 k1=>(Yl P).idx (by decide) (by omega) (by omega) λp Rp=>Rp.oF1 λy2 k2=>(Yk P).idx (by decide) (by omega) (by omega) λp Rp=>Rp.oF1 λy3 k3=>?_
  rw[Int.toNat_natCast,nB (by omega)] at k2 k3
  have k1:FW .f32 y1 x.aL[n]!:=k1
  refine fS k2 k3 λw1 j1=>dT (dT (fM k1 j1 λt ht=>?_))
  have ht:FW .f32 t (x.t n):=ht
  obtain⟨bb,l,c,eb,el⟩:=P.hd
  refine o_l eb ?_
  obtain⟨a0,F',L',rfl,hi,P',ok,close⟩:=T8 P R (by omega) eb el
  refine idxs (by omega) (by omega) ((Yl P).idx (by decide) (by omega) (by omega) λp Rp=>Rp.oF1 λy4 k4=>?_)
  rw[Int.toNat_natCast,nB (by omega)] at k4
  refine fA k4 ht λw2 j2=>dT ((ic j2).go λh1 y5 x1 k5=>cW (P.rd.xy (by decide) x1 ?_))
  refine(oK (P'.grow x1) ok k5).mono ?_
  rintro _ h2 ⟨⟨_,rfl,_⟩,P2⟩
  rw[← Tg] at P2
  obtain⟨P,_⟩:=close _ _ P2
  clear P2 P' close ok eb el hi
  obtain⟨bb,l,c,eb,el⟩:=P.hdl
  refine cW (o_l eb ?_)
  obtain⟨a0,F',L',rfl,hi,P',ok,close⟩:=T7 P R (by omega) eb el
  refine idxs (by omega) (by omega) ((Yk P).idx (by decide) (by omega) (by omega) λp Rp=>Rp.oF1 λy6 k6=>?_)
  rw[Int.toNat_natCast,nB (by omega)] at k6
  refine fA k6 ht λw3 j3=>dT ((ic j3).go λh1 y7 x1 k7=>cW (P.rd.lN (off:=1) (n:=1) (by decide) x1 ?_))
  refine(oK (P'.grow x1) ok k7).mono ?_
  rintro _ h3 ⟨⟨_,rfl,_⟩,P2⟩
  rw[← ae1 (by omega)] at P2
  obtain⟨P,_⟩:=close _ _ P2
  exact cW ⟨⟨n+1,rfl,by omega,P⟩,by show _<_;simp;omega⟩
 ·obtain rfl:l1=n+1:=by omega
  rw[LA (by omega) (by omega)]
  refine(Yl P).idx (by decide) (by omega) (by omega) λp Rp=>Rp.oF1 λy1 k1=>?_
  rw[Int.toNat_natCast,nB (by omega)] at k1
  obtain⟨F',L',P',hs,close⟩:=P.foc gK
  refine(zw P' k1).mono ?_
  rintro _ h1 ⟨⟨y,rfl,hy⟩,P2⟩
  have P:=close _ _ _ P2
  have ee:x.e=x.End.step x.aW[n+1-1]!.old:=by unfold cp.e cp.n;rw[e1]
  have P:Pt dX h0 h1 q F (Bl++(Br++L)) (x.at b x.aW.length (x.aW.length-1) x.e.1):=by rw[ee,e1];exact P
  have hy:FW .f32 y x.e.2:=by rw[ee];exact hy
  have P:=P.sub (L2:=L) ((List.sublist_append_right _ _).trans (List.sublist_append_right _ _))
  refine cW (P.rd.oF λy2 k2=>fM k2 hy λw1 j1=>P.rd.oB (br (λhb=>?_) λhb=>?_))
  ·have hb:x.Open=true:=hb
   rw[show((n+1:Nat):Int)=(x.aW.length:Int) by rw[e1]]
   refine OU P R hy ?_
   unfold cp.back
   rw[hb];exact kM j1
  ·have hb:x.Open=false:=hb
   rw[show((n+1:Nat):Int)=(x.aW.length:Int) by rw[e1]]
   refine OU P R hy ?_
   unfold cp.back
   rw[hb];exact j1
end
end Go.Sx
