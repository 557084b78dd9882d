/- Lemmas. -/
import Derived.Test.YthgnpepchedpbaaGreatDoorLk51
import Derived.Test.YthgnpepchedpbaaGreatDoorLf9
import Derived.Test.YthgnpepchedpbaaGreatDoorLk50
import Derived.Test.YthgnpepchedpbaaGreatDoorLh0
set_option linter.unusedVariables false
set_option linter.unusedSimpArgs false
namespace Go.Sx
open Go.Proofs
set_option maxRecDepth 100000
set_option maxHeartbeats 2000000
section
variable {h0 h:ab}{q e1:Addr}{F:Fr}{L:List Blk}{p:aC}{n:Nat}{e:aZ}
theorem aff:FW .f32 1056964608 half:=eM (by decide) (by decide)
theorem Ka{B:List Blk}{cs:Array Value}{v:aK}{b:Option Addr}{l c:Nat}{K:ab->Prop}(P:Pt bz h0 h q F (B++L) p)(O:aQ.ow B cs.toList v)(h1:1≤p.al.length)(hb:cell h (q.add 6)=some (.slice b l c))(H:∀h',Pt bz h0 h' q F L { p with al:=p.al.set (placeOf p.al) v }->K h'):bd b (placeOf p.al:Int) l λa=>STA 45 h (a.add ((Int.toNat (placeOf p.al:Int))*45)) cs K:=by
 have S:=P.slr (off:=6) hb
 have hl:p.al.length=l:=S.len
 have hp:=GU h1
 obtain⟨a0,rfl,st⟩:=Pt.stE (off:=6) (i:=placeOf p.al) (n:=45) P hb (by omega) rfl O λh' P' _=>H h' P'
 refine idxs (by omega) (by omega) ?_
 rw[Int.toNat_natCast]
 exact st
theorem abQ{vs:List aK}{s:bI}{m:Int}{i:Nat}(hi:i<vs.length)(he:vs[i]!.aT=m)(ho:∀j,j<vs.length->j≠i->¬vs[j]!.aT=m):vs.set i (o5 s vs[i]!)=vs.map (ir s m):=by
 apply List.ext_getElem
 ·simp
 ·intro j h1 h2
  rw[List.length_set] at h1
  rw[List.getElem_map]
  by_cases ej:i=j
  ·subst ej
   rw[List.getElem_set_self,← getElem!_pos vs i h1]
   unfold ir
   rw[if_pos he]
  ·rw[List.getElem_set_ne ej,← getElem!_pos vs j h1]
   unfold ir
   rw[if_neg (ho j h1 (by omega))]
theorem map_none{vs:List aK}{s:bI}{m:Int}(ho:∀j,j<vs.length->¬vs[j]!.aT=m):vs.map (ir s m)=vs:=by
 apply List.ext_getElem
 ·simp
 ·intro j h1 h2
  rw[List.getElem_map]
  unfold ir
  rw[if_neg (by rw[← getElem!_pos vs j h2];exact ho j h2)]
theorem WR{a0:Addr}{l c i:Nat}{K:ab->Prop}(P:Pt bz h0 h q F L p)(hb:cell h (q.add 6)=some (.slice (some a0) l c))(hi:i<p.al.length)(zq:0≤p.al[i]!.aq∧p.al[i]!.aq<p.Score.az.length)(H:∀h',Pt bz h0 h' q F L { p with al:=p.al.set i (o5 p.Score p.al[i]!) }->(∀k,cell h' (q.add k)=cell h (q.add k))->K h'):
  ST1 h ((a0.add (i*45)).add 3) (.bool true) λsW=>ST1 sW ((a0.add (i*45)).add 4) (.float .f32 0) λre=>oL (cell re (q.add 4)) λQE QF afw=>oI .i64 (cell re ((a0.add (i*45)).add 1)) λn31=>
   bd QE n31 QF λp32=>oI .i64 (cell re ((p32.add ((Int.toNat n31)*5)).add 1)) λQZ=>
   BIF (QZ==(1:Int)) (oF .f32 (cell re (((a0.add (i*45)).add 5).add 14)) λZ2=>FOP .f32 (FloatKind.f32.format.mul Z2 1056964608) λr35=>ST1 re (((a0.add (i*45)).add 5).add 14) (.float .f32 r35) K) (K re):=by
 have S:=P.slr (off:=6) hb
 have hl:p.al.length=l:=S.len
 obtain⟨a1,F',C,e1,P',close⟩:=P.JA (off:=6) hb (i:=i) (by omega)
 cases e1
 have P':Pt aQ h0 h (a0.add (i*45)) F' (C++L) p.al[i]!:=P'
 refine P'.stB λh1 P1=>P1.stF fw0 λh2 P2=>?_
 obtain⟨Pp,hk⟩:=close _ _ _ _ P2
 refine Pp.rd.oL (off:=4) λb4 l4 c4 S4=>?_
 have e4:p.Score.az.length=l4:=S4.len
 refine P2.rd.oI (S4.idx (by decide) zq.1 (by show p.al[i]!.aq<_;omega) λa4 R4=>?_)
 have R4:RdP aA h2 (a4.add (p.al[i]!.aq.toNat*5)) p.Score.az[p.al[i]!.aq.toNat]!:=R4
 refine R4.oI ?_
 have kd:p.Score.kind p.al[i]! = p.Score.az[p.al[i]!.aq.toNat]!.Kind:=rfl
 refine br (λk=>?_) λk=>?_
 ·have k:p.Score.kind p.al[i]! = 1:=by rw[kd];simpa using k
  obtain⟨F2,L2,P3,cl⟩:=P2.aie bO
  refine P3.rd.oF λy hy=>fM hy aff λz hz=>P3.stF hz λh3 P4=>?_
  obtain⟨Pq,hk3⟩:=close _ _ _ _ (cl _ _ _ _ P4).1
  refine H h3 ?_ hk3
  have eg:o5 p.Score p.al[i]! = { p.al[i]! with Gone:=true,gR:=0,String:={ p.al[i]!.String with fT:=eG .f32 p.al[i]!.String.fT half } }:=by unfold o5;rw[if_pos k]
  rw[eg]
  exact Pq
 ·have k:¬p.Score.kind p.al[i]! = 1:=by rw[kd];simpa using k
  refine H h2 ?_ hk
  have eg:o5 p.Score p.al[i]! = { p.al[i]! with Gone:=true,gR:=0 }:=by unfold o5;rw[if_neg k]
  rw[eg]
  exact Pp
theorem vE(hk:e.Kind=2):p.qm e=match g0 p.Score e with | some v=>{ p with al:=p.al.set (placeOf p.al) v } | none=>{ p with ft:=p.ft+1 }:=by unfold aC.qm;rw[if_pos hk];cases g0 p.Score e <;> rfl
theorem yw(hk:¬e.Kind=2):p.qm e={ p with al:=p.al.map (ir p.Score e.aT) }:=by unfold aC.qm;rw[if_neg hk]
theorem NB(P:Pt bz h0 h q F L p)(E:HY h q e1 n)(he:p.Score.bo[n]! = e)(H:W0 p e):af ak 74 #[.pointer (some q),.pointer (some e1)] (λu h'=>u = .tuple ⟨[]⟩∧Pt bz h0 h' q F L (p.qm e)) h:=by
 have hm:=cu
 have Re:RdP bF h e1 e:=by have:=E.rd P;rwa [he] at this
 refine fg.call (Re.oI (br (λk=>?_) λk=>?_))
 ·have hk:e.Kind=2:=by simpa using k
  rw[vE hk]
  refine(Ja (P.rd.fst gx) Re H.s (H.st hk)).mono ?_
  rintro _ h2 ⟨cs,B,v,rfl,O,N,hv⟩
  have P:=P.join N
  refine jJ (gw (bt ((Mem.start h2).alc λg8 h3 x3 N8=>N8.dH .here (osz O rfl) (aQ.jy O) rfl .here λh4 N8=>?_)))
  have P:=P.join N8
  cases ho:g0 p.Score e with
  | none=>
   refine cM rfl (P.rd.oI ?_)
   have hsk:=H.sk
   rw[wrap64 (n:=p.ft+1) (by omega) (by omega)]
   exact P.stI λh5 P=>⟨rfl,P.cnt λp=>by simp only[bN];omega⟩
  | some w=>
   obtain rfl:=hv w ho
   obtain⟨b,l,c,hb,S⟩:=P.hdr (off:=6) (e:=122) (s:=aQ)
   have Rv:RdP aQ h4 ⟨g8,0,none⟩ v:=N8.rdp .here (aQ.look O P.mem ((List.sublist_append_left _ _).trans (List.sublist_append_right _ _)))
   refine vu rfl (o_l hb (o_l hb (N8.df .here (osz O rfl) (goX (Qu S H.n1) λh5 x5=>cN (Rv.pin rfl x5 (P.rd.lN (by decide) x5 ?_))))))
   exact Ka ((P.grow x5).cnt (W:=B++L) λp=>by simp only[bN];omega) O H.n1 (x5.cell hb) λh6 P=>⟨rfl,P⟩
 ·have hk:¬e.Kind=2:=by simpa using k
  rw[yw hk]
  refine loop (λy hh=>∃i:Nat,y=(q,e1,(i:Int))∧i≤p.al.length∧HY hh q e1 n∧Pt bz h0 hh q F L { p with al:=oN (ir p.Score e.aT) p.al i }) (λy=>((p.al.length:Int)-y.2.2).toNat) ⟨0,rfl,by omega,E,by rw[DA];exact P⟩ ?_
  rintro y hh ⟨i,rfl,hi,E,P⟩
  obtain⟨b,l,c,hb,S⟩:=P.hdr (off:=6) (e:=122) (s:=aQ)
  have hl:(oN (ir p.Score e.aT) p.al i).length=l:=S.len
  rw[yL] at hl
  have s1:=S.2.1
  have s2:=S.2.2.1
  have Re:RdP bF hh e1 e:=by have:=E.rd P;rwa [show({ p with al:=oN (ir p.Score e.aT) p.al i }:aC).Score.bo[n]! = e from he] at this
  refine o_l hb (brd (λhc=>o_l hb ?_) λhc=>⟨rfl,?_⟩)
  ·have fin:∀{h':ab},HY h' q e1 n->Pt bz h0 h' q F L { p with al:=oN (ir p.Score e.aT) p.al (i+1) }->((∃i':Nat,(q,e1,IntKind.i64.wrap ((i:Int)+1))=(q,e1,(i':Int))∧i'≤p.al.length∧HY h' q e1 n∧Pt bz h0 h' q F L { p with al:=oN (ir p.Score e.aT) p.al i' })∧((p.al.length:Int)-IntKind.i64.wrap ((i:Int)+1)).toNat<((p.al.length:Int)-i).toNat):=λE P=>
    ⟨⟨i+1,by rw[ag (by omega)],by omega,E,P⟩,by rw[ag (by omega)];omega⟩
   have Nm:(oN (ir p.Score e.aT) p.al i)[i]! = p.al[i]!:=NY (by omega)
   have ajy:=JS (f:=ir p.Score e.aT) (l:=p.al) (n:=i) (by omega)
   obtain⟨a,ha,Ra⟩:=S.elem (i:=i) (by omega) (by decide)
   have Ra:RdP aQ hh (a.add (i*45)) (oN (ir p.Score e.aT) p.al i)[i]!:=Ra
   rw[Nm] at Ra
   subst ha
   by_cases hn:p.al[i]!.aT=e.aT
   ·have es:ir p.Score e.aT p.al[i]! = o5 p.Score p.al[i]!:=by unfold ir;rw[if_pos hn]
    refine idxs (by omega) (by omega) ?_
    rw[Int.toNat_natCast]
    refine Ra.oI1 (Re.oI (vu (by simpa using hn) ?_))
    refine WR (i:=i) P hb (by show i<(oN (ir p.Score e.aT) p.al i).length;rw[yL];omega) (by show 0≤(oN (ir p.Score e.aT) p.al i)[i]!.aq∧(oN (ir p.Score e.aT) p.al i)[i]!.aq<_;rw[Nm];exact H.ins i (by omega) hn) (λh' P' hk'=>?_)
    refine fin (E.aph hk') ?_
    have P':Pt bz h0 h' q F L { p with al:=(oN (ir p.Score e.aT) p.al i).set i (o5 p.Score (oN (ir p.Score e.aT) p.al i)[i]!) }:=P'
    rw[Nm,← es,ajy] at P'
    exact P'
   ·refine idxs (by omega) (by omega) ?_
    rw[Int.toNat_natCast]
    refine Ra.oI1 (Re.oI (cM (by simpa using hn) ?_))
    have es:ir p.Score e.aT p.al[i]! = p.al[i]!:=by unfold ir;rw[if_neg hn]
    refine fin E ?_
    rw[← ajy,es,← Nm]
    have:(oN (ir p.Score e.aT) p.al i).set i (oN (ir p.Score e.aT) p.al i)[i]! = oN (ir p.Score e.aT) p.al i:=by
     rw[getElem!_pos _ i (by rw[yL];omega),List.set_getElem_self]
    rw[this];exact P
  ·rw[Gy (by omega)] at P;exact P
theorem Xf{ce:Array Value}(P:Pt bz h0 h q F L p)(R0:bF.rd h ce.toList e)(H:W0 p e):af ak 114 #[.pointer (some q),.agg ce] (λu h'=>u = .tuple ⟨[]⟩∧Pt bz h0 h' q F L (p.qm e)) h:=by
 refine da.call ((Mem.start h).alc λg1 h1 x1 N=>?_)
 have P:=P.join N
 have Re:RdP bF h1 ⟨g1,0,none⟩ e:=N.rdp .here (bF.ext N.ext R0)
 refine Re.oI2 (br (λk=>?_) λk=>?_)
 ·have hk:e.Kind=2:=by simpa using k
  rw[vE hk]
  refine(P.rd.fst gx).jc rfl λc4 R4=>Re.jc rfl λc5 R5=>?_
  have key:∀{hh:ab}{g:Nat}{B:List Blk}{cv:Array Value},aQ.ow B cv.toList (Q9 (g0 p.Score e))->Mem h1 hh ((g,122,⟨bg⟩) :: B) ->
    STA 45 hh ⟨g,0,none⟩ cv λj0=>da.J3 (λu h'=>u = .tuple ⟨[]⟩∧Pt bz h0 h' q F L (match g0 p.Score e with | some v=>{ p with al:=p.al.set (placeOf p.al) v } | none=>{ p with ft:=p.ft+1 })) q ⟨g,0,none⟩ (WK (g0 p.Score e)) j0:=λ{hh g B cv} O N=>by
   refine N.dH .here (osz O rfl) (aQ.jy O) rfl .here λh4 N=>?_
   have P:=P.join N
   unfold da.J3
   cases ho:g0 p.Score e with
   | none=>
    refine vu (by decide) (P.rd.oI ?_)
    have hsk:=H.sk
    rw[wrap64 (n:=p.ft+1) (by omega) (by omega)]
    exact P.stI λh5 P=>⟨rfl,P.cnt λp=>by simp only[bN,bu];omega⟩
   | some v=>
    rw[ho] at O
    have O:aQ.ow B cv.toList v:=O
    obtain⟨b,l,c,hb,S⟩:=P.hdr (off:=6) (e:=122) (s:=aQ)
    have Rv:RdP aQ h4 ⟨g,0,none⟩ v:=N.rdp .here (aQ.look O N (List.sublist_cons_self _ _))
    refine cM rfl (o_l hb (N.df .here (osz O rfl) (goX (ac4 P.rd H.n1) λh5 x5=>cN (Rv.pin rfl x5 (P.rd.lN (by decide) x5 ?_)))))
    exact Ka ((P.grow x5).cnt (W:=B++L) λp=>by simp only[bN,bu];omega) O H.n1 (x5.cell hb) λh6 P=>⟨rfl,P⟩
  have V:∀{hh:ab},Ext h1 hh->af ak 168 #[.agg c4,.agg c5] (λu h'=>fk aQ hh h' u (Q9 (g0 p.Score e)) (WK (g0 p.Score e))) hh:=λx=>Sg (bU.ext x R4) (bF.ext x R5) H.s (H.st hk)
  refine⟨?_,?_⟩
  ·refine fk.go (Mem.start h1) (V (Ext.refl _)) λh2 cv B N2 O sv=>jJ (gw (cN (N2.alc λg h3 x3 N3=>Re.pin rfl N3.ext (P.rd.xy (by decide) N3.ext ?_))))
   exact key O (N3.cnt λp=>by simp only[List.append_eq,bN,bu,bZ];omega)
  ·refine(Mem.start h1).alc λg h2 x2 N2=>Re.pin rfl N2.ext (P.rd.xy (by decide) N2.ext (fk.go N2 (V N2.ext) λh3 cv B N3 O sv=>jJ (gw (cN ?_))))
   exact key O (N3.cnt λp=>by simp only[List.append_eq,bN,bu,bZ];omega)
 ·have hk:¬e.Kind=2:=by simpa using k
  rw[yw hk]
  have T:FD ak aQ h1 (.func (.func 171) #[] #[.pointer (some ⟨g1,0,none⟩)]) (λv=>v.aT==e.aT):=λcv v hx xx Rv=>by
   show af ak 171 #[.agg cv,.pointer (some ⟨g1,0,none⟩)] _ hx
   exact jR.call (gD Rv λg h' x' R'=>R'.oI2 ((Re.ext (xx.trans x')).oI ⟨rfl,x'⟩))
  refine P.rd.oL λb l c S=>goX (td S T) λh2 x2=>cN ?_
  have P:=P.grow x2
  rcases yq (λv:aK=>v.aT==e.aT) p.al with⟨ef,hf⟩ | ⟨m,hm,ef,hf,hp⟩
  ·rw[ef]
   refine brd (λ_=>⟨rfl,?_⟩) λk=>by omega
   rw[map_none λj hj=>by have:=hf j hj;simpa using this]
   exact P.drop
  ·rw[ef]
   have hp:p.al[m]!.aT=e.aT:=by simpa using hp
   refine brd (λk=>by omega) λ_=>?_
   obtain⟨b,l,c,hb,S⟩:=P.hdr (off:=6) (e:=122) (s:=aQ)
   have hl:p.al.length=l:=S.len
   obtain⟨a,ha,Ra⟩:=S.elem (i:=m) (by omega) (by decide)
   subst ha
   refine o_l hb (idxs (by omega) (by omega) ?_)
   rw[Int.toNat_natCast]
   refine WR (i:=m) P hb hm (H.ins m hm hp) λh' P' _=>⟨rfl,?_⟩
   rw[abQ hm hp λj hj ne=>?_] at P'
   ·exact P'.drop
   ·rcases Nat.lt_or_ge j m with h | h
    ·have:=hf j h;simpa using this
    ·exact H.one m j (by omega) hj hp
end
end Go.Sx
namespace Go.Sx
open Ieee
theorem ZD(t:Bool):feq .f32 (cn .f32 (FloatKind.f32.format.word t 0)) 0=true:=by cases t <;> decide +kernel
theorem Jb{a m:Nat}{s:Bool}{e:Int}(h:FloatKind.f32.format.read a = .number s m e):∃t,FloatKind.f32.format.sub a a=some (FloatKind.f32.format.word t 0):=by
 have rf:∃t,(Datum.number s m e).sum (Datum.number s m e).opposite=some (.number t (signed s m (e-min e e).toNat+signed (!s) m (e-min e e).toNat).natAbs (min e e)):=⟨_,rfl⟩
 obtain⟨t,rf⟩:=rf
 have z:∀k,signed s m k+signed (!s) m k=0:=λk=>by
  cases s
  ·rw[eP];show _+signed true m k=0;rw[jS];omega
  ·rw[jS];show _+signed false m k=0;rw[eP];omega
 rw[z] at rf
 refine⟨t,?_⟩
 unfold Format.sub
 rw[h,rf]
 exact congrArg some (fv _ _ _)
theorem C3{a m:Nat}{s:Bool}{e:Int}(h:FloatKind.f32.format.read a = .number s m e):fin a=true:=by
 obtain⟨t,ht⟩:=Jb h
 unfold fin hH
 rw[ht,Option.getD_some]
 exact ZD t
theorem Gk{a c d n k:Nat}{j i:Int}(hc:FloatKind.f32.format.read c = .number false n j)(hd:FloatKind.f32.format.read d = .number false k i)(h:inside a c d=true):fin a=true:=by
 obtain⟨B,hB⟩:∃B:Nat,1100≤B:=⟨1100,Nat.le_refl _⟩
 obtain⟨s,m,e,hr,_⟩:=pP hB hc hd h
 exact C3 hr
theorem OD:FloatKind.f32.format.read 0 = .number false 0 (-149):=by decide +kernel
theorem Tc:FloatKind.f32.format.read 1065353216 = .number false (2 ^ 23) (-23):=by decide +kernel
theorem Cu{k:Nat}(h:place k=true):inside k 0 1065353216=true:=by
 unfold place at h
 unfold inside fle
 rw[Bool.and_eq_true] at *
 exact⟨h.1,by rw[show(FloatKind.f32.format.order k 1065353216==some .lt)=true from h.2];rfl⟩
theorem one_sub{k:Nat}(h:place k=true):fin (hH .f32 1065353216 k)=true:=by
 obtain⟨B,hB⟩:∃B:Nat,1100≤B:=⟨1100,Nat.le_refl _⟩
 obtain⟨s',m',e',VJ,Qm,h1',h2'⟩:=pP hB OD Tc (Cu h)
 have v1:sv B (2 ^ 23) (-23)=2 ^ B:=by unfold sv;rw[← Nat.pow_add];congr 1;omega
 have U9:=fG k VJ
 have hm:∃m,m=(2:Nat) ^ 23:=⟨_,rfl⟩
 obtain⟨m,hm⟩:=hm
 have hr:=Tc
 rw[← hm] at hr v1 h2'
 have he:∃e:Int,e = -23:=⟨_,rfl⟩
 obtain⟨e,he⟩:=he
 rw[← he] at hr v1 h2'
 have sC:∃b:Int,b=min e e':=⟨_,rfl⟩
 obtain⟨b,sC⟩:=sC
 have w1:sv B m e=m*2 ^ (e-b).toNat*2 ^ (b+(B:Int)).toNat:=by unfold sv;rw[Nat.mul_assoc,← Nat.pow_add];congr 2;omega
 have w2:sv B m' e'=m'*2 ^ (e'-b).toNat*2 ^ (b+(B:Int)).toNat:=by unfold sv;rw[Nat.mul_assoc,← Nat.pow_add];congr 2;omega
 have Xq:signed (!s') m' (e'-b).toNat = -((m'*2 ^ (e'-b).toNat:Nat):Int):=by
  cases s'
  ·exact jS _ _
  ·rw[Qm rfl,Nat.zero_mul]
   show signed false 0 _=_
   rw[eP,Nat.zero_mul];rfl
 have hT:∃T:Nat,m*2 ^ (e-b).toNat=T+m'*2 ^ (e'-b).toNat∧T*2 ^ (b+(B:Int)).toNat≤2 ^ B:=by
  rw[w1,w2] at h2'
  rw[w1] at v1
  have hle:=Nat.le_of_mul_le_mul_right h2' (Nat.two_pow_pos _)
  refine⟨m*2 ^ (e-b).toNat-m'*2 ^ (e'-b).toNat,by omega,?_⟩
  rw[← v1]
  exact Nat.mul_le_mul_right _ (Nat.sub_le _ _)
 obtain⟨T,hT1,hT3⟩:=hT
 have rf:∃t,(Datum.number false m e).sum (Datum.number s' m' e').opposite=some (.number t T b):=by
  have:∃t,(Datum.number false m e).sum (Datum.number s' m' e').opposite=some (.number t (signed false m (e-min e e').toNat+signed (!s') m' (e'-min e e').toNat).natAbs (min e e')):=⟨_,rfl⟩
  obtain⟨t,this⟩:=this
  refine⟨t,?_⟩
  rw[this,← sC,Xq,eP,hT1]
  have:((T+m'*2 ^ (e'-b).toNat:Nat):Int) + -((m'*2 ^ (e'-b).toNat:Nat):Int)=(T:Int):=by push_cast;omega
  rw[this,Int.natAbs_natCast]
 obtain⟨t,rf⟩:=rf
 have IE:FloatKind.f32.format.sub 1065353216 k=some (FloatKind.f32.format.nearest t T b):=by
  unfold Format.sub
  rw[hr,VJ,rf];rfl
 have hf:hH .f32 1065353216 k=cn .f32 (FloatKind.f32.format.nearest t T b):=by
  unfold hH
  rw[IE,Option.getD_some]
 have ad7:∀{w n:Nat}{q:Int},FloatKind.f32.format.read w = .number t n q->fin (cn .f32 w)=true:=λ{w n q} hw=>by
  rw[kJ hw];exact C3 hw
 rw[hf]
 by_cases hT0:T=0
 ·subst hT0
  rw[fv]
  exact ad7 (HK t)
 obtain⟨e1,e2,e3,e4⟩:=oh
 have hle:VLE T b 0:=Zk hB hT0 (by omega) (by omega) (by rw[show((0:Int)+(B:Int)).toNat=B by omega];exact hT3)
 obtain⟨m2,p2,Mq,_⟩:=nD FloatKind.f32.format t hT0 hle (by rw[e1,e2];omega) (by rw[e1,e2,e3,e4];decide)
 exact ad7 Mq
end Go.Sx
namespace Go.Sx
open Go.Proofs
set_option maxRecDepth 100000
set_option maxHeartbeats 1000000
def xw(s:bI)(v:aK):aK:=if v.aT = -1 then v else if(v.Gone&&(v.sound (s.kind v)).1.quiet (s.kind v))=true then ln else(v.sound (s.kind v)).1
def PM(s:bI)(a:Nat)(v:aK):Nat:=if v.aT = -1 then a else jW .f32 a (v.sound (s.kind v)).2
def aC.pB(p:aC):aC×Nat:=({ p with al:=p.al.map (xw p.Score),mO:=p.mO+1 },tg (p.al.foldl (PM p.Score) 0) Eo)
def aC.yN(p:aC):Bool:=decide (p.Next<p.Score.bo.length)&&(p.Score.bo[p.Next.toNat]!.At==p.mO)
def aC.next(p:aC):aC:={ p.qm p.Score.bo[p.Next.toNat]! with Next:=p.Next+1 }
def aC.run:Nat->aC->aC
 | 0,p=>p
 | k+1,p=>if p.yN=true then aC.run k p.next else p
def aC.step(p:aC):aC×Nat:=(aC.run (p.Score.bo.length-p.Next.toNat) p).pB
def rz(s:bI)(next:Int)(v:aK):Prop:=∃j:Nat,j<s.bo.length∧(j:Int)<next∧fF s.bo[j]! = true∧s.bo[j]!.aT=v.aT∧s.bo[j]!.aq=v.aq∧fB (s.kind v) v
structure aC.iW (p:aC):Prop where
 s:p.Score.ok=true
 n1:1≤p.al.length
 n6:p.al.length≤6
 nx:0≤p.Next∧p.Next≤p.Score.bo.length
 sk:0≤p.ft∧p.ft≤64+p.Next
 v:∀v ∈ p.al,v.aT = -1∨rz p.Score p.Next v
 d:∀i j,i<j->j<p.al.length->p.al[i]!.aT=p.al[j]!.aT->p.al[i]!.aT = -1
theorem aau{s:bI}(h:s.ok=true):s.bo.length≤128:=by
 have G:=sP h
 have h1:=G.even
 have h2:=G.UQ
 omega
theorem rz.ins{s:bI}{n:Int}{v:aK}(h:s.ok=true)(V:rz s n v):0≤v.aq∧v.aq<s.az.length:=by
 obtain⟨j,h1,h2,h3,h4,h5,_⟩:=V
 rw[← h5]
 refine Kg h (OP (sP h) h3 ?_)
 exact iL h1
theorem Lb{α:Type}[Inhabited α]{l:List α}{k i:Nat}{x:α}(hi:i<l.length):(l.set k x)[i]! = if k=i then x else l[i]!:=by
 rw[getElem!_pos _ i (by rw[List.length_set];exact hi),List.getElem_set,getElem!_pos l i hi]
theorem LK{x:bK}{pl f:Nat}(h:(x.iH pl f).2=0):(x.iH pl f).1.Loop.ok=true:=by
 unfold bK.iH at *
 split at h
 ·next hx=>
  rw[if_pos hx]
  split at h
  ·next hp=>
   rw[if_pos hp]
   split at h
   ·next hf=>
    rw[if_pos hf]
    have h1:x.Loop.ok=true:=by
     unfold bK.ok at hx
     simp only[Bool.and_eq_true] at hx
     exact hx.1.1.1
    unfold aY.ok aY.len at *
    show(inR (((x.nH pl f).Loop.ae.length:Nat):Int) 1 1024&&inR (x.nH pl f).Loop.At 0 ((((x.nH pl f).Loop.ae.length:Nat):Int)-1))=true
    unfold bK.nH
    dsimp only
    rw[zm,D9]
    exact h1
   ·cases h
  ·cases h
 ·cases h
theorem LJ{n:Int}{op:Bool}{k l:Nat}(h:(eR n op k l).2=0):(eR n op k l).1.iW:=by
 unfold eR mB at *
 split at h
 ·next hx=>
  rw[if_pos hx]
  rw[Bool.and_eq_true] at hx
  have hn:=hx.2
  simp only[inR,Bool.and_eq_true,decide_eq_true_eq] at hn
  have hq:(yR n).ok=true:=by
   have e:(((yR n).ae.length:Nat):Int)=n:=by show(((List.replicate n.toNat 0).length:Nat):Int)=n;rw[List.length_replicate];omega
   unfold aY.ok aY.len inR
   rw[e]
   show(_&&(decide ((0:Int)≤0)&&_))=true
   simp only[Bool.and_eq_true,decide_eq_true_eq]
   exact⟨⟨by omega,by omega⟩,by omega,by show(0:Int)≤n-1;omega⟩
  have hm:∀r ∈ [yR n],r.ok=true:=λr hr=>by
   rw[List.mem_singleton] at hr
   rw[hr];exact hq
  exact⟨Nat.le_refl _,by show 1≤3;omega,rfl,rfl,hm,hm⟩
 ·cases h
theorem VA(n:Nat):pW (List.replicate n 0)=true:=by
 unfold pW
 rw[List.all_eq_true]
 intro x hx
 rw[List.eq_of_mem_replicate hx]
 exact C3 OD
theorem OG{n:Int}(h1:1≤n)(h2:n≤1024):(⟨List.replicate n.toNat 0,0⟩:aY).okf=true:=by
 unfold aY.okf
 rw[Bool.and_eq_true]
 refine⟨?_,VA _⟩
 unfold aY.ok aY.len inR
 rw[show(((List.replicate n.toNat 0).length:Nat):Int)=n by rw[List.length_replicate];omega]
 simp only[Bool.and_eq_true,decide_eq_true_eq]
 exact⟨⟨by omega,by omega⟩,by omega,by omega⟩
theorem Rl{k:Nat}(h:place k=true):((py k).ok&&(py k).Kind==1)=true:=by
 have f1:=one_sub h
 have f2:=Gk OD Tc (Cu h)
 have f0:=C3 OD
 unfold py cz.ok used qT o6 inR
 simp only[List.length_cons,List.length_nil]
 simp[List.range_succ,f1,f2,f0]
theorem UX{p:Int}{k l s:Nat}(h:(fp p k l s).2=0):(fp p k l s).1.ok=true:=by
 unfold fp at *
 split at h
 ·next h1=>
  split at h
  ·next h2=>
   split at h
   ·next h3=>
    split at h
    ·next h4=>
     rw[if_pos h1,if_pos h2,if_pos h3,if_pos h4]
     simp only[inR,Bool.and_eq_true,decide_eq_true_eq] at h1
     unfold iU.ok
     simp only[Bool.and_eq_true]
     have hb:1≤mj p∧mj p≤p-1:=by unfold mj;split <;> omega
     have h5:=Rl h2
     rw[Bool.and_eq_true] at h5
     refine⟨⟨⟨OG (by omega) (by omega),OG (by omega) (by omega)⟩,h5⟩,h4,Gk OD Tc h3⟩
    ·cases h
   ·cases h
  ·cases h
 ·cases h
theorem Vu{s:bI}{e:aZ}{v:aK}(h:g0 s e=some v):v.aT=e.aT∧v.aq=e.aq∧fB (s.kind v) v:=by
 unfold g0 at h
 dsimp only at h
 have fin:∀{w:aK},w.aT=e.aT->w.aq=e.aq->fB s.az[e.aq.toNat]!.Kind w->w=v->v.aT=e.aT∧v.aq=e.aq∧fB (s.kind v) v:=λh1 h2 h3 e=>by
  subst e
  refine⟨h1,h2,?_⟩
  unfold bI.kind
  rw[h2];exact h3
 split at h
 ·split at h
  ·next k1=>
   split at h
   ·split at h
    ·next hp=>
     refine fin (by rfl) (by rfl) ?_ (Option.some.inj h)
     unfold fB
     rw[if_pos k1]
     exact LK hp
    ·cases h
   ·cases h
  ·next k1=>
   split at h
   ·next k2=>
    split at h
    ·next hp=>
     refine fin (by rfl) (by rfl) ?_ (Option.some.inj h)
     unfold fB
     rw[if_neg k1,if_pos k2]
     exact LJ hp
    ·cases h
   ·next k2=>
    split at h
    ·next hp=>
     refine fin (by rfl) (by rfl) ?_ (Option.some.inj h)
     unfold fB
     rw[if_neg k1,if_neg k2]
     exact UX hp
    ·cases h
 ·cases h
end Go.Sx
