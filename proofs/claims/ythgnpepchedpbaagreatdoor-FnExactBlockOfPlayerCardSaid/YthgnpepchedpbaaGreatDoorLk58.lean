/- Lemmas. -/
import Derived.Test.YthgnpepchedpbaaGreatDoorLk51
import Derived.Test.YthgnpepchedpbaaGreatDoorLf9
import Derived.Test.YthgnpepchedpbaaGreatDoorLk35
import Derived.Test.YthgnpepchedpbaaGreatDoorLk56
import Derived.Test.YthgnpepchedpbaaGreatDoorLk24
import Derived.Test.YthgnpepchedpbaaGreatDoorLpn
import Derived.Test.YthgnpepchedpbaaGreatDoorH1
import Derived.Test.YthgnpepchedpbaaGreatDoorTab
set_option linter.unusedVariables false
set_option linter.unusedSimpArgs false
namespace Go.Sx
open FloatKind (f32 f64)
open IntKind (i64)
open Go.Proofs
set_option maxRecDepth 100000
set_option maxHeartbeats 2000000
section
variable {h0 h:ab}{q e1:Addr}{F:Fr}{L:List Blk}{p:aC}{n:Nat}{e:aZ}
theorem aff:FW .f32 1056964608 half:=eM (by decide) (by decide)
theorem Ka{B:List Blk}{cs:Array Value}{v:aK}{b:Option Addr}{l c:Nat}{K:ab->Prop}(P:Pt bz h0 h q F (B++L) p)(O:aQ.ow B cs.toList v)(h1:1≤p.al.length)(hb:cell h (q.add 6)=some (.slice b l c))(H:∀h',Pt bz h0 h' q F L { p with al:=p.al.set (placeOf p.al) v }->K h'):bd b (placeOf p.al:Int) l λa=>STA 45 h (a.add ((Int.toNat (placeOf p.al:Int))*45)) cs K:=by
 have S:=P.slr (off:=6) hb
 have hl:p.al.length=l:=S.len
 have hp:=GU h1
 obtain⟨a0,rfl,st⟩:=Pt.stE (off:=6) (i:=placeOf p.al) (n:=45) P hb (by omega) rfl O λh' P' _=>H h' P'
 refine idxs (by omega) (by omega) ?_
 rw[Int.toNat_natCast]
 exact st
theorem abQ{vs:List aK}{s:bI}{m:Int}{i:Nat}(hi:i<vs.length)(he:vs[i]!.aT=m)(ho:∀j,j<vs.length->j≠i->¬vs[j]!.aT=m):vs.set i (o5 s vs[i]!)=vs.map (ir s m):=by
 apply List.ext_getElem
 ·simp
 ·intro j h1 h2
  rw[List.length_set] at h1
  rw[List.getElem_map]
  by_cases ej:i=j
  ·subst ej
   rw[List.getElem_set_self,← getElem!_pos vs i h1]
   unfold ir
   rw[if_pos he]
  ·rw[List.getElem_set_ne ej,← getElem!_pos vs j h1]
   unfold ir
   rw[if_neg (ho j h1 (by omega))]
theorem map_none{vs:List aK}{s:bI}{m:Int}(ho:∀j,j<vs.length->¬vs[j]!.aT=m):vs.map (ir s m)=vs:=by
 apply List.ext_getElem
 ·simp
 ·intro j h1 h2
  rw[List.getElem_map]
  unfold ir
  rw[if_neg (by rw[← getElem!_pos vs j h2];exact ho j h2)]
theorem WR{a0:Addr}{l c i:Nat}{K:ab->Prop}(P:Pt bz h0 h q F L p)(hb:cell h (q.add 6)=some (.slice (some a0) l c))(hi:i<p.al.length)(zq:0≤p.al[i]!.aq∧p.al[i]!.aq<p.Score.az.length)(H:∀h',Pt bz h0 h' q F L { p with al:=p.al.set i (o5 p.Score p.al[i]!) }->(∀k,cell h' (q.add k)=cell h (q.add k))->K h'):
  ST1 h ((a0.add (i*45)).add 3) (.bool true) λsW=>ST1 sW ((a0.add (i*45)).add 4) (.float .f32 0) λre=>oL (cell re (q.add 4)) λQE QF afw=>oI .i64 (cell re ((a0.add (i*45)).add 1)) λn31=>
   bd QE n31 QF λp32=>oI .i64 (cell re ((p32.add ((Int.toNat n31)*5)).add 1)) λQZ=>
   BIF (QZ==(1:Int)) (oF .f32 (cell re (((a0.add (i*45)).add 5).add 14)) λZ2=>FOP .f32 (f32.format.mul Z2 1056964608) λr35=>ST1 re (((a0.add (i*45)).add 5).add 14) (.float .f32 r35) K) (K re):=by
 have S:=P.slr (off:=6) hb
 have hl:p.al.length=l:=S.len
 obtain⟨a1,F',C,e1,P',close⟩:=P.JA (off:=6) hb (i:=i) (by omega)
 cases e1
 have P':Pt aQ h0 h (a0.add (i*45)) F' (C++L) p.al[i]!:=P'
 refine P'.stB λh1 P1=>P1.stF fw0 λh2 P2=>?_
 obtain⟨Pp,hk⟩:=close _ _ _ _ P2
 refine Pp.rd.oL (off:=4) λb4 l4 c4 S4=>?_
 have e4:p.Score.az.length=l4:=S4.len
 refine P2.rd.oI (S4.idx (by decide) zq.1 (by show p.al[i]!.aq<_;omega) λa4 R4=>?_)
 have R4:RdP aA h2 (a4.add (p.al[i]!.aq.toNat*5)) p.Score.az[p.al[i]!.aq.toNat]!:=R4
 refine R4.oI ?_
 have kd:p.Score.kind p.al[i]! = p.Score.az[p.al[i]!.aq.toNat]!.Kind:=rfl
 refine br (λk=>?_) λk=>?_
 ·have k:p.Score.kind p.al[i]! = 1:=by rw[kd];simpa using k
  obtain⟨F2,L2,P3,cl⟩:=P2.aie bO
  refine P3.rd.oF λy hy=>fM hy aff λz hz=>P3.stF hz λh3 P4=>?_
  obtain⟨Pq,hk3⟩:=close _ _ _ _ (cl _ _ _ _ P4).1
  refine H h3 ?_ hk3
  have eg:o5 p.Score p.al[i]! = { p.al[i]! with Gone:=true,gR:=0,String:={ p.al[i]!.String with fT:=eG .f32 p.al[i]!.String.fT half } }:=by unfold o5;rw[if_pos k]
  rw[eg]
  exact Pq
 ·have k:¬p.Score.kind p.al[i]! = 1:=by rw[kd];simpa using k
  refine H h2 ?_ hk
  have eg:o5 p.Score p.al[i]! = { p.al[i]! with Gone:=true,gR:=0 }:=by unfold o5;rw[if_neg k]
  rw[eg]
  exact Pp
theorem vE(hk:e.Kind=2):p.qm e=match g0 p.Score e with | some v=>{ p with al:=p.al.set (placeOf p.al) v } | none=>{ p with ft:=p.ft+1 }:=by unfold aC.qm;rw[if_pos hk];cases g0 p.Score e <;> rfl
theorem yw(hk:¬e.Kind=2):p.qm e={ p with al:=p.al.map (ir p.Score e.aT) }:=by unfold aC.qm;rw[if_neg hk]
theorem NB(P:Pt bz h0 h q F L p)(E:HY h q e1 n)(he:p.Score.bo[n]! = e)(H:W0 p e):af ak 74 #[.pointer (some q),.pointer (some e1)] (λu h'=>u = .tuple ⟨[]⟩∧Pt bz h0 h' q F L (p.qm e)) h:=by
 have hm:=cu
 have Re:RdP bF h e1 e:=by have:=E.rd P;rwa [he] at this
 refine fg.call (Re.oI (br (λk=>?_) λk=>?_))
 ·have hk:e.Kind=2:=by simpa using k
  rw[vE hk]
  refine(Ja (P.rd.fst gx) Re H.s (H.st hk)).mono ?_
  rintro _ h2 ⟨cs,B,v,rfl,O,N,hv⟩
  have P:=P.join N
  refine jJ (gw (bt ((Mem.start h2).alc λg8 h3 x3 N8=>N8.dH .here (osz O rfl) (aQ.jy O) rfl .here λh4 N8=>?_)))
  have P:=P.join N8
  cases ho:g0 p.Score e with
  | none=>
   refine cM rfl (P.rd.oI ?_)
   have hsk:=H.sk
   rw[wrap64 (n:=p.ft+1) (by omega) (by omega)]
   exact P.stI λh5 P=>⟨rfl,P.cnt λp=>by simp only[bN];omega⟩
  | some w=>
   obtain rfl:=hv w ho
   obtain⟨b,l,c,hb,S⟩:=P.hdr (off:=6) (e:=122) (s:=aQ)
   have Rv:RdP aQ h4 ⟨g8,0,none⟩ v:=N8.rdp .here (aQ.look O P.mem ((List.sublist_append_left _ _).trans (List.sublist_append_right _ _)))
   refine vu rfl (o_l hb (o_l hb (N8.df .here (osz O rfl) (goX (Qu S H.n1) λh5 x5=>cN (Rv.pin rfl x5 (P.rd.lN (by decide) x5 ?_))))))
   exact Ka ((P.grow x5).cnt (W:=B++L) λp=>by simp only[bN];omega) O H.n1 (x5.cell hb) λh6 P=>⟨rfl,P⟩
 ·have hk:¬e.Kind=2:=by simpa using k
  rw[yw hk]
  refine loop (λy hh=>∃i:Nat,y=(q,e1,(i:Int))∧i≤p.al.length∧HY hh q e1 n∧Pt bz h0 hh q F L { p with al:=oN (ir p.Score e.aT) p.al i }) (λy=>((p.al.length:Int)-y.2.2).toNat) ⟨0,rfl,by omega,E,by rw[DA];exact P⟩ ?_
  rintro y hh ⟨i,rfl,hi,E,P⟩
  obtain⟨b,l,c,hb,S⟩:=P.hdr (off:=6) (e:=122) (s:=aQ)
  have hl:(oN (ir p.Score e.aT) p.al i).length=l:=S.len
  rw[yL] at hl
  have s1:=S.2.1
  have s2:=S.2.2.1
  have Re:RdP bF hh e1 e:=by have:=E.rd P;rwa [show({ p with al:=oN (ir p.Score e.aT) p.al i }:aC).Score.bo[n]! = e from he] at this
  refine o_l hb (brd (λhc=>o_l hb ?_) λhc=>⟨rfl,?_⟩)
  ·have fin:∀{h':ab},HY h' q e1 n->Pt bz h0 h' q F L { p with al:=oN (ir p.Score e.aT) p.al (i+1) }->((∃i':Nat,(q,e1,i64.wrap ((i:Int)+1))=(q,e1,(i':Int))∧i'≤p.al.length∧HY h' q e1 n∧Pt bz h0 h' q F L { p with al:=oN (ir p.Score e.aT) p.al i' })∧((p.al.length:Int)-i64.wrap ((i:Int)+1)).toNat<((p.al.length:Int)-i).toNat):=λE P=>
    ⟨⟨i+1,by rw[ag (by omega)],by omega,E,P⟩,by rw[ag (by omega)];omega⟩
   have Nm:(oN (ir p.Score e.aT) p.al i)[i]! = p.al[i]!:=NY (by omega)
   have ajy:=JS (f:=ir p.Score e.aT) (l:=p.al) (n:=i) (by omega)
   obtain⟨a,ha,Ra⟩:=S.elem (i:=i) (by omega) (by decide)
   have Ra:RdP aQ hh (a.add (i*45)) (oN (ir p.Score e.aT) p.al i)[i]!:=Ra
   rw[Nm] at Ra
   subst ha
   by_cases hn:p.al[i]!.aT=e.aT
   ·have es:ir p.Score e.aT p.al[i]! = o5 p.Score p.al[i]!:=by unfold ir;rw[if_pos hn]
    refine idxs (by omega) (by omega) ?_
    rw[Int.toNat_natCast]
    refine Ra.oI1 (Re.oI (vu (by simpa using hn) ?_))
    refine WR (i:=i) P hb (by show i<(oN (ir p.Score e.aT) p.al i).length;rw[yL];omega) (by show 0≤(oN (ir p.Score e.aT) p.al i)[i]!.aq∧(oN (ir p.Score e.aT) p.al i)[i]!.aq<_;rw[Nm];exact H.ins i (by omega) hn) (λh' P' hk'=>?_)
    refine fin (E.aph hk') ?_
    have P':Pt bz h0 h' q F L { p with al:=(oN (ir p.Score e.aT) p.al i).set i (o5 p.Score (oN (ir p.Score e.aT) p.al i)[i]!) }:=P'
    rw[Nm,← es,ajy] at P'
    exact P'
   ·refine idxs (by omega) (by omega) ?_
    rw[Int.toNat_natCast]
    refine Ra.oI1 (Re.oI (cM (by simpa using hn) ?_))
    have es:ir p.Score e.aT p.al[i]! = p.al[i]!:=by unfold ir;rw[if_neg hn]
    refine fin E ?_
    rw[← ajy,es,← Nm]
    have:(oN (ir p.Score e.aT) p.al i).set i (oN (ir p.Score e.aT) p.al i)[i]! = oN (ir p.Score e.aT) p.al i:=by
     rw[getElem!_pos _ i (by rw[yL];omega),List.set_getElem_self]
    rw[this];exact P
  ·rw[Gy (by omega)] at P;exact P
theorem Xf{ce:Array Value}(P:Pt bz h0 h q F L p)(R0:bF.rd h ce.toList e)(H:W0 p e):af ak 114 #[.pointer (some q),.agg ce] (λu h'=>u = .tuple ⟨[]⟩∧Pt bz h0 h' q F L (p.qm e)) h:=by
 refine da.call ((Mem.start h).alc λg1 h1 x1 N=>?_)
 have P:=P.join N
 have Re:RdP bF h1 ⟨g1,0,none⟩ e:=N.rdp .here (bF.ext N.ext R0)
 refine Re.oI2 (br (λk=>?_) λk=>?_)
 ·have hk:e.Kind=2:=by simpa using k
  rw[vE hk]
  refine(P.rd.fst gx).jc rfl λc4 R4=>Re.jc rfl λc5 R5=>?_
  have key:∀{hh:ab}{g:Nat}{B:List Blk}{cv:Array Value},aQ.ow B cv.toList (Q9 (g0 p.Score e))->Mem h1 hh ((g,122,⟨bg⟩) :: B) ->
    STA 45 hh ⟨g,0,none⟩ cv λj0=>da.J3 (λu h'=>u = .tuple ⟨[]⟩∧Pt bz h0 h' q F L (match g0 p.Score e with | some v=>{ p with al:=p.al.set (placeOf p.al) v } | none=>{ p with ft:=p.ft+1 })) q ⟨g,0,none⟩ (WK (g0 p.Score e)) j0:=λ{hh g B cv} O N=>by
   refine N.dH .here (osz O rfl) (aQ.jy O) rfl .here λh4 N=>?_
   have P:=P.join N
   unfold da.J3
   cases ho:g0 p.Score e with
   | none=>
    refine vu (by decide) (P.rd.oI ?_)
    have hsk:=H.sk
    rw[wrap64 (n:=p.ft+1) (by omega) (by omega)]
    exact P.stI λh5 P=>⟨rfl,P.cnt λp=>by simp only[bN,bu];omega⟩
   | some v=>
    rw[ho] at O
    have O:aQ.ow B cv.toList v:=O
    obtain⟨b,l,c,hb,S⟩:=P.hdr (off:=6) (e:=122) (s:=aQ)
    have Rv:RdP aQ h4 ⟨g,0,none⟩ v:=N.rdp .here (aQ.look O N (List.sublist_cons_self _ _))
    refine cM rfl (o_l hb (N.df .here (osz O rfl) (goX (ac4 P.rd H.n1) λh5 x5=>cN (Rv.pin rfl x5 (P.rd.lN (by decide) x5 ?_)))))
    exact Ka ((P.grow x5).cnt (W:=B++L) λp=>by simp only[bN,bu];omega) O H.n1 (x5.cell hb) λh6 P=>⟨rfl,P⟩
  have V:∀{hh:ab},Ext h1 hh->af ak 168 #[.agg c4,.agg c5] (λu h'=>fk aQ hh h' u (Q9 (g0 p.Score e)) (WK (g0 p.Score e))) hh:=λx=>Sg (bU.ext x R4) (bF.ext x R5) H.s (H.st hk)
  refine⟨?_,?_⟩
  ·refine fk.go (Mem.start h1) (V (Ext.refl _)) λh2 cv B N2 O sv=>jJ (gw (cN (N2.alc λg h3 x3 N3=>Re.pin rfl N3.ext (P.rd.xy (by decide) N3.ext ?_))))
   exact key O (N3.cnt λp=>by simp only[List.append_eq,bN,bu,bZ];omega)
  ·refine(Mem.start h1).alc λg h2 x2 N2=>Re.pin rfl N2.ext (P.rd.xy (by decide) N2.ext (fk.go N2 (V N2.ext) λh3 cv B N3 O sv=>jJ (gw (cN ?_))))
   exact key O (N3.cnt λp=>by simp only[List.append_eq,bN,bu,bZ];omega)
 ·have hk:¬e.Kind=2:=by simpa using k
  rw[yw hk]
  have T:FD ak aQ h1 (.func (.func 171) #[] #[.pointer (some ⟨g1,0,none⟩)]) (λv=>v.aT==e.aT):=λcv v hx xx Rv=>by
   show af ak 171 #[.agg cv,.pointer (some ⟨g1,0,none⟩)] _ hx
   exact jR.call (gD Rv λg h' x' R'=>R'.oI2 ((Re.ext (xx.trans x')).oI ⟨rfl,x'⟩))
  refine P.rd.oL λb l c S=>goX (td S T) λh2 x2=>cN ?_
  have P:=P.grow x2
  rcases yq (λv:aK=>v.aT==e.aT) p.al with⟨ef,hf⟩ | ⟨m,hm,ef,hf,hp⟩
  ·rw[ef]
   refine brd (λ_=>⟨rfl,?_⟩) λk=>by omega
   rw[map_none λj hj=>by have:=hf j hj;simpa using this]
   exact P.drop
  ·rw[ef]
   have hp:p.al[m]!.aT=e.aT:=by simpa using hp
   refine brd (λk=>by omega) λ_=>?_
   obtain⟨b,l,c,hb,S⟩:=P.hdr (off:=6) (e:=122) (s:=aQ)
   have hl:p.al.length=l:=S.len
   obtain⟨a,ha,Ra⟩:=S.elem (i:=m) (by omega) (by decide)
   subst ha
   refine o_l hb (idxs (by omega) (by omega) ?_)
   rw[Int.toNat_natCast]
   refine WR (i:=m) P hb hm (H.ins m hm hp) λh' P' _=>⟨rfl,?_⟩
   rw[abQ hm hp λj hj ne=>?_] at P'
   ·exact P'.drop
   ·rcases Nat.lt_or_ge j m with h | h
    ·have:=hf j h;simpa using this
    ·exact H.one m j (by omega) hj hp
end
end Go.Sx
namespace Go.Sx
open FloatKind (f32 f64)
open IntKind (i64)
open Ieee
theorem ZD(t:Bool):feq .f32 (cn .f32 (f32.format.word t 0)) 0=true:=by cases t <;> decide +kernel
theorem Jb{a m:Nat}{s:Bool}{e:Int}(h:f32.format.read a = .number s m e):∃t,f32.format.sub a a=some (f32.format.word t 0):=by
 have rf:∃t,(Datum.number s m e).sum (Datum.number s m e).opposite=some (.number t (signed s m (e-min e e).toNat+signed (!s) m (e-min e e).toNat).natAbs (min e e)):=⟨_,rfl⟩
 obtain⟨t,rf⟩:=rf
 have z:∀k,signed s m k+signed (!s) m k=0:=λk=>by
  cases s
  ·rw[eP];show _+signed true m k=0;rw[jS];omega
  ·rw[jS];show _+signed false m k=0;rw[eP];omega
 rw[z] at rf
 refine⟨t,?_⟩
 unfold Format.sub
 rw[h,rf]
 exact congrArg some (fv _ _ _)
theorem C3{a m:Nat}{s:Bool}{e:Int}(h:f32.format.read a = .number s m e):fin a=true:=by
 obtain⟨t,ht⟩:=Jb h
 unfold fin hH
 rw[ht,Option.getD_some]
 exact ZD t
theorem Gk{a c d n k:Nat}{j i:Int}(hc:f32.format.read c = .number false n j)(hd:f32.format.read d = .number false k i)(h:inside a c d=true):fin a=true:=by
 obtain⟨B,hB⟩:∃B:Nat,1100≤B:=⟨1100,Nat.le_refl _⟩
 obtain⟨s,m,e,hr,_⟩:=pP hB hc hd h
 exact C3 hr
theorem OD:f32.format.read 0 = .number false 0 (-149):=by decide +kernel
theorem Tc:f32.format.read 1065353216 = .number false (2 ^ 23) (-23):=by decide +kernel
theorem Cu{k:Nat}(h:place k=true):inside k 0 1065353216=true:=by
 unfold place at h
 unfold inside fle
 rw[Bool.and_eq_true] at *
 exact⟨h.1,by rw[show(f32.format.order k 1065353216==some .lt)=true from h.2];rfl⟩
theorem one_sub{k:Nat}(h:place k=true):fin (hH .f32 1065353216 k)=true:=by
 obtain⟨B,hB⟩:∃B:Nat,1100≤B:=⟨1100,Nat.le_refl _⟩
 obtain⟨s',m',e',VJ,Qm,h1',h2'⟩:=pP hB OD Tc (Cu h)
 have v1:sv B (2 ^ 23) (-23)=2 ^ B:=by unfold sv;rw[← Nat.pow_add];congr 1;omega
 have U9:=fG k VJ
 have hm:∃m,m=(2:Nat) ^ 23:=⟨_,rfl⟩
 obtain⟨m,hm⟩:=hm
 have hr:=Tc
 rw[← hm] at hr v1 h2'
 have he:∃e:Int,e = -23:=⟨_,rfl⟩
 obtain⟨e,he⟩:=he
 rw[← he] at hr v1 h2'
 have sC:∃b:Int,b=min e e':=⟨_,rfl⟩
 obtain⟨b,sC⟩:=sC
 have w1:sv B m e=m*2 ^ (e-b).toNat*2 ^ (b+(B:Int)).toNat:=by unfold sv;rw[Nat.mul_assoc,← Nat.pow_add];congr 2;omega
 have w2:sv B m' e'=m'*2 ^ (e'-b).toNat*2 ^ (b+(B:Int)).toNat:=by unfold sv;rw[Nat.mul_assoc,← Nat.pow_add];congr 2;omega
 have Xq:signed (!s') m' (e'-b).toNat = -((m'*2 ^ (e'-b).toNat:Nat):Int):=by
  cases s'
  ·exact jS _ _
  ·rw[Qm rfl,Nat.zero_mul]
   show signed false 0 _=_
   rw[eP,Nat.zero_mul];rfl
 have hT:∃T:Nat,m*2 ^ (e-b).toNat=T+m'*2 ^ (e'-b).toNat∧T*2 ^ (b+(B:Int)).toNat≤2 ^ B:=by
  rw[w1,w2] at h2'
  rw[w1] at v1
  have hle:=Nat.le_of_mul_le_mul_right h2' (Nat.two_pow_pos _)
  refine⟨m*2 ^ (e-b).toNat-m'*2 ^ (e'-b).toNat,by omega,?_⟩
  rw[← v1]
  exact Nat.mul_le_mul_right _ (Nat.sub_le _ _)
 obtain⟨T,hT1,hT3⟩:=hT
 have rf:∃t,(Datum.number false m e).sum (Datum.number s' m' e').opposite=some (.number t T b):=by
  have:∃t,(Datum.number false m e).sum (Datum.number s' m' e').opposite=some (.number t (signed false m (e-min e e').toNat+signed (!s') m' (e'-min e e').toNat).natAbs (min e e')):=⟨_,rfl⟩
  obtain⟨t,this⟩:=this
  refine⟨t,?_⟩
  rw[this,← sC,Xq,eP,hT1]
  have:((T+m'*2 ^ (e'-b).toNat:Nat):Int) + -((m'*2 ^ (e'-b).toNat:Nat):Int)=(T:Int):=by push_cast;omega
  rw[this,Int.natAbs_natCast]
 obtain⟨t,rf⟩:=rf
 have IE:f32.format.sub 1065353216 k=some (f32.format.nearest t T b):=by
  unfold Format.sub
  rw[hr,VJ,rf];rfl
 have hf:hH .f32 1065353216 k=cn .f32 (f32.format.nearest t T b):=by
  unfold hH
  rw[IE,Option.getD_some]
 have ad7:∀{w n:Nat}{q:Int},f32.format.read w = .number t n q->fin (cn .f32 w)=true:=λ{w n q} hw=>by
  rw[kJ hw];exact C3 hw
 rw[hf]
 by_cases hT0:T=0
 ·subst hT0
  rw[fv]
  exact ad7 (HK t)
 obtain⟨e1,e2,e3,e4⟩:=oh
 have hle:VLE T b 0:=Zk hB hT0 (by omega) (by omega) (by rw[show((0:Int)+(B:Int)).toNat=B by omega];exact hT3)
 obtain⟨m2,p2,Mq,_⟩:=nD f32.format t hT0 hle (by rw[e1,e2];omega) (by rw[e1,e2,e3,e4];decide)
 exact ad7 Mq
end Go.Sx
namespace Go.Sx
open FloatKind (f32 f64)
open IntKind (i64)
open Go.Proofs
set_option maxRecDepth 100000
set_option maxHeartbeats 1000000
def ln:aK:={ CW with aT:=-1 }
def u5:List Value:=[.int .i64 (-1:Int),.int .i64 (0:Int),.int .i64 (0:Int),.bool false,.float .f32 0,.slice none 0 0,.int .i64 (0:Int),.int .i64 (0:Int),.float .f32 0,.float .f32 0,.float .f32 0,.float .f32 0,.float .f32 0,.int .i64 (0:Int),.float .f32 0,.float .f32 0,.float .f32 0,.float .f32 0,.float .f32 0,.float .f32 0,.slice none 0 0,.slice none 0 0,.slice none 0 0,.int .i64 (0:Int),.float .f32 0,.float .f32 0,.float .f32 0,.float .f32 0,.float .f32 0,.bool false,.float .f32 0,.float .f32 0,.float .f32 0,.slice none 0 0,.int .i64 (0:Int),.slice none 0 0,.int .i64 (0:Int),.int .i64 (0:Int),.float .f32 0,.float .f32 0,.float .f32 0,.float .f32 0,.float .f32 0,.float .f32 0,.float .f32 0]
theorem HM:aQ.ow [] u5 ln:=by
 obtain⟨B1,B2,v1,v2,hB,hv,h1,h2⟩:=vm
 obtain⟨rfl,rfl⟩:=h1
 obtain rfl:B2=[]:=by simpa using hB.symm
 exact⟨[],[],[.int .i64 (-1:Int)],v2,rfl,by have:=congrArg List.tail hv;rw[u5,show v2=_ from this.symm];rfl,⟨rfl,rfl⟩,h2⟩
theorem K5{s:bI}{vs:List aK}{sc:List Value}{Bs B:List Blk}{b:Option Addr}{l c:Nat}(Os:bU.ow Bs sc s)(O:SlO 122 aQ B b l c vs)(n1 n2 n3:Int):bz.ow (Bs++B) (sc++[.slice b l c,.int .i64 n1,.int .i64 n2,.int .i64 n3]) ⟨s,vs,n1,n2,n3⟩:=
 ⟨Bs,B,sc,_,rfl,rfl,Os,B,[],[.slice b l c],_,by simp,rfl,⟨b,l,c,rfl,O⟩,[],[],[.int .i64 n1],_,rfl,rfl,⟨rfl,rfl⟩,[],[],[.int .i64 n2],_,rfl,rfl,⟨rfl,rfl⟩,⟨rfl,rfl⟩⟩
section
variable {h:ab}
theorem vi:af ak 66 #[] (λu h'=>u = .agg ⟨u5⟩∧Ext h h') h:=
 sQ.call ((Mem.start h).alc λg1 h1 x1 M=>M.dH .here rfl (dI rfl) rfl .here λh2 M=>M.df .here rfl ⟨rfl,M.ext⟩)
theorem DZ:af ak 70 #[] (λu h'=>u = .agg ⟨u5⟩∧Ext h h') h:=
 sD.call ((Mem.start h).alc λg1 h1 x1 M=>M.dH .here rfl (dI rfl) rfl .here λh2 M=>M.df .here rfl ⟨rfl,M.ext⟩)
end
def xw(s:bI)(v:aK):aK:=if v.aT = -1 then v else if(v.Gone&&(v.sound (s.kind v)).1.quiet (s.kind v))=true then ln else(v.sound (s.kind v)).1
def PM(s:bI)(a:Nat)(v:aK):Nat:=if v.aT = -1 then a else jW .f32 a (v.sound (s.kind v)).2
def aC.pB(p:aC):aC×Nat:=({ p with al:=p.al.map (xw p.Score),mO:=p.mO+1 },tg (p.al.foldl (PM p.Score) 0) Eo)
def aC.yN(p:aC):Bool:=decide (p.Next<p.Score.bo.length)&&(p.Score.bo[p.Next.toNat]!.At==p.mO)
def aC.next(p:aC):aC:={ p.qm p.Score.bo[p.Next.toNat]! with Next:=p.Next+1 }
def aC.run:Nat->aC->aC
 | 0,p=>p
 | k+1,p=>if p.yN=true then aC.run k p.next else p
def aC.step(p:aC):aC×Nat:=(aC.run (p.Score.bo.length-p.Next.toNat) p).pB
def rz(s:bI)(next:Int)(v:aK):Prop:=∃j:Nat,j<s.bo.length∧(j:Int)<next∧fF s.bo[j]! = true∧s.bo[j]!.aT=v.aT∧s.bo[j]!.aq=v.aq∧fB (s.kind v) v
structure aC.iW (p:aC):Prop where
 s:p.Score.ok=true
 n1:1≤p.al.length
 n6:p.al.length≤6
 nx:0≤p.Next∧p.Next≤p.Score.bo.length
 sk:0≤p.ft∧p.ft≤64+p.Next
 v:∀v ∈ p.al,v.aT = -1∨rz p.Score p.Next v
 d:∀i j,i<j->j<p.al.length->p.al[i]!.aT=p.al[j]!.aT->p.al[i]!.aT = -1
theorem aau{s:bI}(h:s.ok=true):s.bo.length≤128:=by
 have G:=sP h
 have h1:=G.even
 have h2:=G.UQ
 omega
theorem rz.ins{s:bI}{n:Int}{v:aK}(h:s.ok=true)(V:rz s n v):0≤v.aq∧v.aq<s.az.length:=by
 obtain⟨j,h1,h2,h3,h4,h5,_⟩:=V
 rw[← h5]
 refine Kg h (OP (sP h) h3 ?_)
 exact iL h1
theorem Lb{α:Type}[Inhabited α]{l:List α}{k i:Nat}{x:α}(hi:i<l.length):(l.set k x)[i]! = if k=i then x else l[i]!:=by
 rw[getElem!_pos _ i (by rw[List.length_set];exact hi),List.getElem_set,getElem!_pos l i hi]
theorem LK{x:bK}{pl f:Nat}(h:(x.iH pl f).2=0):(x.iH pl f).1.Loop.ok=true:=by
 unfold bK.iH at *
 split at h
 ·next hx=>
  rw[if_pos hx]
  split at h
  ·next hp=>
   rw[if_pos hp]
   split at h
   ·next hf=>
    rw[if_pos hf]
    have h1:x.Loop.ok=true:=by
     unfold bK.ok at hx
     simp only[Bool.and_eq_true] at hx
     exact hx.1.1.1
    unfold aY.ok aY.len at *
    show(inR (((x.nH pl f).Loop.ae.length:Nat):Int) 1 1024&&inR (x.nH pl f).Loop.At 0 ((((x.nH pl f).Loop.ae.length:Nat):Int)-1))=true
    unfold bK.nH
    dsimp only
    rw[zm,D9]
    exact h1
   ·cases h
  ·cases h
 ·cases h
theorem LJ{n:Int}{op:Bool}{k l:Nat}(h:(eR n op k l).2=0):(eR n op k l).1.iW:=by
 unfold eR mB at *
 split at h
 ·next hx=>
  rw[if_pos hx]
  rw[Bool.and_eq_true] at hx
  have hn:=hx.2
  simp only[inR,Bool.and_eq_true,decide_eq_true_eq] at hn
  have hq:(yR n).ok=true:=by
   have e:(((yR n).ae.length:Nat):Int)=n:=by show(((List.replicate n.toNat 0).length:Nat):Int)=n;rw[List.length_replicate];omega
   unfold aY.ok aY.len inR
   rw[e]
   show(_&&(decide ((0:Int)≤0)&&_))=true
   simp only[Bool.and_eq_true,decide_eq_true_eq]
   exact⟨⟨by omega,by omega⟩,by omega,by show(0:Int)≤n-1;omega⟩
  have hm:∀r ∈ [yR n],r.ok=true:=λr hr=>by
   rw[List.mem_singleton] at hr
   rw[hr];exact hq
  exact⟨Nat.le_refl _,by show 1≤3;omega,rfl,rfl,hm,hm⟩
 ·cases h
theorem VA(n:Nat):pW (List.replicate n 0)=true:=by
 unfold pW
 rw[List.all_eq_true]
 intro x hx
 rw[List.eq_of_mem_replicate hx]
 exact C3 OD
theorem OG{n:Int}(h1:1≤n)(h2:n≤1024):(⟨List.replicate n.toNat 0,0⟩:aY).okf=true:=by
 unfold aY.okf
 rw[Bool.and_eq_true]
 refine⟨?_,VA _⟩
 unfold aY.ok aY.len inR
 rw[show(((List.replicate n.toNat 0).length:Nat):Int)=n by rw[List.length_replicate];omega]
 simp only[Bool.and_eq_true,decide_eq_true_eq]
 exact⟨⟨by omega,by omega⟩,by omega,by omega⟩
theorem Rl{k:Nat}(h:place k=true):((py k).ok&&(py k).Kind==1)=true:=by
 have f1:=one_sub h
 have f2:=Gk OD Tc (Cu h)
 have f0:=C3 OD
 unfold py cz.ok used qT o6 inR
 simp only[List.length_cons,List.length_nil]
 simp[List.range_succ,f1,f2,f0]
theorem UX{p:Int}{k l s:Nat}(h:(fp p k l s).2=0):(fp p k l s).1.ok=true:=by
 unfold fp at *
 split at h
 ·next h1=>
  split at h
  ·next h2=>
   split at h
   ·next h3=>
    split at h
    ·next h4=>
     rw[if_pos h1,if_pos h2,if_pos h3,if_pos h4]
     simp only[inR,Bool.and_eq_true,decide_eq_true_eq] at h1
     unfold iU.ok
     simp only[Bool.and_eq_true]
     have hb:1≤mj p∧mj p≤p-1:=by unfold mj;split <;> omega
     have h5:=Rl h2
     rw[Bool.and_eq_true] at h5
     refine⟨⟨⟨OG (by omega) (by omega),OG (by omega) (by omega)⟩,h5⟩,h4,Gk OD Tc h3⟩
    ·cases h
   ·cases h
  ·cases h
 ·cases h
theorem Vu{s:bI}{e:aZ}{v:aK}(h:g0 s e=some v):v.aT=e.aT∧v.aq=e.aq∧fB (s.kind v) v:=by
 unfold g0 at h
 dsimp only at h
 have fin:∀{w:aK},w.aT=e.aT->w.aq=e.aq->fB s.az[e.aq.toNat]!.Kind w->w=v->v.aT=e.aT∧v.aq=e.aq∧fB (s.kind v) v:=λh1 h2 h3 e=>by
  subst e
  refine⟨h1,h2,?_⟩
  unfold bI.kind
  rw[h2];exact h3
 split at h
 ·split at h
  ·next k1=>
   split at h
   ·split at h
    ·next hp=>
     refine fin (by rfl) (by rfl) ?_ (Option.some.inj h)
     unfold fB
     rw[if_pos k1]
     exact LK hp
    ·cases h
   ·cases h
  ·next k1=>
   split at h
   ·next k2=>
    split at h
    ·next hp=>
     refine fin (by rfl) (by rfl) ?_ (Option.some.inj h)
     unfold fB
     rw[if_neg k1,if_pos k2]
     exact LJ hp
    ·cases h
   ·next k2=>
    split at h
    ·next hp=>
     refine fin (by rfl) (by rfl) ?_ (Option.some.inj h)
     unfold fB
     rw[if_neg k1,if_neg k2]
     exact UX hp
    ·cases h
 ·cases h
theorem GH{p:aC}(h:p.yN=true):p.Next<p.Score.bo.length∧p.Score.bo[p.Next.toNat]!.At=p.mO:=by
 unfold aC.yN at h
 rw[Bool.and_eq_true,decide_eq_true_iff,beq_iff_eq] at h
 exact h
theorem OH{p:aC}(R:p.iW)(h:p.Next<p.Score.bo.length):W0 p p.Score.bo[p.Next.toNat]!:=by
 have nx:=R.nx
 have hm:=aau R.s
 have hl:p.Next.toNat<p.Score.bo.length:=by omega
 have G:=sP R.s
 have hn:=(G.note _ hl).1
 refine⟨R.s,R.n1,λhk=>?_,?_,λi hi he=>?_,λi j Uc hj h1 h2=>?_⟩
 ·have hs:fF p.Score.bo[p.Next.toNat]! = true:=by unfold fF;rw[hk];rfl
  exact Kg R.s (OP G hs (iL hl))
 ·have:=R.sk;omega
 ·rcases R.v _ (iL hi) with h | h
  ·omega
  ·exact h.ins R.s
 ·have:=R.d i j Uc hj (by rw[h1,h2])
  omega
theorem YE{p:aC}(R:p.iW)(h:p.Next<p.Score.bo.length)(hs:fF p.Score.bo[p.Next.toNat]! = true){v:aK}(hv:v ∈ p.al):¬v.aT=p.Score.bo[p.Next.toNat]!.aT:=λe=>by
 have nx:=R.nx
 have G:=sP R.s
 have hn:=(G.note p.Next.toNat (by omega)).1
 rcases R.v v hv with h1 | ⟨j,h1,h2,h3,h4,_⟩
 ·omega
 ·have:=G.st1 j p.Next.toNat h1 (by omega) h3 hs (by rw[h4,e])
  omega
theorem JG(s:bI)(v:aK):(o5 s v).aT=v.aT∧(o5 s v).aq=v.aq∧s.kind (o5 s v)=s.kind v:=by
 unfold o5
 split <;> exact⟨rfl,rfl,rfl⟩
theorem U0{s:bI}{v:aK}{k:Int}(h:fB k v):fB k (o5 s v):=by
 unfold o5
 split <;> exact h
theorem rz.mono{s:bI}{n m:Int}{v:aK}(h:rz s n v)(hm:n≤m):rz s m v:=by
 obtain⟨j,h1,h2,r⟩:=h
 exact⟨j,h1,by omega,r⟩
theorem JX{p:aC}(R:p.iW)(h:p.Next<p.Score.bo.length):p.next.iW:=by
 have nx:=R.nx
 have sk:=R.sk
 have hl:p.Next.toNat<p.Score.bo.length:=by omega
 have G:=sP R.s
 obtain⟨e,he⟩:∃e,e=p.Score.bo[p.Next.toNat]!:=⟨_,rfl⟩
 unfold aC.next
 rw[← he]
 by_cases hk:e.Kind=2
 ·have hs:fF e=true:=by unfold fF;rw[hk];rfl
  have no:∀{v:aK},v ∈ p.al->¬v.aT=e.aT:=λhv=>by rw[he];exact YE R h (by rw[← he];exact hs) hv
  have hn:0≤e.aT:=by rw[he];exact(G.note _ hl).1
  rw[vE hk]
  cases hv:g0 p.Score e with
  | none=>exact⟨R.s,R.n1,R.n6,⟨by show 0≤p.Next+1;omega,by show p.Next+1≤(p.Score.bo.length:Int);omega⟩,⟨by show 0≤p.ft+1;omega,by show p.ft+1≤64+(p.Next+1);omega⟩,λv hv=>(R.v v hv).imp id λV=>V.mono (by show p.Next≤p.Next+1;omega),R.d⟩
  | some w=>
   obtain⟨w1,w2,w3⟩:=Vu hv
   have hp:=GU R.n1
   refine⟨R.s,by show 1≤(p.al.set _ w).length;rw[List.length_set];exact R.n1,by show(p.al.set _ w).length≤6;rw[List.length_set];exact R.n6,⟨by show 0≤p.Next+1;omega,by show p.Next+1≤(p.Score.bo.length:Int);omega⟩,⟨sk.1,by show p.ft≤64+(p.Next+1);omega⟩,λv hv=>?_,λi j Uc hj CY=>?_⟩
   ·rcases List.mem_or_eq_of_mem_set hv with hv | rfl
    ·exact(R.v v hv).imp id λV=>V.mono (by show p.Next≤p.Next+1;omega)
    ·exact .inr ⟨p.Next.toNat,hl,by show((p.Next.toNat:Nat):Int)<p.Next+1;omega,by show fF p.Score.bo[p.Next.toNat]! = true;rw[← he];exact hs,by show p.Score.bo[p.Next.toNat]!.aT=_;rw[← he,w1],by show p.Score.bo[p.Next.toNat]!.aq=_;rw[← he,w2],w3⟩
   ·have hj:j<(p.al.set (placeOf p.al) w).length:=hj
    rw[List.length_set] at hj
    have CY:(p.al.set (placeOf p.al) w)[i]!.aT=(p.al.set (placeOf p.al) w)[j]!.aT:=CY
    show(p.al.set (placeOf p.al) w)[i]!.aT = -1
    rw[Lb (by omega),Lb (by omega)] at CY
    rw[Lb (by omega)]
    by_cases e1:placeOf p.al=i
    ·rw[if_pos e1] at CY ⊢
     rw[if_neg (by omega)] at CY
     exact absurd (by rw[← CY,w1]) (no (iL hj))
    ·rw[if_neg e1] at CY ⊢
     by_cases e2:placeOf p.al=j
     ·rw[if_pos e2] at CY
      exact absurd (by rw[CY,w1]) (no (iL (show i<p.al.length by omega)))
     ·rw[if_neg e2] at CY
      exact R.d i j Uc hj CY
 ·rw[yw hk]
  have SL:∀v,(ir p.Score e.aT v).aT=v.aT:=λv=>by unfold ir;split <;> first | exact(JG _ v).1 | rfl
  refine⟨R.s,by show 1≤(p.al.map _).length;rw[List.length_map];exact R.n1,by show(p.al.map _).length≤6;rw[List.length_map];exact R.n6,⟨by show 0≤p.Next+1;omega,by show p.Next+1≤(p.Score.bo.length:Int);omega⟩,⟨sk.1,by show p.ft≤64+(p.Next+1);omega⟩,λv hv=>?_,λi j Uc hj CY=>?_⟩
  ·obtain⟨u,hu,rfl⟩:=List.mem_map.1 hv
   rw[SL]
   refine(R.v u hu).imp id λV=>?_
   have V:=V.mono (show p.Next≤p.Next+1 by omega)
   unfold ir
   split
   ·obtain⟨j,h1,h2,h3,h4,h5,h6⟩:=V
    obtain⟨g1,g2,g3⟩:=JG p.Score u
    exact⟨j,h1,h2,h3,by rw[g1];exact h4,by rw[g2];exact h5,by show fB (p.Score.kind (o5 p.Score u)) _;rw[g3];exact U0 h6⟩
   ·exact V
  ·have hj:j<(p.al.map (ir p.Score e.aT)).length:=hj
   rw[List.length_map] at hj
   have CY:(p.al.map (ir p.Score e.aT))[i]!.aT=(p.al.map (ir p.Score e.aT))[j]!.aT:=CY
   show(p.al.map (ir p.Score e.aT))[i]!.aT = -1
   rw[nB (by omega),nB (by omega),SL,SL] at CY
   rw[nB (by omega),SL]
   exact R.d i j Uc hj CY
theorem sM(p:aC):p.next.Score=p.Score∧p.next.mO=p.mO∧p.next.Next=p.Next+1:=by
 unfold aC.next aC.qm
 split
 ·cases g0 p.Score _ <;> exact⟨rfl,rfl,rfl⟩
 ·exact⟨rfl,rfl,rfl⟩
theorem CB:∀(k:Nat){p:aC},p.iW->(aC.run k p).iW∧(aC.run k p).mO=p.mO∧(aC.run k p).Score=p.Score
 | 0,p,R=>⟨R,rfl,rfl⟩
 | k+1,p,R=>by
  unfold aC.run
  split
  ·next h=>
   obtain⟨h1,h2,h3⟩:=CB k (JX R (GH h).1)
   obtain⟨g1,g2,_⟩:=sM p
   exact⟨h1,by rw[h2,g2],by rw[h3,g1]⟩
  ·exact⟨R,rfl,rfl⟩
theorem Z9{p:aC}(R:p.iW)(h:p.yN=true):aC.run (p.Score.bo.length-p.Next.toNat) p=aC.run (p.next.Score.bo.length-p.next.Next.toNat) p.next:=by
 have nx:=R.nx
 obtain⟨h1,h2⟩:=GH h
 obtain⟨g1,g2,g3⟩:=sM p
 rw[g1,g3,show p.Score.bo.length-p.Next.toNat=(p.Score.bo.length-(p.Next+1).toNat)+1 by omega]
 conv=>lhs;unfold aC.run
 rw[if_pos h]
theorem Z7{p:aC}(h:p.yN=false):∀k,aC.run k p=p
 | 0=>rfl
 | k+1=>by unfold aC.run;rw[h,if_neg (by decide)]
theorem JW(s:bI)(v:aK):(xw s v).aT=v.aT∨(xw s v).aT = -1:=by
 unfold xw
 split
 ·exact .inl rfl
 ·split
  ·exact .inr rfl
  ·exact .inl (wm _ v).2.1
theorem LZ{p:aC}(R:p.iW):p.pB.1.iW:=by
 refine⟨R.s,by show 1≤(p.al.map _).length;rw[List.length_map];exact R.n1,by show(p.al.map _).length≤6;rw[List.length_map];exact R.n6,R.nx,R.sk,λv hv=>?_,λi j Uc hj CY=>?_⟩
 ·obtain⟨u,hu,rfl⟩:=List.mem_map.1 hv
  unfold xw
  split
  ·next h=>exact .inl h
  ·next hn=>
   split
   ·exact .inl rfl
   ·rcases R.v u hu with h | ⟨j,h1,h2,h3,h4,h5,h6⟩
    ·exact absurd h hn
    ·obtain⟨g1,g2,g3⟩:=wm (p.Score.kind u) u
     refine .inr ⟨j,h1,h2,h3,by rw[g2];exact h4,by rw[g3];exact h5,?_⟩
     have:p.Score.kind (u.sound (p.Score.kind u)).1=p.Score.kind u:=by show p.Score.az[(u.sound (p.Score.kind u)).1.aq.toNat]!.Kind=_;rw[g3];rfl
     show fB (p.Score.kind _) _
     rw[this];exact wk h6
 ·have hj:j<(p.al.map (xw p.Score)).length:=hj
  rw[List.length_map] at hj
  have CY:(p.al.map (xw p.Score))[i]!.aT=(p.al.map (xw p.Score))[j]!.aT:=CY
  show(p.al.map (xw p.Score))[i]!.aT = -1
  rw[nB (by omega),nB (by omega)] at CY
  rw[nB (by omega)]
  rcases JW p.Score p.al[i]! with h1 | h1
  ·rcases JW p.Score p.al[j]! with h2 | h2
   ·rw[h1];exact R.d i j Uc hj (by rw[← h1,CY,h2])
   ·rw[CY,h2]
  ·exact h1
theorem RV{p:aC}(R:p.iW):p.step.1.iW:=LZ (CB _ R).1
theorem Zi{p:aC}(R:p.iW):p.step.1.mO=p.mO+1:=by
 show(aC.run _ p).mO+1=_
 rw[(CB _ R).2.1]
theorem ale{s:bI}{v:aK}(h:aeJ s v=true):fB (s.kind v) v:=by
 unfold aeJ at h
 unfold fB bI.kind
 split at h
 ·next k=>
  rw[if_pos k]
  simp only[Bool.and_eq_true] at h
  have:=h.1.1
  unfold bK.ok at this
  simp only[Bool.and_eq_true] at this
  exact this.1.1.1
 ·next k=>
  rw[if_neg k]
  split at h
  ·next k2=>
   rw[if_pos k2]
   simp only[Bool.and_eq_true] at h
   exact alo h.1.2
  ·next k2=>
   rw[if_neg k2]
   simp only[Bool.and_eq_true] at h
   exact h.2
theorem av3{s:bI}(h:s.ok=true){now:Int}{j:Nat}(hj:j<s.bo.length)(hb:s.bo[j]!.At<now):j<hap s.bo now:=by
 have G:=sP h
 obtain⟨h1,h2⟩:=alj (now:=now) G
 rcases yq (λe:aZ=>decide (now≤e.At)) s.bo with⟨e,_⟩ | ⟨m,hm,e,h0,hp⟩
 ·have:=h1 e;omega
 ·have:=h2 m hm e
  rw[decide_eq_true_iff] at hp
  have:j<m:=by
   rcases Nat.lt_or_ge j m with h | h
   ·exact h
   ·have:=G.sorted (i:=m) (j:=j) h hj;omega
  omega
theorem ahn{p:aC}(h:p.ok=true):p.iW∧0≤p.mO∧p.mO≤200000:=by
 unfold aC.ok at h
 simp only[Bool.and_eq_true,beq_iff_eq,inR,decide_eq_true_eq,List.all_eq_true,List.mem_range] at h
 obtain⟨⟨⟨⟨⟨hs,hl⟩,hn⟩,hk⟩,hx⟩,hv⟩:=h
 have hh:hap p.Score.bo p.mO≤p.Score.bo.length:=List.countP_le_length
 refine⟨⟨hs,by omega,by omega,by omega,by omega,λv hvm=>?_,λi j Uc hj CY=>?_⟩,by omega,by omega⟩
 ·obtain⟨i,hi,rfl⟩:=List.mem_iff_getElem.1 hvm
  have:=hv i hi
  unfold Zv at this
  rw[getElem!_pos p.al i hi,Bool.and_eq_true] at this
  obtain⟨ho,hr⟩:=this
  by_cases hn1:p.al[i].aT = -1
  ·exact .inl hn1
  refine .inr ?_
  have hp:0≤p.al[i].aT:=(ajp hs ho).resolve_left hn1
  rw[decide_eq_false (by omega),Bool.false_or,Bool.and_eq_true,decide_eq_true_iff] at hr
  rw[acy,if_neg hn1] at ho
  cases he:tS p.Score.bo p.al[i].aT with
  | none=>rw[he] at ho;cases ho
  | some e=>
   rw[he] at ho
   simp only[Bool.and_eq_true,beq_iff_eq] at ho
   obtain⟨hm,hst,hnt⟩:=aqK he
   obtain⟨j,hj,rfl⟩:=List.mem_iff_getElem.1 hm
   have ej:p.Score.bo[j]! = p.Score.bo[j]:=getElem!_pos _ j hj
   refine⟨j,hj,?_,by rw[ej];exact hst,by rw[ej];exact hnt,by rw[ej];exact ho.1.1.1,ale ho.2⟩
   have:=av3 hs hj (now:=p.mO) (by rw[ej,ho.1.1.2];exact hr.1)
   omega
 ·have h1:=hv j hj
  unfold Zv at h1
  rw[Bool.and_eq_true,Bool.or_eq_true,Bool.and_eq_true,decide_eq_true_iff] at h1
  rcases h1.2 with h2 | h2
  ·have:=(ajp hs h1.1).resolve_right (by omega)
   rw[CY];exact this
  ·have:=List.all_eq_true.1 h2.2 i (List.mem_range.2 Uc)
   rw[CY] at this
   simp at this
set_option maxHeartbeats 2000000
theorem ae3{X:Type}{B:(X->ab->Prop)->X->ab->Prop}{x:X}{h:ab}(I:X->ab->Prop)(m:X->ab->Nat)(h0:I x h)(hb:∀x h,I x h->B (λx' h'=>I x' h'∧m x' h'<m x h) x h):bk B x h:=⟨I,m,h0,hb⟩
def SO(h:ab)(a:Addr):Int:=match cell h a with | some (.int _ n)=>n | _=>0
theorem Ca{h0 h:ab}{q:Addr}{F:Fr}{L:List Blk}{p:aC}(P:Pt bz h0 h q F L p):SO h (q.add 8)=p.Next:=by
 obtain⟨v,e,e2⟩:=P.rd.cell xk rfl
 have e2:[v]=[.int .i64 p.Next]:=e2
 obtain rfl:v = .int .i64 p.Next:=by simpa using e2
 unfold SO
 rw[e]
def AA(h0 h':ab)(q:Addr)(F:Fr)(L:List Blk)(r:aC×Nat)(u:Value):Prop:=(∃y,u = .float .f32 y∧FW .f32 y r.2)∧Pt bz h0 h' q F L r.1
def aC.upto(p:aC)(i:Nat):aC:={ p with al:=oN (xw p.Score) p.al i }
def qS(p:aC)(i:Nat):Nat:=(p.al.take i).foldl (PM p.Score) 0
theorem wF{p:aC}{i:Nat}(h:i<p.al.length):qS p (i+1)=PM p.Score (qS p i) p.al[i]!:=by
 unfold qS
 rw[vk h,List.foldl_append];rfl
theorem HF{p:aC}{i:Nat}(h:i<p.al.length):(p.upto i).al[i]! = p.al[i]!:=NY h
theorem zf{p:aC}{i:Nat}(h:i<p.al.length):{ p.upto i with al:=(p.upto i).al.set i (xw p.Score p.al[i]!) }=p.upto (i+1):=by
 unfold aC.upto
 dsimp only
 rw[JS h]
theorem HG(p:aC)(i:Nat):(p.upto i).al.length=p.al.length:=yL
theorem Zc{α:Type}[Inhabited α]{l:List α}{i:Nat}(h:i<l.length):l.set i l[i]! = l:=by
 rw[getElem!_pos l i h,List.set_getElem_self]
theorem Kj{p:aC}{i:Nat}(h:i<p.al.length)(hn:p.al[i]!.aT = -1):p.upto (i+1)=p.upto i:=by
 rw[← zf h]
 have:xw p.Score p.al[i]! = (p.upto i).al[i]!:=by unfold xw;rw[if_pos hn,HF h]
 rw[this,Zc (by rw[HG];exact h)]
section
variable {h0 h:ab}{q:Addr}{F:Fr}{L:List Blk}{p:aC}
theorem Ki(R:p.iW){i:Nat}(hi:i<p.al.length)(hn:¬p.al[i]!.aT = -1):fB (p.Score.kind p.al[i]!) p.al[i]! ∧ 0≤p.al[i]!.aq∧p.al[i]!.aq<p.Score.az.length:=by
 have V:=(R.v _ (iL hi)).resolve_left hn
 exact⟨V.choose_spec.2.2.2.2.2,V.ins R.s⟩
theorem XJ(P:Pt bz h0 h q F L p)(R:p.iW)(Ud:0≤p.mO∧p.mO≤1000000):bk (bw.B6 (λu h'=>AA h0 h' q F L p.pB u)) (q,0,(0:Int)) h:=by
 have hm:=cu
 refine loop (λy hh=>∃(i sum:Nat),y=(q,sum,(i:Int))∧i≤p.al.length∧FW .f32 sum (qS p i)∧Pt bz h0 hh q F L (p.upto i)) (λy=>((p.al.length:Int)-y.2.2).toNat) ⟨0,0,rfl,by omega,fw0,by unfold aC.upto;rw[DA];exact P⟩ ?_
 rintro y hh ⟨i,sum,rfl,hi,rf,P⟩
 obtain⟨b,l,c,hb,S⟩:=P.hdr (off:=6) (e:=122) (s:=aQ)
 have hl:(p.upto i).al.length=l:=S.len
 rw[HG] at hl
 have s1:=S.2.1
 have s2:=S.2.2.1
 refine o_l hb (brd (λhc=>o_l hb ?_) λhc=>?_)
 ·have fin:∀{h':ab}{Zj:Nat},FW .f32 Zj (qS p (i+1))->Pt bz h0 h' q F L (p.upto (i+1))->((∃i' OX:Nat,(q,Zj,i64.wrap ((i:Int)+1))=(q,OX,(i':Int))∧i'≤p.al.length∧FW .f32 OX (qS p i')∧Pt bz h0 h' q F L (p.upto i'))∧((p.al.length:Int)-i64.wrap ((i:Int)+1)).toNat<((p.al.length:Int)-i).toNat):=λhs P=>
   ⟨⟨i+1,_,by rw[ag (by omega)],by omega,hs,P⟩,by rw[ag (by omega)];omega⟩
  obtain⟨a,F',C,rfl,P',close⟩:=P.JA (off:=6) hb (i:=i) (by omega)
  have Nm:=HF (p:=p) (i:=i) (by omega)
  have P':Pt aQ h0 hh (a.add (i*45)) F' (C++L) (p.upto i).al[i]!:=P'
  rw[Nm] at P'
  refine idxs (by omega) (by omega) ?_
  rw[Int.toNat_natCast]
  refine P'.rd.oI1 (br (λk=>?_) λk=>?_)
  ·have k:p.al[i]!.aT = -1:=by simpa using k
   refine fin ?_ ?_
   ·rw[wF (by omega)];unfold PM;rw[if_pos k];exact rf
   ·rw[Kj (by omega) k];exact P
  have k:¬p.al[i]!.aT = -1:=by simpa using k
  obtain⟨B,I1,I2⟩:=Ki R (i:=i) (by omega) k
  refine P.rd.oL (off:=4) λb4 l4 c4 S4=>?_
  have e4:p.Score.az.length=l4:=S4.len
  refine P'.rd.oI (S4.idx (by decide) I1 (by omega) λa4 R4=>?_)
  have R4:RdP aA hh (a4.add (p.al[i]!.aq.toNat*5)) p.Score.az[p.al[i]!.aq.toNat]!:=R4
  refine R4.oI ?_
  have hkd:p.Score.az[p.al[i]!.aq.toNat]!.Kind=p.Score.kind p.al[i]!:=rfl
  rw[hkd]
  refine(Qw P' B).mono ?_
  rintro _ h1 ⟨⟨y,rfl,hy⟩,P1⟩
  obtain⟨Pc,hk1⟩:=close _ _ _ _ P1
  have hb1:cell h1 (q.add 6)=some (.slice (some a) l c):=by rw[hk1];exact hb
  have B1:=wk B
  have ID:xw p.Score p.al[i]! = if(p.al[i]!.Gone&&(p.al[i]!.sound (p.Score.kind p.al[i]!)).1.quiet (p.Score.kind p.al[i]!))=true then ln else(p.al[i]!.sound (p.Score.kind p.al[i]!)).1:=by unfold xw;rw[if_neg k]
  refine cW (fA rf hy λs' Qm=>P1.rd.oB ?_)
  rw[(wm _ _).1]
  have Qm:FW .f32 s' (qS p (i+1)):=by rw[wF (by omega)];unfold PM;rw[if_neg k];exact Qm
  have J:∀{h2:ab}{t:Bool},Ext h1 h2->t=(p.al[i]!.Gone&&(p.al[i]!.sound (p.Score.kind p.al[i]!)).1.quiet (p.Score.kind p.al[i]!)) ->
    bw.J13 (λx' h'=>(∃i sum:Nat,x'=(q,sum,(i:Int))∧i≤p.al.length∧FW .f32 sum (qS p i)∧Pt bz h0 h' q F L (p.upto i))∧((p.al.length:Int)-x'.2.2).toNat<((p.al.length:Int)-(i:Int)).toNat) (λu h'=>AA h0 h' q F L p.pB u) q s' (i:Int) t h2:=λ{h2 t} x2 ht=>by
   unfold bw.J13
   have Pc:=Pc.grow x2
   rw[← ht] at ID
   refine br (λe=>?_) λe=>?_
   ·rw[e,if_pos rfl] at ID
    refine o_l (x2.cell hb1) (goX vi λh3 x3=>gw (Pc.rd.lN (by decide) x3 ?_))
    have Pc:=Pc.grow x3
    obtain⟨a',ha,st⟩:=Pt.stE (off:=6) (i:=i) (n:=45) (L:=L) (B':=[]) (vs:=⟨u5⟩) Pc (x3.cell (x2.cell hb1)) (by omega) rfl HM λh' P' _=>fin Qm (by
     have P':Pt bz h0 h' q F L { p.upto i with al:=((p.upto i).al.set i (p.al[i]!.sound (p.Score.kind p.al[i]!)).1).set i ln }:=P'
     rw[List.set_set,← ID,zf (by omega)] at P'
     exact P')
    cases ha
    refine idxs (by omega) (by omega) ?_
    rw[Int.toNat_natCast]
    exact st
   ·rw[e,if_neg (by decide)] at ID
    refine fin Qm ?_
    rw[← zf (by omega),ID]
    exact Pc
  refine br (λe=>goX (Qv P1.rd B1) λh2 x2=>bt (J x2 (by rw[e,Bool.true_and]))) λe=>J (Ext.refl _) (by rw[e,Bool.false_and])
 ·obtain rfl:i=p.al.length:=by omega
  refine P.rd.oI (off:=7) ?_
  have hN:(p.upto p.al.length).mO=p.mO:=rfl
  rw[hN,wrap64 (n:=p.mO+1) (by omega) (by omega)]
  refine P.stI λh1 P1=>(Gn rf c1).go λh2 y x2 hy=>cW ⟨⟨y,rfl,?_⟩,?_⟩
  ·have:p.pB.2=tg (qS p p.al.length) Eo:=by unfold qS;rw[List.take_length];rfl
   rw[this];exact hy
  ·have:p.pB.1={ p.upto p.al.length with mO:=p.mO+1 }:=by unfold aC.upto;rw[Gy rfl];rfl
   rw[this];exact P1.grow x2
theorem Ee(p:aC)(e:aZ):(p.qm e).Next=p.Next∧(p.qm e).Score=p.Score:=by
 unfold aC.qm
 split
 ·cases g0 p.Score e <;> exact⟨rfl,rfl⟩
 ·exact⟨rfl,rfl⟩
structure AB (p0 p:aC):Prop where
 r:p.iW
 n:p.mO=p0.mO
 e:aC.run (p.Score.bo.length-p.Next.toNat) p=aC.run (p0.Score.bo.length-p0.Next.toNat) p0
 s:p.Score=p0.Score
theorem AB.next{p0 p:aC}(R:AB p0 p)(h:p.yN=true):AB p0 p.next:=by
 obtain⟨g1,g2,g3⟩:=sM p
 exact⟨JX R.r (GH h).1,by rw[g2,R.n],by rw[← Z9 R.r h,R.e],by rw[g1,R.s]⟩
theorem AB.done{p0 p:aC}(R:AB p0 p)(h:p.yN=false):p.pB=p0.step:=by
 unfold aC.step
 rw[← R.e,Z7 h]
theorem Uz(P:Pt bz h0 h q F L p)(R:p.iW)(Ud:0≤p.mO∧p.mO≤1000000):af ak 42 #[.pointer (some q)] (λu h'=>AA h0 h' q F L p.step u) h:=by
 have hm:=cu
 refine bw.call (ae3 (λy hh=>∃w:aC,y=q∧AB p w∧Pt bz h0 hh q F L w) (λy hh=>((p.Score.bo.length:Int)-SO hh (q.add 8)).toNat) ⟨p,rfl,⟨R,rfl,rfl,rfl⟩,P⟩ ?_)
 rintro y hh ⟨w,rfl,W,P⟩
 have nx:=W.r.nx
 obtain⟨b,l,c,hb,S⟩:=P.hdr (off:=5) (e:=131) (s:=bF)
 have hl:w.Score.bo.length=l:=S.len
 have s1:=S.2.1
 have s2:=S.2.2.1
 have hes:w.Score.bo.length=p.Score.bo.length:=by rw[W.s]
 have sum:w.yN=false->bk (bw.B6 (λu h'=>AA h0 h' y F L p.step u)) (y,0,(0:Int)) hh:=λh=>by
  rw[← W.done h]
  exact XJ P W.r (by rw[W.n];exact Ud)
 refine P.rd.oI (off:=8) (o_l hb (brd (λhc=>o_l hb (P.rd.oI (off:=8) ?_)) λhc=>sum ?_))
 ·obtain⟨a,rfl,Ra⟩:=S.elem (i:=w.Next.toNat) (by omega) (by decide)
  have Ra:RdP bF hh (a.add (w.Next.toNat*6)) w.Score.bo[w.Next.toNat]!:=Ra
  refine idxs (by omega) (by omega) (Ra.oI1 (P.rd.oI (off:=7) (br (λk=>?_) λk=>sum ?_)))
  ·have k:w.Score.bo[w.Next.toNat]!.At=w.mO:=by simpa using k
   have hc':w.Next<(w.Score.bo.length:Int):=by rw[hl];exact hc
   have hn:w.yN=true:=by unfold aC.yN;rw[decide_eq_true hc',k];simp
   have E:HY hh y (a.add (w.Next.toNat*6)) w.Next.toNat:=⟨a,l,c,hb,rfl,by omega⟩
   unfold bw.J2
   refine o_l hb (P.rd.oI (off:=8) (idxs (by omega) (by omega) ((NB P E rfl (OH W.r hc')).mono ?_)))
   rintro _ h1 ⟨rfl,P1⟩
   obtain⟨n1,n2⟩:=Ee w w.Score.bo[w.Next.toNat]!
   refine P1.rd.oI (off:=8) ?_
   rw[n1,wrap64 (n:=w.Next+1) (by omega) (by omega)]
   refine P1.stI λh2 P2=>?_
   have P2:Pt bz h0 h2 y F L w.next:=P2
   refine⟨⟨w.next,rfl,W.next hn,P2⟩,?_⟩
   rw[Ca P2,Ca P,(sM w).2.2]
   omega
  ·have k:¬w.Score.bo[w.Next.toNat]!.At=w.mO:=by simpa using k
   unfold aC.yN;rw[beq_eq_false_iff_ne.2 k,Bool.and_false]
 ·unfold aC.yN
  rw[decide_eq_false (by show ¬w.Next<(w.Score.bo.length:Int);omega)];rfl
end
end Go.Sx
