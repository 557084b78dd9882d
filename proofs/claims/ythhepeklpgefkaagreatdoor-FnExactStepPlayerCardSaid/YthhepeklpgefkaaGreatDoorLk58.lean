/- Lemmas. -/
import Derived.Test.YthhepeklpgefkaaGreatDoorLk51
import Derived.Test.YthhepeklpgefkaaGreatDoorLf9
import Derived.Test.YthhepeklpgefkaaGreatDoorLk35
import Derived.Test.YthhepeklpgefkaaGreatDoorLk56
import Derived.Test.YthhepeklpgefkaaGreatDoorLk24
import Derived.Test.YthhepeklpgefkaaGreatDoorLpn
import Derived.Test.YthhepeklpgefkaaGreatDoorH1
import Derived.Test.YthhepeklpgefkaaGreatDoorTab
set_option linter.unusedVariables false
set_option linter.unusedSimpArgs false
namespace Go.Sx
open FloatKind (f32 f64)
open IntKind (i64)
open Go.Proofs
set_option maxRecDepth 100000
set_option maxHeartbeats 2000000
section
variable {h0 h:ab}{q e1:Addr}{F:Fr}{L:List Blk}{p:ay}{n:Nat}{e:bf}
theorem alD:FW .f32 1056964608 half:=fK (by decide) (by decide)
theorem QK{B:List Blk}{cs:Array Value}{v:aJ}{b:Option Addr}{l c:Nat}{K:ab->Prop}(P:Pt aR h0 h q F (B++L) p)(O:az.ow B cs.toList v)(h1:1≤p.al.length)(hb:cell h (q.add 6)=some (.slice b l c))(H:∀h',Pt aR h0 h' q F L { p with al:=p.al.set (placeOf p.al) v }->K h'):bg b (placeOf p.al:Int) l λa=>STA 45 h (a.add ((Int.toNat (placeOf p.al:Int))*45)) cs K:=by
 have S:=P.slr (off:=6) hb
 have hl:p.al.length=l:=S.len
 have hp:=Nj h1
 obtain⟨a0,rfl,st⟩:=Pt.stE (off:=6) (i:=placeOf p.al) (n:=45) P hb (by omega) rfl O λh' P' _=>H h' P'
 refine idxs (by omega) (by omega) ?_
 rw[Int.toNat_natCast]
 exact st
theorem aiw{vs:List aJ}{s:cA}{m:Int}{i:Nat}(hi:i<vs.length)(he:vs[i]!.aT=m)(ho:∀j,j<vs.length->j≠i->¬vs[j]!.aT=m):vs.set i (tx s vs[i]!)=vs.map (k9 s m):=by
 apply List.ext_getElem
 ·simp
 ·intro j h1 h2
  rw[List.length_set] at h1
  rw[List.getElem_map]
  by_cases ej:i=j
  ·subst ej
   rw[List.getElem_set_self,← getElem!_pos vs i h1]
   unfold k9
   rw[if_pos he]
  ·rw[List.getElem_set_ne ej,← getElem!_pos vs j h1]
   unfold k9
   rw[if_neg (ho j h1 (by omega))]
theorem map_none{vs:List aJ}{s:cA}{m:Int}(ho:∀j,j<vs.length->¬vs[j]!.aT=m):vs.map (k9 s m)=vs:=by
 apply List.ext_getElem
 ·simp
 ·intro j h1 h2
  rw[List.getElem_map]
  unfold k9
  rw[if_neg (by rw[← getElem!_pos vs j h2];exact ho j h2)]
theorem ady{a0:Addr}{l c i:Nat}{K:ab->Prop}(P:Pt aR h0 h q F L p)(hb:cell h (q.add 6)=some (.slice (some a0) l c))(hi:i<p.al.length)(K6:0≤p.al[i]!.ar∧p.al[i]!.ar<p.Score.aI.length)(H:∀h',Pt aR h0 h' q F L { p with al:=p.al.set i (tx p.Score p.al[i]!) }->(∀k,cell h' (q.add k)=cell h (q.add k))->K h'):
  ST1 h ((a0.add (i*45)).add 3) (.bool true) λuN=>ST1 uN ((a0.add (i*45)).add 4) (.float .f32 0) λry=>oL (cell ry (q.add 4)) λSQ Px aeq=>oI .i64 (cell ry ((a0.add (i*45)).add 1)) λn31=>
   bg SQ n31 Px λp32=>oI .i64 (cell ry ((p32.add ((Int.toNat n31)*5)).add 1)) λZu=>
   BIF (Zu==(1:Int)) (oF .f32 (cell ry (((a0.add (i*45)).add 5).add 14)) λr34=>FOP .f32 (f32.format.mul r34 1056964608) λr35=>ST1 ry (((a0.add (i*45)).add 5).add 14) (.float .f32 r35) K) (K ry):=by
 have S:=P.slr (off:=6) hb
 have hl:p.al.length=l:=S.len
 obtain⟨a1,F',C,e1,P',close⟩:=P.LR (off:=6) hb (i:=i) (by omega)
 cases e1
 have P':Pt az h0 h (a0.add (i*45)) F' (C++L) p.al[i]!:=P'
 refine P'.stB λh1 P1=>P1.stF fw0 λh2 P2=>?_
 obtain⟨Pp,hk⟩:=close _ _ _ _ P2
 refine Pp.rd.oL (off:=4) λb4 l4 c4 S4=>?_
 have e4:p.Score.aI.length=l4:=S4.len
 refine P2.rd.oI (S4.idx (by decide) K6.1 (by show p.al[i]!.ar<_;omega) λa4 R4=>?_)
 have R4:RdP aM h2 (a4.add (p.al[i]!.ar.toNat*5)) p.Score.aI[p.al[i]!.ar.toNat]!:=R4
 refine R4.oI ?_
 have kd:p.Score.kind p.al[i]! = p.Score.aI[p.al[i]!.ar.toNat]!.Kind:=rfl
 refine br (λk=>?_) λk=>?_
 ·have k:p.Score.kind p.al[i]! = 1:=by rw[kd];simpa using k
  obtain⟨F2,L2,P3,cl⟩:=P2.apl bu
  refine P3.rd.oF λy hy=>fM hy alD λz hz=>P3.stF hz λh3 P4=>?_
  obtain⟨Pq,hk3⟩:=close _ _ _ _ (cl _ _ _ _ P4).1
  refine H h3 ?_ hk3
  have eg:tx p.Score p.al[i]! = { p.al[i]! with Gone:=true,ja:=0,String:={ p.al[i]!.String with fi:=fP .f32 p.al[i]!.String.fi half } }:=by unfold tx;rw[if_pos k]
  rw[eg]
  exact Pq
 ·have k:¬p.Score.kind p.al[i]! = 1:=by rw[kd];simpa using k
  refine H h2 ?_ hk
  have eg:tx p.Score p.al[i]! = { p.al[i]! with Gone:=true,ja:=0 }:=by unfold tx;rw[if_neg k]
  rw[eg]
  exact Pp
theorem BS(hk:e.Kind=2):p.vQ e=match iE p.Score e with | some v=>{ p with al:=p.al.set (placeOf p.al) v } | none=>{ p with eF:=p.eF+1 }:=by unfold ay.vQ;rw[if_pos hk];cases iE p.Score e <;> rfl
theorem DN(hk:¬e.Kind=2):p.vQ e={ p with al:=p.al.map (k9 p.Score e.aT) }:=by unfold ay.vQ;rw[if_neg hk]
theorem UJ(P:Pt aR h0 h q F L p)(E:Ou h q e1 n)(he:p.Score.aU[n]! = e)(H:acL p e):ae ai tZ #[.pointer (some q),.pointer (some e1)] (λu h'=>u = .tuple ⟨[]⟩∧Pt aR h0 h' q F L (p.vQ e)) h:=by
 have hm:=bW
 have Re:RdP bD h e1 e:=by have:=E.rd P;rwa [he] at this
 refine gM.call (Re.oI (br (λk=>?_) λk=>?_))
 ·have hk:e.Kind=2:=by simpa using k
  rw[BS hk]
  refine (PN (P.rd.fst cP) Re H.s (H.st hk)).mono ?_
  rintro _ h2 ⟨cs,B,v,rfl,O,N,hv⟩
  have P:=P.join N
  refine nq (fe (bd ((Mem.start h2).alc λg8 h3 x3 N8=>N8.dy .here (osz O rfl) (az.iH O) rfl .here λh4 N8=>?_)))
  have P:=P.join N8
  cases ho:iE p.Score e with
  | none=>
   refine dp rfl (P.rd.oI ?_)
   have hsk:=H.sk
   rw[wrap64 (n:=p.eF+1) (by omega) (by omega)]
   exact P.stI λh5 P=>⟨rfl,P.cnt λp=>by simp only[bO];omega⟩
  | some w=>
   obtain rfl:=hv w ho
   obtain⟨b,l,c,hb,S⟩:=P.hdr (off:=6) (e:=ao) (s:=az)
   have Rv:RdP az h4 ⟨g8,0,none⟩ v:=N8.rdp .here (az.look O P.mem ((List.sublist_append_left _ _).trans (List.sublist_append_right _ _)))
   refine BB rfl (o_l hb (o_l hb (N8.cM .here (osz O rfl) (goX (Xn S H.n1) λh5 x5=>cX (Rv.pin rfl x5 (P.rd.jQ (by decide) x5 ?_))))))
   exact QK ((P.grow x5).cnt (W:=B++L) λp=>by simp only[bO];omega) O H.n1 (x5.cell hb) λh6 P=>⟨rfl,P⟩
 ·have hk:¬e.Kind=2:=by simpa using k
  rw[DN hk]
  refine loop (λy hh=>∃i:Nat,y=(q,e1,(i:Int))∧i≤p.al.length∧Ou hh q e1 n∧Pt aR h0 hh q F L { p with al:=um (k9 p.Score e.aT) p.al i }) (λy=>((p.al.length:Int)-y.2.2).toNat) ⟨0,rfl,by omega,E,by rw[Jz];exact P⟩ ?_
  rintro y hh ⟨i,rfl,hi,E,P⟩
  obtain⟨b,l,c,hb,S⟩:=P.hdr (off:=6) (e:=ao) (s:=az)
  have hl:(um (k9 p.Score e.aT) p.al i).length=l:=S.len
  rw[Ea] at hl
  have s1:=S.2.1
  have s2:=S.2.2.1
  have Re:RdP bD hh e1 e:=by have:=E.rd P;rwa [show ({ p with al:=um (k9 p.Score e.aT) p.al i }:ay).Score.aU[n]! = e from he] at this
  refine o_l hb (brd (λhc=>o_l hb ?_) λhc=>⟨rfl,?_⟩)
  ·have fin:∀{h':ab},Ou h' q e1 n->Pt aR h0 h' q F L { p with al:=um (k9 p.Score e.aT) p.al (i+1) }->((∃i':Nat,(q,e1,i64.wrap ((i:Int)+1))=(q,e1,(i':Int))∧i'≤p.al.length∧Ou h' q e1 n∧Pt aR h0 h' q F L { p with al:=um (k9 p.Score e.aT) p.al i' })∧((p.al.length:Int)-i64.wrap ((i:Int)+1)).toNat<((p.al.length:Int)-i).toNat):=λE P=>
    ⟨⟨i+1,by rw[ag (by omega)],by omega,E,P⟩,by rw[ag (by omega)];omega⟩
   have Uw:(um (k9 p.Score e.aT) p.al i)[i]! = p.al[i]!:=V7 (by omega)
   have aqD:=Qt (f:=k9 p.Score e.aT) (l:=p.al) (n:=i) (by omega)
   obtain⟨a,ha,Ra⟩:=S.elem (i:=i) (by omega) (by decide)
   have Ra:RdP az hh (a.add (i*45)) (um (k9 p.Score e.aT) p.al i)[i]!:=Ra
   rw[Uw] at Ra
   subst ha
   by_cases hn:p.al[i]!.aT=e.aT
   ·have es:k9 p.Score e.aT p.al[i]! = tx p.Score p.al[i]!:=by unfold k9;rw[if_pos hn]
    refine idxs (by omega) (by omega) ?_
    rw[Int.toNat_natCast]
    refine Ra.oI1 (Re.oI (BB (by simpa using hn) ?_))
    refine ady (i:=i) P hb (by show i<(um (k9 p.Score e.aT) p.al i).length;rw[Ea];omega) (by show 0≤(um (k9 p.Score e.aT) p.al i)[i]!.ar∧(um (k9 p.Score e.aT) p.al i)[i]!.ar<_;rw[Uw];exact H.ins i (by omega) hn) (λh' P' hk'=>?_)
    refine fin (E.axl hk') ?_
    have P':Pt aR h0 h' q F L { p with al:=(um (k9 p.Score e.aT) p.al i).set i (tx p.Score (um (k9 p.Score e.aT) p.al i)[i]!) }:=P'
    rw[Uw,← es,aqD] at P'
    exact P'
   ·refine idxs (by omega) (by omega) ?_
    rw[Int.toNat_natCast]
    refine Ra.oI1 (Re.oI (dp (by simpa using hn) ?_))
    have es:k9 p.Score e.aT p.al[i]! = p.al[i]!:=by unfold k9;rw[if_neg hn]
    refine fin E ?_
    rw[← aqD,es,← Uw]
    have:(um (k9 p.Score e.aT) p.al i).set i (um (k9 p.Score e.aT) p.al i)[i]! = um (k9 p.Score e.aT) p.al i:=by
     rw[getElem!_pos _ i (by rw[Ea];omega),List.set_getElem_self]
    rw[this];exact P
  ·rw[MJ (by omega)] at P;exact P
theorem adN{ce:Array Value}(P:Pt aR h0 h q F L p)(R0:bD.rd h ce.toList e)(H:acL p e):ae ai mW #[.pointer (some q),.agg ce] (λu h'=>u = .tuple ⟨[]⟩∧Pt aR h0 h' q F L (p.vQ e)) h:=by
 refine dK.call ((Mem.start h).alc λg1 h1 x1 N=>?_)
 have P:=P.join N
 have Re:RdP bD h1 ⟨g1,0,none⟩ e:=N.rdp .here (bD.ext N.ext R0)
 refine Re.oI2 (br (λk=>?_) λk=>?_)
 ·have hk:e.Kind=2:=by simpa using k
  rw[BS hk]
  refine (P.rd.fst cP).gi rfl λc4 R4=>Re.gi rfl λc5 R5=>?_
  have key:∀{hh:ab}{g:Nat}{B:List Blk}{cv:Array Value},az.ow B cv.toList (WO (iE p.Score e))->Mem h1 hh ((g,ao,⟨aW⟩) :: B) ->
    STA 45 hh ⟨g,0,none⟩ cv λke=>dK.J3 (λu h'=>u = .tuple ⟨[]⟩∧Pt aR h0 h' q F L (match iE p.Score e with | some v=>{ p with al:=p.al.set (placeOf p.al) v } | none=>{ p with eF:=p.eF+1 })) q ⟨g,0,none⟩ (ads (iE p.Score e)) ke:=λ{hh g B cv} O N=>by
   refine N.dy .here (osz O rfl) (az.iH O) rfl .here λh4 N=>?_
   have P:=P.join N
   unfold dK.J3
   cases ho:iE p.Score e with
   | none=>
    refine BB (by decide) (P.rd.oI ?_)
    have hsk:=H.sk
    rw[wrap64 (n:=p.eF+1) (by omega) (by omega)]
    exact P.stI λh5 P=>⟨rfl,P.cnt λp=>by simp only[bO,bz];omega⟩
   | some v=>
    rw[ho] at O
    have O:az.ow B cv.toList v:=O
    obtain⟨b,l,c,hb,S⟩:=P.hdr (off:=6) (e:=ao) (s:=az)
    have Rv:RdP az h4 ⟨g,0,none⟩ v:=N.rdp .here (az.look O N (List.sublist_cons_self _ _))
    refine dp rfl (o_l hb (N.cM .here (osz O rfl) (goX (aiN P.rd H.n1) λh5 x5=>cX (Rv.pin rfl x5 (P.rd.jQ (by decide) x5 ?_)))))
    exact QK ((P.grow x5).cnt (W:=B++L) λp=>by simp only[bO,bz];omega) O H.n1 (x5.cell hb) λh6 P=>⟨rfl,P⟩
  have V:∀{hh:ab},Ext h1 hh->ae ai nB #[.agg c4,.agg c5] (λu h'=>jG az hh h' u (WO (iE p.Score e)) (ads (iE p.Score e))) hh:=λx=>YH (da.ext x R4) (bD.ext x R5) H.s (H.st hk)
  refine ⟨?_,?_⟩
  ·refine jG.go (Mem.start h1) (V (Ext.refl _)) λh2 cv B N2 O sv=>nq (fe (cX (N2.alc λg h3 x3 N3=>Re.pin rfl N3.ext (P.rd.Da (by decide) N3.ext ?_))))
   exact key O (N3.cnt λp=>by simp only[List.append_eq,bO,bz,cg];omega)
  ·refine (Mem.start h1).alc λg h2 x2 N2=>Re.pin rfl N2.ext (P.rd.Da (by decide) N2.ext (jG.go N2 (V N2.ext) λh3 cv B N3 O sv=>nq (fe (cX ?_))))
   exact key O (N3.cnt λp=>by simp only[List.append_eq,bO,bz,cg];omega)
 ·have hk:¬e.Kind=2:=by simpa using k
  rw[DN hk]
  have T:Dp ai az h1 (.func (.func lu) #[] #[.pointer (some ⟨g1,0,none⟩)]) (λv=>v.aT==e.aT):=λcv v hx xx Rv=>by
   show ae ai lu #[.agg cv,.pointer (some ⟨g1,0,none⟩)] _ hx
   exact mz.call (fj Rv λg h' x' R'=>R'.oI2 ((Re.ext (xx.trans x')).oI ⟨rfl,x'⟩))
  refine P.rd.oL λb l c S=>goX (yQ S T) λh2 x2=>cX ?_
  have P:=P.grow x2
  rcases oG (λv:aJ=>v.aT==e.aT) p.al with ⟨ef,hf⟩ | ⟨m,hm,ef,hf,hp⟩
  ·rw[ef]
   refine brd (λ_=>⟨rfl,?_⟩) λk=>by omega
   rw[map_none λj hj=>by have:=hf j hj;simpa using this]
   exact P.drop
  ·rw[ef]
   have hp:p.al[m]!.aT=e.aT:=by simpa using hp
   refine brd (λk=>by omega) λ_=>?_
   obtain⟨b,l,c,hb,S⟩:=P.hdr (off:=6) (e:=ao) (s:=az)
   have hl:p.al.length=l:=S.len
   obtain⟨a,ha,Ra⟩:=S.elem (i:=m) (by omega) (by decide)
   subst ha
   refine o_l hb (idxs (by omega) (by omega) ?_)
   rw[Int.toNat_natCast]
   refine ady (i:=m) P hb hm (H.ins m hm hp) λh' P' _=>⟨rfl,?_⟩
   rw[aiw hm hp λj hj ne=>?_] at P'
   ·exact P'.drop
   ·rcases Nat.lt_or_ge j m with h | h
    ·have:=hf j h;simpa using this
    ·exact H.one m j (by omega) hj hp
end
end Go.Sx
namespace Go.Sx
open FloatKind (f32 f64)
open IntKind (i64)
open Ieee
theorem age(t:Bool):feq .f32 (cn .f32 (f32.format.word t 0)) 0=true:=by cases t <;> decide +kernel
theorem PO{a m:Nat}{s:Bool}{e:Int}(h:f32.format.read a = .number s m e):∃t,f32.format.sub a a=some (f32.format.word t 0):=by
 have wR:∃t,(Datum.number s m e).sum (Datum.number s m e).opposite=some (.number t (signed s m (e-min e e).toNat+signed (!s) m (e-min e e).toNat).natAbs (min e e)):=⟨_,rfl⟩
 obtain⟨t,wR⟩:=wR
 have z:∀k,signed s m k+signed (!s) m k=0:=λk=>by
  cases s
  ·rw[fZ];show _+signed true m k=0;rw[mB];omega
  ·rw[mB];show _+signed false m k=0;rw[fZ];omega
 rw[z] at wR
 refine ⟨t,?_⟩
 unfold Format.sub
 rw[h,wR]
 exact congrArg some (gZ _ _ _)
theorem HH{a m:Nat}{s:Bool}{e:Int}(h:f32.format.read a = .number s m e):fin a=true:=by
 obtain⟨t,ht⟩:=PO h
 unfold fin jC
 rw[ht,Option.getD_some]
 exact age t
theorem Mn{a c d n k:Nat}{j i:Int}(hc:f32.format.read c = .number false n j)(hd:f32.format.read d = .number false k i)(h:inside a c d=true):fin a=true:=by
 obtain⟨B,hB⟩:∃B:Nat,1100≤B:=⟨1100,Nat.le_refl _⟩
 obtain⟨s,m,e,hr,_⟩:=uX hB hc hd h
 exact HH hr
theorem Vs:f32.format.read 0 = .number false 0 (-149):=by decide +kernel
theorem ZH:f32.format.read 1065353216 = .number false (2 ^ 23) (-23):=by decide +kernel
theorem Ih{k:Nat}(h:place k=true):inside k 0 1065353216=true:=by
 unfold place at h
 unfold inside fle
 rw[Bool.and_eq_true] at *
 exact ⟨h.1,by rw[show (f32.format.order k 1065353216==some .lt)=true from h.2];rfl⟩
theorem one_sub{k:Nat}(h:place k=true):fin (jC .f32 1065353216 k)=true:=by
 obtain⟨B,hB⟩:∃B:Nat,1100≤B:=⟨1100,Nat.le_refl _⟩
 obtain⟨s',m',e',hr',Xe,h1',h2'⟩:=uX hB Vs ZH (Ih h)
 have v1:sv B (2 ^ 23) (-23)=2 ^ B:=by unfold sv;rw[← Nat.pow_add];congr 1;omega
 have Pg:=hU k hr'
 have hm:∃m,m=(2:Nat) ^ 23:=⟨_,rfl⟩
 obtain⟨m,hm⟩:=hm
 have hr:=ZH
 rw[← hm] at hr v1 h2'
 have he:∃e:Int,e = -23:=⟨_,rfl⟩
 obtain⟨e,he⟩:=he
 rw[← he] at hr v1 h2'
 have y0:∃b:Int,b=min e e':=⟨_,rfl⟩
 obtain⟨b,y0⟩:=y0
 have w1:sv B m e=m*2 ^ (e-b).toNat*2 ^ (b+(B:Int)).toNat:=by unfold sv;rw[Nat.mul_assoc,← Nat.pow_add];congr 2;omega
 have w2:sv B m' e'=m'*2 ^ (e'-b).toNat*2 ^ (b+(B:Int)).toNat:=by unfold sv;rw[Nat.mul_assoc,← Nat.pow_add];congr 2;omega
 have Uy:signed (!s') m' (e'-b).toNat = -((m'*2 ^ (e'-b).toNat:Nat):Int):=by
  cases s'
  ·exact mB _ _
  ·rw[Xe rfl,Nat.zero_mul]
   show signed false 0 _=_
   rw[fZ,Nat.zero_mul];rfl
 have hT:∃T:Nat,m*2 ^ (e-b).toNat=T+m'*2 ^ (e'-b).toNat∧T*2 ^ (b+(B:Int)).toNat≤2 ^ B:=by
  rw[w1,w2] at h2'
  rw[w1] at v1
  have hle:=Nat.le_of_mul_le_mul_right h2' (Nat.two_pow_pos _)
  refine ⟨m*2 ^ (e-b).toNat-m'*2 ^ (e'-b).toNat,by omega,?_⟩
  rw[← v1]
  exact Nat.mul_le_mul_right _ (Nat.sub_le _ _)
 obtain⟨T,hT1,hT3⟩:=hT
 have wR:∃t,(Datum.number false m e).sum (Datum.number s' m' e').opposite=some (.number t T b):=by
  have:∃t,(Datum.number false m e).sum (Datum.number s' m' e').opposite=some (.number t (signed false m (e-min e e').toNat+signed (!s') m' (e'-min e e').toNat).natAbs (min e e')):=⟨_,rfl⟩
  obtain⟨t,this⟩:=this
  refine ⟨t,?_⟩
  rw[this,← y0,Uy,fZ,hT1]
  have:((T+m'*2 ^ (e'-b).toNat:Nat):Int) + -((m'*2 ^ (e'-b).toNat:Nat):Int)=(T:Int):=by push_cast;omega
  rw[this,Int.natAbs_natCast]
 obtain⟨t,wR⟩:=wR
 have Pm:f32.format.sub 1065353216 k=some (f32.format.nearest t T b):=by
  unfold Format.sub
  rw[hr,hr',wR];rfl
 have hf:jC .f32 1065353216 k=cn .f32 (f32.format.nearest t T b):=by
  unfold jC
  rw[Pm,Option.getD_some]
 have ajF:∀{w n:Nat}{q:Int},f32.format.read w = .number t n q->fin (cn .f32 w)=true:=λ{w n q} hw=>by
  rw[nR hw];exact HH hw
 rw[hf]
 by_cases hT0:T=0
 ·subst hT0
  rw[gZ]
  exact ajF (Of t)
 obtain⟨e1,e2,e3,e4⟩:=tK
 have hle:VLE T b 0:=afT hB hT0 (by omega) (by omega) (by rw[show ((0:Int)+(B:Int)).toNat=B by omega];exact hT3)
 obtain⟨m2,p2,TM,_⟩:=sZ f32.format t hT0 hle (by rw[e1,e2];omega) (by rw[e1,e2,e3,e4];decide)
 exact ajF TM
end Go.Sx
namespace Go.Sx
open FloatKind (f32 f64)
open IntKind (i64)
open Go.Proofs
set_option maxRecDepth 100000
set_option maxHeartbeats 1000000
def Mg:aJ:={ tp with aT:=-1 }
def Jk:List Value:=[.int .i64 (-1:Int),.int .i64 (0:Int),.int .i64 (0:Int),.bool false,.float .f32 0,.slice none 0 0,.int .i64 (0:Int),.int .i64 (0:Int),.float .f32 0,.float .f32 0,.float .f32 0,.float .f32 0,.float .f32 0,.int .i64 (0:Int),.float .f32 0,.float .f32 0,.float .f32 0,.float .f32 0,.float .f32 0,.float .f32 0,.slice none 0 0,.slice none 0 0,.slice none 0 0,.int .i64 (0:Int),.float .f32 0,.float .f32 0,.float .f32 0,.float .f32 0,.float .f32 0,.bool false,.float .f32 0,.float .f32 0,.float .f32 0,.slice none 0 0,.int .i64 (0:Int),.slice none 0 0,.int .i64 (0:Int),.int .i64 (0:Int),.float .f32 0,.float .f32 0,.float .f32 0,.float .f32 0,.float .f32 0,.float .f32 0,.float .f32 0]
theorem W8:az.ow [] Jk Mg:=by
 obtain⟨B1,B2,v1,v2,hB,hv,h1,h2⟩:=rL
 obtain⟨rfl,rfl⟩:=h1
 obtain rfl:B2=[]:=by simpa using hB.symm
 exact ⟨[],[],[.int .i64 (-1:Int)],v2,rfl,by have:=congrArg List.tail hv;rw[Jk,show v2=_ from this.symm];rfl,⟨rfl,rfl⟩,h2⟩
theorem QH{s:cA}{vs:List aJ}{sc:List Value}{Bs B:List Blk}{b:Option Addr}{l c:Nat}(Os:da.ow Bs sc s)(O:SlO ao az B b l c vs)(n1 n2 n3:Int):aR.ow (Bs++B) (sc++[.slice b l c,.int .i64 n1,.int .i64 n2,.int .i64 n3]) ⟨s,vs,n1,n2,n3⟩:=
 ⟨Bs,B,sc,_,rfl,rfl,Os,B,[],[.slice b l c],_,by simp,rfl,⟨b,l,c,rfl,O⟩,[],[],[.int .i64 n1],_,rfl,rfl,⟨rfl,rfl⟩,[],[],[.int .i64 n2],_,rfl,rfl,⟨rfl,rfl⟩,⟨rfl,rfl⟩⟩
section
variable {h:ab}
theorem JL:ae ai tU #[] (λu h'=>u = .agg ⟨Jk⟩∧Ext h h') h:=
 yt.call ((Mem.start h).alc λg1 h1 x1 M=>M.dy .here rfl (eG rfl) rfl .here λh2 M=>M.cM .here rfl ⟨rfl,M.ext⟩)
theorem TR:ae ai tM #[] (λu h'=>u = .agg ⟨Jk⟩∧Ext h h') h:=
 yb.call ((Mem.start h).alc λg1 h1 x1 M=>M.dy .here rfl (eG rfl) rfl .here λh2 M=>M.cM .here rfl ⟨rfl,M.ext⟩)
end
def D9(s:cA)(v:aJ):aJ:=if v.aT = -1 then v else if (v.Gone&&(v.sound (s.kind v)).1.quiet (s.kind v))=true then Mg else (v.sound (s.kind v)).1
def Wu(s:cA)(a:Nat)(v:aJ):Nat:=if v.aT = -1 then a else mF .f32 a (v.sound (s.kind v)).2
def ay.uS(p:ay):ay×Nat:=({ p with al:=p.al.map (D9 p.Score),nJ:=p.nJ+1 },yS (p.al.foldl (Wu p.Score) 0) tB)
def ay.Eb(p:ay):Bool:=decide (p.Next<p.Score.aU.length)&&(p.Score.aU[p.Next.toNat]!.At==p.nJ)
def ay.next(p:ay):ay:={ p.vQ p.Score.aU[p.Next.toNat]! with Next:=p.Next+1 }
def ay.run:Nat->ay->ay
 | 0,p=>p
 | k+1,p=>if p.Eb=true then ay.run k p.next else p
def ay.step(p:ay):ay×Nat:=(ay.run (p.Score.aU.length-p.Next.toNat) p).uS
def xi(s:cA)(next:Int)(v:aJ):Prop:=∃j:Nat,j<s.aU.length∧(j:Int)<next∧fL s.aU[j]! = true∧s.aU[j]!.aT=v.aT∧s.aU[j]!.ar=v.ar∧gz (s.kind v) v
structure ay.mi (p:ay):Prop where
 s:p.Score.ok=true
 n1:1≤p.al.length
 n6:p.al.length≤6
 nx:0≤p.Next∧p.Next≤p.Score.aU.length
 sk:0≤p.eF∧p.eF≤64+p.Next
 v:∀v ∈ p.al,v.aT = -1∨xi p.Score p.Next v
 d:∀i j,i<j->j<p.al.length->p.al[i]!.aT=p.al[j]!.aT->p.al[i]!.aT = -1
theorem ah8{s:cA}(h:s.ok=true):s.aU.length≤128:=by
 have G:=qo h
 have h1:=G.even
 have h2:=G.MP
 omega
theorem xi.ins{s:cA}{n:Int}{v:aJ}(h:s.ok=true)(V:xi s n v):0≤v.ar∧v.ar<s.aI.length:=by
 obtain⟨j,h1,h2,h3,h4,h5,_⟩:=V
 rw[← h5]
 refine Fg h (VF (qo h) h3 ?_)
 exact jT h1
theorem So{α:Type}[Inhabited α]{l:List α}{k i:Nat}{x:α}(hi:i<l.length):(l.set k x)[i]! = if k=i then x else l[i]!:=by
 rw[getElem!_pos _ i (by rw[List.length_set];exact hi),List.getElem_set,getElem!_pos l i hi]
theorem T5{x:bP}{pl f:Nat}(h:(x.kG pl f).2=0):(x.kG pl f).1.Loop.ok=true:=by
 unfold bP.kG at *
 split at h
 ·next hx=>
  rw[if_pos hx]
  split at h
  ·next hp=>
   rw[if_pos hp]
   split at h
   ·next hf=>
    rw[if_pos hf]
    have h1:x.Loop.ok=true:=by
     unfold bP.ok at hx
     simp only[Bool.and_eq_true] at hx
     exact hx.1.1.1
    unfold bc.ok bc.len at *
    show (inR (((x.td pl f).Loop.af.length:Nat):Int) 1 1024&&inR (x.td pl f).Loop.At 0 ((((x.td pl f).Loop.af.length:Nat):Int)-1))=true
    unfold bP.td
    dsimp only
    rw[EN,Ja]
    exact h1
   ·cases h
  ·cases h
 ·cases h
theorem T4{n:Int}{op:Bool}{k l:Nat}(h:(gh n op k l).2=0):(gh n op k l).1.mi:=by
 unfold gh rl at *
 split at h
 ·next hx=>
  rw[if_pos hx]
  rw[Bool.and_eq_true] at hx
  have hn:=hx.2
  simp only[inR,Bool.and_eq_true,decide_eq_true_eq] at hn
  have hq:(Ee n).ok=true:=by
   have e:(((Ee n).af.length:Nat):Int)=n:=by show (((List.replicate n.toNat 0).length:Nat):Int)=n;rw[List.length_replicate];omega
   unfold bc.ok bc.len inR
   rw[e]
   show (_&&(decide ((0:Int)≤0)&&_))=true
   simp only[Bool.and_eq_true,decide_eq_true_eq]
   exact ⟨⟨by omega,by omega⟩,by omega,by show (0:Int)≤n-1;omega⟩
  have hm:∀r ∈ [Ee n],r.ok=true:=λr hr=>by
   rw[List.mem_singleton] at hr
   rw[hr];exact hq
  exact ⟨Nat.le_refl _,by show 1≤3;omega,rfl,rfl,hm,hm⟩
 ·cases h
theorem ace(n:Nat):oq (List.replicate n 0)=true:=by
 unfold oq
 rw[List.all_eq_true]
 intro x hx
 rw[List.eq_of_mem_replicate hx]
 exact HH Vs
theorem Vu{n:Int}(h1:1≤n)(h2:n≤1024):(⟨List.replicate n.toNat 0,0⟩:bc).okf=true:=by
 unfold bc.okf
 rw[Bool.and_eq_true]
 refine ⟨?_,ace _⟩
 unfold bc.ok bc.len inR
 rw[show (((List.replicate n.toNat 0).length:Nat):Int)=n by rw[List.length_replicate];omega]
 simp only[Bool.and_eq_true,decide_eq_true_eq]
 exact ⟨⟨by omega,by omega⟩,by omega,by omega⟩
theorem Y4{k:Nat}(h:place k=true):((uP k).ok&&(uP k).Kind==1)=true:=by
 have f1:=one_sub h
 have f2:=Mn Vs ZH (Ih h)
 have f0:=HH Vs
 unfold uP cN.ok used wD tE inR
 simp only[List.length_cons,List.length_nil]
 simp[List.range_succ,f1,f2,f0]
theorem abw{p:Int}{k l s:Nat}(h:(gU p k l s).2=0):(gU p k l s).1.ok=true:=by
 unfold gU at *
 split at h
 ·next h1=>
  split at h
  ·next h2=>
   split at h
   ·next h3=>
    split at h
    ·next h4=>
     rw[if_pos h1,if_pos h2,if_pos h3,if_pos h4]
     simp only[inR,Bool.and_eq_true,decide_eq_true_eq] at h1
     unfold jh.ok
     simp only[Bool.and_eq_true]
     have hb:1≤qF p∧qF p≤p-1:=by unfold qF;split <;> omega
     have h5:=Y4 h2
     rw[Bool.and_eq_true] at h5
     refine ⟨⟨⟨Vu (by omega) (by omega),Vu (by omega) (by omega)⟩,h5⟩,h4,Mn Vs ZH h3⟩
    ·cases h
   ·cases h
  ·cases h
 ·cases h
theorem ac9{s:cA}{e:bf}{v:aJ}(h:iE s e=some v):v.aT=e.aT∧v.ar=e.ar∧gz (s.kind v) v:=by
 unfold iE at h
 dsimp only at h
 have fin:∀{w:aJ},w.aT=e.aT->w.ar=e.ar->gz s.aI[e.ar.toNat]!.Kind w->w=v->v.aT=e.aT∧v.ar=e.ar∧gz (s.kind v) v:=λh1 h2 h3 e=>by
  subst e
  refine ⟨h1,h2,?_⟩
  unfold cA.kind
  rw[h2];exact h3
 split at h
 ·split at h
  ·next k1=>
   split at h
   ·split at h
    ·next hp=>
     refine fin (by rfl) (by rfl) ?_ (Option.some.inj h)
     unfold gz
     rw[if_pos k1]
     exact T5 hp
    ·cases h
   ·cases h
  ·next k1=>
   split at h
   ·next k2=>
    split at h
    ·next hp=>
     refine fin (by rfl) (by rfl) ?_ (Option.some.inj h)
     unfold gz
     rw[if_neg k1,if_pos k2]
     exact T4 hp
    ·cases h
   ·next k2=>
    split at h
    ·next hp=>
     refine fin (by rfl) (by rfl) ?_ (Option.some.inj h)
     unfold gz
     rw[if_neg k1,if_neg k2]
     exact abw hp
    ·cases h
 ·cases h
theorem MU{p:ay}(h:p.Eb=true):p.Next<p.Score.aU.length∧p.Score.aU[p.Next.toNat]!.At=p.nJ:=by
 unfold ay.Eb at h
 rw[Bool.and_eq_true,decide_eq_true_iff,beq_iff_eq] at h
 exact h
theorem Vv{p:ay}(R:p.mi)(h:p.Next<p.Score.aU.length):acL p p.Score.aU[p.Next.toNat]!:=by
 have nx:=R.nx
 have hm:=ah8 R.s
 have hl:p.Next.toNat<p.Score.aU.length:=by omega
 have G:=qo R.s
 have hn:=(G.note _ hl).1
 refine ⟨R.s,R.n1,λhk=>?_,?_,λi hi he=>?_,λi j Zd hj h1 h2=>?_⟩
 ·have hs:fL p.Score.aU[p.Next.toNat]! = true:=by unfold fL;rw[hk];rfl
  exact Fg R.s (VF G hs (jT hl))
 ·have:=R.sk;omega
 ·rcases R.v _ (jT hi) with h | h
  ·omega
  ·exact h.ins R.s
 ·have:=R.d i j Zd hj (by rw[h1,h2])
  omega
theorem afg{p:ay}(R:p.mi)(h:p.Next<p.Score.aU.length)(hs:fL p.Score.aU[p.Next.toNat]! = true){v:aJ}(hv:v ∈ p.al):¬v.aT=p.Score.aU[p.Next.toNat]!.aT:=λe=>by
 have nx:=R.nx
 have G:=qo R.s
 have hn:=(G.note p.Next.toNat (by omega)).1
 rcases R.v v hv with h1 | ⟨j,h1,h2,h3,h4,_⟩
 ·omega
 ·have:=G.st1 j p.Next.toNat h1 (by omega) h3 hs (by rw[h4,e])
  omega
theorem Qe(s:cA)(v:aJ):(tx s v).aT=v.aT∧(tx s v).ar=v.ar∧s.kind (tx s v)=s.kind v:=by
 unfold tx
 split <;> exact ⟨rfl,rfl,rfl⟩
theorem aaC{s:cA}{v:aJ}{k:Int}(h:gz k v):gz k (tx s v):=by
 unfold tx
 split <;> exact h
theorem xi.mono{s:cA}{n m:Int}{v:aJ}(h:xi s n v)(hm:n≤m):xi s m v:=by
 obtain⟨j,h1,h2,r⟩:=h
 exact ⟨j,h1,by omega,r⟩
theorem Qy{p:ay}(R:p.mi)(h:p.Next<p.Score.aU.length):p.next.mi:=by
 have nx:=R.nx
 have sk:=R.sk
 have hl:p.Next.toNat<p.Score.aU.length:=by omega
 have G:=qo R.s
 obtain⟨e,he⟩:∃e,e=p.Score.aU[p.Next.toNat]!:=⟨_,rfl⟩
 unfold ay.next
 rw[← he]
 by_cases hk:e.Kind=2
 ·have hs:fL e=true:=by unfold fL;rw[hk];rfl
  have no:∀{v:aJ},v ∈ p.al->¬v.aT=e.aT:=λhv=>by rw[he];exact afg R h (by rw[← he];exact hs) hv
  have hn:0≤e.aT:=by rw[he];exact (G.note _ hl).1
  rw[BS hk]
  cases hv:iE p.Score e with
  | none=>exact ⟨R.s,R.n1,R.n6,⟨by show 0≤p.Next+1;omega,by show p.Next+1≤(p.Score.aU.length:Int);omega⟩,⟨by show 0≤p.eF+1;omega,by show p.eF+1≤64+(p.Next+1);omega⟩,λv hv=>(R.v v hv).imp id λV=>V.mono (by show p.Next≤p.Next+1;omega),R.d⟩
  | some w=>
   obtain⟨w1,w2,w3⟩:=ac9 hv
   have hp:=Nj R.n1
   refine ⟨R.s,by show 1≤(p.al.set _ w).length;rw[List.length_set];exact R.n1,by show (p.al.set _ w).length≤6;rw[List.length_set];exact R.n6,⟨by show 0≤p.Next+1;omega,by show p.Next+1≤(p.Score.aU.length:Int);omega⟩,⟨sk.1,by show p.eF≤64+(p.Next+1);omega⟩,λv hv=>?_,λi j Zd hj GH=>?_⟩
   ·rcases List.mem_or_eq_of_mem_set hv with hv | rfl
    ·exact (R.v v hv).imp id λV=>V.mono (by show p.Next≤p.Next+1;omega)
    ·exact .inr ⟨p.Next.toNat,hl,by show ((p.Next.toNat:Nat):Int)<p.Next+1;omega,by show fL p.Score.aU[p.Next.toNat]! = true;rw[← he];exact hs,by show p.Score.aU[p.Next.toNat]!.aT=_;rw[← he,w1],by show p.Score.aU[p.Next.toNat]!.ar=_;rw[← he,w2],w3⟩
   ·have hj:j<(p.al.set (placeOf p.al) w).length:=hj
    rw[List.length_set] at hj
    have GH:(p.al.set (placeOf p.al) w)[i]!.aT=(p.al.set (placeOf p.al) w)[j]!.aT:=GH
    show (p.al.set (placeOf p.al) w)[i]!.aT = -1
    rw[So (by omega),So (by omega)] at GH
    rw[So (by omega)]
    by_cases e1:placeOf p.al=i
    ·rw[if_pos e1] at GH ⊢
     rw[if_neg (by omega)] at GH
     exact absurd (by rw[← GH,w1]) (no (jT hj))
    ·rw[if_neg e1] at GH ⊢
     by_cases e2:placeOf p.al=j
     ·rw[if_pos e2] at GH
      exact absurd (by rw[GH,w1]) (no (jT (show i<p.al.length by omega)))
     ·rw[if_neg e2] at GH
      exact R.d i j Zd hj GH
 ·rw[DN hk]
  have Zf:∀v,(k9 p.Score e.aT v).aT=v.aT:=λv=>by unfold k9;split <;> first | exact (Qe _ v).1 | rfl
  refine ⟨R.s,by show 1≤(p.al.map _).length;rw[List.length_map];exact R.n1,by show (p.al.map _).length≤6;rw[List.length_map];exact R.n6,⟨by show 0≤p.Next+1;omega,by show p.Next+1≤(p.Score.aU.length:Int);omega⟩,⟨sk.1,by show p.eF≤64+(p.Next+1);omega⟩,λv hv=>?_,λi j Zd hj GH=>?_⟩
  ·obtain⟨u,hu,rfl⟩:=List.mem_map.1 hv
   rw[Zf]
   refine (R.v u hu).imp id λV=>?_
   have V:=V.mono (show p.Next≤p.Next+1 by omega)
   unfold k9
   split
   ·obtain⟨j,h1,h2,h3,h4,h5,h6⟩:=V
    obtain⟨g1,g2,g3⟩:=Qe p.Score u
    exact ⟨j,h1,h2,h3,by rw[g1];exact h4,by rw[g2];exact h5,by show gz (p.Score.kind (tx p.Score u)) _;rw[g3];exact aaC h6⟩
   ·exact V
  ·have hj:j<(p.al.map (k9 p.Score e.aT)).length:=hj
   rw[List.length_map] at hj
   have GH:(p.al.map (k9 p.Score e.aT))[i]!.aT=(p.al.map (k9 p.Score e.aT))[j]!.aT:=GH
   show (p.al.map (k9 p.Score e.aT))[i]!.aT = -1
   rw[qB (by omega),qB (by omega),Zf,Zf] at GH
   rw[qB (by omega),Zf]
   exact R.d i j Zd hj GH
theorem yn(p:ay):p.next.Score=p.Score∧p.next.nJ=p.nJ∧p.next.Next=p.Next+1:=by
 unfold ay.next ay.vQ
 split
 ·cases iE p.Score _ <;> exact ⟨rfl,rfl,rfl⟩
 ·exact ⟨rfl,rfl,rfl⟩
theorem NA:∀(k:Nat){p:ay},p.mi->(ay.run k p).mi∧(ay.run k p).nJ=p.nJ∧(ay.run k p).Score=p.Score
 | 0,p,R=>⟨R,rfl,rfl⟩
 | k+1,p,R=>by
  unfold ay.run
  split
  ·next h=>
   obtain⟨h1,h2,h3⟩:=NA k (Qy R (MU h).1)
   obtain⟨g1,g2,_⟩:=yn p
   exact ⟨h1,by rw[h2,g2],by rw[h3,g1]⟩
  ·exact ⟨R,rfl,rfl⟩
theorem afH{p:ay}(R:p.mi)(h:p.Eb=true):ay.run (p.Score.aU.length-p.Next.toNat) p=ay.run (p.next.Score.aU.length-p.next.Next.toNat) p.next:=by
 have nx:=R.nx
 obtain⟨h1,h2⟩:=MU h
 obtain⟨g1,g2,g3⟩:=yn p
 rw[g1,g3,show p.Score.aU.length-p.Next.toNat=(p.Score.aU.length-(p.Next+1).toNat)+1 by omega]
 conv=>lhs;unfold ay.run
 rw[if_pos h]
theorem afF{p:ay}(h:p.Eb=false):∀k,ay.run k p=p
 | 0=>rfl
 | k+1=>by unfold ay.run;rw[h,if_neg (by decide)]
theorem Qx(s:cA)(v:aJ):(D9 s v).aT=v.aT∨(D9 s v).aT = -1:=by
 unfold D9
 split
 ·exact .inl rfl
 ·split
  ·exact .inr rfl
  ·exact .inl (Cz _ v).2.1
theorem Tr{p:ay}(R:p.mi):p.uS.1.mi:=by
 refine ⟨R.s,by show 1≤(p.al.map _).length;rw[List.length_map];exact R.n1,by show (p.al.map _).length≤6;rw[List.length_map];exact R.n6,R.nx,R.sk,λv hv=>?_,λi j Zd hj GH=>?_⟩
 ·obtain⟨u,hu,rfl⟩:=List.mem_map.1 hv
  unfold D9
  split
  ·next h=>exact .inl h
  ·next hn=>
   split
   ·exact .inl rfl
   ·rcases R.v u hu with h | ⟨j,h1,h2,h3,h4,h5,h6⟩
    ·exact absurd h hn
    ·obtain⟨g1,g2,g3⟩:=Cz (p.Score.kind u) u
     refine .inr ⟨j,h1,h2,h3,by rw[g2];exact h4,by rw[g3];exact h5,?_⟩
     have:p.Score.kind (u.sound (p.Score.kind u)).1=p.Score.kind u:=by show p.Score.aI[(u.sound (p.Score.kind u)).1.ar.toNat]!.Kind=_;rw[g3];rfl
     show gz (p.Score.kind _) _
     rw[this];exact Cy h6
 ·have hj:j<(p.al.map (D9 p.Score)).length:=hj
  rw[List.length_map] at hj
  have GH:(p.al.map (D9 p.Score))[i]!.aT=(p.al.map (D9 p.Score))[j]!.aT:=GH
  show (p.al.map (D9 p.Score))[i]!.aT = -1
  rw[qB (by omega),qB (by omega)] at GH
  rw[qB (by omega)]
  rcases Qx p.Score p.al[i]! with h1 | h1
  ·rcases Qx p.Score p.al[j]! with h2 | h2
   ·rw[h1];exact R.d i j Zd hj (by rw[← h1,GH,h2])
   ·rw[GH,h2]
  ·exact h1
theorem Yu{p:ay}(R:p.mi):p.step.1.mi:=Tr (NA _ R).1
theorem PZ{s:cA}{v:aJ}(h:pB s v=true):gz (s.kind v) v:=by
 unfold pB at h
 unfold gz cA.kind
 split at h
 ·next k=>
  rw[if_pos k]
  simp only[Bool.and_eq_true] at h
  have:=h.1.1
  unfold bP.ok at this
  simp only[Bool.and_eq_true] at this
  exact this.1.1.1
 ·next k=>
  rw[if_neg k]
  split at h
  ·next k2=>
   rw[if_pos k2]
   simp only[Bool.and_eq_true] at h
   exact QF h.1.2
  ·next k2=>
   rw[if_neg k2]
   simp only[Bool.and_eq_true] at h
   exact h.2
theorem alE{s:cA}(h:s.ok=true){now:Int}{j:Nat}(hj:j<s.aU.length)(hb:s.aU[j]!.At<now):j<hap s.aU now:=by
 have G:=qo h
 obtain⟨h1,h2⟩:=Qh (now:=now) G
 rcases oG (λe:bf=>decide (now≤e.At)) s.aU with ⟨e,_⟩ | ⟨m,hm,e,h0,hp⟩
 ·have:=h1 e;omega
 ·have:=h2 m hm e
  rw[decide_eq_true_iff] at hp
  have:j<m:=by
   rcases Nat.lt_or_ge j m with h | h
   ·exact h
   ·have:=G.sorted (i:=m) (j:=j) h hj;omega
  omega
theorem AT{p:ay}(h:p.ok=true):p.mi∧0≤p.nJ∧p.nJ≤200000:=by
 unfold ay.ok at h
 simp only[Bool.and_eq_true,beq_iff_eq,inR,decide_eq_true_eq,List.all_eq_true,List.mem_range] at h
 obtain⟨⟨⟨⟨⟨hs,hl⟩,hn⟩,hk⟩,hx⟩,hv⟩:=h
 have hh:hap p.Score.aU p.nJ≤p.Score.aU.length:=List.countP_le_length
 refine ⟨⟨hs,by omega,by omega,by omega,by omega,λv hvm=>?_,λi j Zd hj GH=>?_⟩,by omega,by omega⟩
 ·obtain⟨i,hi,rfl⟩:=List.mem_iff_getElem.1 hvm
  have:=hv i hi
  unfold g0 at this
  rw[getElem!_pos p.al i hi,Bool.and_eq_true] at this
  obtain⟨ho,hr⟩:=this
  by_cases hn1:p.al[i].aT = -1
  ·exact .inl hn1
  refine .inr ?_
  have hp:0≤p.al[i].aT:=(H9 hs ho).resolve_left hn1
  rw[decide_eq_false (by omega),Bool.false_or,Bool.and_eq_true,decide_eq_true_iff] at hr
  rw[kv,if_neg hn1] at ho
  cases he:ln p.Score.aU p.al[i].aT with
  | none=>rw[he] at ho;cases ho
  | some e=>
   rw[he] at ho
   simp only[Bool.and_eq_true,beq_iff_eq] at ho
   obtain⟨hm,hst,hnt⟩:=abZ he
   obtain⟨j,hj,rfl⟩:=List.mem_iff_getElem.1 hm
   have ej:p.Score.aU[j]! = p.Score.aU[j]:=getElem!_pos _ j hj
   refine ⟨j,hj,?_,by rw[ej];exact hst,by rw[ej];exact hnt,by rw[ej];exact ho.1.1.1,PZ ho.2⟩
   have:=alE hs hj (now:=p.nJ) (by rw[ej,ho.1.1.2];exact hr.1)
   omega
 ·have h1:=hv j hj
  unfold g0 at h1
  rw[Bool.and_eq_true,Bool.or_eq_true,Bool.and_eq_true,decide_eq_true_iff] at h1
  rcases h1.2 with h2 | h2
  ·have:=(H9 hs h1.1).resolve_right (by omega)
   rw[GH];exact this
  ·have:=List.all_eq_true.1 h2.2 i (List.mem_range.2 Zd)
   rw[GH] at this
   simp at this
set_option maxHeartbeats 2000000
theorem akt{X:Type}{B:(X->ab->Prop)->X->ab->Prop}{x:X}{h:ab}(I:X->ab->Prop)(m:X->ab->Nat)(h0:I x h)(hb:∀x h,I x h->B (λx' h'=>I x' h'∧m x' h'<m x h) x h):bh B x h:=⟨I,m,h0,hb⟩
def Zk(h:ab)(a:Addr):Int:=match cell h a with | some (.int _ n)=>n | _=>0
theorem HP{h0 h:ab}{q:Addr}{F:Fr}{L:List Blk}{p:ay}(P:Pt aR h0 h q F L p):Zk h (q.add 8)=p.Next:=by
 obtain⟨v,e,e2⟩:=P.rd.cell CV rfl
 have e2:[v]=[.int .i64 p.Next]:=e2
 obtain rfl:v = .int .i64 p.Next:=by simpa using e2
 unfold Zk
 rw[e]
def Gj(h0 h':ab)(q:Addr)(F:Fr)(L:List Blk)(r:ay×Nat)(u:Value):Prop:=(∃y,u = .float .f32 y∧FW .f32 y r.2)∧Pt aR h0 h' q F L r.1
def ay.upto(p:ay)(i:Nat):ay:={ p with al:=um (D9 p.Score) p.al i }
def wy(p:ay)(i:Nat):Nat:=(p.al.take i).foldl (Wu p.Score) 0
theorem CN{p:ay}{i:Nat}(h:i<p.al.length):wy p (i+1)=Wu p.Score (wy p i) p.al[i]!:=by
 unfold wy
 rw[rJ h,List.foldl_append];rfl
theorem NY{p:ay}{i:Nat}(h:i<p.al.length):(p.upto i).al[i]! = p.al[i]!:=V7 h
theorem EF{p:ay}{i:Nat}(h:i<p.al.length):{ p.upto i with al:=(p.upto i).al.set i (D9 p.Score p.al[i]!) }=p.upto (i+1):=by
 unfold ay.upto
 dsimp only
 rw[Qt h]
theorem O6(p:ay)(i:Nat):(p.upto i).al.length=p.al.length:=Ea
theorem afM{α:Type}[Inhabited α]{l:List α}{i:Nat}(h:i<l.length):l.set i l[i]! = l:=by
 rw[getElem!_pos l i h,List.set_getElem_self]
theorem QW{p:ay}{i:Nat}(h:i<p.al.length)(hn:p.al[i]!.aT = -1):p.upto (i+1)=p.upto i:=by
 rw[← EF h]
 have:D9 p.Score p.al[i]! = (p.upto i).al[i]!:=by unfold D9;rw[if_pos hn,NY h]
 rw[this,afM (by rw[O6];exact h)]
section
variable {h0 h:ab}{q:Addr}{F:Fr}{L:List Blk}{p:ay}
theorem QV(R:p.mi){i:Nat}(hi:i<p.al.length)(hn:¬p.al[i]!.aT = -1):gz (p.Score.kind p.al[i]!) p.al[i]! ∧ 0≤p.al[i]!.ar∧p.al[i]!.ar<p.Score.aI.length:=by
 have V:=(R.v _ (jT hi)).resolve_left hn
 exact ⟨V.choose_spec.2.2.2.2.2,V.ins R.s⟩
theorem aej(P:Pt aR h0 h q F L p)(R:p.mi)(ae0:0≤p.nJ∧p.nJ≤1000000):bh (bL.B6 (λu h'=>Gj h0 h' q F L p.uS u)) (q,0,(0:Int)) h:=by
 have hm:=bW
 refine loop (λy hh=>∃(i sum:Nat),y=(q,sum,(i:Int))∧i≤p.al.length∧FW .f32 sum (wy p i)∧Pt aR h0 hh q F L (p.upto i)) (λy=>((p.al.length:Int)-y.2.2).toNat) ⟨0,0,rfl,by omega,fw0,by unfold ay.upto;rw[Jz];exact P⟩ ?_
 rintro y hh ⟨i,sum,rfl,hi,wR,P⟩
 obtain⟨b,l,c,hb,S⟩:=P.hdr (off:=6) (e:=ao) (s:=az)
 have hl:(p.upto i).al.length=l:=S.len
 rw[O6] at hl
 have s1:=S.2.1
 have s2:=S.2.2.1
 refine o_l hb (brd (λhc=>o_l hb ?_) λhc=>?_)
 ·have fin:∀{h':ab}{afS:Nat},FW .f32 afS (wy p (i+1))->Pt aR h0 h' q F L (p.upto (i+1))->((∃i' VM:Nat,(q,afS,i64.wrap ((i:Int)+1))=(q,VM,(i':Int))∧i'≤p.al.length∧FW .f32 VM (wy p i')∧Pt aR h0 h' q F L (p.upto i'))∧((p.al.length:Int)-i64.wrap ((i:Int)+1)).toNat<((p.al.length:Int)-i).toNat):=λhs P=>
   ⟨⟨i+1,_,by rw[ag (by omega)],by omega,hs,P⟩,by rw[ag (by omega)];omega⟩
  obtain⟨a,F',C,rfl,P',close⟩:=P.LR (off:=6) hb (i:=i) (by omega)
  have Uw:=NY (p:=p) (i:=i) (by omega)
  have P':Pt az h0 hh (a.add (i*45)) F' (C++L) (p.upto i).al[i]!:=P'
  rw[Uw] at P'
  refine idxs (by omega) (by omega) ?_
  rw[Int.toNat_natCast]
  refine P'.rd.oI1 (br (λk=>?_) λk=>?_)
  ·have k:p.al[i]!.aT = -1:=by simpa using k
   refine fin ?_ ?_
   ·rw[CN (by omega)];unfold Wu;rw[if_pos k];exact wR
   ·rw[QW (by omega) k];exact P
  have k:¬p.al[i]!.aT = -1:=by simpa using k
  obtain⟨B,I1,I2⟩:=QV R (i:=i) (by omega) k
  refine P.rd.oL (off:=4) λb4 l4 c4 S4=>?_
  have e4:p.Score.aI.length=l4:=S4.len
  refine P'.rd.oI (S4.idx (by decide) I1 (by omega) λa4 R4=>?_)
  have R4:RdP aM hh (a4.add (p.al[i]!.ar.toNat*5)) p.Score.aI[p.al[i]!.ar.toNat]!:=R4
  refine R4.oI ?_
  have hkd:p.Score.aI[p.al[i]!.ar.toNat]!.Kind=p.Score.kind p.al[i]!:=rfl
  rw[hkd]
  refine (Xp P' B).mono ?_
  rintro _ h1 ⟨⟨y,rfl,hy⟩,P1⟩
  obtain⟨Pc,hk1⟩:=close _ _ _ _ P1
  have hb1:cell h1 (q.add 6)=some (.slice (some a) l c):=by rw[hk1];exact hb
  have B1:=Cy B
  have Pl:D9 p.Score p.al[i]! = if (p.al[i]!.Gone&&(p.al[i]!.sound (p.Score.kind p.al[i]!)).1.quiet (p.Score.kind p.al[i]!))=true then Mg else (p.al[i]!.sound (p.Score.kind p.al[i]!)).1:=by unfold D9;rw[if_neg k]
  refine dv (fA wR hy λs' Xe=>P1.rd.oB ?_)
  rw[(Cz _ _).1]
  have Xe:FW .f32 s' (wy p (i+1)):=by rw[CN (by omega)];unfold Wu;rw[if_neg k];exact Xe
  have J:∀{h2:ab}{t:Bool},Ext h1 h2->t=(p.al[i]!.Gone&&(p.al[i]!.sound (p.Score.kind p.al[i]!)).1.quiet (p.Score.kind p.al[i]!)) ->
    bL.J13 (λx' h'=>(∃i sum:Nat,x'=(q,sum,(i:Int))∧i≤p.al.length∧FW .f32 sum (wy p i)∧Pt aR h0 h' q F L (p.upto i))∧((p.al.length:Int)-x'.2.2).toNat<((p.al.length:Int)-(i:Int)).toNat) (λu h'=>Gj h0 h' q F L p.uS u) q s' (i:Int) t h2:=λ{h2 t} x2 ht=>by
   unfold bL.J13
   have Pc:=Pc.grow x2
   rw[← ht] at Pl
   refine br (λe=>?_) λe=>?_
   ·rw[e,if_pos rfl] at Pl
    refine o_l (x2.cell hb1) (goX JL λh3 x3=>fe (Pc.rd.jQ (by decide) x3 ?_))
    have Pc:=Pc.grow x3
    obtain⟨a',ha,st⟩:=Pt.stE (off:=6) (i:=i) (n:=45) (L:=L) (B':=[]) (vs:=⟨Jk⟩) Pc (x3.cell (x2.cell hb1)) (by omega) rfl W8 λh' P' _=>fin Xe (by
     have P':Pt aR h0 h' q F L { p.upto i with al:=((p.upto i).al.set i (p.al[i]!.sound (p.Score.kind p.al[i]!)).1).set i Mg }:=P'
     rw[List.set_set,← Pl,EF (by omega)] at P'
     exact P')
    cases ha
    refine idxs (by omega) (by omega) ?_
    rw[Int.toNat_natCast]
    exact st
   ·rw[e,if_neg (by decide)] at Pl
    refine fin Xe ?_
    rw[← EF (by omega),Pl]
    exact Pc
  refine br (λe=>goX (Xo P1.rd B1) λh2 x2=>bd (J x2 (by rw[e,Bool.true_and]))) λe=>J (Ext.refl _) (by rw[e,Bool.false_and])
 ·obtain rfl:i=p.al.length:=by omega
  refine P.rd.oI (off:=7) ?_
  have hN:(p.upto p.al.length).nJ=p.nJ:=rfl
  rw[hN,wrap64 (n:=p.nJ+1) (by omega) (by omega)]
  refine P.stI λh1 P1=>(Mq wR c1).go λh2 y x2 hy=>dv ⟨⟨y,rfl,?_⟩,?_⟩
  ·have:p.uS.2=yS (wy p p.al.length) tB:=by unfold wy;rw[List.take_length];rfl
   rw[this];exact hy
  ·have:p.uS.1={ p.upto p.al.length with nJ:=p.nJ+1 }:=by unfold ay.upto;rw[MJ rfl];rfl
   rw[this];exact P1.grow x2
theorem K3(p:ay)(e:bf):(p.vQ e).Next=p.Next∧(p.vQ e).Score=p.Score:=by
 unfold ay.vQ
 split
 ·cases iE p.Score e <;> exact ⟨rfl,rfl⟩
 ·exact ⟨rfl,rfl⟩
structure Gk (p0 p:ay):Prop where
 r:p.mi
 n:p.nJ=p0.nJ
 e:ay.run (p.Score.aU.length-p.Next.toNat) p=ay.run (p0.Score.aU.length-p0.Next.toNat) p0
 s:p.Score=p0.Score
theorem Gk.next{p0 p:ay}(R:Gk p0 p)(h:p.Eb=true):Gk p0 p.next:=by
 obtain⟨g1,g2,g3⟩:=yn p
 exact ⟨Qy R.r (MU h).1,by rw[g2,R.n],by rw[← afH R.r h,R.e],by rw[g1,R.s]⟩
theorem Gk.done{p0 p:ay}(R:Gk p0 p)(h:p.Eb=false):p.uS=p0.step:=by
 unfold ay.step
 rw[← R.e,afF h]
theorem aba(P:Pt aR h0 h q F L p)(R:p.mi)(ae0:0≤p.nJ∧p.nJ≤1000000):ae ai xW #[.pointer (some q)] (λu h'=>Gj h0 h' q F L p.step u) h:=by
 have hm:=bW
 refine bL.call (akt (λy hh=>∃w:ay,y=q∧Gk p w∧Pt aR h0 hh q F L w) (λy hh=>((p.Score.aU.length:Int)-Zk hh (q.add 8)).toNat) ⟨p,rfl,⟨R,rfl,rfl,rfl⟩,P⟩ ?_)
 rintro y hh ⟨w,rfl,W,P⟩
 have nx:=W.r.nx
 obtain⟨b,l,c,hb,S⟩:=P.hdr (off:=5) (e:=bq) (s:=bD)
 have hl:w.Score.aU.length=l:=S.len
 have s1:=S.2.1
 have s2:=S.2.2.1
 have hes:w.Score.aU.length=p.Score.aU.length:=by rw[W.s]
 have sum:w.Eb=false->bh (bL.B6 (λu h'=>Gj h0 h' y F L p.step u)) (y,0,(0:Int)) hh:=λh=>by
  rw[← W.done h]
  exact aej P W.r (by rw[W.n];exact ae0)
 refine P.rd.oI (off:=8) (o_l hb (brd (λhc=>o_l hb (P.rd.oI (off:=8) ?_)) λhc=>sum ?_))
 ·obtain⟨a,rfl,Ra⟩:=S.elem (i:=w.Next.toNat) (by omega) (by decide)
  have Ra:RdP bD hh (a.add (w.Next.toNat*6)) w.Score.aU[w.Next.toNat]!:=Ra
  refine idxs (by omega) (by omega) (Ra.oI1 (P.rd.oI (off:=7) (br (λk=>?_) λk=>sum ?_)))
  ·have k:w.Score.aU[w.Next.toNat]!.At=w.nJ:=by simpa using k
   have hc':w.Next<(w.Score.aU.length:Int):=by rw[hl];exact hc
   have hn:w.Eb=true:=by unfold ay.Eb;rw[decide_eq_true hc',k];simp
   have E:Ou hh y (a.add (w.Next.toNat*6)) w.Next.toNat:=⟨a,l,c,hb,rfl,by omega⟩
   unfold bL.J2
   refine o_l hb (P.rd.oI (off:=8) (idxs (by omega) (by omega) ((UJ P E rfl (Vv W.r hc')).mono ?_)))
   rintro _ h1 ⟨rfl,P1⟩
   obtain⟨n1,n2⟩:=K3 w w.Score.aU[w.Next.toNat]!
   refine P1.rd.oI (off:=8) ?_
   rw[n1,wrap64 (n:=w.Next+1) (by omega) (by omega)]
   refine P1.stI λh2 P2=>?_
   have P2:Pt aR h0 h2 y F L w.next:=P2
   refine ⟨⟨w.next,rfl,W.next hn,P2⟩,?_⟩
   rw[HP P2,HP P,(yn w).2.2]
   omega
  ·have k:¬w.Score.aU[w.Next.toNat]!.At=w.nJ:=by simpa using k
   unfold ay.Eb;rw[beq_eq_false_iff_ne.2 k,Bool.and_false]
 ·unfold ay.Eb
  rw[decide_eq_false (by show ¬w.Next<(w.Score.aU.length:Int);omega)];rfl
end
end Go.Sx
