/- Lemmas. -/
import Derived.Test.YthgnpepchedpbaaGreatDoorLk17
import Derived.Test.YthgnpepchedpbaaGreatDoorLk29
import Derived.Test.YthgnpepchedpbaaGreatDoorLk10
import Derived.Test.YthgnpepchedpbaaGreatDoorLk24
set_option linter.unusedVariables false
set_option linter.unusedSimpArgs false
namespace Go.Sx
open Go.Proofs
set_option maxRecDepth 100000
set_option maxHeartbeats 1000000
theorem amX{α:Type}{r:Rep α}{h0 h:ab}{x:α}{cs:Array Value}{T:Nat}{F:Nat->ab->Prop}(E:Ext h0 h)(R:r.rd h cs.toList x)(H:∀g h',Ext h0 h'->RdP r h' ⟨g,0,none⟩ x->F g h'):ALC cs T F h:=
 gD R λg h' x' R'=>H g h' (E.trans x') R'
theorem asJ{α:Type}(xs:List α):same xs []=(xs.length==0):=by
 rw[Bool.eq_iff_iff,acj,beq_iff_eq,List.length_eq_zero_iff]
theorem aqe{α:Type}{r:Rep α}{h:ab}{b:Option Addr}{l c:Nat}{xs:List α}(S:SlR r h b l c xs):((l:Int)==(0:Int))=same xs []:=by
 rw[asJ,S.len,Bool.eq_iff_iff,beq_iff_eq,beq_iff_eq]
 omega
section
variable {h:ab}{q:Addr}
theorem ahv:cx.rd h [.int .i64 0,.float .f32 0,.float .f32 0,.float .f32 0,.float .f32 0,.float .f32 0] pU:=cx.look pj (Mem.start h) (List.nil_sublist _)
theorem al7{x:bK}(R:RdP bf h q x):af ak 201 #[.pointer (some q)] (λu h'=>u = .bool (same x iw)∧Ext h h') h:=by
 have k:same x iw=(same x.Loop.ae []&&(x.Loop.At==0)&&same x.kS pU&&same x.fz pU&&(x.fT==0)):=by rw[aki];unfold iw wJ;rw[aiK]
 have A:∀{hh:ab},Ext h hh->RdP bf hh q x:=λe=>R.ext e
 refine aek.call (R.oL1 λb l c S=>?_)
 rw[aqe S]
 refine br (λk1=>R.oI (br (λk2=>amX (Ext.refl h) ahv λg h3 x3 Z=>goE x3 (aiI ((A x3).foc dM) Z) λh4 x4=>bt (br (λk3=>amX x4 ahv λg h6 x6 Z=>goE x6 (aiI ((A x6).foc dK) Z) λh7 x7=>bt (br (λk4=>(A x7).oF λy hy=>goE x7 (zu hy fw0 _) λh9 x9=>bt ⟨?_,x9⟩) λk4=>⟨?_,x7⟩)) λk3=>⟨?_,x4⟩)) λk2=>⟨?_,Ext.refl _⟩)) λk1=>⟨?_,Ext.refl _⟩
 all_goals (rw[k];simp[*])
theorem alO{x:cp}(R:RdP dX h q x):af ak 202 #[.pointer (some q)] (λu h'=>u = .bool (same x wI)∧Ext h h') h:=by
 have k:same x wI=(same x.aW []&&same x.Left []&&same x.aL []&&same x.End pU&&(x.Open==false)&&(x.fT==0)&&(x.Rest==0)&&(x.fX==0)):=by rw[alp];rfl
 have A:∀{hh:ab},Ext h hh->RdP dX hh q x:=λe=>R.ext e
 refine agr.call (R.oL1 λb l c S=>?_)
 rw[aqe S]
 refine br (λk1=>R.oL λb l c S=>?_) λk1=>⟨by rw[k,k1];simp,Ext.refl _⟩
 rw[aqe S]
 refine br (λk2=>R.oL λb l c S=>?_) λk2=>⟨by rw[k,k2];simp,Ext.refl _⟩
 rw[aqe S]
 refine br (λk3=>amX (Ext.refl h) ahv λg h3 x3 Z=>goE x3 (aiI ((A x3).foc gK) Z) λh4 x4=>bt (br (λk4=>?_) λk4=>⟨by rw[k,k4];simp,x4⟩)) λk3=>⟨by rw[k,k3];simp,Ext.refl _⟩
 refine(A x4).oB (brN (λk5=>?_) λk5=>⟨by rw[k,k5];simp,x4⟩)
 refine(A x4).oF λy hy=>goE x4 (zu hy fw0 _) λh5 x5=>bt (br (λk6=>?_) λk6=>⟨by rw[k,k6];simp,x5⟩)
 refine(A x5).oF λy hy=>goE x5 (zu hy fw0 _) λh6 x6=>bt (br (λk7=>?_) λk7=>⟨by rw[k,k7];simp,x6⟩)
 refine(A x6).oF λy hy=>goE x6 (zu hy fw0 _) λh7 x7=>bt ⟨?_,x7⟩
 rw[k,k1,k2,k3,k4,k5,k6,k7];rfl
theorem amS{x:iU}(R:RdP jI h q x):af ak 203 #[.pointer (some q)] (λu h'=>u = .bool (same x vl)∧Ext h h') h:=by
 have k:same x vl=(same x.bT.ae []&&(x.bT.At==0)&&(same x.aH.ae []&&(x.aH.At==0))&&same x.fz pU&&(x.fX==0)&&(x.fT==0)):=by rw[alU];unfold vl wJ;rw[aiK,aiK]
 have A:∀{hh:ab},Ext h hh->RdP jI hh q x:=λe=>R.ext e
 refine ahh.call (R.oL1 λb l c S=>?_)
 rw[aqe S]
 refine br (λk1=>R.oI (br (λk2=>R.oL λb l c S=>?_) λk2=>⟨by rw[k,k2];simp,Ext.refl _⟩)) λk1=>⟨by rw[k,k1];simp,Ext.refl _⟩
 rw[aqe S]
 refine br (λk3=>R.oI (br (λk4=>amX (Ext.refl h) ahv λg h3 x3 Z=>goE x3 (aiI ((A x3).foc gj) Z) λh4 x4=>bt (br (λk5=>?_) λk5=>⟨by rw[k,k5];simp,x4⟩)) λk4=>⟨by rw[k,k4];simp,Ext.refl _⟩)) λk3=>⟨by rw[k,k3];simp,Ext.refl _⟩
 refine(A x4).oF λy hy=>goE x4 (zu hy fw0 _) λh5 x5=>bt (br (λk6=>?_) λk6=>⟨by rw[k,k6];simp,x5⟩)
 refine(A x5).oF λy hy=>goE x5 (zu hy fw0 _) λh6 x6=>bt ⟨?_,x6⟩
 rw[k,k1,k2,k3,k4,k5,k6];rfl
def bK.ok(x:bK):Bool:=x.Loop.ok&&(x.kS.ok&&x.kS.Kind==3)&&(x.fz.ok&&x.fz.Kind==2)&&fin x.fT
def iU.ok(x:iU):Bool:=x.bT.okf&&x.aH.okf&&(x.fz.ok&&x.fz.Kind==1)&&(fin x.fX&&fin x.fT)
theorem abA{x:bK}(R:RdP bf h q x):af ak 205 #[.pointer (some q)] (λu h'=>u = .bool x.ok∧Ext h h') h:=by
 have A:∀{hh:ab},Ext h hh->RdP bf hh q x:=λe=>R.ext e
 refine Bg.call (goX (JM (R.fst dL)) λh1 x1=>bt (br (λk1=>?_) λk1=>⟨by rw[bK.ok,k1];rfl,x1⟩))
 refine goE x1 (Lt ((A x1).foc dM)) λh2 x2=>bt (br (λk2=>(A x2).oI (br (λk3=>?_) λk3=>⟨by rw[bK.ok,k3];simp,x2⟩)) λk2=>⟨by rw[bK.ok,k2];simp,x2⟩)
 refine goE x2 (Lt ((A x2).foc dK)) λh3 x3=>bt (br (λk4=>(A x3).oI (br (λk5=>?_) λk5=>⟨by rw[bK.ok,k5];simp,x3⟩)) λk4=>⟨by rw[bK.ok,k4];simp,x3⟩)
 exact(A x3).oF λy hy=>goE x3 (jm hy _) λh4 x4=>bt ⟨by rw[bK.ok,k1,k2,k3,k4,k5];rfl,x4⟩
theorem Ie{cs:Array Value}{x:bK}(R0:bf.rd h cs.toList x):af ak 145 #[.agg cs] (λu h'=>u = .bool x.ok∧Ext h h') h:=by
 refine oG.call (amX (Ext.refl h) R0 λg h0 x0 R=>?_)
 have A:∀{hh:ab},Ext h0 hh->RdP bf hh ⟨g,0,none⟩ x:=λe=>R.ext e
 refine R.jH dL rfl λc1 R1=>goX (MC R1) λh1 x1=>bt (br (λk1=>?_) λk1=>⟨by rw[bK.ok,k1];rfl,x0.trans x1⟩)
 refine(A x1).jH dM rfl λc2 R2=>goE x1 (Gm R2 _) λh2 x2=>bt (br (λk2=>?_) λk2=>⟨by rw[bK.ok,k2];simp,x0.trans x2⟩)
 refine(A x2).jH dK rfl λc3 R3=>goE x2 (Gm R3 _) λh3 x3=>bt (br (λk3=>?_) λk3=>⟨by rw[bK.ok,k3];simp,x0.trans x3⟩)
 exact(A x3).oF2 λy hy=>goE x3 (mw hy _) λh4 x4=>bt ⟨by rw[bK.ok,k1,k2,k3];rfl,x0.trans x4⟩
theorem ah7{x y a b:Nat}(hx:FW .f32 x a)(hy:FW .f32 y b){T:Nat}{F:Nat->ab->Prop}(H:∀g h',Ext h h'->SlR (rF .f32) h' (some ⟨g,0,none⟩) 2 2 [a,b]->F g h'):ALC ⟨[.float .f32 x,.float .f32 y]⟩ T F h:=
 H0 (r:=rF .f32) (n:=2) (xs:=[a,b]) (cs:=[.float .f32 x,.float .f32 y]) ⟨rfl,[.float .f32 x],[.float .f32 y],rfl,⟨x,rfl,hx⟩,[.float .f32 y],[],rfl,⟨y,rfl,hy⟩,rfl⟩ (by decide) H
theorem XH{x:iU}(R:RdP jI h q x):af ak 195 #[.pointer (some q)] (λu h'=>u = .bool x.ok∧Ext h h') h:=by
 have A:∀{hh:ab},Ext h hh->RdP jI hh q x:=λe=>R.ext e
 have z0:(iT 2 bQ).rd h [Value.slice none 0 0,Value.int .i64 (0:Int),Value.slice none 0 0,Value.int .i64 (0:Int)] [wJ,wJ]:=⟨rfl,[Value.slice none 0 0,Value.int .i64 (0:Int)],[Value.slice none 0 0,Value.int .i64 (0:Int)],rfl,bQ.look pV (Mem.start h) (List.nil_sublist _),[Value.slice none 0 0,Value.int .i64 (0:Int)],[],rfl,bQ.look pV (Mem.start h) (List.nil_sublist _),rfl⟩
 refine z9.call ((R.fst ik).jc rfl λc1 R1=>R.lda fE rfl λc2 R2=>siz (rsz R1 rfl) (siz (rsz R2 rfl) ?_))
 have z1:=zG (put:=λl b=>l.set 0 b) (get:=λl=>l[0]!) z0 (λR=>F9 (i:=0) (by decide) R) R1
 have z2:=zG (put:=λl b=>l.set 1 b) (get:=λl=>l[1]!) z1 (λR=>F9 (i:=1) (by decide) R) R2
 refine H0 (r:=bQ) (n:=2) (xs:=[x.bT,x.aH]) z2 (by decide) λg h1 x1 S=>goE x1 (Qq S) λh2 x2=>bt ?_
 have k:x.ok=([x.bT,x.aH].all aY.okf&&(x.fz.ok&&x.fz.Kind==1)&&(fin x.fX&&fin x.fT)):=by rw[iU.ok];simp
 refine br (λk1=>?_) λk1=>⟨by rw[k,k1];rfl,x2⟩
 refine goE x2 (Lt ((A x2).foc gj)) λh3 x3=>bt (br (λk2=>(A x3).oI (br (λk3=>?_) λk3=>⟨by rw[k,k3];simp,x3⟩)) λk2=>⟨by rw[k,k2];simp,x3⟩)
 refine(A x3).oF λy hy=>(A x3).oF λz hz=>ah7 hy hz λg4 h4 x4 S=>goX (Ny S) λh5 x5=>bt ⟨?_,x3.trans (x4.trans x5)⟩
 rw[k,k1,k2,k3]
 simp[pW]
end
set_option maxHeartbeats 2000000
noncomputable def aeU(v:aK):Bool:=same v.String iw&&same v.aI wI&&same v.bY vl&&(v.aq==0)&&(v.mh==0) && !v.Gone&&(v.gR==0)
noncomputable def aeJ(s:bI)(v:aK):Bool:=
 if s.az[v.aq.toNat]!.Kind=1 then v.String.ok&&same v.aI wI&&same v.bY vl else if s.az[v.aq.toNat]!.Kind=2 then same v.String iw&&v.aI.ok&&same v.bY vl else same v.String iw&&same v.aI wI&&v.bY.ok
noncomputable def acy(s:bI)(v:aK):Bool:=if v.aT = -1 then aeU v else match tS s.bo v.aT with | none=>false | some e=>(e.aq==v.aq)&&(e.At==v.mh)&&fin v.gR&&aeJ s v
theorem alg{α:Type}[Inhabited α]{p:α->Bool}{l:List α}(h:∀i,i<l.length->p l[i]! = false):l.find? p=none:=by
 rw[List.find?_eq_none]
 intro x hx
 obtain⟨i,hi,rfl⟩:=List.mem_iff_getElem.1 hx
 have:=h i hi
 rw[getElem!_pos l i hi] at this
 rw[this];decide
theorem alh{α:Type}[Inhabited α]{p:α->Bool}{l:List α}{n:Nat}(hn:n<l.length)(h0:∀i,i<n->p l[i]! = false)(h1:p l[n]! = true):l.find? p=some l[n]!:=by
 rw[getElem!_pos l n hn] at h1 ⊢
 rw[List.find?_eq_some_iff_getElem]
 refine⟨h1,n,hn,rfl,λj hj=>?_⟩
 have:=h0 j hj
 rw[getElem!_pos l j (by omega)] at this
 rw[this];rfl
theorem yq{α:Type}[Inhabited α](p:α->Bool)(l:List α):(jL p l = -1∧∀i,i<l.length->p l[i]! = false)∨∃n:Nat,n<l.length∧jL p l=n∧(∀i,i<n->p l[i]! = false)∧p l[n]! = true:=by
 unfold jL
 by_cases h:l.any p=true
 ·rw[if_pos h]
  obtain⟨x,hx,hp⟩:=List.any_eq_true.1 h
  have qR:l.findIdx p<l.length:=List.findIdx_lt_length_of_exists ⟨x,hx,hp⟩
  refine .inr ⟨l.findIdx p,qR,rfl,λi hi=>?_,?_⟩
  ·rw[getElem!_pos l i (by omega)]
   have:=List.not_of_lt_findIdx hi
   simpa using this
  ·rw[getElem!_pos l _ qR]
   exact List.findIdx_getElem (w:=qR)
 ·rw[if_neg h]
  refine .inl ⟨rfl,λi hi=>?_⟩
  rw[getElem!_pos l i hi]
  rw[Bool.not_eq_true,List.any_eq_false] at h
  have:=h _ (List.getElem_mem hi)
  simpa using this
theorem sP{s:bI}(h:s.ok=true):kU s.bo s.az.length:=by
 unfold bI.ok at h
 rw[Bool.and_eq_true] at h
 exact BS.1 h.2
theorem Kg{s:bI}(h:s.ok=true){n:Int}{e:aZ}(he:tS s.bo n=some e):0≤e.aq∧e.aq<s.az.length:=by
 have G:=sP h
 have hm:=List.mem_of_find?_eq_some he
 have hp:=List.find?_some he
 obtain⟨i,hi,rfl⟩:=List.mem_iff_getElem.1 hm
 have:=G.part i hi
 rw[getElem!_pos _ i hi] at this
 rw[Bool.and_eq_true] at hp
 have hk:(s.bo[i]).Kind=2:=by have:=hp.1;unfold fF at this;simpa using this
 unfold jM at this
 rw[if_neg (by omega)] at this
 simp only[Bool.and_eq_true,inR,decide_eq_true_eq] at this
 omega
section
variable {h:ab}
theorem G1:Flat bF:=G3 (lh (AM _) (lh (AM _) (lh (AM _) (lh (AM _) (lh (AM _) (u0 _))))))
def ak7(h:ab)(es:List aZ)(n:Int)(u:Value):Prop:=∃cs:Array Value,u = .tuple ⟨[.agg cs,.bool (tS es n).isSome]⟩∧bF.rd h cs.toList ((tS es n).getD wH)
theorem ak7.no{es:List aZ}{n:Int}(e:tS es n=none):ak7 h es n (.tuple ⟨[.agg ⟨[.int .i64 (0:Int),.int .i64 (0:Int),.int .i64 (0:Int),.int .i64 (0:Int),.int .i64 (0:Int),.float .f32 0]⟩,.bool false]⟩):=
 ⟨_,by rw[e];rfl,by rw[e];exact bF.look Km (Mem.start h) (List.nil_sublist _)⟩
theorem ak7.yes{es:List aZ}{n:Int}{e:aZ}{cs:Array Value}{h0:ab}(he:tS es n=some e)(R:bF.rd h0 cs.toList e):ak7 h es n (.tuple ⟨[.agg cs,.bool true]⟩):=
 ⟨cs,by rw[he];rfl,by rw[he];exact bF.look (G1 _ _ _ R) (Mem.start h) (List.nil_sublist _)⟩
theorem amT{q:Addr}{s:bI}(R:RdP bU h q s)(n:Int):af ak 204 #[.pointer (some q),.int .i64 n] (λu h'=>ak7 h' s.bo n u∧Ext h h') h:=by
 have hm:=cu
 refine aan.call ((Mem.start h).alc λg1 h1 x1 M=>?_)
 refine loop (λx hh=>∃m:Nat,x=(q,n,⟨g1,0,none⟩,(m:Int))∧m≤s.bo.length∧Mem h hh [(g1,131,⟨jg⟩)]∧∀i,i<m->(fF s.bo[i]! && s.bo[i]!.aT==n)=false) (λx=>((s.bo.length:Int)-x.2.2.2).toNat) ⟨0,rfl,by omega,M,λi hi=>by omega⟩ ?_
 rintro x hh ⟨m,rfl,hmm,M,hf⟩
 have A:=R.ext M.ext
 refine A.oL λb l c S=>?_
 have hl:=S.len
 have s1:=S.2.1
 have s2:=S.2.2.1
 refine brd (λhc=>?_) λhc=>?_
 ·have next:(fF s.bo[m]! && s.bo[m]!.aT==n)=false->((∃k:Nat,(q,n,(⟨g1,0,none⟩:Addr),IntKind.i64.wrap ((m:Int)+1))=(q,n,⟨g1,0,none⟩,(k:Int))∧k≤s.bo.length∧Mem h hh [(g1,131,⟨jg⟩)]∧∀i,i<k->(fF s.bo[i]! && s.bo[i]!.aT==n)=false)∧((s.bo.length:Int)-IntKind.i64.wrap ((m:Int)+1)).toNat<((s.bo.length:Int)-m).toNat):=λhn1=>
   ⟨⟨m+1,by rw[ag (by omega)],by omega,M,λi hi=>by
    by_cases e:i=m
    ·subst e;exact hn1
    ·exact hf i (by omega)⟩,by rw[ag (by omega)];omega⟩
  refine A.oL λb1 l1 c1 S1=>?_
  have e1:=S1.len
  refine S1.idn tk (by omega) λa Ra=>Ra.oI (br (λk1=>?_) λk1=>?_)
  ·refine A.oL λb2 l2 c2 S2=>?_
   have e2:=S2.len
   refine S2.idn tk (by omega) λa2 Ra2=>Ra2.oI ?_
   unfold aan.J5
   refine br (λk2=>A.oL λb3 l3 c3 S3=>?_) λk2=>next (by rw[show(s.bo[m]!.aT==n)=false from k2,Bool.and_false])
   have e3:=S3.len
   have hp:(fF s.bo[m]! && s.bo[m]!.aT==n)=true:=by rw[show fF s.bo[m]! = true from k1,show(s.bo[m]!.aT==n)=true from k2];rfl
   refine S3.idn tk (by omega) λa3 Ra3=>Ra3.jc rfl λce Re=>M.dH .here (rsz Re rfl) (bF.wj Re) rfl .here λh7 M2=>M2.df .here (rsz Re rfl) ⟨.yes (alh (by omega) hf hp) Re,M2.ext⟩
  ·unfold aan.J5
   exact cM rfl (next (by rw[show fF s.bo[m]! = false from k1];rfl))
 ·have hall:∀i,i<s.bo.length->(fF s.bo[i]! && s.bo[i]!.aT==n)=false:=λi hi=>hf i (by omega)
  refine M.dH .here rfl (bF.jy Km) rfl .here λh7 M=>M.df .here rfl ⟨.no (alg hall),M.ext⟩
theorem alP{h0:ab}{p q:Addr}{s:bI}{v:aK}(R:RdP bU h p s)(V:RdP aQ h q v)(X:Ext h0 h)(hi:0≤v.aq∧v.aq<s.az.length){r:Bool}(k:aeJ s v=r):
  acg.J9 (λu h'=>u = .bool r∧Ext h0 h') p q (same v.String iw) (same v.aI wI) (same v.bY vl) h:=by
 unfold acg.J9
 refine R.oL λb l c S=>V.oI (S.idx (by decide) hi.1 (by rw[← S.len];exact hi.2) λa Ra=>Ra.oI (br (λk1=>?_) λk1=>br (λk2=>?_) λk2=>?_))
 ·have k:(v.String.ok&&same v.aI wI&&same v.bY vl)=r:=by rw[← k,aeJ,if_pos (by simpa using k1)]
  refine goE X (abA (V.foc bO)) λh1 x1=>bt (br (λe=>br (λe2=>⟨?_,x1⟩) λe2=>⟨?_,x1⟩) λe=>⟨?_,x1⟩)
  all_goals (rw[← k];simp[*])
 ·have k:(same v.String iw&&v.aI.ok&&same v.bY vl)=r:=by rw[← k,aeJ,if_neg (by simpa using k1),if_pos (by simpa using k2)]
  refine br (λe=>goE X (atX (V.foc cE)) λh1 x1=>bt (br (λe2=>⟨?_,x1⟩) λe2=>⟨?_,x1⟩)) λe=>⟨?_,X⟩
  all_goals (rw[← k];simp[*])
 ·have k:(same v.String iw&&same v.aI wI&&v.bY.ok)=r:=by rw[← k,aeJ,if_neg (by simpa using k1),if_neg (by simpa using k2)]
  refine br (λe=>br (λe2=>goE X (XH (V.foc cP)) λh1 x1=>bt ⟨?_,x1⟩) λe2=>⟨?_,X⟩) λe=>⟨?_,X⟩
  all_goals (rw[← k];simp[*])
theorem amU{p q:Addr}{s:bI}{v:aK}(R:RdP bU h p s)(V:RdP aQ h q v)(hs:s.ok=true):af ak 132 #[.pointer (some p),.pointer (some q)] (λu h'=>u = .bool (acy s v)∧Ext h h') h:=by
 have A:∀{hh:ab},Ext h hh->RdP bU hh p s:=λe=>R.ext e
 have B:∀{hh:ab},Ext h hh->RdP aQ hh q v:=λe=>V.ext e
 refine acg.call (goX (al7 (V.foc bO)) λh1 x1=>bt (goE x1 (alO ((B x1).foc cE)) λh2 x2=>bt (goE x2 (amS ((B x2).foc cP)) λh3 x3=>bt ?_)))
 refine(B x3).oI1 (br (λkn=>?_) λkn=>?_)
 ·have k:acy s v=aeU v:=by rw[acy,if_pos (by simpa using kn)]
  rw[k]
  refine br (λe1=>br (λe2=>br (λe3=>(B x3).oI (br (λe4=>(B x3).oI (br (λe5=>(B x3).oB (brN (λe6=>(B x3).oF λy hy=>goE x3 (zu hy fw0 _) λh4 x4=>bt ⟨?_,x4⟩) λe6=>⟨?_,x3⟩)) λe5=>⟨?_,x3⟩)) λe4=>⟨?_,x3⟩)) λe3=>⟨?_,x3⟩) λe2=>⟨?_,x3⟩) λe1=>⟨?_,x3⟩
  all_goals (rw[aeU];simp[*])
 ·refine(B x3).oI1 ?_
  have c:=amT (A x3) v.aT
  refine c.mono ?_
  rintro _ h4 ⟨⟨cs,rfl,Re⟩,y4⟩
  have x4:=x3.trans y4
  refine jJ (gw (bt (QU Re rfl rfl λg h5 y5 E=>?_)))
  have x5:=x4.trans y5
  have k0:acy s v=match tS s.bo v.aT with | none=>false | some e=>(e.aq==v.aq)&&(e.At==v.mh)&&fin v.gR&&aeJ s v:=by rw[acy,if_neg (by simpa using kn)]
  cases he:tS s.bo v.aT with
  | none=>
   rw[he] at k0
   exact vu rfl ⟨by rw[k0],x5⟩
  | some e=>
   rw[he] at k0
   rw[he] at E
   have E:RdP bF h5 ⟨g,0,none⟩ e:=E
   have k0:acy s v=((e.aq==v.aq)&&(e.At==v.mh)&&fin v.gR&&aeJ s v):=k0
   refine cM rfl (E.oI2 ((B x5).oI (br (λe1=>⟨?_,x5⟩) λe1=>E.oI2 ((B x5).oI (br (λe2=>⟨?_,x5⟩) λe2=>(B x5).oF λy hy=>goE x5 (jm hy _) λh6 x6=>bt (brN (λe3=>⟨?_,x6⟩) λe3=>?_))))))
   ·rw[k0,show(e.aq==v.aq)=false from by simpa using e1];rfl
   ·rw[k0,show(e.At==v.mh)=false from by simpa using e2];simp
   ·rw[k0,e3];simp
   ·have hi:=Kg hs he
    have ei:e.aq=v.aq:=by simpa using e1
    rw[ei] at hi
    refine alP (A x6) (B x6) x6 hi ?_
    rw[k0,e3,show(e.aq==v.aq)=true from by simpa using e1,show(e.At==v.mh)=true from by simpa using e2];rfl
end
end Go.Sx
