/- Lemmas. -/
import Derived.Test.YthhepeklpgefkaaGreatDoorLk43
import Derived.Test.YthhepeklpgefkaaGreatDoorLk10
import Derived.Test.YthhepeklpgefkaaGreatDoorLk24
import Derived.Test.YthhepeklpgefkaaGreatDoorLr7
import Derived.Test.YthhepeklpgefkaaGreatDoorK6
import Derived.Test.YthhepeklpgefkaaGreatDoorLk29
set_option linter.unusedVariables false
set_option linter.unusedSimpArgs false
namespace Go.Sx
open Go.Proofs
set_option maxRecDepth 100000
set_option maxHeartbeats 1000000
theorem aaj{α:Type}{r:Rep α}{h0 h:ab}{x:α}{cs:Array Value}{T:Nat}{F:Nat->ab->Prop}(E:Ext h0 h)(R:r.rd h cs.toList x)(H:∀g h',Ext h0 h'->RdP r h' ⟨g,0,none⟩ x->F g h'):ALC cs T F h:=
 fj R λg h' x' R'=>H g h' (E.trans x') R'
theorem afJ{α:Type}(xs:List α):same xs []=(xs.length==0):=by
 rw[Bool.eq_iff_iff,jg,beq_iff_eq,List.length_eq_zero_iff]
theorem abl{α:Type}{r:Rep α}{h:ab}{b:Option Addr}{l c:Nat}{xs:List α}(S:SlR r h b l c xs):((l:Int)==(0:Int))=same xs []:=by
 rw[afJ,S.len,Bool.eq_iff_iff,beq_iff_eq,beq_iff_eq]
 omega
section
variable {h:ab}{q:Addr}
theorem CQ:bQ.rd h [.int .i64 0,.float .f32 0,.float .f32 0,.float .f32 0,.float .f32 0,.float .f32 0] lX:=bQ.look nw (Mem.start h) (List.nil_sublist _)
theorem Ps{x:bP}(R:RdP aX h q x):ae ai qZ #[.pointer (some q)] (λu h'=>u = .bool (same x ff)∧Ext h h') h:=by
 have k:same x ff=(same x.Loop.af []&&(x.Loop.At==0)&&same x.mK lX&&same x.gl lX&&(x.fi==0)):=by rw[Kl];unfold ff oY;rw[Fb]
 have A:∀{hh:ab},Ext h hh->RdP aX hh q x:=λe=>R.ext e
 refine uB.call (R.oL1 λb l c S=>?_)
 rw[abl S]
 refine br (λk1=>R.oI (br (λk2=>aaj (Ext.refl h) CQ λg h3 x3 Z=>goE x3 (EW ((A x3).foc dh) Z) λh4 x4=>bd (br (λk3=>aaj x4 CQ λg h6 x6 Z=>goE x6 (EW ((A x6).foc df) Z) λh7 x7=>bd (br (λk4=>(A x7).oF λy hy=>goE x7 (kq hy fw0 _) λh9 x9=>bd ⟨?_,x9⟩) λk4=>⟨?_,x7⟩)) λk3=>⟨?_,x4⟩)) λk2=>⟨?_,Ext.refl _⟩)) λk1=>⟨?_,Ext.refl _⟩
 all_goals (rw[k];simp[*])
theorem UK{x:cF}(R:RdP ck h q x):ae ai u0 #[.pointer (some q)] (λu h'=>u = .bool (same x lv)∧Ext h h') h:=by
 have k:same x lv=(same x.aY []&&same x.Left []&&same x.aG []&&same x.End lX&&(x.Open==false)&&(x.fi==0)&&(x.Rest==0)&&(x.fG==0)):=by rw[QN];rfl
 have A:∀{hh:ab},Ext h hh->RdP ck hh q x:=λe=>R.ext e
 refine yw.call (R.oL1 λb l c S=>?_)
 rw[abl S]
 refine br (λk1=>R.oL λb l c S=>?_) λk1=>⟨by rw[k,k1];simp,Ext.refl _⟩
 rw[abl S]
 refine br (λk2=>R.oL λb l c S=>?_) λk2=>⟨by rw[k,k2];simp,Ext.refl _⟩
 rw[abl S]
 refine br (λk3=>aaj (Ext.refl h) CQ λg h3 x3 Z=>goE x3 (EW ((A x3).foc dO) Z) λh4 x4=>bd (br (λk4=>?_) λk4=>⟨by rw[k,k4];simp,x4⟩)) λk3=>⟨by rw[k,k3];simp,Ext.refl _⟩
 refine (A x4).oB (brN (λk5=>?_) λk5=>⟨by rw[k,k5];simp,x4⟩)
 refine (A x4).oF λy hy=>goE x4 (kq hy fw0 _) λh5 x5=>bd (br (λk6=>?_) λk6=>⟨by rw[k,k6];simp,x5⟩)
 refine (A x5).oF λy hy=>goE x5 (kq hy fw0 _) λh6 x6=>bd (br (λk7=>?_) λk7=>⟨by rw[k,k7];simp,x6⟩)
 refine (A x6).oF λy hy=>goE x6 (kq hy fw0 _) λh7 x7=>bd ⟨?_,x7⟩
 rw[k,k1,k2,k3,k4,k5,k6,k7];rfl
theorem Xm{x:jh}(R:RdP fQ h q x):ae ai vK #[.pointer (some q)] (λu h'=>u = .bool (same x mD)∧Ext h h') h:=by
 have k:same x mD=(same x.bX.af []&&(x.bX.At==0)&&(same x.aK.af []&&(x.aK.At==0))&&same x.gl lX&&(x.fG==0)&&(x.fi==0)):=by rw[Vx];unfold mD oY;rw[Fb,Fb]
 have A:∀{hh:ab},Ext h hh->RdP fQ hh q x:=λe=>R.ext e
 refine Al.call (R.oL1 λb l c S=>?_)
 rw[abl S]
 refine br (λk1=>R.oI (br (λk2=>R.oL λb l c S=>?_) λk2=>⟨by rw[k,k2];simp,Ext.refl _⟩)) λk1=>⟨by rw[k,k1];simp,Ext.refl _⟩
 rw[abl S]
 refine br (λk3=>R.oI (br (λk4=>aaj (Ext.refl h) CQ λg h3 x3 Z=>goE x3 (EW ((A x3).foc eP) Z) λh4 x4=>bd (br (λk5=>?_) λk5=>⟨by rw[k,k5];simp,x4⟩)) λk4=>⟨by rw[k,k4];simp,Ext.refl _⟩)) λk3=>⟨by rw[k,k3];simp,Ext.refl _⟩
 refine (A x4).oF λy hy=>goE x4 (kq hy fw0 _) λh5 x5=>bd (br (λk6=>?_) λk6=>⟨by rw[k,k6];simp,x5⟩)
 refine (A x5).oF λy hy=>goE x5 (kq hy fw0 _) λh6 x6=>bd ⟨?_,x6⟩
 rw[k,k1,k2,k3,k4,k5,k6];rfl
def bP.ok(x:bP):Bool:=x.Loop.ok&&(x.mK.ok&&x.mK.Kind==3)&&(x.gl.ok&&x.gl.Kind==2)&&fin x.fi
def jh.ok(x:jh):Bool:=x.bX.okf&&x.aK.okf&&(x.gl.ok&&x.gl.Kind==1)&&(fin x.fG&&fin x.fi)
theorem Zn{x:bP}(R:RdP aX h q x):ae ai wM #[.pointer (some q)] (λu h'=>u = .bool x.ok∧Ext h h') h:=by
 have A:∀{hh:ab},Ext h hh->RdP aX hh q x:=λe=>R.ext e
 refine H5.call (goX (Qk (R.fst dg)) λh1 x1=>bd (br (λk1=>?_) λk1=>⟨by rw[bP.ok,k1];rfl,x1⟩))
 refine goE x1 (Lo ((A x1).foc dh)) λh2 x2=>bd (br (λk2=>(A x2).oI (br (λk3=>?_) λk3=>⟨by rw[bP.ok,k3];simp,x2⟩)) λk2=>⟨by rw[bP.ok,k2];simp,x2⟩)
 refine goE x2 (Lo ((A x2).foc df)) λh3 x3=>bd (br (λk4=>(A x3).oI (br (λk5=>?_) λk5=>⟨by rw[bP.ok,k5];simp,x3⟩)) λk4=>⟨by rw[bP.ok,k4];simp,x3⟩)
 exact (A x3).oF λy hy=>goE x3 (kX hy _) λh4 x4=>bd ⟨by rw[bP.ok,k1,k2,k3,k4,k5];rfl,x4⟩
theorem FN{cs:Array Value}{x:bP}(R0:aX.rd h cs.toList x):ae ai mQ #[.agg cs] (λu h'=>u = .bool x.ok∧Ext h h') h:=by
 refine uc.call (aaj (Ext.refl h) R0 λg h0 x0 R=>?_)
 have A:∀{hh:ab},Ext h0 hh->RdP aX hh ⟨g,0,none⟩ x:=λe=>R.ext e
 refine R.fc dg rfl λc1 R1=>goX (JT R1) λh1 x1=>bd (br (λk1=>?_) λk1=>⟨by rw[bP.ok,k1];rfl,x0.trans x1⟩)
 refine (A x1).fc dh rfl λc2 R2=>goE x1 (C0 R2 _) λh2 x2=>bd (br (λk2=>?_) λk2=>⟨by rw[bP.ok,k2];simp,x0.trans x2⟩)
 refine (A x2).fc df rfl λc3 R3=>goE x2 (C0 R3 _) λh3 x3=>bd (br (λk3=>?_) λk3=>⟨by rw[bP.ok,k3];simp,x0.trans x3⟩)
 exact (A x3).oF2 λy hy=>goE x3 (nh hy _) λh4 x4=>bd ⟨by rw[bP.ok,k1,k2,k3];rfl,x0.trans x4⟩
theorem ag3{x y a b:Nat}(hx:FW .f32 x a)(hy:FW .f32 y b){T:Nat}{F:Nat->ab->Prop}(H:∀g h',Ext h h'->SlR (rF .f32) h' (some ⟨g,0,none⟩) 2 2 [a,b]->F g h'):ALC ⟨[.float .f32 x,.float .f32 y]⟩ T F h:=
 Ef (r:=rF .f32) (n:=2) (xs:=[a,b]) (cs:=[.float .f32 x,.float .f32 y]) ⟨rfl,[.float .f32 x],[.float .f32 y],rfl,⟨x,rfl,hx⟩,[.float .f32 y],[],rfl,⟨y,rfl,hy⟩,rfl⟩ (by decide) H
theorem Wo{cs:Array Value}{x:jh}(R0:fQ.rd h cs.toList x):ae ai vq #[.agg cs] (λu h'=>u = .bool x.ok∧Ext h h') h:=by
 refine zR.call (aaj (Ext.refl h) R0 λg h0 x0 R=>?_)
 have A:∀{hh:ab},Ext h0 hh->RdP fQ hh ⟨g,0,none⟩ x:=λe=>R.ext e
 refine R.fc fa rfl λc1 R1=>goX (HS R1) λh1 x1=>bd (br (λk1=>?_) λk1=>⟨by rw[jh.ok,k1];rfl,x0.trans x1⟩)
 refine (A x1).fc dz rfl λc2 R2=>goE x1 (HS R2) λh2 x2=>bd (br (λk2=>?_) λk2=>⟨by rw[jh.ok,k2];simp,x0.trans x2⟩)
 refine (A x2).fc eP rfl λc3 R3=>goE x2 (C0 R3 _) λh3 x3=>bd (br (λk3=>?_) λk3=>⟨by rw[jh.ok,k3];simp,x0.trans x3⟩)
 refine (A x3).oF2 λy hy=>(A x3).oF2 λz hz=>ag3 hy hz λg4 h4 x4 S=>goX (Dv S) λh5 x5=>bd ⟨?_,x0.trans (x3.trans (x4.trans x5))⟩
 rw[jh.ok,k1,k2,k3]
 simp[oq]
theorem UH{x:jh}(R:RdP fQ h q x):ae ai uM #[.pointer (some q)] (λu h'=>u = .bool x.ok∧Ext h h') h:=by
 have A:∀{hh:ab},Ext h hh->RdP fQ hh q x:=λe=>R.ext e
 have z0:(iv 2 bo).rd h [Value.slice none 0 0,Value.int .i64 (0:Int),Value.slice none 0 0,Value.int .i64 (0:Int)] [oY,oY]:=⟨rfl,[Value.slice none 0 0,Value.int .i64 (0:Int)],[Value.slice none 0 0,Value.int .i64 (0:Int)],rfl,bo.look qt (Mem.start h) (List.nil_sublist _),[Value.slice none 0 0,Value.int .i64 (0:Int)],[],rfl,bo.look qt (Mem.start h) (List.nil_sublist _),rfl⟩
 refine Er.call ((R.fst fa).gi rfl λc1 R1=>R.lda dz rfl λc2 R2=>siz (rsz R1 rfl) (siz (rsz R2 rfl) ?_))
 have z1:=Fa (put:=λl b=>l.set 0 b) (get:=λl=>l[0]!) z0 (λR=>Ld (i:=0) (by decide) R) R1
 have z2:=Fa (put:=λl b=>l.set 1 b) (get:=λl=>l[1]!) z1 (λR=>Ld (i:=1) (by decide) R) R2
 refine Ef (r:=bo) (n:=2) (xs:=[x.bX,x.aK]) z2 (by decide) λg h1 x1 S=>goE x1 (GK S) λh2 x2=>bd ?_
 have k:x.ok=([x.bX,x.aK].all bc.okf&&(x.gl.ok&&x.gl.Kind==1)&&(fin x.fG&&fin x.fi)):=by rw[jh.ok];simp
 refine br (λk1=>?_) λk1=>⟨by rw[k,k1];rfl,x2⟩
 refine goE x2 (Lo ((A x2).foc eP)) λh3 x3=>bd (br (λk2=>(A x3).oI (br (λk3=>?_) λk3=>⟨by rw[k,k3];simp,x3⟩)) λk2=>⟨by rw[k,k2];simp,x3⟩)
 refine (A x3).oF λy hy=>(A x3).oF λz hz=>ag3 hy hz λg4 h4 x4 S=>goX (Mt S) λh5 x5=>bd ⟨?_,x3.trans (x4.trans x5)⟩
 rw[k,k1,k2,k3]
 simp[oq]
end
set_option maxHeartbeats 2000000
noncomputable def DI(v:aJ):Bool:=same v.String ff&&same v.aP lv&&same v.cz mD&&(v.ar==0)&&(v.lq==0) && !v.Gone&&(v.ja==0)
noncomputable def pB(s:cA)(v:aJ):Bool:=
 if s.aI[v.ar.toNat]!.Kind=1 then v.String.ok&&same v.aP lv&&same v.cz mD else if s.aI[v.ar.toNat]!.Kind=2 then same v.String ff&&v.aP.ok&&same v.cz mD else same v.String ff&&same v.aP lv&&v.cz.ok
noncomputable def kv(s:cA)(v:aJ):Bool:=if v.aT = -1 then DI v else match ln s.aU v.aT with | none=>false | some e=>(e.ar==v.ar)&&(e.At==v.lq)&&fin v.ja&&pB s v
theorem Q9{α:Type}[Inhabited α]{p:α->Bool}{l:List α}(h:∀i,i<l.length->p l[i]! = false):l.find? p=none:=by
 rw[List.find?_eq_none]
 intro x hx
 obtain⟨i,hi,rfl⟩:=List.mem_iff_getElem.1 hx
 have:=h i hi
 rw[getElem!_pos l i hi] at this
 rw[this];decide
theorem Qa{α:Type}[Inhabited α]{p:α->Bool}{l:List α}{n:Nat}(hn:n<l.length)(h0:∀i,i<n->p l[i]! = false)(h1:p l[n]! = true):l.find? p=some l[n]!:=by
 rw[getElem!_pos l n hn] at h1 ⊢
 rw[List.find?_eq_some_iff_getElem]
 refine ⟨h1,n,hn,rfl,λj hj=>?_⟩
 have:=h0 j hj
 rw[getElem!_pos l j (by omega)] at this
 rw[this];rfl
theorem oG{α:Type}[Inhabited α](p:α->Bool)(l:List α):(ko p l = -1∧∀i,i<l.length->p l[i]! = false)∨∃n:Nat,n<l.length∧ko p l=n∧(∀i,i<n->p l[i]! = false)∧p l[n]! = true:=by
 unfold ko
 by_cases h:l.any p=true
 ·rw[if_pos h]
  obtain⟨x,hx,hp⟩:=List.any_eq_true.1 h
  have vR:l.findIdx p<l.length:=List.findIdx_lt_length_of_exists ⟨x,hx,hp⟩
  refine .inr ⟨l.findIdx p,vR,rfl,λi hi=>?_,?_⟩
  ·rw[getElem!_pos l i (by omega)]
   have:=List.not_of_lt_findIdx hi
   simpa using this
  ·rw[getElem!_pos l _ vR]
   exact List.findIdx_getElem (w:=vR)
 ·rw[if_neg h]
  refine .inl ⟨rfl,λi hi=>?_⟩
  rw[getElem!_pos l i hi]
  rw[Bool.not_eq_true,List.any_eq_false] at h
  have:=h _ (List.getElem_mem hi)
  simpa using this
theorem qo{s:cA}(h:s.ok=true):mh s.aU s.aI.length:=by
 unfold cA.ok at h
 rw[Bool.and_eq_true] at h
 exact HA.1 h.2
theorem Fg{s:cA}(h:s.ok=true){n:Int}{e:bf}(he:ln s.aU n=some e):0≤e.ar∧e.ar<s.aI.length:=by
 have G:=qo h
 have hm:=List.mem_of_find?_eq_some he
 have hp:=List.find?_some he
 obtain⟨i,hi,rfl⟩:=List.mem_iff_getElem.1 hm
 have:=G.part i hi
 rw[getElem!_pos _ i hi] at this
 rw[Bool.and_eq_true] at hp
 have hk:(s.aU[i]).Kind=2:=by have:=hp.1;unfold fL at this;simpa using this
 unfold mj at this
 rw[if_neg (by omega)] at this
 simp only[Bool.and_eq_true,inR,decide_eq_true_eq] at this
 omega
section
variable {h:ab}
theorem yP{b:Option Addr}{l c:Nat}{xs:List bf}{f:Value}{p:bf->Bool}(S:SlR bD h b l c xs)(T:Dp ai bD h f p):
  ae ai eH #[.slice b l c,f] (λu h'=>u = .int .i64 (ko p xs)∧Ext h h') h:=by
 refine bm.call ?_
 have K7:=S.2.2.1
 have Ze:=S.2.1
 have:=bW
 have hl:=S.len
 refine loop (λx hh=>∃n:Nat,x=(b,l,c,f,(l:Int),(n:Int))∧n≤l∧Ext h hh∧∀i,i<n->p xs[i]! = false) (λx=>(l-x.2.2.2.2.2).toNat) ⟨0,rfl,by omega,Ext.refl _,λi hi=>by omega⟩ ?_
 rintro x hh ⟨n,rfl,hn,X,hf⟩
 refine brd (λhc=>?_) λhc=>⟨by rw[pr λi hi=>hf i (by omega)],X⟩
 refine (S.ext X).idx ru (by omega) (by omega) λa Ra=>Ra.gi rfl λcs Rc=>goD X (T _ _ _ X Rc) λh1 x1=>bd (br (λhb=>?_) λhb=>?_)
 ·exact ⟨by rw[pv (by omega) hf (by simpa using hb)],x1⟩
 ·refine ⟨⟨n+1,by rw[ag (by omega)],by omega,x1,λi hi=>?_⟩,by rw[ag (by omega)];show _<_;simp;omega⟩
  by_cases e:i=n
  ·subst e;simpa using hb
  ·exact hf i (by omega)
theorem GA:Flat bD:=DE (jm (BP _) (jm (BP _) (jm (BP _) (jm (BP _) (jm (BP _) (nZ _))))))
theorem akB{n:Int}:(rI .i64).rd h (#[.int .i64 n]:Array Value).toList n:=rfl
def IQ(h:ab)(es:List bf)(n:Int)(u:Value):Prop:=∃cs:Array Value,u = .tuple ⟨[.agg cs,.bool (ln es n).isSome]⟩∧bD.rd h cs.toList ((ln es n).getD zq)
theorem IQ.no{es:List bf}{n:Int}(e:ln es n=none):IQ h es n (.tuple ⟨[.agg ⟨[.int .i64 (0:Int),.int .i64 (0:Int),.int .i64 (0:Int),.int .i64 (0:Int),.int .i64 (0:Int),.float .f32 0]⟩,.bool false]⟩):=
 ⟨_,by rw[e];rfl,by rw[e];exact bD.look Bo (Mem.start h) (List.nil_sublist _)⟩
theorem IQ.yes{es:List bf}{n:Int}{e:bf}{cs:Array Value}{h0:ab}(he:ln es n=some e)(R:bD.rd h0 cs.toList e):IQ h es n (.tuple ⟨[.agg cs,.bool true]⟩):=
 ⟨cs,by rw[he];rfl,by rw[he];exact bD.look (GA _ _ _ R) (Mem.start h) (List.nil_sublist _)⟩
theorem abY{cs:Array Value}{s:cA}(R0:da.rd h cs.toList s)(n:Int):ae ai xD #[.agg cs,.int .i64 n] (λu h'=>IQ h' s.aU n u∧Ext h h') h:=by
 refine BY.call (fj R0 λg1 h1 x1 R=>fj (r:=rI .i64) akB λg3 h3 x3 RN=>(Mem.start h3).alc λg5 h5 x5 M=>?_)
 have X:=x1.trans x3
 have R5:∀{hh:ab},Ext h3 hh->RdP da hh ⟨g1,0,none⟩ s:=λe=>R.ext (x3.trans e)
 have T:Dp ai bD h5 (.func (.func sm) #[] #[.pointer (some ⟨g3,0,none⟩)]) (λe=>fL e&&e.aT==n):=λce e hx xx Re=>by
  show ae ai sm #[.agg ce,.pointer (some ⟨g3,0,none⟩)] _ hx
  refine w6.call (fj Re λg h' x' R'=>R'.oI2 (br (λk=>R'.oI2 ((RN.ext ((x5.trans xx).trans x')).oI1 ⟨?_,x'⟩)) λk=>⟨?_,x'⟩))
  ·show Value.bool (e.aT==n) = .bool (fL e&&(e.aT==n))
   rw[show fL e=true from k];rfl
  ·show Value.bool false = .bool (fL e&&(e.aT==n))
   rw[show fL e=false from k];rfl
 refine (R5 M.ext).oL2 λb l c S=>goM M (yP S T) λh6 M=>cX ?_
 rcases oG (λe=>fL e&&e.aT==n) s.aU with ⟨e,hall⟩ | ⟨m,hm,e,h0,hp⟩
 ·rw[e]
  refine brd (λ_=>M.dy .here rfl (bD.iH Bo) rfl .here λh7 M=>M.cM .here rfl ⟨.no (Q9 hall),X.trans M.ext⟩) λk=>by omega
 ·rw[e]
  refine brd (λk=>by omega) λ_=>(R5 M.ext).oL2 λb1 l1 c1 S1=>S1.idn ru (by rw[← S1.len];exact hm) λa Ra=>Ra.gi rfl λce Re=>M.dy .here (rsz Re rfl) (bD.rQ Re) rfl .here λh7 M2=>M2.cM .here (rsz Re rfl) ⟨.yes (Qa hm h0 hp) Re,X.trans M2.ext⟩
theorem Xq{q:Addr}{s:cA}(R:RdP da h q s)(n:Int):ae ai vO #[.pointer (some q),.int .i64 n] (λu h'=>IQ h' s.aU n u∧Ext h h') h:=by
 have hm:=bW
 refine dx.call ((Mem.start h).alc λg1 h1 x1 M=>?_)
 refine loop (λx hh=>∃m:Nat,x=(q,n,⟨g1,0,none⟩,(m:Int))∧m≤s.aU.length∧Mem h hh [(g1,bq,⟨gX⟩)]∧∀i,i<m->(fL s.aU[i]! && s.aU[i]!.aT==n)=false) (λx=>((s.aU.length:Int)-x.2.2.2).toNat) ⟨0,rfl,by omega,M,λi hi=>by omega⟩ ?_
 rintro x hh ⟨m,rfl,hmm,M,hf⟩
 have A:=R.ext M.ext
 refine A.oL λb l c S=>?_
 have hl:=S.len
 have s1:=S.2.1
 have s2:=S.2.2.1
 refine brd (λhc=>?_) λhc=>?_
 ·have next:(fL s.aU[m]! && s.aU[m]!.aT==n)=false->((∃k:Nat,(q,n,(⟨g1,0,none⟩:Addr),IntKind.i64.wrap ((m:Int)+1))=(q,n,⟨g1,0,none⟩,(k:Int))∧k≤s.aU.length∧Mem h hh [(g1,bq,⟨gX⟩)]∧∀i,i<k->(fL s.aU[i]! && s.aU[i]!.aT==n)=false)∧((s.aU.length:Int)-IntKind.i64.wrap ((m:Int)+1)).toNat<((s.aU.length:Int)-m).toNat):=λhn1=>
   ⟨⟨m+1,by rw[ag (by omega)],by omega,M,λi hi=>by
    by_cases e:i=m
    ·subst e;exact hn1
    ·exact hf i (by omega)⟩,by rw[ag (by omega)];omega⟩
  refine A.oL λb1 l1 c1 S1=>?_
  have e1:=S1.len
  refine S1.idn ru (by omega) λa Ra=>Ra.oI (br (λk1=>?_) λk1=>?_)
  ·refine A.oL λb2 l2 c2 S2=>?_
   have e2:=S2.len
   refine S2.idn ru (by omega) λa2 Ra2=>Ra2.oI ?_
   unfold dx.J5
   refine br (λk2=>A.oL λb3 l3 c3 S3=>?_) λk2=>next (by rw[show (s.aU[m]!.aT==n)=false from k2,Bool.and_false])
   have e3:=S3.len
   have hp:(fL s.aU[m]! && s.aU[m]!.aT==n)=true:=by rw[show fL s.aU[m]! = true from k1,show (s.aU[m]!.aT==n)=true from k2];rfl
   refine S3.idn ru (by omega) λa3 Ra3=>Ra3.gi rfl λce Re=>M.dy .here (rsz Re rfl) (bD.rQ Re) rfl .here λh7 M2=>M2.cM .here (rsz Re rfl) ⟨.yes (Qa (by omega) hf hp) Re,M2.ext⟩
  ·unfold dx.J5
   exact dp rfl (next (by rw[show fL s.aU[m]! = false from k1];rfl))
 ·have hall:∀i,i<s.aU.length->(fL s.aU[i]! && s.aU[i]!.aT==n)=false:=λi hi=>hf i (by omega)
  refine M.dy .here rfl (bD.iH Bo) rfl .here λh7 M=>M.cM .here rfl ⟨.no (Q9 hall),M.ext⟩
theorem UL{h0:ab}{p q:Addr}{s:cA}{v:aJ}(R:RdP da h p s)(V:RdP az h q v)(X:Ext h0 h)(hi:0≤v.ar∧v.ar<s.aI.length){r:Bool}(k:pB s v=r):
  iP.J9 (λu h'=>u = .bool r∧Ext h0 h') p q (same v.String ff) (same v.aP lv) (same v.cz mD) h:=by
 unfold iP.J9
 refine R.oL λb l c S=>V.oI (S.idx (by decide) hi.1 (by rw[← S.len];exact hi.2) λa Ra=>Ra.oI (br (λk1=>?_) λk1=>br (λk2=>?_) λk2=>?_))
 ·have k:(v.String.ok&&same v.aP lv&&same v.cz mD)=r:=by rw[← k,pB,if_pos (by simpa using k1)]
  refine goE X (Zn (V.foc bu)) λh1 x1=>bd (br (λe=>br (λe2=>⟨?_,x1⟩) λe2=>⟨?_,x1⟩) λe=>⟨?_,x1⟩)
  all_goals (rw[← k];simp[*])
 ·have k:(same v.String ff&&v.aP.ok&&same v.cz mD)=r:=by rw[← k,pB,if_neg (by simpa using k1),if_pos (by simpa using k2)]
  refine br (λe=>goE X (aid (V.foc bV)) λh1 x1=>bd (br (λe2=>⟨?_,x1⟩) λe2=>⟨?_,x1⟩)) λe=>⟨?_,X⟩
  all_goals (rw[← k];simp[*])
 ·have k:(same v.String ff&&same v.aP lv&&v.cz.ok)=r:=by rw[← k,pB,if_neg (by simpa using k1),if_neg (by simpa using k2)]
  refine br (λe=>br (λe2=>goE X (UH (V.foc cm)) λh1 x1=>bd ⟨?_,x1⟩) λe2=>⟨?_,X⟩) λe=>⟨?_,X⟩
  all_goals (rw[← k];simp[*])
theorem Xr{p q:Addr}{s:cA}{v:aJ}(R:RdP da h p s)(V:RdP az h q v)(hs:s.ok=true):ae ai vP #[.pointer (some p),.pointer (some q)] (λu h'=>u = .bool (kv s v)∧Ext h h') h:=by
 have A:∀{hh:ab},Ext h hh->RdP da hh p s:=λe=>R.ext e
 have B:∀{hh:ab},Ext h hh->RdP az hh q v:=λe=>V.ext e
 refine iP.call (goX (Ps (V.foc bu)) λh1 x1=>bd (goE x1 (UK ((B x1).foc bV)) λh2 x2=>bd (goE x2 (Xm ((B x2).foc cm)) λh3 x3=>bd ?_)))
 refine (B x3).oI1 (br (λkn=>?_) λkn=>?_)
 ·have k:kv s v=DI v:=by rw[kv,if_pos (by simpa using kn)]
  rw[k]
  refine br (λe1=>br (λe2=>br (λe3=>(B x3).oI (br (λe4=>(B x3).oI (br (λe5=>(B x3).oB (brN (λe6=>(B x3).oF λy hy=>goE x3 (kq hy fw0 _) λh4 x4=>bd ⟨?_,x4⟩) λe6=>⟨?_,x3⟩)) λe5=>⟨?_,x3⟩)) λe4=>⟨?_,x3⟩)) λe3=>⟨?_,x3⟩) λe2=>⟨?_,x3⟩) λe1=>⟨?_,x3⟩
  all_goals (rw[DI];simp[*])
 ·refine (B x3).oI1 ?_
  have c:=Xq (A x3) v.aT
  refine c.mono ?_
  rintro _ h4 ⟨⟨cs,rfl,Re⟩,y4⟩
  have x4:=x3.trans y4
  refine nq (fe (bd (Jx Re rfl rfl λg h5 y5 E=>?_)))
  have x5:=x4.trans y5
  have k0:kv s v=match ln s.aU v.aT with | none=>false | some e=>(e.ar==v.ar)&&(e.At==v.lq)&&fin v.ja&&pB s v:=by rw[kv,if_neg (by simpa using kn)]
  cases he:ln s.aU v.aT with
  | none=>
   rw[he] at k0
   exact BB rfl ⟨by rw[k0],x5⟩
  | some e=>
   rw[he] at k0
   rw[he] at E
   have E:RdP bD h5 ⟨g,0,none⟩ e:=E
   have k0:kv s v=((e.ar==v.ar)&&(e.At==v.lq)&&fin v.ja&&pB s v):=k0
   refine dp rfl (E.oI2 ((B x5).oI (br (λe1=>⟨?_,x5⟩) λe1=>E.oI2 ((B x5).oI (br (λe2=>⟨?_,x5⟩) λe2=>(B x5).oF λy hy=>goE x5 (kX hy _) λh6 x6=>bd (brN (λe3=>⟨?_,x6⟩) λe3=>?_))))))
   ·rw[k0,show (e.ar==v.ar)=false from by simpa using e1];rfl
   ·rw[k0,show (e.At==v.lq)=false from by simpa using e2];simp
   ·rw[k0,e3];simp
   ·have hi:=Fg hs he
    have ei:e.ar=v.ar:=by simpa using e1
    rw[ei] at hi
    refine UL (A x6) (B x6) x6 hi ?_
    rw[k0,e3,show (e.ar==v.ar)=true from by simpa using e1,show (e.At==v.lq)=true from by simpa using e2];rfl
end
end Go.Sx
