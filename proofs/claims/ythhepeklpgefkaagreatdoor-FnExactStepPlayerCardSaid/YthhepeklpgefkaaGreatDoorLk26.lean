/- Lemmas. -/
import Derived.Test.YthhepeklpgefkaaGreatDoorLr7
import Derived.Test.YthhepeklpgefkaaGreatDoorLm6
set_option linter.unusedVariables false
set_option linter.unusedSimpArgs false
namespace Go.Sx
open Go.Proofs
set_option maxRecDepth 100000
set_option maxHeartbeats 1000000
def sU(xs:List bA)(i:Nat):Bool:=xs[i]!.ok&&(List.range i).all λk=>!decide (xs[k]!.Name=xs[i]!.Name)
def BZ(xs:List bA):Bool:=(List.range xs.length).all (sU xs)
def Dp{α:Type}(P:Program)(r:Rep α)(h0:ab)(f:Value)(p:α->Bool):Prop:=∀(cs:Array Value) (x:α) h,Ext h0 h->r.rd h cs.toList x->oc P f #[.agg cs] (λu h'=>u = .bool (p x)∧Ext h h') h
theorem SlR.pre{α:Type}{r:Rep α}{h:ab}{b:Option Addr}{l c i:Nat}{xs:List α}(S:SlR r h b l c xs)(hi:i<l)(sz:Nat):SlR r h (slA b c 0 sz) (i-0) (c-0) (xs.take i):=by
 obtain⟨h1,h2,h3,ws,C,R⟩:=S
 obtain⟨pre,jV,post,e1,rfl,_,R1,_⟩:=R.at (i:=i) (by omega)
 have hb:slA b c 0 sz=b:=by
  unfold slA
  split
  ·rfl
  ·cases b with
   | none=>rfl
   | some a=>rw[Option.map_some,Nat.zero_mul,ny]
 refine ⟨by rw[List.length_take];omega,by omega,h3,pre,λk hk=>?_,R1⟩
 rw[hb]
 obtain⟨a,ha,e⟩:=C k (by rw[List.length_append];omega)
 exact ⟨a,ha,by rw[e,List.getElem?_append_left hk]⟩
section
variable {h:ab}
theorem Bt{b:Option Addr}{l c:Nat}{xs:List bA}{f:Value}{p:bA->Bool}(S:SlR aM h b l c xs)(T:Dp ai aM h f p):
  ae ai eK #[.slice b l c,f] (λu h'=>u = .int .i64 (ko p xs)∧Ext h h') h:=by
 refine aV.call ?_
 have K7:=S.2.2.1
 have Ze:=S.2.1
 have:=bW
 have hl:=S.len
 refine loop (λx hh=>∃n:Nat,x=(b,l,c,f,(l:Int),(n:Int))∧n≤l∧Ext h hh∧∀i,i<n->p xs[i]! = false) (λx=>(l-x.2.2.2.2.2).toNat) ⟨0,rfl,by omega,Ext.refl _,λi hi=>by omega⟩ ?_
 rintro x hh ⟨n,rfl,hn,X,hf⟩
 refine brd (λhc=>?_) λhc=>⟨by rw[pr λi hi=>hf i (by omega)],X⟩
 refine (S.ext X).idx (by decide) (by omega) (by omega) λa Ra=>Ra.gi rfl λcs Rc=>goD X (T _ _ _ X Rc) λh1 x1=>bd (br (λhb=>?_) λhb=>?_)
 ·exact ⟨by rw[pv (by omega) hf (by simpa using hb)],x1⟩
 ·refine ⟨⟨n+1,by rw[ag (by omega)],by omega,x1,λi hi=>?_⟩,by rw[ag (by omega)];show _<_;simp;omega⟩
  by_cases e:i=n
  ·subst e;simpa using hb
  ·exact hf i (by omega)
theorem asz{s:ByteArray}(hs:s.size≤maxLen):rS.rd h (#[.string s]:Array Value).toList s:=⟨rfl,hs⟩
theorem afe{b:Option Addr}{l c:Nat}{xs:List bA}{s:ByteArray}(S:SlR aM h b l c xs)(hs:s.size≤maxLen):
  ae ai zE #[.slice b l c,.string s] (λu h'=>u = .int .i64 (ko (λx:bA=>decide (x.Name=s)) xs)∧Ext h h') h:=by
 refine DU.call (fj (r:=rS) (asz hs) λg h1 x1 R=>?_)
 have T:Dp ai aM h1 (.func (.func tP) #[] #[.pointer (some ⟨g,0,none⟩)]) (λx:bA=>decide (x.Name=s)):=λcs x h2 x2 Rc=>by
  show ae ai tP #[.agg cs,.pointer (some ⟨g,0,none⟩)] _ h2
  exact yf.call (fj Rc λg3 h3 x3 R3=>R3.oS2 λ_=>(R.ext (x2.trans x3)).oS2 λ_=>⟨by rw[NK],x3⟩)
 exact goE x1 (Bt (S.ext x1) T) λh2 x2=>cX ⟨rfl,x2⟩
theorem Vc{xs:List bA}{i:Nat}(hi:i<xs.length)(s:ByteArray):decide ((0:Int)≤ko (λx:bA=>decide (x.Name=s)) (xs.take i)) = !(List.range i).all λk=>!decide (xs[k]!.Name=s):=by
 rw[DD,Bool.eq_iff_iff]
 simp only[List.any_eq_true,Bool.not_eq_true',List.all_eq_false,List.mem_range,decide_eq_true_eq,Bool.not_eq_true,Bool.not_eq_false',Bool.not_not]
 constructor
 ·rintro ⟨x,hx,rfl⟩
  obtain⟨k,hk,rfl⟩:=List.mem_iff_getElem.1 hx
  rw[List.length_take] at hk
  exact ⟨k,by omega,by rw[List.getElem_take,getElem!_pos xs k (by omega)];simp⟩
 ·rintro ⟨k,hk,e⟩
  refine ⟨xs[k]!,?_,by simpa using e⟩
  rw[getElem!_pos xs k (by omega)]
  exact List.mem_iff_getElem.2 ⟨k,by rw[List.length_take];omega,by rw[List.getElem_take]⟩
theorem J0{b:Option Addr}{l c:Nat}{xs:List bA}(S:SlR aM h b l c xs):
  ae ai nX #[.slice b l c] (λu h'=>u = .bool (decide (xs.length≤6)&&BZ xs)∧Ext h h') h:=by
 have K7:=S.2.2.1
 have Ze:=S.2.1
 have:=bW
 have hl:=S.len
 refine dV.call (brd (λh6=>⟨by rw[decide_eq_false (by omega)];rfl,Ext.refl _⟩) λh6=>?_)
 rw[decide_eq_true (p:=xs.length≤6) (by omega),Bool.true_and]
 refine loop (λx hh=>∃n:Nat,x=(b,l,c,b,l,c,(l:Int),(n:Int))∧n≤l∧Ext h hh∧∀i,i<n->sU xs i=true) (λx=>(l-x.2.2.2.2.2.2.2).toNat) ⟨0,rfl,by omega,Ext.refl _,λi hi=>by omega⟩ ?_
 rintro x hh ⟨n,rfl,hn,X,hd⟩
 have no:∀{h'},n<l->sU xs n=false->Ext h h'->(Value.bool false = .bool (BZ xs)∧Ext h h'):=λe hf x=>⟨by rw[BZ,all_false (f:=sU xs) (by omega) hf],x⟩
 refine brd (λhc=>?_) λhc=>⟨by rw[BZ,all_true λi hi=>hd i (by omega)],X⟩
 refine (S.ext X).idn (by decide) (by omega) λa Ra=>Ra.gi rfl λcs Rc=>Jx Rc rfl rfl λg h1 x1 R1=>R1.gi rfl λFQ Rc'=>goX (Hh Rc') λh2 y2=>bd (brN (λhb=>?_) λhb=>?_)
 ·exact no (by omega) (by rw[sU,show xs[n]!.ok=false from hb,Bool.false_and]) ((X.trans x1).trans y2)
 have hb:xs[n]!.ok=true:=hb
 have x2:=(X.trans x1).trans y2
 refine slb (by omega) (by omega) (by omega) ((R1.ext y2).oS2 λhs=>goE x2 (afe ((S.ext x2).pre (i:=n) (by omega) 5) hs) λh3 x3=>cX ?_)
 rw[Vc (by omega)]
 refine br (λhk=>no (by omega) (by rw[sU,nt hk,Bool.and_false]) x3) λhk=>⟨⟨n+1,by rw[ag (by omega)],by omega,x3,λi hi=>?_⟩,by rw[ag (by omega)];show _<_;simp;omega⟩
 by_cases e:i=n
 ·subst e
  rw[sU,hb,nf hk];rfl
 ·exact hd i (by omega)
end
def me(l:List Int):Array Value:=⟨l.map (.int .i64)⟩
theorem DW{l:List Int}{i:Nat}(hi:i<l.length):(me l)[i]? = some (.int .i64 l[i]!):=by
 unfold me
 simp[hi]
theorem EU(l:List Int):(me l).size=l.length:=by unfold me;simp
theorem nE(l:List Int):∀v ∈ (me l).toList,v.oneCell'=true:=λv hv=>by
 obtain⟨n,_,rfl⟩:=List.mem_map.1 (show v ∈ l.map (Value.int .i64) from hv)
 rfl
theorem aec{l:List Int}{i:Nat}(n:Int):(me l).setIfInBounds i (.int .i64 n)=me (l.set i n):=by
 unfold me
 simp[List.map_set]
theorem XR:∀{n:Nat}{a b:List Int},n<a.length->n<b.length->(∀i,i<n->a[i]! = b[i]!)->a[n]! ≠ b[n]!->lt4 a b=decide (a[n]! < b[n]!)
 | _,[],_,h,_,_,_=>by simp at h
 | _,_ :: _,[],_,h,_,_=>by simp at h
 | 0,x :: a,y :: b,_,_,_,h=>by
  rw[lt4,if_neg (by simpa using h)]
  simp
 | n+1,x :: a,y :: b,h1,h2,h3,h=>by
  have e:=h3 0 (by omega)
  rw[lt4,if_pos (by simpa using e),XR (n:=n) (by simpa using h1) (by simpa using h2) (λi hi=>by simpa using h3 (i+1) (by omega)) (by simpa using h)]
  simp
theorem V3{a b:List Int}(hl:a.length=b.length)(h:∀i,i<a.length->a[i]! = b[i]!):a=b:=by
 apply List.ext_getElem hl
 intro i h1 h2
 have:=h i h1
 rwa [getElem!_pos a i h1,getElem!_pos b i h2] at this
section
variable {h:ab}
theorem ab7{a b:List Int}(ha:a.length=4)(hb:b.length=4):ae ai xT #[.agg (me a),.agg (me b)] (λu h'=>u = .bool (lt4 a b)∧Ext h h') h:=by
 refine iX.call ((Mem.start h).alc λg1 h1 x1 M=>M.alc λg2 h2 x2 M=>?_)
 refine loop (λx hh=>∃n:Nat,x=(⟨g1,0,none⟩,⟨g2,0,none⟩,(n:Int))∧n≤4∧hh=h2∧∀i,i<n->a[i]! = b[i]!) (λx=>(4-x.2.2).toNat) ⟨0,rfl,by omega,rfl,λi hi=>by omega⟩ ?_
 rintro x hh ⟨n,rfl,hn,rfl,hs⟩
 refine brd (λhc=>?_) λhc=>⟨by rw[V3 (by omega) λi hi=>hs i (by omega),Ci],M.ext⟩
 rw[Int.toNat_natCast,Nat.mul_one,eW,eW,Nat.zero_add]
 refine idx (by omega) (by omega) (M.oI (.there .here) (DW (by omega)) (idx (by omega) (by omega) (M.oI .here (DW (by omega)) ?_)))
 refine br (λFz=>idx (by omega) (by omega) (M.oI (.there .here) (DW (by omega)) (idx (by omega) (by omega) (M.oI .here (DW (by omega)) ⟨?_,M.ext⟩)))) λhe=>?_
 ·rw[XR (n:=n) (by omega) (by omega) hs (by simpa using Fz)]
 ·refine ⟨⟨n+1,by rw[ag (by omega)],by omega,rfl,λi hi=>?_⟩,by rw[ag (by omega)];show _<_;simp;omega⟩
  by_cases e:i=n
  ·subst e;simpa using he
  ·exact hs i (by omega)
theorem Yt{es:List bf}{note:Int}{n:Nat}(hn:n<es.length)(h0:∀i,i<n->(fL es[i]! && es[i]!.aT==note)=false)(h1:(fL es[n]! && es[n]!.aT==note)=true):zh es note=es[n]!.At:=by
 unfold zh ln
 have e:es.find? (λe=>fL e&&e.aT==note)=some es[n]!:=by
  rw[getElem!_pos es n hn] at h1 ⊢
  rw[List.find?_eq_some_iff_getElem]
  refine ⟨h1,n,hn,rfl,λj hj=>?_⟩
  have:=h0 j hj
  rw[getElem!_pos es j (by omega)] at this
  rw[this];rfl
 rw[e]
theorem Ts{es:List bf}{note:Int}(h0:∀i,i<es.length->(fL es[i]! && es[i]!.aT==note)=false):zh es note = -1:=by
 unfold zh ln
 have e:es.find? (λe=>fL e&&e.aT==note)=none:=by
  rw[List.find?_eq_none]
  intro x hx
  obtain⟨i,hi,rfl⟩:=List.mem_iff_getElem.1 hx
  have:=h0 i hi
  rw[getElem!_pos es i hi] at this
  simpa using this
 rw[e]
theorem ru:0<bD.sz:=by decide
theorem C9{b:Option Addr}{l c:Nat}{es:List bf}(S:SlR bD h b l c es)(note:Int):ae ai lG #[.slice b l c,.int .i64 note] (λu h'=>u = .int .i64 (zh es note)∧Ext h h') h:=by
 have K7:=S.2.2.1
 have Ze:=S.2.1
 have:=bW
 have hl:=S.len
 refine il.call ?_
 refine loop (λx hh=>∃n:Nat,x=(b,l,c,note,(n:Int))∧n≤l∧Ext h hh∧∀i,i<n->(fL es[i]! && es[i]!.aT==note)=false) (λx=>(l-x.2.2.2.2).toNat) ⟨0,rfl,by omega,Ext.refl _,λi hi=>by omega⟩ ?_
 rintro x hh ⟨n,rfl,hn,X,hf⟩
 refine brd (λhc=>?_) λhc=>⟨by rw[Ts λi hi=>hf i (by omega)],X⟩
 have S':=S.ext X
 have next:(fL es[n]! && es[n]!.aT==note)=false->((∃m:Nat,(b,l,c,note,IntKind.i64.wrap ((n:Int)+1))=(b,l,c,note,(m:Int))∧m≤l∧Ext h hh∧∀i,i<m->(fL es[i]! && es[i]!.aT==note)=false)∧((l:Int)-IntKind.i64.wrap ((n:Int)+1)).toNat<((l:Int)-n).toNat):=λhn1=>
  ⟨⟨n+1,by rw[ag (by omega)],by omega,X,λi hi=>by
   by_cases e:i=n
   ·subst e;exact hn1
   ·exact hf i (by omega)⟩,by rw[ag (by omega)];omega⟩
 refine S'.idn ru (by omega) λa Ra=>Ra.oI (br (λk1=>?_) λk1=>next (by rw[show fL es[n]! = false from k1];rfl))
 refine S'.idn ru (by omega) λa Ra=>Ra.oI (br (λk2=>?_) λk2=>next (by rw[show (es[n]!.aT==note)=false from k2,Bool.and_false]))
 exact S'.idn ru (by omega) λa Ra=>Ra.oI1 ⟨by rw[Yt (by omega) hf (by rw[show fL es[n]! = true from k1,show (es[n]!.aT==note)=true from k2];rfl)],X⟩
theorem AM{q:Addr}{e:bf}(R:RdP bD h q e)(st:Int):ae ai kV #[.pointer (some q),.int .i64 st] (λu h'=>u = .agg (me (Jq (jq e&&decide (st<e.At)) e))∧Ext h h') h:=by
 have z:(⟨dF⟩:Array Value)=me [0,0,0,0]:=by rfl
 refine zg.call ?_
 rw[zg.S,z]
 refine (Mem.start h).alc λg1 h1 x1 M=>(R.ext M.ext).oI1 ((R.ext M.ext).oI (M.alc λg2 h2 x2 M2=>(R.ext M.ext).jQ (by decide) x2 ((R.ext M.ext).Da (by decide) x2 ?_)))
 refine M2.dy .here (vs:=me [e.At,1,e.aT,0]) rfl (nE _) rfl .here λh3 M=>(R.ext M.ext).oI (br (λk1=>?_) λk1=>?_)
 ·have hk:e.Kind=1:=by simpa using k1
  refine idx (by omega) (by omega) (M.st1 .here (by show 3<4;decide) .here λh4 M=>(R.ext M.ext).oI1 (brd (λk2=>?_) λk2=>?_))
  ·refine idx (by omega) (by omega) (M.st1 .here (by rw[Array.size_setIfInBounds];show 1<4;decide) .here λh5 M=>M.cM .here rfl (M.dy (.there .here) rfl ?_ rfl (.there .here) λh6 M=>M.cM (.there .here) rfl ⟨?_,M.ext⟩))
   ·exact nE [e.At,0,e.aT,1]
   ·rw[Jq,show jq e=true from k1,decide_eq_true k2,if_pos hk];rfl
  ·refine M.cM .here rfl (M.dy (.there .here) rfl ?_ rfl (.there .here) λh6 M=>M.cM (.there .here) rfl ⟨?_,M.ext⟩)
   ·exact nE [e.At,1,e.aT,1]
   ·rw[Jq,show jq e=true from k1,decide_eq_false k2,if_pos hk];rfl
 ·have hk:¬e.Kind=1:=by simpa using k1
  refine M.cM .here rfl (M.dy (.there .here) rfl ?_ rfl (.there .here) λh6 M=>M.cM (.there .here) rfl ⟨?_,M.ext⟩)
  ·exact nE [e.At,1,e.aT,0]
  ·rw[Jq,show jq e=false from k1,if_neg hk];rfl
end
theorem TX:ai.underlying jk=some (.map cp cp):=by kernel_rfl
theorem TW:ai.underlying jb=some (.map cp IS):=by kernel_rfl
theorem aa6{P:Program}{t:TypeId}{z:Value}(h:(P.info? t).bind (·.zero)=some z)(w:World):(zeroValue t).run P w = .ok z w:=by
 cases e:P.info? t with
 | none=>rw[e] at h;cases h
 | some i=>
  rw[e] at h
  have h:i.zero=some z:=h
  simp[zeroValue,typeInfo,e,h]
theorem Ha(w:World):(zeroValue cp).run ai w = .ok (.int .i64 0) w:=aa6 (by kernel_rfl) w
theorem Rd(w:World):(zeroValue IS).run ai w = .ok (.bool false) w:=aa6 (by kernel_rfl) w
section
variable {h:ab}
theorem afQ{b:Option Addr}{l c:Nat}{es:List bf}(S:SlR bD h b l c es):ae ai zF #[.slice b l c] (λu h'=>∃g,u = .map (some g)∧h.size≤g∧Aw h' g (AV es)∧Ext h h') h:=by
 have K7:=S.2.2.1
 have Ze:=S.2.1
 have:=bW
 have hl:=S.len
 refine jz.call (MH λg h1 x1 hg M=>?_)
 refine loop (λx hh=>∃n:Nat,x=(.map (some g),b,l,c,(l:Int),(n:Int))∧n≤l∧Ext h hh∧Aw hh g (AV (es.take n))) (λx=>(l-x.2.2.2.2.2).toNat) ⟨0,rfl,by omega,x1,by rw[List.take_zero];exact M⟩ ?_
 rintro x hh ⟨n,rfl,hn,X,M⟩
 refine brd (λhc=>?_) λhc=>⟨g,rfl,by omega,by rw[List.take_of_length_le (by omega)] at M;exact M,X⟩
 have hs:=abF (es:=es) (i:=n) (by omega)
 refine (S.ext X).idn ru (by omega) λa Ra=>Ra.gi rfl λcs Rc=>Jx Rc rfl rfl λg1 h2 x2 R=>R.oI2 (br (λk=>?_) λk=>?_)
 ·rw[if_pos (show fL es[n]! = true from k)] at hs
  refine R.oI2 (R.oI2 (Th (M.ext x2) (X.trans x2) (by omega) TX jE _ _ λq h3 x3 M3 _=>⟨⟨n+1,by rw[ag (by omega)],by omega,x3,by rw[hs];exact M3⟩,by rw[ag (by omega)];show _<_;simp;omega⟩))
 ·rw[if_neg (by rw[show fL es[n]! = false from k];decide)] at hs
  exact ⟨⟨n+1,by rw[ag (by omega)],by omega,X.trans x2,by rw[hs];exact M.ext x2⟩,by rw[ag (by omega)];show _<_;simp;omega⟩
theorem Zy{cs:Array Value}{e:bf}{g:Nat}{es:List bf}(R:bD.rd h cs.toList e)(M:Aw h g (AV es)):ae ai cu #[.agg cs,.map (some g)] (λu h'=>u = .agg (me (w7 es e))∧Ext h h') h:=by
 have z:(⟨dF⟩:Array Value)=me [0,0,0,0]:=by rfl
 have fin:∀{h1 h2:ab}{g1 g3:Nat}{late stop:Int},Ext h h1->Mem h1 h2 [(g3,dE,me [0,0,0,0])]->RdP bD h2 ⟨g1,0,none⟩ e->[e.At,late,e.aT,stop]=w7 es e->dT.J7 (λu h'=>u = .agg (me (w7 es e))∧Ext h h') ⟨g1,0,none⟩ ⟨g3,0,none⟩ late stop h2:=λ{h1 h2 g1 g3 late stop} X M R k=>by
  unfold dT.J7
  refine R.oI1 (R.oI (M.dy .here (vs:=me [e.At,late,e.aT,stop]) rfl (nE _) rfl .here λh6 M=>M.cM .here rfl ⟨by rw[k],X.trans M.ext⟩))
 refine dT.call ?_
 rw[dT.S,z]
 refine fj R λg1 h1 x1 R1=>(Mem.start h1).alc λg3 h2 x2 M2=>(R1.ext x2).oI2 (br (λk=>?_) λk=>?_)
 ·have hk:e.Kind=1:=by simpa using k
  have hp:jq e=true:=k
  have hf:=QE es e.aT
  have hM:=M.ext (x1.trans x2)
  cases ho:L7 es e.aT with
  | none=>
   rw[ho] at hf
   refine (R1.ext x2).oI2 (ME hM TX jE Ha _ ?_)
   rw[show jr (AV es) e.aT=none from hf]
   refine nq (cX (bd (dp rfl (fin x1 M2 (R1.ext x2) ?_))))
   rw[w7,Qo,hp,ho,Jq,if_pos hk];rfl
  | some a=>
   rw[ho] at hf
   refine (R1.ext x2).oI2 (ME hM TX jE Ha _ ?_)
   rw[show jr (AV es) e.aT=some (.int .i64 a) from hf]
   refine nq (cX (bd (BB rfl ((R1.ext x2).oI2 (brd (λk2=>fin x1 M2 (R1.ext x2) ?_) λk2=>fin x1 M2 (R1.ext x2) ?_)))))
   ·rw[w7,Qo,hp,ho,Jq,if_pos hk]
    show _=[e.At,if (true&&decide (a<e.At))=true then 0 else 1,e.aT,1]
    rw[decide_eq_true k2];rfl
   ·rw[w7,Qo,hp,ho,Jq,if_pos hk]
    show _=[e.At,if (true&&decide (a<e.At))=true then 0 else 1,e.aT,1]
    rw[decide_eq_false k2];rfl
 ·have hk:¬e.Kind=1:=by simpa using k
  have hp:jq e=false:=k
  refine fin x1 M2 (R1.ext x2) ?_
  rw[w7,Qo,hp,Jq,if_neg hk];rfl
def WA(x y:Int):Int:=if x<y then -1 else if y<x then 1 else 0
noncomputable def WB(a b:List Int):Int:=if lt4 a b=true then -1 else @ite _ (a=b) (Classical.propDecidable _) 0 1
theorem ah6(a b:List Int):decide (0≤WB a b) = !lt4 a b:=by
 unfold WB
 cases lt4 a b with
 | true=>rfl
 | false=>
  rw[if_neg (by decide)]
  split <;> rfl
theorem P0(x y:Int):Ret ai pC #[.int .i64 x,.int .i64 y] (.int .i64 (WA x y)):=λh=>by
 have nan:∀(x:Int) h,ae ai o5 #[.int .i64 x] (λu h'=>u = .bool false∧Ext h h') h:=λx h=>vn.call ⟨by simp,Ext.refl _⟩
 refine rZ.call (goX (nan x h) λh1 x1=>bd (goX (nan y h1) λh2 x2=>bd (dp rfl (dp rfl (brd (λk=>⟨by rw[WA,if_pos k],x1.trans x2⟩) λk=>brd (λk2=>⟨by rw[WA,if_neg k,if_pos k2],x1.trans x2⟩) λk2=>⟨by rw[WA,if_neg k,if_neg k2],x1.trans x2⟩)))))
theorem aa7{b1 b2:Option Addr}{l c1 c2:Nat}{xs ys:List Int}(S1:SlR (rI .i64) h b1 l c1 xs)(S2:SlR (rI .i64) h b2 l c2 ys):ae ai bw #[.slice b1 l c1,.slice b2 l c2] (λu h'=>u = .int .i64 (WB xs ys)∧Ext h h') h:=by
 have K7:=S1.2.2.1
 have Ze:=S1.2.1
 have:=bW
 have e1:=S1.len
 have e2:=S2.len
 refine cj.call ?_
 refine loop (λx hh=>∃n:Nat,x=(b1,l,c1,b2,l,c2,b1,l,c1,(l:Int),(n:Int))∧n≤l∧Ext h hh∧∀i,i<n->xs[i]! = ys[i]!) (λx=>(l-x.2.2.2.2.2.2.2.2.2.2).toNat) ⟨0,rfl,by omega,Ext.refl _,λi hi=>by omega⟩ ?_
 rintro x hh ⟨n,rfl,hn,X,hs⟩
 refine brd (λhc=>?_) λhc=>?_
 ·refine (S1.ext X).idn (by decide) (by omega) λa Ra=>Ra.oI1 (brd (λk=>by omega) λ_=>(S2.ext X).idn (by decide) (by omega) λa' Rb=>Rb.oI1 (goE X (P0 _ _ _) λh2 x2=>cX (br (λk=>⟨?_,x2⟩) λk=>?_)))
  ·have Fz:xs[n]! ≠ ys[n]!:=λe=>by
    rw[WA,e,if_neg (by omega),if_neg (by omega)] at k;cases k
   rw[WB,XR (n:=n) (by omega) (by omega) hs Fz,WA]
   have hab:¬xs=ys:=λe=>Fz (by rw[e])
   by_cases vR:xs[n]! < ys[n]!
   ·rw[if_pos vR,if_pos (by rw[decide_eq_true vR])]
   ·rw[if_neg vR,if_pos (by omega),if_neg (by rw[decide_eq_false vR];decide),if_neg hab]
  ·have he:xs[n]! = ys[n]!:=by
    unfold WA at k
    by_cases h1:xs[n]! < ys[n]!
    ·rw[if_pos h1] at k;cases k
    ·by_cases h2:ys[n]! < xs[n]!
     ·rw[if_neg h1,if_pos h2] at k;cases k
     ·omega
   refine ⟨⟨n+1,by rw[ag (by omega)],by omega,x2,λi hi=>?_⟩,by rw[ag (by omega)];show _<_;simp;omega⟩
   by_cases e:i=n
   ·subst e;exact he
   ·exact hs i (by omega)
 ·have hxy:xs=ys:=V3 (by omega) λi hi=>hs i (by omega)
  subst hxy
  refine brd (λk=>by omega) λ_=>⟨?_,X⟩
  rw[WB,Ci,if_neg (by decide),if_pos rfl]
theorem Mem.slI{h0:ab}{L:List Blk}{g:Nat}{ks:List Int}(M:Mem h0 h L)(l:iR L g (me ks))(hn:ks.length≤maxLen):SlR (rI .i64) h (some ⟨g,0,none⟩) ks.length ks.length ks:=by
 refine ⟨rfl,Nat.le_refl _,hn,(me ks).toList,λi hi=>⟨_,rfl,?_⟩,?_⟩
 ·rw[eW,Nat.zero_add,M.cell l,Array.getElem?_toList]
 ·show rds (rI .i64) h (ks.map (.int .i64)) ks
  clear hn l
  induction ks with
  | nil=>rfl
  | cons k ks ih=>exact ⟨[.int .i64 k],_,rfl,rfl,ih⟩
end
set_option maxHeartbeats 2000000
section
variable {h:ab}
theorem KJ(g:Nat):ae ai ov #[.map (some g)] (λu h'=>∃gc,u = .func (.func eu) #[] #[.pointer (some ⟨gc,0,none⟩)]∧h.size≤gc∧cell h' ⟨gc,0,none⟩=some (.map (some g))∧Ext h h') h:=
 rh.call ((Mem.start h).alc λg1 h1 x1 M=>⟨g1,rfl,(M.at_ _ (.head _)).1,M.cell .here 0,x1⟩)
theorem AE{h h':ab}{a:Addr}{v:Value}(e:cell h a=some v)(x:Ext h h'):cell h' a=some v:=x.cell e
theorem Sf{es:List bf}{gc g:Nat}{ca cb:Array Value}{x y:bf}(hc:cell h ⟨gc,0,none⟩=some (.map (some g)))(M0:Aw h g (AV es))(Rx:bD.rd h ca.toList x)(Ry:bD.rd h cb.toList y):
  ae ai eu #[.agg ca,.agg cb,.pointer (some ⟨gc,0,none⟩)] (λu h'=>u = .int .i64 (WB (w7 es x) (w7 es y))∧Ext h h') h:=by
 have z:(⟨dF⟩:Array Value)=me [0,0,0,0]:=by rfl
 refine lj.call ?_
 rw[lj.S,z]
 refine fj Rx λg1 h1 x1 A=>fj (bD.ext x1 Ry) λg3 h4 x4 B=>?_
 have A:=A.ext x4
 have X0:=x1.trans x4
 have hcc:=AE hc X0
 have MM:=M0.ext X0
 clear hc M0 Rx Ry
 refine A.gi rfl λa5 R5=>?_
 rw[hcc]
 refine B.gi rfl λa7 R7=>?_
 have pt:∀{hx:ab}{L:List Blk}{p:Prop},Mem h4 hx L->p->PIN h4 ⟨gc,0,none⟩ 1 hx p:=λM H=>pin M.ext (λj hj=>⟨.map (some g),by rw[show j=0 by omega,ny];exact hcc⟩) H
 have pa:∀{hx:ab}{L:List Blk}{p:Prop},Mem h4 hx L->p->PIN h4 ⟨g1,0,none⟩ 6 hx p:=λM H=>A.Da (by decide) M.ext H
 have pb:∀{hx:ab}{L:List Blk}{p:Prop},Mem h4 hx L->p->PIN h4 ⟨g3,0,none⟩ 6 hx p:=λM H=>B.Da (by decide) M.ext H
 have oa:∀{hx:ab}{L:List Blk}{K:Array Value->ab->Prop},Mem h4 hx L->(∀h',Mem h4 h' L->K (me (w7 es x)) h')->ae ai cu #[.agg a5,.map (some g)] (λq h'=>asA q λa=>K a h') hx:=λM H=>goM M (Zy (bD.ext M.ext R5) (MM.ext M.ext)) λh' M'=>fe (H h' M')
 have ob:∀{hx:ab}{L:List Blk}{K:Array Value->ab->Prop},Mem h4 hx L->(∀h',Mem h4 h' L->K (me (w7 es y)) h')->ae ai cu #[.agg a7,.map (some g)] (λq h'=>asA q λa=>K a h') hx:=λM H=>goM M (Zy (bD.ext M.ext R7) (MM.ext M.ext)) λh' M'=>fe (H h' M')
 have fin:∀{hx:ab}{L:List Blk}{ga gb:Nat},Mem h4 hx L->iR L ga (me (w7 es x))->iR L gb (me (w7 es y)) ->
   ae ai bw #[.slice (some (slP ⟨ga,0,none⟩ 4 0 1)) (4-0) (4-0),.slice (some (slP ⟨gb,0,none⟩ 4 0 1)) (4-0) (4-0)] (λq h'=>asI .i64 q λn=>(Value.int .i64 n = .int .i64 (WB (w7 es x) (w7 es y))∧Ext h h')) hx:=λM l1 l2=>by
  rw[vf,vf]
  exact goE (X0.trans M.ext) (aa7 (M.slI l1 (show 4≤maxLen by decide)) (M.slI l2 (show 4≤maxLen by decide))) λh' x'=>cX ⟨rfl,x'⟩
 have kx:(w7 es x).length=4:=rfl
 have ky:(w7 es y).length=4:=rfl
 have st:∀{hx:ab}{L L':List Blk}{gq:Nat}{k:List Int}{K:ab->Prop},Mem h4 hx L->k.length=4->iR L gq (me [0,0,0,0])->Upd L gq (me k) L'->(∀h',Mem h4 h' L'->K h')->STA 4 hx ⟨gq,0,none⟩ (me k) K:=λM hk l u H=>M.dy l (by rw[EU,hk]) (nE _) rfl u H
 have M:=Mem.start h4
 show _∧_
 (repeat' (first
  | with_reducible refine And.intro ?_ ?_
  | with_reducible refine Mem.alc (by assumption) λ_ _ _ _=>?_
  | with_reducible refine pt (by assumption) ?_
  | with_reducible refine pb (by assumption) ?_
  | with_reducible refine pa (by assumption) ?_
  | with_reducible refine oa (by assumption) λ_ _=>?_
  | with_reducible refine ob (by assumption) λ_ _=>?_
  | with_reducible refine slb (by decide) (by decide) (by decide) ?_
  | with_reducible refine st (by assumption) (by first | exact kx | exact ky) (by first | exact .here | exact .there .here) (by first | exact .here | exact .there .here) λ_ _=>?_
  | with_reducible exact fin (by assumption) (by first | exact .here | exact .there .here) (by first | exact .here | exact .there .here)))
end
set_option maxHeartbeats 1000000
def BD(p:bf->Bool)(es:List bf)(i m:Nat):List Int:=(List.range m).map λk:Nat=>((qG p es i (k:Int):Nat):Int)
theorem nA(p:bf->Bool)(es:List bf)(i m:Nat):(BD p es i m).length=m:=by unfold BD;simp
theorem Lg{p:bf->Bool}{es:List bf}{i m:Nat}{k:Int}(h1:0≤k)(h2:k<m):(BD p es i m)[k.toNat]! = (qG p es i k:Int):=by
 have e:((k.toNat:Nat):Int)=k:=by omega
 rw[getElem!_pos (BD p es i m) k.toNat (by rw[nA];omega)]
 unfold BD
 simp[e]
theorem Ua{p:bf->Bool}{es:List bf}{i m k:Nat}(h:k<(BD p es i m).length):(BD p es i m)[k]=((qG p es i (k:Int):Nat):Int):=by
 simp[BD]
theorem Ub{p:bf->Bool}{es:List bf}{i m:Nat}(hi:i<es.length)(hp:p es[i]! = true)(h1:0≤es[i]!.aT)(h2:es[i]!.aT<m):(BD p es i m).set es[i]!.aT.toNat ((qG p es i es[i]!.aT:Int)+1)=BD p es (i+1) m:=by
 apply List.ext_getElem
 ·rw[List.length_set,nA,nA]
 intro k k1 k2
 rw[nA] at k2
 rw[List.getElem_set]
 rw[Ua,Ua,AF p hi,hp,Bool.true_and]
 split
 ·next e=>
  have:es[i]!.aT=(k:Int):=by omega
  rw[this];simp
 ·next e=>
  have:(es[i]!.aT==(k:Int))=false:=by rw[beq_eq_false_iff_ne];omega
  rw[this];simp
theorem EO{p:bf->Bool}{es:List bf}{i m:Nat}(hi:i<es.length)(hp:p es[i]! = false):BD p es (i+1) m=BD p es i m:=by
 unfold BD
 congr 1
 funext k
 rw[AF p hi,hp,Bool.false_and];simp
theorem Q3(p:bf->Bool)(es:List bf)(m:Nat):(⟨(List.replicate m [Value.int .i64 0]).flatten⟩:Array Value)=me (BD p es 0 m):=by
 unfold me BD
 congr 1
 induction m with
 | zero=>rfl
 | succ m ih=>
  rw[List.replicate_succ',List.flatten_append,ih,List.range_succ]
  simp[Jb]
section
variable {h0 h hb:ab}{g n:Nat}{L L':List Blk}{xs:List Int}{k:Int}
theorem PW{F:Int->Prop}(M:Mem h0 h L)(l:iR L g (me xs))(h1:0≤k)(h2:k<n)(hn:xs.length=n)(H:F xs[k.toNat]!):bg (some ⟨g,0,none⟩) k n λp=>oI .i64 (cell h (p.add (k.toNat*1))) F:=by
 refine idxs h1 h2 ?_
 rw[Nat.mul_one,eW,Nat.zero_add]
 exact M.oI l (DW (by omega)) H
theorem ajz{F:ab->Prop}{v:Int}(M:Mem h0 h L)(l:iR L g (me xs))(h1:0≤k)(h2:k<n)(hn:xs.length=n)(u:Upd L g (me (xs.set k.toNat v)) L')(H:∀h',Mem h0 h' L'->F h'):bg (some ⟨g,0,none⟩) k n λp=>ST1 h (p.add (k.toNat*1)) (.int .i64 v) F:=by
 refine idxs h1 h2 ?_
 rw[Nat.mul_one,eW,Nat.zero_add]
 exact M.st1 l (by rw[EU];omega) (by rw[aec];exact u) H
theorem aoX{N:(Option Addr×Nat×Nat×Int)->ab->Prop}{aa:Value->ab->Prop}{b:Option Addr}{l c i g1:Nat}{es:List bf}{k1:List Int}(S:SlR bD h b l c es)(hi:i<l)(M:Mem hb h [(g1,dE,me k1)])(hk:k1.length=4)(no:∀h',Ext h h'->lt4 k1 (keyOf es es[i]!)=false->aa (.bool false) h')(yes:∀h',Ext h h'->lt4 k1 (keyOf es es[i]!)=true->N (b,l,c,IntKind.i64.wrap ((i:Int)+1)) h'):
  aA.J28 N aa b l c (i:Int) ⟨g1,0,none⟩ h:=by
 have z:(⟨dF⟩:Array Value)=me [0,0,0,0]:=by rfl
 have fin:∀{hx hy:ab}{g2:Nat},Ext h hx->Mem hx hy [(g2,dE,me (keyOf es es[i]!))]->aA.J29 N aa b l c (i:Int) ⟨g1,0,none⟩ ⟨g2,0,none⟩ hy:=λX M2=>by
  have M1:=M.grow (X.trans M2.ext)
  refine M1.cM .here (by rw[EU];exact hk) (M2.cM .here (by rw[EU];rfl) (goE (X.trans M2.ext) (ab7 hk rfl) λh3 x3=>bd (brN (λe=>no _ x3 e) λe=>yes _ x3 e)))
 unfold aA.J28
 rw[z]
 refine S.idn ru hi λa Ra=>S.idn ru hi λa' Ra'=>Ra'.oI ⟨goX (C9 S _) λh3 x3=>cX ⟨goX (AM (Ra.ext x3) _) λh4 x4=>fe ((Mem.start h4).alc λg2 h5 x5 M2=>?_),(Mem.start h3).alc λg2 h4 x4 M2=>?_⟩,(Mem.start h).alc λg2 h3 x3 M2=>?_⟩
 ·exact Ra'.jQ (by decide) ((x3.trans x4).trans x5) (M2.dy .here rfl (nE _) rfl .here λh6 M2=>fin (x3.trans x4) M2)
 ·refine Ra'.jQ (by decide) (x3.trans x4) (goM M2 (AM (Ra.ext (x3.trans M2.ext)) _) λh5 M2=>fe (M2.dy .here rfl (nE _) rfl .here λh6 M2=>fin x3 M2))
 ·exact Ra'.jQ (by decide) x3 (goM M2 (C9 (S.ext M2.ext) _) λh4 M2=>cX (goM M2 (AM (Ra.ext M2.ext) _) λh5 M2=>fe (M2.dy .here rfl (nE _) rfl .here λh6 M2=>fin (Ext.refl _) M2)))
theorem aoR{aa:Value->ab->Prop}{b:Option Addr}{l c:Nat}{es:List bf}(S:SlR bD h b l c es)(no:∀h' i,Ext h h'->i+1<l->lt4 (keyOf es es[i]!) (keyOf es es[i+1]!)=false->aa (.bool false) h')(yes:∀h',Ext h h'->(∀i,i+1<l->lt4 (keyOf es es[i]!) (keyOf es es[i+1]!)=true)->aa (.bool true) h'):bh (aA.B25 aa) (b,l,c,(1:Int)) h:=by
 have z:(⟨dF⟩:Array Value)=me [0,0,0,0]:=by rfl
 have K7:=S.2.2.1
 have Ze:=S.2.1
 have:=bW
 refine loop (λx hh=>∃n:Nat,x=(b,l,c,((n+1:Nat):Int))∧n≤l∧Ext h hh∧∀i,i<n->i+1<l->lt4 (keyOf es es[i]!) (keyOf es es[i+1]!)=true) (λx=>(l-x.2.2.2).toNat) ⟨0,rfl,by omega,Ext.refl _,λi hi=>by omega⟩ ?_
 rintro x hh ⟨n,rfl,hn,X,hd⟩
 refine brd (λhc=>?_) λhc=>yes _ X λi hi=>hd i (by omega) hi
 have S':=S.ext X
 have e1:IntKind.i64.wrap (((n+1:Nat):Int)-1)=(n:Int):=by rw[wrap64 (by omega) (by omega)];omega
 rw[e1,z]
 have fin:∀{hx hy:ab}{g1:Nat},Ext hh hx->Mem hx hy [(g1,dE,me (keyOf es es[n]!))]->aA.J28 (λx' h'=>(∃n:Nat,x'=(b,l,c,((n+1:Nat):Int))∧n≤l∧Ext h h'∧∀i,i<n->i+1<l->lt4 (keyOf es es[i]!) (keyOf es es[i+1]!)=true)∧((l:Int)-x'.2.2.2).toNat<((l:Int)-((n+1:Nat):Int)).toNat) aa b l c ((n+1:Nat):Int) ⟨g1,0,none⟩ hy:=λY M1=>by
  have Z:=X.trans (Y.trans M1.ext)
  refine aoX (S.ext Z) (by omega) M1 rfl (λh' x' e=>no h' n (Z.trans x') (by omega) e) λh' x' e=>⟨⟨n+1,by rw[ag (by omega)],by omega,Z.trans x',λi hi hl=>?_⟩,by rw[ag (by omega)];show _<_;simp;omega⟩
  by_cases e:i=n
  ·subst e;assumption
  ·exact hd i (by omega) hl
 refine S'.idn ru (by omega) λa Ra=>S'.idn ru (by omega) λa' Ra'=>Ra'.oI ⟨goX (C9 S' _) λh3 x3=>cX ⟨goX (AM (Ra.ext x3) _) λh4 x4=>fe ((Mem.start h4).alc λg2 h5 x5 M2=>?_),(Mem.start h3).alc λg2 h4 x4 M2=>?_⟩,(Mem.start hh).alc λg2 h3 x3 M2=>?_⟩
 ·exact Ra'.jQ (by decide) ((x3.trans x4).trans x5) (M2.dy .here rfl (nE _) rfl .here λh6 M2=>fin (x3.trans x4) M2)
 ·refine Ra'.jQ (by decide) (x3.trans x4) (goM M2 (AM (Ra.ext (x3.trans M2.ext)) _) λh5 M2=>fe (M2.dy .here rfl (nE _) rfl .here λh6 M2=>fin x3 M2))
 ·exact Ra'.jQ (by decide) x3 (goM M2 (C9 (S'.ext M2.ext) _) λh4 M2=>cX (goM M2 (AM (Ra.ext M2.ext) _) λh5 M2=>fe (M2.dy .here rfl (nE _) rfl .here λh6 M2=>fin (Ext.refl _) M2)))
end
end Go.Sx
