/- Lemmas. -/
import Derived.Test.YthgnpepchedpbaaGreatDoorTabE
import Derived.Test.YthgnpepchedpbaaGreatDoorLk1
import Derived.Test.YthgnpepchedpbaaGreatDoorLp4
import Derived.Test.YthgnpepchedpbaaGreatDoorK5
import Derived.Laws.Strings2
set_option linter.unusedVariables false
set_option linter.unusedSimpArgs false
namespace Go.Sx
open Go.Proofs
set_option maxRecDepth 100000
set_option maxHeartbeats 1000000
def letter(n:Int):Bool:=decide (97≤n)&&decide (n≤122)
def vt(s:ByteArray):Bool:=(List.range s.size).all λi=>letter (hD s (i:Int))
def uo(s:ByteArray):Bool:=inR s.size 1 12&&vt s
theorem zj(l:List UInt8)(i:Nat):hD ⟨⟨l⟩⟩ (i:Int)=((l[i]?).map λb=>(b.toNat:Int)).getD 0:=by
 unfold hD
 rw[Int.toNat_natCast]
 congr 2
 by_cases h:i<l.length
 ·rw[List.getElem?_eq_getElem h]
  exact getElem?_pos (⟨⟨l⟩⟩:ByteArray) i h
 ·rw[List.getElem?_eq_none (by omega)]
  exact getElem?_neg (⟨⟨l⟩⟩:ByteArray) i h
theorem FM(s:ByteArray)(i:Int):0≤hD s i∧hD s i<256:=by
 unfold hD
 cases s[i.toNat]? with
 | none=>simp
 | some b=>have:=b.toNat_lt;simp;omega
theorem F8(l:List UInt8):vt ⟨⟨l⟩⟩=l.all λb=>letter (b.toNat:Int):=by
 unfold vt
 rw[Bool.eq_iff_iff]
 simp only[List.all_eq_true,List.mem_range]
 have hs:(⟨⟨l⟩⟩:ByteArray).size=l.length:=rfl
 rw[hs]
 constructor
 ·intro h b hb
  obtain⟨i,hi,rfl⟩:=List.mem_iff_getElem.1 hb
  have:=h i hi
  rw[zj,List.getElem?_eq_getElem hi] at this
  exact this
 ·intro h i hi
  rw[zj,List.getElem?_eq_getElem hi]
  exact h _ (List.getElem_mem hi)
theorem TM{s:ByteArray}{n:Nat}(h:s.size=n+1)(hl:letter (hD s (n:Int))=true):vt (s.extract 0 n)=vt s∧(s.extract 0 n).size=n:=by
 obtain⟨⟨l⟩⟩:=s
 have h:l.length=n+1:=h
 have e:(⟨⟨l⟩⟩:ByteArray).extract 0 n=⟨⟨l.take n⟩⟩:=by
  have:=ByteArray.extract_mk l 0 n
  simpa using this
 rw[e,F8,F8]
 rw[zj,List.getElem?_eq_getElem (by omega)] at hl
 refine⟨?_,by show(l.take n).length=n;rw[List.length_take];omega⟩
 conv=>rhs;rw[← List.take_append_drop n l]
 rw[List.all_append,List.drop_eq_getElem_cons (by omega),List.all_cons]
 have:l.drop (n+1)=[]:=List.drop_of_length_le (by omega)
 rw[this]
 have hl:letter ((l[n]'(by omega)).toNat:Int)=true:=hl
 rw[hl];simp
theorem PO{s:ByteArray}{n:Nat}(h:s.size=n+1)(hl:letter (hD s (0:Int))=true):vt (s.extract 1 s.size)=vt s∧(s.extract 1 s.size).size=n:=by
 obtain⟨⟨l⟩⟩:=s
 cases l with
 | nil=>cases h
 | cons b l=>
  have h:l.length+1=n+1:=h
  have e:(⟨⟨b :: l⟩⟩:ByteArray).extract 1 (⟨⟨b :: l⟩⟩:ByteArray).size=⟨⟨l⟩⟩:=by
   have:=ByteArray.extract_mk (b :: l) 1 (l.length+1)
   have e2:List.take (l.length+1-1) (List.drop 1 (b :: l))=l:=by simp
   rw[e2] at this
   exact this
  rw[e,F8,F8,List.all_cons]
  have hl:letter (b.toNat:Int)=true:=by
   have:=zj (b :: l) 0
   rw[show((0:Nat):Int)=0 from rfl] at this
   rw[this] at hl
   exact hl
  rw[hl]
  exact⟨by simp,by show l.length=n;omega⟩
theorem Sn{s:ByteArray}{i:Nat}(hi:i<s.size)(h:letter (hD s (i:Int))=false):vt s=false:=all_false (f:=λi=>letter (hD s (i:Int))) hi h
theorem PN{s:ByteArray}(h:s.size=0):vt s=true:=by unfold vt;rw[h];rfl
theorem Uy(s:ByteArray)(hs:s.size≤maxLen):Ret ak 152 #[.string s] (.bool (uo s)):=λh=>by
 have hm:=cu
 refine gn.call ?_
 refine loop (λx hh=>∃n:Nat,x=(s,(n:Int))∧n≤s.size∧hh=h∧∀i,i<n->letter (hD s (i:Int))=true) (λx=>(s.size-x.2).toNat) ⟨0,rfl,by omega,rfl,λi hi=>by omega⟩ ?_
 rintro x hh ⟨n,rfl,hn,rfl,hl⟩
 refine brd (λhc=>?_) λhc=>?_
 ·have no:letter (hD s (n:Int))=false->(Value.bool false = .bool (uo s)∧Ext hh hh):=λe=>⟨by unfold uo;rw[Sn (by omega) e,Bool.and_false],Ext.refl _⟩
  refine idx (by omega) (by omega) (brd (λh1=>no ?_) λh1=>idx (by omega) (by omega) (brd (λh2=>no ?_) λh2=>?_))
  ·unfold letter;rw[decide_eq_false (by omega),Bool.false_and]
  ·unfold letter;rw[decide_eq_false (p:=hD s (n:Int)≤122) (by omega),Bool.and_false]
  ·refine⟨⟨n+1,by rw[ag (by omega)],by omega,rfl,λi hi=>?_⟩,by rw[ag (by omega)];show _<_;simp;omega⟩
   by_cases e:i=n
   ·subst e;unfold letter;rw[decide_eq_true (by omega),decide_eq_true (by omega)];rfl
   ·exact hl i (by omega)
 ·have ha:vt s=true:=all_true λi hi=>hl i (by omega)
  exact(kQ _ _ _).go λh' x=>bt ⟨by unfold uo;rw[ha,Bool.and_true],x⟩
def abc:ByteArray:=⟨#[97,98,99,100,101,102,103,104,105,106,107,108,109,110,111,112,113,114,115,116,117,118,119,120,121,122]⟩
def vg(n:Nat):List Value:=(List.range 256).map λi=>.bool (decide (97≤i)&&decide (i<97+n))
theorem aeB:∀i:Fin 26,hD abc (i.val:Int)=((97+i.val:Nat):Int):=by decide +kernel
theorem Vh:(⟨kc⟩:Array Value)=⟨vg 0⟩:=by
 congr 1
theorem Hf{n i:Nat}(hi:i<256):(⟨vg n⟩:Array Value)[i]? = some (.bool (decide (97≤i)&&decide (i<97+n))):=by
 unfold vg
 simp[hi]
theorem Zb{n:Nat}(hn:n<26):(⟨vg n⟩:Array Value).setIfInBounds (97+n) (.bool true)=⟨vg (n+1)⟩:=by
 apply Array.ext_getElem?
 intro i
 rw[Array.getElem?_setIfInBounds]
 by_cases hi:i<256
 ·rw[Hf hi,Hf hi]
  by_cases e:97+n=i
  ·subst e
   rw[if_pos rfl,if_pos (by show 97+n<(vg n).length;unfold vg;simp;omega)]
   simp
  ·rw[if_neg e]
   congr 3
   rw[decide_eq_decide];omega
 ·rw[if_neg (by omega)]
  have k:∀m,(⟨vg m⟩:Array Value)[i]? = none:=λm=>by
   rw[Array.getElem?_eq_none]
   show(vg m).length≤i
   unfold vg;simp;omega
  rw[k,k]
theorem rN(n:Nat):(⟨vg n⟩:Array Value).size=256:=by show(vg n).length=256;unfold vg;simp
theorem OK(n:Nat):∀v ∈ (⟨vg n⟩:Array Value).toList,v.oneCell'=true:=λv hv=>by
 obtain⟨i,_,rfl⟩:=List.mem_map.1 (show v ∈ vg n from hv)
 rfl
theorem Gw(h:ab):af ak 302 #[.string abc] (λu h'=>u = .tuple ⟨[.agg ⟨vg 26⟩,.bool true]⟩∧Ext h h') h:=by
 have hs:abc.size=26:=rfl
 refine db.call ((Mem.start h).alc λg h1 x1 M=>?_)
 refine loop (λx hh=>∃n:Nat,x=(abc,⟨g,0,none⟩,(n:Int))∧n≤26∧Mem h hh [(g,331,⟨vg n⟩)]) (λx=>(26-x.2.2).toNat) ⟨0,rfl,by omega,by rw[← Vh];exact M⟩ ?_
 rintro x hh ⟨n,rfl,hn,M⟩
 refine brd (λhc=>?_) λhc=>?_
 ·have hb:hD abc (n:Int)=((97+n:Nat):Int):=aeB ⟨n,by omega⟩
  refine idx (by omega) (by omega) (brd (λh1=>by omega) λh1=>idx (by omega) (by omega) ?_)
  rw[hb,Int.toNat_natCast,Nat.mul_one,dQ,Nat.zero_add]
  refine M.st1 .here (by rw[rN];omega) .here λh2 M=>?_
  rw[Zb (by omega)] at M
  exact⟨⟨n+1,by rw[ag (by omega)],by omega,M⟩,by rw[ag (by omega)];show _<_;simp;omega⟩
 ·obtain rfl:n=26:=by omega
  refine M.df .here (rN _) (M.dH .here (rN _) (OK _) (rN _) .here λh2 M=>M.df .here (rN _) ⟨rfl,M.ext⟩)
theorem FP{h0 h:ab}{L:List Blk}{g:Nat}(M:Mem h0 h L)(l:gi L g ⟨vg 26⟩){n:Int}(h1:0≤n)(h2:n<256):
  af ak 314 #[.pointer (some ⟨g,0,none⟩),.int .u8 n] (λu h'=>u = .bool (letter n)∧Ext h h') h:=by
 refine iM.call (idx h1 (by omega) ?_)
 rw[Nat.mul_one,dQ,Nat.zero_add]
 refine o_b ((M.cell l _).trans (Hf (by omega))) ⟨?_,Ext.refl _⟩
 congr 1
 unfold letter
 rw[Bool.eq_iff_iff]
 simp only[Bool.and_eq_true,decide_eq_true_eq]
 omega
theorem Pd{h0 h:ab}{L:List Blk}{g:Nat}(M:Mem h0 h L)(l:gi L g ⟨vg 26⟩)(s:ByteArray)(hs:s.size≤maxLen):
  af ak 304 #[.string s,.pointer (some ⟨g,0,none⟩)] (λu h'=>(∃r:ByteArray,u = .string r∧r.size≤s.size∧vt r=vt s)∧Ext h h') h:=by
 have hm:=cu
 refine cH.call ?_
 refine loop (λx hh=>∃r:ByteArray,x=(r,⟨g,0,none⟩)∧r.size≤s.size∧vt r=vt s∧Ext h hh) (λx=>x.1.size) ⟨s,rfl,by omega,rfl,Ext.refl _⟩ ?_
 rintro x hh ⟨r,rfl,h1,h2,X⟩
 refine brd (λhc=>?_) λhc=>⟨⟨r,rfl,h1,h2⟩,X⟩
 obtain⟨n,hn⟩:=Nat.exists_eq_succ_of_ne_zero (show r.size≠0 by omega)
 have e:IntKind.i64.wrap ((r.size:Int)-1)=(n:Int):=by rw[wrap64 (by omega) (by omega)];omega
 rw[e]
 have hb:=FM r (n:Int)
 refine idx (by omega) (by omega) (goX (FP (M.grow X) l hb.1 hb.2) λh3 x3=>bt (br (λhz=>⟨⟨r,rfl,h1,h2⟩,X.trans x3⟩) λhz=>slb (by omega) (by omega) (by omega) ?_))
 rw[Int.toNat_natCast]
 obtain⟨k1,k2⟩:=TM (n:=n) hn (nf hz)
 exact⟨⟨_,rfl,by omega,by rw[k1,h2],X.trans x3⟩,by show(r.extract 0 n).size<r.size;omega⟩
theorem Sc{h0 h:ab}{L:List Blk}{g:Nat}(M:Mem h0 h L)(l:gi L g ⟨vg 26⟩)(s:ByteArray)(hs:s.size≤maxLen):
  af ak 303 #[.string s,.pointer (some ⟨g,0,none⟩)] (λu h'=>(∃r:ByteArray,u = .string r∧(r.size=0↔vt s=true))∧Ext h h') h:=by
 have hm:=cu
 refine cL.call ?_
 refine loop (λx hh=>∃r:ByteArray,x=(r,⟨g,0,none⟩)∧r.size≤s.size∧vt r=vt s∧Ext h hh) (λx=>x.1.size) ⟨s,rfl,by omega,rfl,Ext.refl _⟩ ?_
 rintro x hh ⟨r,rfl,h1,h2,X⟩
 refine brd (λhc=>?_) λhc=>⟨⟨r,rfl,λ_=>by rw[← h2];exact PN (by omega),λ_=>by omega⟩,X⟩
 obtain⟨n,hn⟩:=Nat.exists_eq_succ_of_ne_zero (show r.size≠0 by omega)
 have hb:=FM r 0
 refine idx (by omega) (by omega) (goX (FP (M.grow X) l hb.1 hb.2) λh3 x3=>bt (br (λhz=>⟨⟨r,rfl,λe=>by omega,λe=>?_⟩,X.trans x3⟩) λhz=>slb (by omega) (by omega) (by omega) ?_))
 ·have:=Sn (s:=r) (i:=0) (by omega) (nt hz)
  rw[h2,e] at this;cases this
 ·obtain⟨k1,k2⟩:=PO (n:=n) hn (nf hz)
  exact⟨⟨_,rfl,by omega,by rw[k1,h2],X.trans x3⟩,by show(r.extract 1 r.size).size<r.size;omega⟩
theorem Ke{s:ByteArray}:(s=⟨#[]⟩)↔s.size=0:=by
 constructor
 ·rintro rfl;rfl
 ·obtain⟨⟨l⟩⟩:=s
  intro h
  have:l=[]:=List.eq_nil_of_length_eq_zero h
  rw[this]
theorem Xz(s:ByteArray)(hs:s.size≤maxLen):Ret ak 227 #[.string s] (.bool (uo s)):=λh=>by
 refine yB.call ((js _ _ _).go λh1 x1=>bt (br (λhb=>?_) λhb=>⟨by unfold uo;rw[hb];rfl,x1⟩))
 have fin:∀{r:ByteArray}{h':ab},(r.size=0↔vt s=true)->Ext h h'->(Value.bool (r.toList==(⟨#[]⟩:ByteArray).toList) = .bool (uo s)∧Ext h h'):=λhr x=>⟨by
  unfold uo
  rw[hb,Bool.true_and,Hl]
  congr 1
  rw[Bool.eq_iff_iff,decide_eq_true_iff,Ke,hr],x⟩
 refine cD.call ?_
 have By:¬s=⟨#[]⟩:=λe=>by
  rw[Ke] at e
  rw[e] at hb;cases hb
 rw[cD.S,Hl,Hl]
 refine cM (decide_eq_false By) (cM (by decide +kernel) ?_)
 unfold cD.J3
 refine cM (by decide +kernel) ?_
 unfold cD.J4
 refine cM rfl ?_
 unfold cD.J5
 refine goX (Gw h1) λh2 x2=>jJ (gw (bt ((Mem.start h2).alc λg h3 x3 M=>M.dH .here (rN _) (OK _) rfl .here λh4 M=>vu rfl ?_)))
 refine(Pd M .here s hs).mono ?_
 rintro _ h5 ⟨⟨r,rfl,r1,r2⟩,x5⟩
 refine TN ((Sc (M.grow x5) .here r (by omega)).mono ?_)
 rintro _ h6 ⟨⟨q,rfl,hq⟩,x6⟩
 refine TN (TN ?_)
 rw[r2] at hq
 exact fin hq (((x1.trans x2).trans M.ext).trans (x5.trans x6))
theorem xI{h:ab}{b:Option Addr}{l c:Nat}{xs:List Nat}(S:SlR (rF .f32) h b l c xs)(hl:l≤1048576):
  af ak 111 #[.slice b l c] (λu h'=>∃b' c' B,u = .slice b' l c'∧SlO 22 (rF .f32) B b' l c' xs∧Mem h h' B) h:=by
 refine hO.call (KT BD (br (λhb=>?_) λhb=>?_))
 ·obtain rfl:b=none:=by simpa using hb
  obtain⟨h1,h2,h3,ws,C,R⟩:=S
  have hw:ws=[]:=by
   cases ws with
   | nil=>rfl
   | cons w ws=>obtain⟨a,e,_⟩:=C 0 (by simp);cases e
  subst hw
  have hx:=R.len
  have:l=0:=by rw[← h1];have e:(rF .f32).sz=1:=rfl;rw[e] at hx;simpa using hx.symm
  subst this
  obtain rfl:xs=[]:=List.eq_nil_of_length_eq_zero h1
  exact⟨none,0,[],rfl,SlO.nil,Mem.start h⟩
 ·refine(Mem.start h).alc λg h1 x1 M=>?_
  refine jZ lD (by decide) (u0 _) (S.ext x1) M (by omega) λb' c' h' B' O' M'=>lR ⟨b',c',B',rfl,O',by simpa using M'⟩
theorem LP{b:Option Addr}{l c:Nat}{B:List Blk}{r:aY}(O:SlO 22 (rF .f32) B b l c r.ae):bQ.ow B [.slice b l c,.int .i64 r.At] r:=
 ⟨B,[],[.slice b l c],[.int .i64 r.At],by simp,rfl,⟨b,l,c,rfl,O⟩,rfl,rfl⟩
theorem Un{h:ab}{q:Addr}{r:aY}(R:RdP bQ h q r)(hl:r.ae.length≤1048576):af ak 207 #[.pointer (some q)] (λu h'=>mN bQ h h' u r) h:=by
 refine wu.call ((Mem.start h).alc λg h1 x1 M=>?_)
 have R1:=R.ext x1
 refine R1.oL1 λb l c S=>R1.oI ?_
 have hls:=S.len
 refine(Mem.start h1).alc λg2 h2 x2 N=>?_
 refine(R1.foc mG).pin rfl x2 ((R1.fst lK).pin rfl x2 ?_)
 refine jZ lD (by decide) (u0 _) (S.ext x2) N (by omega) λb' c' h3 B' O N=>lR ?_
 refine(R1.foc mG).pin rfl N.ext ?_
 have M:=(M.join N).perm List.perm_append_comm
 rw[List.append_nil] at M
 refine M.dH .here rfl (dI rfl) rfl .here λh4 M=>M.df .here rfl ?_
 exact⟨_,B',rfl,LP O,M.sub (List.sublist_cons_self _ _)⟩
theorem Kr{h:ab}{cs:Array Value}{r:aY}(R:bQ.rd h cs.toList r)(hl:r.ae.length≤1048576):af ak 223 #[.agg cs] (λu h'=>mN bQ h h' u r) h:=by
 refine qp.call ((Mem.start h).alc λg h1 x1 M=>M.alc λg2 h2 x2 M=>?_)
 have R1:RdP bQ h2 ⟨g,0,none⟩ r:=M.rdp (.there .here) (bQ.ext M.ext R)
 refine R1.oL2 λb l c S=>R1.oI2 ?_
 have hls:=S.len
 refine(xI S (by omega)).mono ?_
 rintro _ h3 ⟨b',c',B',rfl,O,N⟩
 refine lR ?_
 refine(R1.WJ mG).pin rfl N.ext ?_
 have M:=(M.join N).perm List.perm_append_comm
 refine M.dH .here rfl (dI rfl) rfl .here λh4 M=>M.df .here rfl ?_
 exact⟨_,B',rfl,LP O,M.sub ((List.sublist_cons_self _ _).trans (List.sublist_cons_self _ _))⟩
theorem kO{r:aY}(h:r.ok=true):0≤r.At∧r.At.toNat<r.ae.length∧1≤r.ae.length∧r.ae.length≤1024∧r.At<r.ae.length:=by
 unfold aY.ok inR aY.len at h
 simp only[Bool.and_eq_true,decide_eq_true_eq] at h
 obtain⟨⟨h1,h2⟩,h3,h4⟩:=h
 refine⟨h3,?_,?_,?_,?_⟩ <;> omega
theorem Kh{r:aY}(h:r.ok=true){l:Nat}(hl:r.ae.length=l):Int.tmod (IntKind.i64.wrap (r.At+1)) (l:Int)=(r.At+1) % r.len:=by
 have:=kO h
 rw[wrap64 (by omega) (by omega),aY.len,hl,Int.tmod_eq_emod_of_nonneg (by omega)]
theorem oK{h0 h:ab}{q:Addr}{F:Fr}{L:List Blk}{r:aY}{x a:Nat}(P:Pt bQ h0 h q F L r)(hr:r.ok=true)(hx:FW .f32 x a):
  af ak 187 #[.pointer (some q),.float .f32 x] (λu h'=>(∃y,u = .float .f32 y∧FW .f32 y r.old)∧Pt bQ h0 h' q F L (r.push a)) h:=by
 obtain⟨b,l,c,hb,S⟩:=P.Ua
 obtain⟨k1,k2,k3,k4,k5⟩:=kO hr
 have hl:=S.len
 refine wx.call (o_l hb (P.rd.oI (S.idx (by decide) k1 (by omega) λp Rp=>Rp.oF1 λy hy=>o_l hb (P.rd.oI ?_))))
 obtain⟨a0,F',L',rfl,P',hs,close⟩:=P.SB hb (i:=r.At.toNat) (by omega)
 refine idxs k1 (by omega) (P'.Vj hx λh1 P1=>?_)
 obtain⟨P2,U9⟩:=close _ _ _ P1
 refine P2.rd.oI (o_l U9 (nz (by omega) (P2.stI λh2 P3=>⟨⟨y,rfl,hy⟩,?_⟩)))
 rw[Kh hr hl] at P3
 exact P3
theorem kV{h0 h:ab}{q:Addr}{F:Fr}{L:List Blk}{r:aY}{x a:Nat}(P:Pt bQ h0 h q F L r)(hr:r.ok=true)(hx:FW .f32 x a):
  af ak 241 #[.pointer (some q),.float .f32 x] (λu h'=>(∃y,u = .float .f32 y∧FW .f32 y r.old)∧Pt bQ h0 h' q F L (r.push a)) h:=by
 obtain⟨b,l,c,hb,S⟩:=P.Ua
 obtain⟨k1,k2,k3,k4,k5⟩:=kO hr
 have hl:=S.len
 refine oU.call (o_l hb (P.rd.oI (S.idx (by decide) k1 (by omega) λp Rp=>Rp.oF1 λy hy=>o_l hb (P.rd.oI ?_))))
 obtain⟨a0,F',L',rfl,P',hs,close⟩:=P.SB hb (i:=r.At.toNat) (by omega)
 refine idxs k1 (by omega) (P'.Vj hx λh1 P1=>?_)
 obtain⟨P2,U9⟩:=close _ _ _ P1
 refine P2.rd.oI (o_l U9 ((iK _ _ _).go λh2 x2=>cN ((P2.rd.foc mG).pin rfl x2 (nz (by omega) ((P2.grow x2).stI λh2 P3=>⟨⟨y,rfl,hy⟩,?_⟩)))))
 rw[Kh hr hl] at P3
 exact P3
theorem va{h:ab}{cs:Array Value}{r:aY}(R:bQ.rd h cs.toList r)(hr:r.ok=true):af ak 243 #[.agg cs] (λu h'=>(∃y,u = .float .f32 y∧FW .f32 y r.old)∧Ext h h') h:=by
 obtain⟨k1,k2,k3,k4,k5⟩:=kO hr
 refine oC.call (gD R λg h1 x1 R1=>R1.oL2 λb l c S=>R1.oI2 ?_)
 have hl:=S.len
 exact S.idx (by decide) k1 (by omega) λp Rp=>Rp.oF1 λy hy=>⟨⟨y,rfl,hy⟩,x1⟩
theorem Uo(k:Int):Ret ak 296 #[.int .i64 k] (.tuple ⟨[.int .i64 (qT k),.int .i64 (o6 k)]⟩):=λh=>by
 refine rq.call ?_
 unfold rq.S
 repeat' refine br (λ_=>?_) (λ_=>?_)
 all_goals (refine⟨?_,Ext.refl _⟩;simp_all [qT,o6])
def Kk(k:Int):Int:=if inR k 1 5 then qT k else 0
def Tt(k:Int):Int:=if inR k 1 5 then o6 k else 0
theorem ah9(k:Int):Ret ak 298 #[.int .i64 k] (.tuple ⟨[.int .i64 (Kk k),.int .i64 (Tt k)]⟩):=λh=>by
 refine zr.call ?_
 unfold zr.S
 repeat' refine br (λ_=>?_) (λ_=>?_)
 all_goals (refine⟨?_,Ext.refl _⟩;simp_all [Kk,Tt,qT,o6,inR])
 all_goals omega
def iP(l:List Nat)(n:Int)(i:Nat):Bool:=fin l[i]! && (decide ((i:Int)<n)||l[i]! == 0)
theorem Nt{h:ab}{b:Option Addr}{l c:Nat}{xs:List Nat}(S:SlR (rF .f32) h b l c xs)(n:Int):af ak 299 #[.slice b l c,.int .i64 n] (λu h'=>u = .bool (used xs n)∧Ext h h') h:=by
 refine gX.call ?_
 have Fi:=S.2.2.1
 have VF:=S.2.1
 have:=cu
 have hl:=S.len
 refine loop (λx hh=>∃m:Nat,x=(n,b,l,c,(l:Int),(m:Int))∧m≤l∧Ext h hh∧∀i,i<m->iP xs n i=true) (λx=>(l-x.2.2.2.2.2).toNat) ⟨0,rfl,by omega,Ext.refl _,λi hi=>by omega⟩ ?_
 rintro x hh ⟨m,rfl,hn,X,hf⟩
 refine brd (λhc=>?_) λhc=>?_
 ·refine(S.ext X).idx (by decide) (by omega) (by omega) λa Ra=>Ra.oF1 λy hy=>?_
  have no:∀{h'},Ext h h'->iP xs n m=false->((Value.bool false = .bool (used xs n))∧Ext h h'):=λx e=>⟨by rw[show used xs n=false from all_false (i:=m) (by omega) e],x⟩
  have go:∀{h'},Ext h h'->iP xs n m=true->(∃Yn:Nat,((n,b,l,c,(l:Int),IntKind.i64.wrap ((m:Int)+1)):Int×Option Addr×Nat×Nat×Int×Int)=(n,b,l,c,(l:Int),(Yn:Int))∧Yn≤l∧Ext h h'∧∀i,i<Yn->iP xs n i=true)∧((l:Int)-IntKind.i64.wrap ((m:Int)+1)).toNat<((l:Int)-(m:Int)).toNat:=by
   intro h' x e
   rw[ag (by omega)]
   refine⟨⟨m+1,rfl,by omega,x,λi hi=>?_⟩,by omega⟩
   by_cases e':i=m
   ·subst e';exact e
   ·exact hf i (by omega)
  refine(mw hy).go λh1 x1=>bt (br (λhb=>no (X.trans x1) ?_) λhb=>?_)
  ·rw[iP,show fin xs[m]! = false by simpa using hb];rfl
  have hb:fin xs[m]! = true:=by simpa using hb
  refine brd (λh2=>?_) λh2=>go (X.trans x1) ?_
  ·refine(FK hy).go λh3 x3=>cN (br (λNl=>no ((X.trans x1).trans x3) ?_) λNl=>go ((X.trans x1).trans x3) ?_)
   ·rw[iP,hb,decide_eq_false (by omega),Bool.true_and,Bool.false_or]
    have Nl:(xs[m]! : Int)≠0:=by simpa using Nl
    exact beq_false_of_ne (by omega)
   ·rw[iP,hb,decide_eq_false (by omega),Bool.true_and,Bool.false_or]
    have Nl:(xs[m]! : Int)=0:=by simpa using Nl
    exact beq_iff_eq.2 (by omega)
  ·rw[iP,hb,decide_eq_true (by omega)];rfl
 ·refine⟨?_,X⟩
  rw[show used xs n=true from all_true λi hi=>hf i (by omega)]
theorem Vt(k:Int):decide (0<Kk k)=inR k 1 5:=by
 unfold Kk
 split
 ·next h=>rw[h];apply decide_eq_true;unfold qT;split <;> (try split) <;> omega
 ·next h=>rw[Bool.not_eq_true] at h;rw[h];rfl
theorem Ib{h:ab}{cs:Array Value}{f:cz}(R:cx.rd h cs.toList f):af ak 274 #[.agg cs] (λu h'=>u = .bool f.ok∧Ext h h') h:=by
 refine oE.call (gD R λg h1 x1 R1=>R1.oI2 ((ah9 _).go λh2 x2=>jJ (cN (cN ?_))))
 rw[Vt]
 have X2:=x1.trans x2
 have R2:=R1.ext x2
 refine br (λhb=>?_) λhb=>⟨by rw[cz.ok,hb];rfl,X2⟩
 have e1:Kk f.Kind=qT f.Kind:=by rw[Kk,if_pos hb]
 have e2:Tt f.Kind=o6 f.Kind:=by rw[Tt,if_pos hb]
 rw[e1,e2]
 refine slb (by omega) (by omega) (by omega) ?_
 rw[CH]
 refine(Nt ((R2.WJ dU).arr (by decide)) _).mono ?_
 rintro _ h3 ⟨rfl,x3⟩
 refine bt (br (λhc=>?_) λhc=>⟨by rw[cz.ok,hb,hc];rfl,X2.trans x3⟩)
 refine slb (by omega) (by omega) (by omega) ?_
 rw[CH]
 refine(Nt (((R2.ext x3).WJ dx).arr (by decide)) _).mono ?_
 rintro _ h4 ⟨rfl,x4⟩
 exact bt ⟨by rw[cz.ok,hb,hc];rfl,(X2.trans x3).trans x4⟩
theorem Gm{h:ab}{cs:Array Value}{f:cz}(R:cx.rd h cs.toList f)(k:Int):af ak 218 #[.agg cs,.int .i64 k] (λu h'=>u = .bool (f.ok&&f.Kind==k)∧Ext h h') h:=by
 refine ub.call (gD R λg h1 x1 R1=>R1.jc rfl λBP Rc=>(Ib Rc).mono ?_)
 rintro _ h2 ⟨rfl,x2⟩
 refine bt (br (λhb=>(R1.ext x2).oI2 ⟨by rw[hb];rfl,x1.trans x2⟩) λhb=>⟨by rw[hb];rfl,x1.trans x2⟩)
theorem Lt{h:ab}{q:Addr}{f:cz}(R:RdP cx h q f):af ak 261 #[.pointer (some q)] (λu h'=>u = .bool f.ok∧Ext h h') h:=by
 have hC:=(R.foc dU).len
 have hS:=(R.foc dx).len
 refine eA.call (R.oI1 ((kQ _ _ _).go λh1 x1=>bt (br (λhb=>⟨by rw[cz.ok,show inR f.Kind 1 5=false by simpa using hb];rfl,x1⟩) λhb=>?_)))
 have hb:inR f.Kind 1 5=true:=by simpa using hb
 refine(R.ext x1).oI1 ((Uo _).go λh2 x2=>jJ (cN (cN ?_)))
 have X2:=x1.trans x2
 refine loop (λx hh=>∃m:Nat,x=(q,qT f.Kind,o6 f.Kind,(m:Int))∧m≤3∧Ext h hh∧∀i,i<m->iP f.C (qT f.Kind) i=true) (λx=>(3-x.2.2.2).toNat) ⟨0,rfl,by omega,X2,λi hi=>by omega⟩ ?_
 rintro x hh ⟨m,rfl,hn,X,hf⟩
 refine brd (λhc=>?_) λhc=>?_
 ·refine idx (by omega) (by omega) ?_
  have Ra:=((R.ext X).foc dU).elem (i:=m) (by omega)
  refine Ra.oF1 λy hy=>?_
  have no:∀{h'},Ext h h'->iP f.C (qT f.Kind) m=false->((Value.bool false = .bool f.ok)∧Ext h h'):=λx e=>⟨by rw[cz.ok,hb,show used f.C _=false from all_false (i:=m) (by omega) e];rfl,x⟩
  have go:∀{h'},Ext h h'->iP f.C (qT f.Kind) m=true->(∃Yn:Nat,((q,qT f.Kind,o6 f.Kind,IntKind.i64.wrap ((m:Int)+1)):Addr×Int×Int×Int)=(q,qT f.Kind,o6 f.Kind,(Yn:Int))∧Yn≤3∧Ext h h'∧∀i,i<Yn->iP f.C (qT f.Kind) i=true)∧((3:Int)-IntKind.i64.wrap ((m:Int)+1)).toNat<((3:Int)-(m:Int)).toNat:=by
   intro h' x e
   rw[ag (by omega)]
   refine⟨⟨m+1,rfl,by omega,x,λi hi=>?_⟩,by omega⟩
   by_cases e':i=m
   ·subst e';exact e
   ·exact hf i (by omega)
  refine(jm hy).go λh1 x1=>bt (br (λhb=>no (X.trans x1) ?_) λhb=>?_)
  ·rw[iP,show fin f.C[m]! = false by simpa using hb];rfl
  have hb:fin f.C[m]! = true:=by simpa using hb
  refine brd (λh2=>?_) λh2=>go (X.trans x1) ?_
  ·refine idx (by omega) (by omega) ((Ra.ext x1).oF1 λy hy=>(zu hy fw0).go λh3 x3=>bt (br (λNl=>no ((X.trans x1).trans x3) ?_) λNl=>go ((X.trans x1).trans x3) ?_))
   ·rw[iP,hb,decide_eq_false (by omega),Bool.true_and,Bool.false_or]
    simpa using Nl
   ·rw[iP,hb,decide_eq_false (by omega),Bool.true_and,Bool.false_or]
    simpa using Nl
  ·rw[iP,hb,decide_eq_true (by omega)];rfl
 have hCu:used f.C (qT f.Kind)=true:=all_true λi hi=>hf i (by omega)
 refine loop (λx hh=>∃m:Nat,x=(q,o6 f.Kind,(m:Int))∧m≤2∧Ext h hh∧∀i,i<m->iP f.S (o6 f.Kind) i=true) (λx=>(2-x.2.2).toNat) ⟨0,rfl,by omega,X,λi hi=>by omega⟩ ?_
 rintro x hh ⟨m,rfl,hn,X,hf⟩
 refine brd (λhc=>?_) λhc=>?_
 ·refine idx (by omega) (by omega) ?_
  have Ra:=((R.ext X).foc dx).elem (i:=m) (by omega)
  refine Ra.oF1 λy hy=>?_
  have no:∀{h'},Ext h h'->iP f.S (o6 f.Kind) m=false->((Value.bool false = .bool f.ok)∧Ext h h'):=λx e=>⟨by rw[cz.ok,hb,show used f.S _=false from all_false (i:=m) (by omega) e,Bool.and_false],x⟩
  have go:∀{h'},Ext h h'->iP f.S (o6 f.Kind) m=true->(∃Yn:Nat,((q,o6 f.Kind,IntKind.i64.wrap ((m:Int)+1)):Addr×Int×Int)=(q,o6 f.Kind,(Yn:Int))∧Yn≤2∧Ext h h'∧∀i,i<Yn->iP f.S (o6 f.Kind) i=true)∧((2:Int)-IntKind.i64.wrap ((m:Int)+1)).toNat<((2:Int)-(m:Int)).toNat:=by
   intro h' x e
   rw[ag (by omega)]
   refine⟨⟨m+1,rfl,by omega,x,λi hi=>?_⟩,by omega⟩
   by_cases e':i=m
   ·subst e';exact e
   ·exact hf i (by omega)
  refine(jm hy).go λh1 x1=>bt (br (λhb=>no (X.trans x1) ?_) λhb=>?_)
  ·rw[iP,show fin f.S[m]! = false by simpa using hb];rfl
  have hb:fin f.S[m]! = true:=by simpa using hb
  refine brd (λh2=>?_) λh2=>go (X.trans x1) ?_
  ·refine idx (by omega) (by omega) ((Ra.ext x1).oF1 λy hy=>(zu hy fw0).go λh3 x3=>bt (br (λNl=>no ((X.trans x1).trans x3) ?_) λNl=>go ((X.trans x1).trans x3) ?_))
   ·rw[iP,hb,decide_eq_false (by omega),Bool.true_and,Bool.false_or]
    simpa using Nl
   ·rw[iP,hb,decide_eq_false (by omega),Bool.true_and,Bool.false_or]
    simpa using Nl
  ·rw[iP,hb,decide_eq_true (by omega)];rfl
 ·refine⟨?_,X⟩
  rw[cz.ok,hb,hCu,show used f.S _=true from all_true λi hi=>hf i (by omega)];rfl
theorem Pt.agX{α:Type}{r:Rep α}{h0 h:ab}{q:Addr}{F:Fr}{L:List Blk}{a:α}{off:Nat}{get:α->List Nat}{put:α->List Nat->α}{x y m n:Nat}{K:ab->Prop}(P:Pt r h0 h q F L a)(Fc:Foc r (iT 2 (rF .f32)) off get put)(hx:FW .f32 x m)(hy:FW .f32 y n)(H:∀h',Pt r h0 h' q F L (put a [m,n])->K h'):STA 2 h (q.add off) ⟨[.float .f32 x,.float .f32 y]⟩ K:=
 Pt.sts (B':=[]) (b:=[m,n]) P Fc rfl ⟨rfl,[],[],[.float .f32 x],[.float .f32 y],rfl,rfl,⟨rfl,x,rfl,hx⟩,[],[],[.float .f32 y],[],rfl,rfl,⟨rfl,y,rfl,hy⟩,rfl,rfl⟩ H
theorem Za{l:List Nat}(h:l.length=2)(a b:Nat):(l.set 0 a).set 1 b=[a,b]:=by
 match l,h with
 | [x,y],_=>rfl
def qE(h0 h':ab)(q:Addr)(F:Fr)(L:List Blk)(f:cz)(a:Nat)(u:Value):Prop:=(∃y,u = .float .f32 y∧FW .f32 y (f.step a).2)∧Pt cx h0 h' q F L (f.step a).1
section
variable {h0 h:ab}{q:Addr}{F:Fr}{L:List Blk}{f:cz}{x a:Nat}
theorem Zh(hk:f.Kind=1):f.step a=({ f with S:=f.S.set 0 (kept (jW .f32 (eG .f32 f.C[0]! a) (eG .f32 f.C[1]! f.S[0]!))) },jW .f32 (eG .f32 f.C[0]! a) (eG .f32 f.C[1]! f.S[0]!)):=by unfold cz.step;rw[if_pos hk]
theorem aed(hk:f.Kind=2):f.step a=({ f with S:=f.S.set 0 (kept a) },jW .f32 (eG .f32 f.C[0]! a) (eG .f32 f.C[1]! f.S[0]!)):=by unfold cz.step;rw[if_neg (by omega),if_pos hk]
theorem aee(hk:f.Kind=3):f.step a=({ f with S:=(f.S.set 0 (kept a)).set 1 (kept (jW .f32 (eG .f32 f.C[0]! (hH .f32 a f.S[1]!)) f.S[0]!)) },jW .f32 (eG .f32 f.C[0]! (hH .f32 a f.S[1]!)) f.S[0]!):=by
 unfold cz.step;rw[if_neg (by omega),if_neg (by omega),if_pos hk]
theorem aef(hk:f.Kind=4):f.step a=({ f with S:=(f.S.set 0 (kept (hH .f32 (hH .f32 (eG .f32 f.C[0]! a) (eG .f32 f.C[1]! f.S[0]!)) (eG .f32 f.C[2]! f.S[1]!)))).set 1 (kept f.S[0]!) },hH .f32 (hH .f32 (eG .f32 f.C[0]! a) (eG .f32 f.C[1]! f.S[0]!)) (eG .f32 f.C[2]! f.S[1]!)):=by
 unfold cz.step;rw[if_neg (by omega),if_neg (by omega),if_neg (by omega),if_pos hk]
theorem aeg(h1:f.Kind≠1)(h2:f.Kind≠2)(h3:f.Kind≠3)(h4:f.Kind≠4):f.step a=({ f with S:=(f.S.set 0 (kept a)).set 1 (kept (jW .f32 (hH .f32 a f.S[0]!) (eG .f32 f.C[0]! f.S[1]!))) },jW .f32 (hH .f32 a f.S[0]!) (eG .f32 f.C[0]! f.S[1]!)):=by
 unfold cz.step;rw[if_neg h1,if_neg h2,if_neg h3,if_neg h4]
theorem qE.of{f':cz}{b y:Nat}(e:f.step a=(f',b))(hy:FW .f32 y b)(P:Pt cx h0 h q F L f'):qE h0 h q F L f a (.float .f32 y):=by
 unfold qE
 rw[e]
 exact⟨⟨y,rfl,hy⟩,P⟩
theorem agZ(hk:f.Kind=4):f.step a=({ f with S:=(f.S.set 1 (kept f.S[0]!)).set 0 (kept (hH .f32 (hH .f32 (eG .f32 f.C[0]! a) (eG .f32 f.C[1]! f.S[0]!)) (eG .f32 f.C[2]! f.S[1]!))) },hH .f32 (hH .f32 (eG .f32 f.C[0]! a) (eG .f32 f.C[1]! f.S[0]!)) (eG .f32 f.C[2]! f.S[1]!)):=by
 rw[aef hk,List.set_comm _ _ (by decide)]
set_option maxHeartbeats 2000000 in
theorem zw(P:Pt cx h0 h q F L f)(hx:FW .f32 x a):af ak 186 #[.pointer (some q),.float .f32 x] (λu h'=>qE h0 h' q F L f a u) h:=by
 have R:=P.rd
 refine wz.call (idx (by omega) (by omega) (R.oF λy1 hy1=>idx (by omega) (by omega) (R.oF λy2 VL=>R.oI1 (br (λhb=>?_) λhb1=>br (λhb=>?_) λU9=>br (λhb=>?_) λNl=>br (λhb=>?_) λhb4=>?_))))
 ·have hb:f.Kind=1:=by simpa using hb
  refine idx (by omega) (by omega) (R.oF λz1 Ll=>idx (by omega) (by omega) (R.oF λz2 HQ=>?_))
  (repeat' (first | refine dT ?_ | refine fM (by assumption) (by assumption) λ_ _=>?_ | refine And.intro ?_ ?_ | refine fA (by assumption) (by assumption) λ_ _=>?_ | refine fS (by assumption) (by assumption) λ_ _=>?_))
  all_goals (
   refine Fl.go (ic (by assumption)) λh1 y x1 hy=>?_
   exact cW (idx (by omega) (by omega) ((P.grow x1).stF hy λh2 P2=>qE.of (Zh hb) (by assumption) P2)))
 ·have hb:f.Kind=2:=by simpa using hb
  refine idx (by omega) (by omega) (R.oF λz1 Ll=>idx (by omega) (by omega) (R.oF λz2 HQ=>?_))
  (repeat' (first | refine dT ?_ | refine fM (by assumption) (by assumption) λ_ _=>?_ | refine And.intro ?_ ?_ | refine fA (by assumption) (by assumption) λ_ _=>?_ | refine fS (by assumption) (by assumption) λ_ _=>?_))
  all_goals (
   refine(ic hx).go λh1 y x1 hy=>?_
   exact cW (idx (by omega) (by omega) ((P.grow x1).stF hy λh2 P2=>qE.of (aed hb) (by assumption) P2)))
 ·have hb:f.Kind=3:=by simpa using hb
  refine idx (by omega) (by omega) (R.oF λz1 Ll=>?_)
  (repeat' (first | refine dT ?_ | refine fM (by assumption) (by assumption) λ_ _=>?_ | refine And.intro ?_ ?_ | refine fA (by assumption) (by assumption) λ_ _=>?_ | refine fS (by assumption) (by assumption) λ_ _=>?_))
  all_goals (
   refine(ic hx).go λh1 y x1 hy=>cW (idx (by omega) (by omega) ((P.grow x1).stF hy λh2 P2=>?_))
   refine Fl.go (ic (by assumption)) λh3 y x3 hy=>?_
   exact cW (idx (by omega) (by omega) ((P2.grow x3).stF hy λh4 P4=>qE.of (aee hb) (by assumption) P4)))
 ·have hb:f.Kind=4:=by simpa using hb
  refine idx (by omega) (by omega) (R.oF λz1 Ll=>idx (by omega) (by omega) (R.oF λz2 HQ=>idx (by omega) (by omega) (R.oF λz3 ZT=>?_)))
  (repeat' (first | refine dT ?_ | refine fM (by assumption) (by assumption) λ_ _=>?_ | refine And.intro ?_ ?_ | refine fA (by assumption) (by assumption) λ_ _=>?_ | refine fS (by assumption) (by assumption) λ_ _=>?_))
  all_goals (
   refine(ic hy1).go λh1 y x1 hy=>?_
   refine cW (idx (by omega) (by omega) ((P.grow x1).stF hy λh2 P2=>?_))
   refine Fl.go (ic (by assumption)) λh3 y x3 hy=>?_
   exact cW (idx (by omega) (by omega) ((P2.grow x3).stF hy λh4 P4=>qE.of (agZ hb) (by assumption) P4)))
 ·refine fS hx hy1 λw1 ZS=>idx (by omega) (by omega) (R.oF λz1 Ll=>?_)
  (repeat' (first | refine dT ?_ | refine fM (by assumption) (by assumption) λ_ _=>?_ | refine And.intro ?_ ?_ | refine fA (by assumption) (by assumption) λ_ _=>?_ | refine fS (by assumption) (by assumption) λ_ _=>?_))
  all_goals (
   refine(ic hx).go λh1 y x1 hy=>cW (idx (by omega) (by omega) ((P.grow x1).stF hy λh2 P2=>?_))
   refine Fl.go (ic (by assumption)) λh3 y x3 hy=>?_
   exact cW (idx (by omega) (by omega) ((P2.grow x3).stF hy λh4 P4=>qE.of (aeg (by simpa using hb1) (by simpa using U9) (by simpa using Nl) (by simpa using hb4)) (by assumption) P4)))
theorem pk(P:Pt cx h0 h q F L f)(hx:FW .f32 x a):af ak 240 #[.pointer (some q),.float .f32 x] (λu h'=>qE h0 h' q F L f a u) h:=by
 have R:=P.rd
 have RC:=R.foc dU
 have RS:=R.foc dx
 have hS:f.S.length=2:=RS.len
 have key:∀{hh:ab}{L':List Blk}{c s:Addr},L.Sublist L'->Pt cx h0 hh q F L' f->RdP (iT 3 (rF .f32)) hh c f.C->RdP (iT 2 (rF .f32)) hh s f.S->dS.J2 (λu h'=>qE h0 h' q F L f a u) q x c s hh:=by
  intro hh L' c s hs P C S
  replace P:=P.sub hs
  have R:=P.rd
  refine R.oI1 (br (λhb=>?_) λhb1=>br (λhb=>?_) λU9=>br (λhb=>?_) λNl=>br (λhb=>?_) λhb4=>?_)
  ·have hb:f.Kind=1:=by simpa using hb
   refine idx (by omega) (by omega) (C.oF1 λz1 Ll=>fM Ll hx λw1 ZS=>idx (by omega) (by omega) (C.oF λz2 HQ=>idx (by omega) (by omega) (S.oF1 λz3 ZT=>fM HQ ZT λw2 hw2=>fA ZS hw2 λw3 VK=>?_)))
   exact(mz VK).go λh1 y x1 hy=>cW (idx (by omega) (by omega) ((P.grow x1).stF hy λh2 P2=>qE.of (Zh hb) VK P2))
  ·have hb:f.Kind=2:=by simpa using hb
   refine idx (by omega) (by omega) (C.oF1 λz1 Ll=>fM Ll hx λw1 ZS=>idx (by omega) (by omega) (C.oF λz2 HQ=>idx (by omega) (by omega) (S.oF1 λz3 ZT=>fM HQ ZT λw2 hw2=>fA ZS hw2 λw3 VK=>?_)))
   exact(mz hx).go λh1 y x1 hy=>cW (idx (by omega) (by omega) ((P.grow x1).stF hy λh2 P2=>qE.of (aed hb) VK P2))
  ·have hb:f.Kind=3:=by simpa using hb
   refine idx (by omega) (by omega) (C.oF1 λz1 Ll=>idx (by omega) (by omega) (S.oF λz2 HQ=>fS hx HQ λw1 ZS=>fM Ll ZS λw2 hw2=>idx (by omega) (by omega) (S.oF1 λz3 ZT=>fA hw2 ZT λw3 VK=>?_)))
   refine(mz hx).go λh1 y1 x1 hy1=>cW ((mz VK).go λh2 y2 x2 VL=>cW ((P.grow (x1.trans x2)).agX dx hy1 VL λh3 P3=>?_))
   exact qE.of (by rw[aee hb,Za hS]) VK P3
  ·have hb:f.Kind=4:=by simpa using hb
   refine idx (by omega) (by omega) (C.oF1 λz1 Ll=>fM Ll hx λw1 ZS=>idx (by omega) (by omega) (C.oF λz2 HQ=>idx (by omega) (by omega) (S.oF1 λz3 ZT=>fM HQ ZT λw2 hw2=>fS ZS hw2 λw3 VK=>?_)))
   refine idx (by omega) (by omega) (C.oF λz4 hz4=>idx (by omega) (by omega) (S.oF λz5 hz5=>fM hz4 hz5 λw4 hw4=>fS VK hw4 λw5 hw5=>idx (by omega) (by omega) (S.oF1 λz6 hz6=>?_)))
   refine(mz hw5).go λh1 y1 x1 hy1=>cW ((S.fst (Foc.arr _ 0 (by decide))).pin rfl x1 ((mz hz6).go λh2 y2 x2 VL=>cW ((P.grow (x1.trans x2)).agX dx hy1 VL λh3 P3=>?_)))
   exact qE.of (by rw[aef hb,Za hS]) hw5 P3
  ·refine idx (by omega) (by omega) (S.oF1 λz1 Ll=>fS hx Ll λw1 ZS=>idx (by omega) (by omega) (C.oF1 λz2 HQ=>idx (by omega) (by omega) (S.oF λz3 ZT=>fM HQ ZT λw2 hw2=>fA ZS hw2 λw3 VK=>?_)))
   refine(mz hx).go λh1 y1 x1 hy1=>cW ((mz VK).go λh2 y2 x2 VL=>cW ((P.grow (x1.trans x2)).agX dx hy1 VL λh3 P3=>?_))
   exact qE.of (by rw[aeg (by simpa using hb1) (by simpa using U9) (by simpa using Nl) (by simpa using hb4),Za hS]) VK P3
 refine dS.call (R.lda dU rfl λcC rC=>R.lda dx rfl λcS rS=>?_)
 have l3:cC.size=3:=by have:=(iT 3 (rF .f32)).tc rC;rw[Array.length_toList] at this;exact this
 have l2:cS.size=2:=by have:=(iT 2 (rF .f32)).tc rS;rw[Array.length_toList] at this;exact this
 refine⟨?_,?_⟩
 ·refine(Mem.start h).alc λg1 h1 x1 M=>RS.pin rfl x1 (RC.pin rfl x1 (M.alc λg2 h2 x2 M=>RS.pin rfl M.ext (RC.pin rfl M.ext ?_)))
  refine M.dH (.there .here) l3 ((iT 3 (rF .f32)).wj rC) rfl (.there .here) λh3 M=>RS.pin rfl M.ext ?_
  refine M.dH .here l2 ((iT 2 (rF .f32)).wj rS) rfl .here λh4 M=>?_
  exact key (List.sublist_append_right _ _) (P.join M) (M.rdp (.there .here) ((iT 3 (rF .f32)).ext M.ext rC)) (M.rdp .here ((iT 2 (rF .f32)).ext M.ext rS))
 ·refine(Mem.start h).alc λg1 h1 x1 M=>RS.pin rfl x1 (RC.pin rfl x1 (M.alc λg2 h2 x2 M=>RS.pin rfl M.ext (RC.pin rfl M.ext ?_)))
  refine M.dH .here l3 ((iT 3 (rF .f32)).wj rC) rfl .here λh3 M=>RS.pin rfl M.ext ?_
  refine M.dH (.there .here) l2 ((iT 2 (rF .f32)).wj rS) rfl (.there .here) λh4 M=>?_
  exact key (List.sublist_append_right _ _) (P.join M) (M.rdp .here ((iT 3 (rF .f32)).ext M.ext rC)) (M.rdp (.there .here) ((iT 2 (rF .f32)).ext M.ext rS))
end
end Go.Sx
namespace Go.Sx
section
variable {α β:Type}{r:Rep α}{h0 h:ab}{q:Addr}{F:Fr}{L:List Blk}{a:α}{off e:Nat}{s:Rep β}{get:α->List β}{put:α->List β->α}
theorem Pt.slg(P:Pt r h0 h q F L a)(Fc:Foc r (rSl e s) off get put):∃b l c B N,cell h (q.add off)=some (.slice b l c)∧Mem h0 h (B++N)∧SlO e s B b l c (get a)∧L.Sublist N ∧
  ∀lS h' B' ys,SlO e s B' b l c ys->Mem lS h' (B'++N)->Pt r lS h' q F L (put a ys)∧cell h' (q.add off)=some (.slice b l c):=by
 obtain⟨F1,L1,P1,hs,close⟩:=P.foc Fc
 obtain⟨eq,iS,B,M,b,l,c,rfl,S⟩:=P1
 refine⟨b,l,c,B,(F1.g,F1.T,⟨F1.pre++([.slice b l c]++F1.post)⟩) :: L1,?_,M.perm List.perm_middle.symm,S,hs.trans (List.sublist_cons_self _ _),λlS h' B' ys S' M'=>?_⟩
 ·rw[eq,M.cell .here];simp
 ·have M2:=M'.perm List.perm_middle
  refine⟨close _ _ _ ⟨eq,[.slice b l c],B',M2,b,l,c,rfl,S'⟩,?_⟩
  rw[eq,M2.cell .here];simp
theorem Pt.sl1(P:Pt r h0 h q F L a)(Fc:Foc r (rSl e s) 0 get put):∃b l c B,∃N,cell h q=some (.slice b l c)∧Mem h0 h (B++N)∧SlO e s B b l c (get a)∧L.Sublist N ∧
  ∀lS h' B' ys,SlO e s B' b l c ys->Mem lS h' (B'++N)->Pt r lS h' q F L (put a ys)∧cell h' q=some (.slice b l c):=by
 have:=P.slg Fc
 simpa only[kW] using this
theorem Pt.anf{γ:Type}{p:Rep γ}{get:α->γ}{put:α->γ->α}(P:Pt r h0 h q F L a)(Fc:Foc r p off get put):∃F' L',Pt p h0 h (q.add off) F' L' (get a)∧L.Sublist L' ∧
  ∀lS h' b',Pt p lS h' (q.add off) F' L' b'->Pt r lS h' q F L (put a b')∧∀k,(k<off∨off+p.sz≤k)->cell h' (q.add k)=cell h (q.add k):=by
 obtain⟨rfl,iS,B,M,O⟩:=P
 obtain⟨pre,md,post,B1,Bm,B2,e1,rfl,rfl,O1,O2⟩:=Fc.fo O
 refine⟨⟨F.g,F.T,F.pre++pre,post++F.post⟩,B1++(B2++L),⟨?_,md,Bm,?_,O1⟩,?_,λlS h' b' P'=>?_⟩
 ·rw[dQ];simp[e1]
 ·have:=M.perm (m5 _ _ _ _ _)
  simpa using this
 ·exact(List.sublist_append_right _ _).trans (List.sublist_append_right _ _)
 ·obtain⟨_,vY,B',M',O'⟩:=P'
  have M2:=M'.perm (m5 _ _ _ _ _).symm
  refine⟨⟨rfl,pre++(vY++post),B1++(B'++B2),by simpa using M2,O2 B' vY b' O'⟩,λk hk=>?_⟩
  have l1:=p.jX O1
  have l2:=p.jX O'
  rw[dQ,M.cell .here,M2.cell .here]
  simp only[List.getElem?_toArray,List.append_assoc]
  rw[List.getElem?_append_right (Nat.le_add_right _ _),List.getElem?_append_right (Nat.le_add_right _ _)]
  rw[Nat.add_sub_cancel_left]
  rcases hk with hk | hk
  ·rw[List.getElem?_append_left (by omega),List.getElem?_append_left (by omega)]
  ·rw[List.getElem?_append_right (l₁:=pre) (by omega),List.getElem?_append_right (l₁:=pre) (by omega),List.getElem?_append_right (l₁:=vY) (by omega),List.getElem?_append_right (l₁:=md) (by omega),l1,l2]
theorem Pt.ad6[Inhabited β]{i l c:Nat}{b:Option Addr}(P:Pt r h0 h q F L a)[Fc:cJ r off (rSl e s) get put](hb:cell h (q.add off)=some (.slice b l c))(hi:i<l):
  ∃a0 F' L',b=some a0∧Pt s h0 h (a0.add (i*s.sz)) F' L' (get a)[i]! ∧ L.Sublist L'∧∀lS h' x,Pt s lS h' (a0.add (i*s.sz)) F' L' x->Pt r lS h' q F L (put a ((get a).set i x))∧∀k,cell h' (q.add k)=cell h (q.add k):=by
 obtain⟨F1,L1,P1,hs,close⟩:=P.anf Fc.f
 obtain⟨eq,iS,B,M,b',l',c',rfl,S⟩:=P1
 have e0:cell h (q.add off)=some (.slice b' l' c'):=by
  rw[eq,M.cell .here];simp
 rw[hb] at e0
 cases e0
 have M1:Mem h0 h (B++((F1.g,F1.T,⟨F1.pre++([.slice b l c]++F1.post)⟩) :: L1)):=M.perm List.perm_middle.symm
 obtain⟨a0,F2,L2,rfl,P2,Fk,FO⟩:=S.elem M1 hi
 refine⟨a0,F2,L2,rfl,P2,(hs.trans (List.sublist_cons_self _ _)).trans Fk,λlS h' x P'=>?_⟩
 obtain⟨B',S',M'⟩:=FO lS h' x P'
 have M2:=M'.perm List.perm_middle
 obtain⟨P3,hk⟩:=close lS h' _ ⟨eq,[.slice (some a0) l c],B',M2,_,_,_,rfl,S'⟩
 refine⟨P3,λk=>?_⟩
 by_cases h1:k<off∨off+(rSl e s).sz≤k
 ·exact hk k h1
 ·obtain rfl:k=off:=by
   have:(rSl e s).sz=1:=rfl
   omega
  rw[hb,eq,M2.cell .here];simp
theorem Pt.aeQ[Inhabited β]{i l c:Nat}{b:Option Addr}(P:Pt r h0 h q F L a)[Fc:cJ r 0 (rSl e s) get put](hb:cell h q=some (.slice b l c))(hi:i<l):
  ∃a0 F' L',b=some a0∧Pt s h0 h (a0.add (i*s.sz)) F' L' (get a)[i]! ∧ L.Sublist L'∧∀lS h' x,Pt s lS h' (a0.add (i*s.sz)) F' L' x->Pt r lS h' q F L (put a ((get a).set i x))∧∀k,cell h' (q.add k)=cell h (q.add k):=
 P.ad6 (off:=0) (by rwa [kW]) hi
theorem Pt.slr{l c:Nat}{b:Option Addr}(P:Pt r h0 h q F L a)[Fc:cJ r off (rSl e s) get put](hb:cell h (q.add off)=some (.slice b l c)):SlR s h b l c (get a):=by
 obtain⟨v,e1,b',l',c',e2,S⟩:=P.rd.cell Fc.f rfl
 obtain rfl:v = .slice b' l' c':=by simpa using e2
 rw[hb] at e1
 cases e1
 exact S
end
end Go.Sx
namespace Go.Sx
open Go.Proofs
set_option maxRecDepth 100000
section
variable {h:ab}{q:Addr}
theorem drop_cons{α:Type}[Inhabited α]{l:List α}{n:Nat}(h:n<l.length):l.drop n=l[n]! :: l.drop (n+1):=by
 rw[List.drop_eq_getElem_cons h,getElem!_pos l n h]
theorem vk{α:Type}[Inhabited α]{l:List α}{n:Nat}(h:n<l.length):l.take (n+1)=l.take n++[l[n]!]:=by
 rw[List.take_succ_eq_append_getElem h,getElem!_pos l n h]
theorem Po(n:Nat):ows (rF .f32) [] (List.replicate n (.float .f32 0)) (List.replicate n 0):=by
 induction n with
 | zero=>exact⟨rfl,rfl⟩
 | succ n ih=>exact⟨[],[],[.float .f32 0],List.replicate n (.float .f32 0),rfl,rfl,⟨rfl,0,rfl,fw0⟩,ih⟩
theorem Ei{h0:ab}{L:List Blk}{n:Nat}{F:Nat->ab->Prop}(M:Mem h0 h L)(hn:n≤1048576)(H:∀g h',Ext h h'->Mem h0 h' ((g,22,⟨List.replicate n (.float .f32 0)⟩) :: L)->SlO 22 (rF .f32) [(g,22,⟨List.replicate n (.float .f32 0)⟩)] (some ⟨g,0,none⟩) n n (List.replicate n 0)->F g h'):MKS eC 22 (n:Int) (n:Int) F h:=by
 refine apY M rfl rfl (by show 4*n≤2 ^ 48;omega) (by omega) λg h' x' M'=>H g h' x' M' ?_
 have:n≤maxLen:=by
  have:(1048576:Nat)≤maxLen:=by decide
  omega
 exact⟨by simp,List.replicate n (.float .f32 0),[_],[],rfl,⟨by rw[List.length_replicate,show(rF .f32).sz=1 from rfl,Nat.mul_one],.inr ⟨g,_,rfl,rfl,Nat.le_refl _,this,by rw[List.size_toArray,List.length_replicate,show(rF .f32).sz=1 from rfl,Nat.mul_one],by
  rw[List.take_of_length_le]
  show(List.replicate n (Value.float .f32 0)).length≤n*1
  simp⟩⟩,Po n⟩
end
def fk{α:Type}(r:Rep α)(h h':ab)(u:Value)(a:α)(code:Int):Prop:=∃cs B,u = .tuple ⟨[.agg cs,.int .i64 code]⟩∧r.ow B cs.toList a∧Mem h h' B
section
variable {α β:Type}{r:Rep α}{h0 h:ab}{q:Addr}{F:Fr}{L:List Blk}{a:α}{off:Nat}
theorem Pt.atC{p:Rep β}{get:α->β}{put:α->β->α}{b:β}{n:Nat}{vs:Array Value}{B':List Blk}{K:ab->Prop}(P:Pt r h0 h q F (B'++L) a)(Fc:Foc r p 0 get put)(hp:p.sz=n)(O:p.ow B' vs.toList b)(H:∀h',Pt r h0 h' q F L (put a b)->K h'):STA n h q vs K:=by
 have:=P.sts Fc hp O H
 rwa [kW] at this
end
def rP:Rep Addr:=Vf (λa=>.pointer (some a)) λ_=>rfl
theorem RdP.oP1{h:ab}{q a:Addr}{K:Addr->Prop}(R:RdP rP h q a)(H:K a):Sx.oP (Sx.cell h q) K:=by
 obtain⟨vs,h1,e⟩:=R
 have:=h1 0 (.pointer (some a)) (by rw[show vs=[.pointer (some a)] from e];rfl)
 rw[kW] at this
 rw[this];exact H
theorem is2{α:Type}{l:List α}(h:l.length=2):∃a b,l=[a,b]:=by
 match l,h with
 | [a,b],_=>exact⟨a,b,rfl⟩
def oN{α:Type}(f:α->α)(l:List α)(n:Nat):List α:=(l.take n).map f++l.drop n
section
variable {α:Type}{f:α->α}{l:List α}{n:Nat}
theorem DA:oN f l 0=l:=by simp[oN]
theorem Gy(h:n=l.length):oN f l n=l.map f:=by subst h;simp[oN]
theorem yL:(oN f l n).length=l.length:=by simp only[oN,List.length_append,List.length_map,List.length_take,List.length_drop];omega
theorem NY[Inhabited α](hn:n<l.length):(oN f l n)[n]! = l[n]!:=by
 rw[getElem!_pos _ n (by rw[yL];exact hn),getElem!_pos l n hn]
 unfold oN
 have hl:((l.take n).map f).length=n:=by rw[List.length_map,List.length_take];omega
 rw[List.getElem_append_right (by omega)]
 simp only[hl,Nat.sub_self,List.getElem_drop,Nat.add_zero]
theorem JS[Inhabited α](hn:n<l.length):(oN f l n).set n (f l[n]!)=oN f l (n+1):=by
 unfold oN
 have hl:((l.take n).map f).length=n:=by rw[List.length_map,List.length_take];omega
 rw[List.set_append_right _ _ (by omega),hl,Nat.sub_self,drop_cons hn,List.set_cons_zero,vk hn,List.map_append]
 simp
end
def pR{α:Type}[Inhabited α](f:Nat->α)(l:List α)(n:Nat):List α:=(List.range l.length).map λi=>if i<n then f i else l[i]!
section
variable {α:Type} [Inhabited α] {f:Nat->α}{l:List α}{n i:Nat}
theorem uZ:(pR f l n).length=l.length:=by simp[pR]
theorem zx(hi:i<l.length):(pR f l n)[i]? = some (if i<n then f i else l[i]!):=by
 unfold pR
 rw[List.getElem?_map,List.getElem?_range hi];rfl
theorem NX(hi:i<l.length):(pR f l n)[i]! = if i<n then f i else l[i]!:=by
 rw[List.getElem!_eq_getElem?_getD,zx hi];rfl
theorem SW(hi:i<l.length)(h:n≤i):(pR f l n)[i]! = l[i]!:=by rw[NX hi,if_neg (by omega)]
theorem SX(hi:i<l.length)(h:i<n):(pR f l n)[i]! = f i:=by rw[NX hi,if_pos h]
theorem zy:pR f l 0=l:=by
 apply List.ext_getElem?
 intro i
 by_cases hi:i<l.length
 ·rw[zx hi,if_neg (by omega),getElem!_pos l i hi,List.getElem?_eq_getElem hi]
 ·rw[List.getElem?_eq_none (by rw[uZ];omega),List.getElem?_eq_none (by omega)]
theorem NW(h:l.length≤n):pR f l n=(List.range l.length).map f:=by
 unfold pR
 refine List.map_congr_left λi hi=>?_
 rw[if_pos (by have:=List.mem_range.1 hi;omega)]
theorem Gx(hn:n<l.length):(pR f l n).set n (f n)=pR f l (n+1):=by
 apply List.ext_getElem?
 intro i
 by_cases hi:i<l.length
 ·rw[zx hi,List.getElem?_set]
  by_cases e:n=i
  ·subst e
   rw[if_pos rfl,if_pos (by rw[uZ];exact hn),if_pos (by omega)]
  ·rw[if_neg e,zx hi]
   congr 1
   by_cases h:i<n
   ·rw[if_pos h,if_pos (by omega)]
   ·rw[if_neg h,if_neg (by omega)]
 ·rw[List.getElem?_eq_none (by rw[List.length_set,uZ];omega),List.getElem?_eq_none (by rw[uZ];omega)]
end
theorem Fq{r:aY}{a:Nat}(h:r.ok=true):(r.push a).ok=true∧(r.push a).len=r.len:=by
 have k:=kO h
 have e:(r.push a).len=r.len:=by simp[aY.push,aY.len]
 refine⟨?_,e⟩
 have hl:r.len=r.ae.length:=rfl
 have h1:(r.push a).At=(r.At+1) % r.len:=rfl
 have h2:=Int.emod_nonneg (r.At+1) (show r.len≠0 by omega)
 have h3:=Int.emod_lt_of_pos (r.At+1) (show 0<r.len by omega)
 unfold aY.ok inR
 rw[e,h1]
 simp only[Bool.and_eq_true,decide_eq_true_eq]
 omega
theorem iL{α:Type}[Inhabited α]{l:List α}{i:Nat}(h:i<l.length):l[i]! ∈ l:=by rw[getElem!_pos l i h];exact List.getElem_mem h
theorem goS{α:Type}{e:Nat}{r:Rep α}{P:Program}{f:FuncId}{args:Array Value}{xs:List α}{hb h:ab}{L:List Blk}{l:Nat}{K:Value->ab->Prop}(M:Mem hb h L)(k:af P f args (λu h'=>∃b' c' B,u = .slice b' l c'∧SlO e r B b' l c' xs∧Mem h h' B) h)(H:∀h' b' c' B,Mem hb h' (B++L)->SlO e r B b' l c' xs->K (.slice b' l c') h'):af P f args K h:=
 k.mono λu h' ⟨b',c',B,e,O,N⟩=>by subst e;exact H h' b' c' B (M.join N) O
end Go.Sx
