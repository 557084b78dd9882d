/- Lemmas. -/
import Derived.Test.YthgnpepchedpbaaGreatDoorLk0b
import Derived.Test.YthgnpepchedpbaaGreatDoorLk1
import Derived.Test.YthgnpepchedpbaaGreatDoorK5
import Derived.Laws.Strings2
set_option linter.unusedVariables false
set_option linter.unusedSimpArgs false
namespace Go.Sx
open Go.Proofs
set_option maxRecDepth 100000
set_option maxHeartbeats 1000000
def letter(n:Int):Bool:=decide (97≤n)&&decide (n≤122)
def vt(s:ByteArray):Bool:=(List.range s.size).all λi=>letter (hD s (i:Int))
def uo(s:ByteArray):Bool:=inR s.size 1 12&&vt s
theorem zj(l:List UInt8)(i:Nat):hD ⟨⟨l⟩⟩ (i:Int)=((l[i]?).map λb=>(b.toNat:Int)).getD 0:=by
 unfold hD
 rw[Int.toNat_natCast]
 congr 2
 by_cases h:i<l.length
 ·rw[List.getElem?_eq_getElem h]
  exact getElem?_pos (⟨⟨l⟩⟩:ByteArray) i h
 ·rw[List.getElem?_eq_none (by omega)]
  exact getElem?_neg (⟨⟨l⟩⟩:ByteArray) i h
theorem FM(s:ByteArray)(i:Int):0≤hD s i∧hD s i<256:=by
 unfold hD
 cases s[i.toNat]? with
 | none=>simp
 | some b=>have:=b.toNat_lt;simp;omega
theorem F8(l:List UInt8):vt ⟨⟨l⟩⟩=l.all λb=>letter (b.toNat:Int):=by
 unfold vt
 rw[Bool.eq_iff_iff]
 simp only[List.all_eq_true,List.mem_range]
 have hs:(⟨⟨l⟩⟩:ByteArray).size=l.length:=rfl
 rw[hs]
 constructor
 ·intro h b hb
  obtain⟨i,hi,rfl⟩:=List.mem_iff_getElem.1 hb
  have:=h i hi
  rw[zj,List.getElem?_eq_getElem hi] at this
  exact this
 ·intro h i hi
  rw[zj,List.getElem?_eq_getElem hi]
  exact h _ (List.getElem_mem hi)
theorem TM{s:ByteArray}{n:Nat}(h:s.size=n+1)(hl:letter (hD s (n:Int))=true):vt (s.extract 0 n)=vt s∧(s.extract 0 n).size=n:=by
 obtain⟨⟨l⟩⟩:=s
 have h:l.length=n+1:=h
 have e:(⟨⟨l⟩⟩:ByteArray).extract 0 n=⟨⟨l.take n⟩⟩:=by
  have:=ByteArray.extract_mk l 0 n
  simpa using this
 rw[e,F8,F8]
 rw[zj,List.getElem?_eq_getElem (by omega)] at hl
 refine⟨?_,by show(l.take n).length=n;rw[List.length_take];omega⟩
 conv=>rhs;rw[← List.take_append_drop n l]
 rw[List.all_append,List.drop_eq_getElem_cons (by omega),List.all_cons]
 have:l.drop (n+1)=[]:=List.drop_of_length_le (by omega)
 rw[this]
 have hl:letter ((l[n]'(by omega)).toNat:Int)=true:=hl
 rw[hl];simp
theorem PO{s:ByteArray}{n:Nat}(h:s.size=n+1)(hl:letter (hD s (0:Int))=true):vt (s.extract 1 s.size)=vt s∧(s.extract 1 s.size).size=n:=by
 obtain⟨⟨l⟩⟩:=s
 cases l with
 | nil=>cases h
 | cons b l=>
  have h:l.length+1=n+1:=h
  have e:(⟨⟨b :: l⟩⟩:ByteArray).extract 1 (⟨⟨b :: l⟩⟩:ByteArray).size=⟨⟨l⟩⟩:=by
   have:=ByteArray.extract_mk (b :: l) 1 (l.length+1)
   have e2:List.take (l.length+1-1) (List.drop 1 (b :: l))=l:=by simp
   rw[e2] at this
   exact this
  rw[e,F8,F8,List.all_cons]
  have hl:letter (b.toNat:Int)=true:=by
   have:=zj (b :: l) 0
   rw[show((0:Nat):Int)=0 from rfl] at this
   rw[this] at hl
   exact hl
  rw[hl]
  exact⟨by simp,by show l.length=n;omega⟩
theorem Sn{s:ByteArray}{i:Nat}(hi:i<s.size)(h:letter (hD s (i:Int))=false):vt s=false:=all_false (f:=λi=>letter (hD s (i:Int))) hi h
theorem PN{s:ByteArray}(h:s.size=0):vt s=true:=by unfold vt;rw[h];rfl
theorem Uy(s:ByteArray)(hs:s.size≤maxLen):Ret ak 152 #[.string s] (.bool (uo s)):=λh=>by
 have hm:=cu
 refine gn.call ?_
 refine loop (λx hh=>∃n:Nat,x=(s,(n:Int))∧n≤s.size∧hh=h∧∀i,i<n->letter (hD s (i:Int))=true) (λx=>(s.size-x.2).toNat) ⟨0,rfl,by omega,rfl,λi hi=>by omega⟩ ?_
 rintro x hh ⟨n,rfl,hn,rfl,hl⟩
 refine brd (λhc=>?_) λhc=>?_
 ·have no:letter (hD s (n:Int))=false->(Value.bool false = .bool (uo s)∧Ext hh hh):=λe=>⟨by unfold uo;rw[Sn (by omega) e,Bool.and_false],Ext.refl _⟩
  refine idx (by omega) (by omega) (brd (λh1=>no ?_) λh1=>idx (by omega) (by omega) (brd (λh2=>no ?_) λh2=>?_))
  ·unfold letter;rw[decide_eq_false (by omega),Bool.false_and]
  ·unfold letter;rw[decide_eq_false (p:=hD s (n:Int)≤122) (by omega),Bool.and_false]
  ·refine⟨⟨n+1,by rw[ag (by omega)],by omega,rfl,λi hi=>?_⟩,by rw[ag (by omega)];show _<_;simp;omega⟩
   by_cases e:i=n
   ·subst e;unfold letter;rw[decide_eq_true (by omega),decide_eq_true (by omega)];rfl
   ·exact hl i (by omega)
 ·have ha:vt s=true:=all_true λi hi=>hl i (by omega)
  exact(kQ _ _ _).go λh' x=>bt ⟨by unfold uo;rw[ha,Bool.and_true],x⟩
def abc:ByteArray:=⟨#[97,98,99,100,101,102,103,104,105,106,107,108,109,110,111,112,113,114,115,116,117,118,119,120,121,122]⟩
def vg(n:Nat):List Value:=(List.range 256).map λi=>.bool (decide (97≤i)&&decide (i<97+n))
theorem aeB:∀i:Fin 26,hD abc (i.val:Int)=((97+i.val:Nat):Int):=by decide +kernel
theorem Vh:(⟨kc⟩:Array Value)=⟨vg 0⟩:=by
 congr 1
theorem Hf{n i:Nat}(hi:i<256):(⟨vg n⟩:Array Value)[i]? = some (.bool (decide (97≤i)&&decide (i<97+n))):=by
 unfold vg
 simp[hi]
theorem Zb{n:Nat}(hn:n<26):(⟨vg n⟩:Array Value).setIfInBounds (97+n) (.bool true)=⟨vg (n+1)⟩:=by
 apply Array.ext_getElem?
 intro i
 rw[Array.getElem?_setIfInBounds]
 by_cases hi:i<256
 ·rw[Hf hi,Hf hi]
  by_cases e:97+n=i
  ·subst e
   rw[if_pos rfl,if_pos (by show 97+n<(vg n).length;unfold vg;simp;omega)]
   simp
  ·rw[if_neg e]
   congr 3
   rw[decide_eq_decide];omega
 ·rw[if_neg (by omega)]
  have k:∀m,(⟨vg m⟩:Array Value)[i]? = none:=λm=>by
   rw[Array.getElem?_eq_none]
   show(vg m).length≤i
   unfold vg;simp;omega
  rw[k,k]
theorem rN(n:Nat):(⟨vg n⟩:Array Value).size=256:=by show(vg n).length=256;unfold vg;simp
theorem OK(n:Nat):∀v ∈ (⟨vg n⟩:Array Value).toList,v.oneCell'=true:=λv hv=>by
 obtain⟨i,_,rfl⟩:=List.mem_map.1 (show v ∈ vg n from hv)
 rfl
theorem Gw(h:ab):af ak 302 #[.string abc] (λu h'=>u = .tuple ⟨[.agg ⟨vg 26⟩,.bool true]⟩∧Ext h h') h:=by
 have hs:abc.size=26:=rfl
 refine db.call ((Mem.start h).alc λg h1 x1 M=>?_)
 refine loop (λx hh=>∃n:Nat,x=(abc,⟨g,0,none⟩,(n:Int))∧n≤26∧Mem h hh [(g,331,⟨vg n⟩)]) (λx=>(26-x.2.2).toNat) ⟨0,rfl,by omega,by rw[← Vh];exact M⟩ ?_
 rintro x hh ⟨n,rfl,hn,M⟩
 refine brd (λhc=>?_) λhc=>?_
 ·have hb:hD abc (n:Int)=((97+n:Nat):Int):=aeB ⟨n,by omega⟩
  refine idx (by omega) (by omega) (brd (λh1=>by omega) λh1=>idx (by omega) (by omega) ?_)
  rw[hb,Int.toNat_natCast,Nat.mul_one,dQ,Nat.zero_add]
  refine M.st1 .here (by rw[rN];omega) .here λh2 M=>?_
  rw[Zb (by omega)] at M
  exact⟨⟨n+1,by rw[ag (by omega)],by omega,M⟩,by rw[ag (by omega)];show _<_;simp;omega⟩
 ·obtain rfl:n=26:=by omega
  refine M.df .here (rN _) (M.dH .here (rN _) (OK _) (rN _) .here λh2 M=>M.df .here (rN _) ⟨rfl,M.ext⟩)
theorem FP{h0 h:ab}{L:List Blk}{g:Nat}(M:Mem h0 h L)(l:gi L g ⟨vg 26⟩){n:Int}(h1:0≤n)(h2:n<256):
  af ak 314 #[.pointer (some ⟨g,0,none⟩),.int .u8 n] (λu h'=>u = .bool (letter n)∧Ext h h') h:=by
 refine iM.call (idx h1 (by omega) ?_)
 rw[Nat.mul_one,dQ,Nat.zero_add]
 refine o_b ((M.cell l _).trans (Hf (by omega))) ⟨?_,Ext.refl _⟩
 congr 1
 unfold letter
 rw[Bool.eq_iff_iff]
 simp only[Bool.and_eq_true,decide_eq_true_eq]
 omega
theorem Pd{h0 h:ab}{L:List Blk}{g:Nat}(M:Mem h0 h L)(l:gi L g ⟨vg 26⟩)(s:ByteArray)(hs:s.size≤maxLen):
  af ak 304 #[.string s,.pointer (some ⟨g,0,none⟩)] (λu h'=>(∃r:ByteArray,u = .string r∧r.size≤s.size∧vt r=vt s)∧Ext h h') h:=by
 have hm:=cu
 refine cH.call ?_
 refine loop (λx hh=>∃r:ByteArray,x=(r,⟨g,0,none⟩)∧r.size≤s.size∧vt r=vt s∧Ext h hh) (λx=>x.1.size) ⟨s,rfl,by omega,rfl,Ext.refl _⟩ ?_
 rintro x hh ⟨r,rfl,h1,h2,X⟩
 refine brd (λhc=>?_) λhc=>⟨⟨r,rfl,h1,h2⟩,X⟩
 obtain⟨n,hn⟩:=Nat.exists_eq_succ_of_ne_zero (show r.size≠0 by omega)
 have e:IntKind.i64.wrap ((r.size:Int)-1)=(n:Int):=by rw[wrap64 (by omega) (by omega)];omega
 rw[e]
 have hb:=FM r (n:Int)
 refine idx (by omega) (by omega) (goX (FP (M.grow X) l hb.1 hb.2) λh3 x3=>bt (br (λhz=>⟨⟨r,rfl,h1,h2⟩,X.trans x3⟩) λhz=>slb (by omega) (by omega) (by omega) ?_))
 rw[Int.toNat_natCast]
 obtain⟨k1,k2⟩:=TM (n:=n) hn (nf hz)
 exact⟨⟨_,rfl,by omega,by rw[k1,h2],X.trans x3⟩,by show(r.extract 0 n).size<r.size;omega⟩
theorem Sc{h0 h:ab}{L:List Blk}{g:Nat}(M:Mem h0 h L)(l:gi L g ⟨vg 26⟩)(s:ByteArray)(hs:s.size≤maxLen):
  af ak 303 #[.string s,.pointer (some ⟨g,0,none⟩)] (λu h'=>(∃r:ByteArray,u = .string r∧(r.size=0↔vt s=true))∧Ext h h') h:=by
 have hm:=cu
 refine cL.call ?_
 refine loop (λx hh=>∃r:ByteArray,x=(r,⟨g,0,none⟩)∧r.size≤s.size∧vt r=vt s∧Ext h hh) (λx=>x.1.size) ⟨s,rfl,by omega,rfl,Ext.refl _⟩ ?_
 rintro x hh ⟨r,rfl,h1,h2,X⟩
 refine brd (λhc=>?_) λhc=>⟨⟨r,rfl,λ_=>by rw[← h2];exact PN (by omega),λ_=>by omega⟩,X⟩
 obtain⟨n,hn⟩:=Nat.exists_eq_succ_of_ne_zero (show r.size≠0 by omega)
 have hb:=FM r 0
 refine idx (by omega) (by omega) (goX (FP (M.grow X) l hb.1 hb.2) λh3 x3=>bt (br (λhz=>⟨⟨r,rfl,λe=>by omega,λe=>?_⟩,X.trans x3⟩) λhz=>slb (by omega) (by omega) (by omega) ?_))
 ·have:=Sn (s:=r) (i:=0) (by omega) (nt hz)
  rw[h2,e] at this;cases this
 ·obtain⟨k1,k2⟩:=PO (n:=n) hn (nf hz)
  exact⟨⟨_,rfl,by omega,by rw[k1,h2],X.trans x3⟩,by show(r.extract 1 r.size).size<r.size;omega⟩
theorem Ke{s:ByteArray}:(s=⟨#[]⟩)↔s.size=0:=by
 constructor
 ·rintro rfl;rfl
 ·obtain⟨⟨l⟩⟩:=s
  intro h
  have:l=[]:=List.eq_nil_of_length_eq_zero h
  rw[this]
theorem Xz(s:ByteArray)(hs:s.size≤maxLen):Ret ak 227 #[.string s] (.bool (uo s)):=λh=>by
 refine yB.call ((js _ _ _).go λh1 x1=>bt (br (λhb=>?_) λhb=>⟨by unfold uo;rw[hb];rfl,x1⟩))
 have fin:∀{r:ByteArray}{h':ab},(r.size=0↔vt s=true)->Ext h h'->(Value.bool (r.toList==(⟨#[]⟩:ByteArray).toList) = .bool (uo s)∧Ext h h'):=λhr x=>⟨by
  unfold uo
  rw[hb,Bool.true_and,Hl]
  congr 1
  rw[Bool.eq_iff_iff,decide_eq_true_iff,Ke,hr],x⟩
 refine cD.call ?_
 have By:¬s=⟨#[]⟩:=λe=>by
  rw[Ke] at e
  rw[e] at hb;cases hb
 rw[cD.S,Hl,Hl]
 refine cM (decide_eq_false By) (cM (by decide +kernel) ?_)
 unfold cD.J3
 refine cM (by decide +kernel) ?_
 unfold cD.J4
 refine cM rfl ?_
 unfold cD.J5
 refine goX (Gw h1) λh2 x2=>jJ (gw (bt ((Mem.start h2).alc λg h3 x3 M=>M.dH .here (rN _) (OK _) rfl .here λh4 M=>vu rfl ?_)))
 refine(Pd M .here s hs).mono ?_
 rintro _ h5 ⟨⟨r,rfl,r1,r2⟩,x5⟩
 refine TN ((Sc (M.grow x5) .here r (by omega)).mono ?_)
 rintro _ h6 ⟨⟨q,rfl,hq⟩,x6⟩
 refine TN (TN ?_)
 rw[r2] at hq
 exact fin hq (((x1.trans x2).trans M.ext).trans (x5.trans x6))
theorem xI{h:ab}{b:Option Addr}{l c:Nat}{xs:List Nat}(S:SlR (rF .f32) h b l c xs)(hl:l≤1048576):
  af ak 111 #[.slice b l c] (λu h'=>∃b' c' B,u = .slice b' l c'∧SlO 22 (rF .f32) B b' l c' xs∧Mem h h' B) h:=by
 refine hO.call (KT BD (br (λhb=>?_) λhb=>?_))
 ·obtain rfl:b=none:=by simpa using hb
  obtain⟨h1,h2,h3,ws,C,R⟩:=S
  have hw:ws=[]:=by
   cases ws with
   | nil=>rfl
   | cons w ws=>obtain⟨a,e,_⟩:=C 0 (by simp);cases e
  subst hw
  have hx:=R.len
  have:l=0:=by rw[← h1];have e:(rF .f32).sz=1:=rfl;rw[e] at hx;simpa using hx.symm
  subst this
  obtain rfl:xs=[]:=List.eq_nil_of_length_eq_zero h1
  exact⟨none,0,[],rfl,SlO.nil,Mem.start h⟩
 ·refine(Mem.start h).alc λg h1 x1 M=>?_
  refine jZ lD (by decide) (u0 _) (S.ext x1) M (by omega) λb' c' h' B' O' M'=>lR ⟨b',c',B',rfl,O',by simpa using M'⟩
theorem LP{b:Option Addr}{l c:Nat}{B:List Blk}{r:aY}(O:SlO 22 (rF .f32) B b l c r.ae):bQ.ow B [.slice b l c,.int .i64 r.At] r:=
 ⟨B,[],[.slice b l c],[.int .i64 r.At],by simp,rfl,⟨b,l,c,rfl,O⟩,rfl,rfl⟩
theorem Un{h:ab}{q:Addr}{r:aY}(R:RdP bQ h q r)(hl:r.ae.length≤1048576):af ak 207 #[.pointer (some q)] (λu h'=>mN bQ h h' u r) h:=by
 refine wu.call ((Mem.start h).alc λg h1 x1 M=>?_)
 have R1:=R.ext x1
 refine R1.oL1 λb l c S=>R1.oI ?_
 have hls:=S.len
 refine(Mem.start h1).alc λg2 h2 x2 N=>?_
 refine(R1.foc mG).pin rfl x2 ((R1.fst lK).pin rfl x2 ?_)
 refine jZ lD (by decide) (u0 _) (S.ext x2) N (by omega) λb' c' h3 B' O N=>lR ?_
 refine(R1.foc mG).pin rfl N.ext ?_
 have M:=(M.join N).perm List.perm_append_comm
 rw[List.append_nil] at M
 refine M.dH .here rfl (dI rfl) rfl .here λh4 M=>M.df .here rfl ?_
 exact⟨_,B',rfl,LP O,M.sub (List.sublist_cons_self _ _)⟩
theorem Kr{h:ab}{cs:Array Value}{r:aY}(R:bQ.rd h cs.toList r)(hl:r.ae.length≤1048576):af ak 223 #[.agg cs] (λu h'=>mN bQ h h' u r) h:=by
 refine qp.call ((Mem.start h).alc λg h1 x1 M=>M.alc λg2 h2 x2 M=>?_)
 have R1:RdP bQ h2 ⟨g,0,none⟩ r:=M.rdp (.there .here) (bQ.ext M.ext R)
 refine R1.oL2 λb l c S=>R1.oI2 ?_
 have hls:=S.len
 refine(xI S (by omega)).mono ?_
 rintro _ h3 ⟨b',c',B',rfl,O,N⟩
 refine lR ?_
 refine(R1.WJ mG).pin rfl N.ext ?_
 have M:=(M.join N).perm List.perm_append_comm
 refine M.dH .here rfl (dI rfl) rfl .here λh4 M=>M.df .here rfl ?_
 exact⟨_,B',rfl,LP O,M.sub ((List.sublist_cons_self _ _).trans (List.sublist_cons_self _ _))⟩
theorem kO{r:aY}(h:r.ok=true):0≤r.At∧r.At.toNat<r.ae.length∧1≤r.ae.length∧r.ae.length≤1024∧r.At<r.ae.length:=by
 unfold aY.ok inR aY.len at h
 simp only[Bool.and_eq_true,decide_eq_true_eq] at h
 obtain⟨⟨h1,h2⟩,h3,h4⟩:=h
 refine⟨h3,?_,?_,?_,?_⟩ <;> omega
theorem Kh{r:aY}(h:r.ok=true){l:Nat}(hl:r.ae.length=l):Int.tmod (IntKind.i64.wrap (r.At+1)) (l:Int)=(r.At+1) % r.len:=by
 have:=kO h
 rw[wrap64 (by omega) (by omega),aY.len,hl,Int.tmod_eq_emod_of_nonneg (by omega)]
theorem oK{h0 h:ab}{q:Addr}{F:Fr}{L:List Blk}{r:aY}{x a:Nat}(P:Pt bQ h0 h q F L r)(hr:r.ok=true)(hx:FW .f32 x a):
  af ak 187 #[.pointer (some q),.float .f32 x] (λu h'=>(∃y,u = .float .f32 y∧FW .f32 y r.old)∧Pt bQ h0 h' q F L (r.push a)) h:=by
 obtain⟨b,l,c,hb,S⟩:=P.Ua
 obtain⟨k1,k2,k3,k4,k5⟩:=kO hr
 have hl:=S.len
 refine wx.call (o_l hb (P.rd.oI (S.idx (by decide) k1 (by omega) λp Rp=>Rp.oF1 λy hy=>o_l hb (P.rd.oI ?_))))
 obtain⟨a0,F',L',rfl,P',hs,close⟩:=P.SB hb (i:=r.At.toNat) (by omega)
 refine idxs k1 (by omega) (P'.Vj hx λh1 P1=>?_)
 obtain⟨P2,U9⟩:=close _ _ _ P1
 refine P2.rd.oI (o_l U9 (nz (by omega) (P2.stI λh2 P3=>⟨⟨y,rfl,hy⟩,?_⟩)))
 rw[Kh hr hl] at P3
 exact P3
theorem kV{h0 h:ab}{q:Addr}{F:Fr}{L:List Blk}{r:aY}{x a:Nat}(P:Pt bQ h0 h q F L r)(hr:r.ok=true)(hx:FW .f32 x a):
  af ak 241 #[.pointer (some q),.float .f32 x] (λu h'=>(∃y,u = .float .f32 y∧FW .f32 y r.old)∧Pt bQ h0 h' q F L (r.push a)) h:=by
 obtain⟨b,l,c,hb,S⟩:=P.Ua
 obtain⟨k1,k2,k3,k4,k5⟩:=kO hr
 have hl:=S.len
 refine oU.call (o_l hb (P.rd.oI (S.idx (by decide) k1 (by omega) λp Rp=>Rp.oF1 λy hy=>o_l hb (P.rd.oI ?_))))
 obtain⟨a0,F',L',rfl,P',hs,close⟩:=P.SB hb (i:=r.At.toNat) (by omega)
 refine idxs k1 (by omega) (P'.Vj hx λh1 P1=>?_)
 obtain⟨P2,U9⟩:=close _ _ _ P1
 refine P2.rd.oI (o_l U9 ((iK _ _ _).go λh2 x2=>cN ((P2.rd.foc mG).pin rfl x2 (nz (by omega) ((P2.grow x2).stI λh2 P3=>⟨⟨y,rfl,hy⟩,?_⟩)))))
 rw[Kh hr hl] at P3
 exact P3
theorem va{h:ab}{cs:Array Value}{r:aY}(R:bQ.rd h cs.toList r)(hr:r.ok=true):af ak 243 #[.agg cs] (λu h'=>(∃y,u = .float .f32 y∧FW .f32 y r.old)∧Ext h h') h:=by
 obtain⟨k1,k2,k3,k4,k5⟩:=kO hr
 refine oC.call (gD R λg h1 x1 R1=>R1.oL2 λb l c S=>R1.oI2 ?_)
 have hl:=S.len
 exact S.idx (by decide) k1 (by omega) λp Rp=>Rp.oF1 λy hy=>⟨⟨y,rfl,hy⟩,x1⟩
theorem Uo(k:Int):Ret ak 296 #[.int .i64 k] (.tuple ⟨[.int .i64 (qT k),.int .i64 (o6 k)]⟩):=λh=>by
 refine rq.call ?_
 unfold rq.S
 repeat' refine br (λ_=>?_) (λ_=>?_)
 all_goals (refine⟨?_,Ext.refl _⟩;simp_all [qT,o6])
def Kk(k:Int):Int:=if inR k 1 5 then qT k else 0
def Tt(k:Int):Int:=if inR k 1 5 then o6 k else 0
theorem ah9(k:Int):Ret ak 298 #[.int .i64 k] (.tuple ⟨[.int .i64 (Kk k),.int .i64 (Tt k)]⟩):=λh=>by
 refine zr.call ?_
 unfold zr.S
 repeat' refine br (λ_=>?_) (λ_=>?_)
 all_goals (refine⟨?_,Ext.refl _⟩;simp_all [Kk,Tt,qT,o6,inR])
 all_goals omega
def iP(l:List Nat)(n:Int)(i:Nat):Bool:=fin l[i]! && (decide ((i:Int)<n)||l[i]! == 0)
theorem Nt{h:ab}{b:Option Addr}{l c:Nat}{xs:List Nat}(S:SlR (rF .f32) h b l c xs)(n:Int):af ak 299 #[.slice b l c,.int .i64 n] (λu h'=>u = .bool (used xs n)∧Ext h h') h:=by
 refine gX.call ?_
 have Fi:=S.2.2.1
 have VF:=S.2.1
 have:=cu
 have hl:=S.len
 refine loop (λx hh=>∃m:Nat,x=(n,b,l,c,(l:Int),(m:Int))∧m≤l∧Ext h hh∧∀i,i<m->iP xs n i=true) (λx=>(l-x.2.2.2.2.2).toNat) ⟨0,rfl,by omega,Ext.refl _,λi hi=>by omega⟩ ?_
 rintro x hh ⟨m,rfl,hn,X,hf⟩
 refine brd (λhc=>?_) λhc=>?_
 ·refine(S.ext X).idx (by decide) (by omega) (by omega) λa Ra=>Ra.oF1 λy hy=>?_
  have no:∀{h'},Ext h h'->iP xs n m=false->((Value.bool false = .bool (used xs n))∧Ext h h'):=λx e=>⟨by rw[show used xs n=false from all_false (i:=m) (by omega) e],x⟩
  have go:∀{h'},Ext h h'->iP xs n m=true->(∃Yn:Nat,((n,b,l,c,(l:Int),IntKind.i64.wrap ((m:Int)+1)):Int×Option Addr×Nat×Nat×Int×Int)=(n,b,l,c,(l:Int),(Yn:Int))∧Yn≤l∧Ext h h'∧∀i,i<Yn->iP xs n i=true)∧((l:Int)-IntKind.i64.wrap ((m:Int)+1)).toNat<((l:Int)-(m:Int)).toNat:=by
   intro h' x e
   rw[ag (by omega)]
   refine⟨⟨m+1,rfl,by omega,x,λi hi=>?_⟩,by omega⟩
   by_cases e':i=m
   ·subst e';exact e
   ·exact hf i (by omega)
  refine(mw hy).go λh1 x1=>bt (br (λhb=>no (X.trans x1) ?_) λhb=>?_)
  ·rw[iP,show fin xs[m]! = false by simpa using hb];rfl
  have hb:fin xs[m]! = true:=by simpa using hb
  refine brd (λh2=>?_) λh2=>go (X.trans x1) ?_
  ·refine(FK hy).go λh3 x3=>cN (br (λNl=>no ((X.trans x1).trans x3) ?_) λNl=>go ((X.trans x1).trans x3) ?_)
   ·rw[iP,hb,decide_eq_false (by omega),Bool.true_and,Bool.false_or]
    have Nl:(xs[m]! : Int)≠0:=by simpa using Nl
    exact beq_false_of_ne (by omega)
   ·rw[iP,hb,decide_eq_false (by omega),Bool.true_and,Bool.false_or]
    have Nl:(xs[m]! : Int)=0:=by simpa using Nl
    exact beq_iff_eq.2 (by omega)
  ·rw[iP,hb,decide_eq_true (by omega)];rfl
 ·refine⟨?_,X⟩
  rw[show used xs n=true from all_true λi hi=>hf i (by omega)]
theorem Vt(k:Int):decide (0<Kk k)=inR k 1 5:=by
 unfold Kk
 split
 ·next h=>rw[h];apply decide_eq_true;unfold qT;split <;> (try split) <;> omega
 ·next h=>rw[Bool.not_eq_true] at h;rw[h];rfl
theorem Ib{h:ab}{cs:Array Value}{f:cz}(R:cx.rd h cs.toList f):af ak 274 #[.agg cs] (λu h'=>u = .bool f.ok∧Ext h h') h:=by
 refine oE.call (gD R λg h1 x1 R1=>R1.oI2 ((ah9 _).go λh2 x2=>jJ (cN (cN ?_))))
 rw[Vt]
 have X2:=x1.trans x2
 have R2:=R1.ext x2
 refine br (λhb=>?_) λhb=>⟨by rw[cz.ok,hb];rfl,X2⟩
 have e1:Kk f.Kind=qT f.Kind:=by rw[Kk,if_pos hb]
 have e2:Tt f.Kind=o6 f.Kind:=by rw[Tt,if_pos hb]
 rw[e1,e2]
 refine slb (by omega) (by omega) (by omega) ?_
 rw[CH]
 refine(Nt ((R2.WJ dU).arr (by decide)) _).mono ?_
 rintro _ h3 ⟨rfl,x3⟩
 refine bt (br (λhc=>?_) λhc=>⟨by rw[cz.ok,hb,hc];rfl,X2.trans x3⟩)
 refine slb (by omega) (by omega) (by omega) ?_
 rw[CH]
 refine(Nt (((R2.ext x3).WJ dx).arr (by decide)) _).mono ?_
 rintro _ h4 ⟨rfl,x4⟩
 exact bt ⟨by rw[cz.ok,hb,hc];rfl,(X2.trans x3).trans x4⟩
theorem Gm{h:ab}{cs:Array Value}{f:cz}(R:cx.rd h cs.toList f)(k:Int):af ak 218 #[.agg cs,.int .i64 k] (λu h'=>u = .bool (f.ok&&f.Kind==k)∧Ext h h') h:=by
 refine ub.call (gD R λg h1 x1 R1=>R1.jc rfl λBP Rc=>(Ib Rc).mono ?_)
 rintro _ h2 ⟨rfl,x2⟩
 refine bt (br (λhb=>(R1.ext x2).oI2 ⟨by rw[hb];rfl,x1.trans x2⟩) λhb=>⟨by rw[hb];rfl,x1.trans x2⟩)
theorem Lt{h:ab}{q:Addr}{f:cz}(R:RdP cx h q f):af ak 261 #[.pointer (some q)] (λu h'=>u = .bool f.ok∧Ext h h') h:=by
 have hC:=(R.foc dU).len
 have hS:=(R.foc dx).len
 refine eA.call (R.oI1 ((kQ _ _ _).go λh1 x1=>bt (br (λhb=>⟨by rw[cz.ok,show inR f.Kind 1 5=false by simpa using hb];rfl,x1⟩) λhb=>?_)))
 have hb:inR f.Kind 1 5=true:=by simpa using hb
 refine(R.ext x1).oI1 ((Uo _).go λh2 x2=>jJ (cN (cN ?_)))
 have X2:=x1.trans x2
 refine loop (λx hh=>∃m:Nat,x=(q,qT f.Kind,o6 f.Kind,(m:Int))∧m≤3∧Ext h hh∧∀i,i<m->iP f.C (qT f.Kind) i=true) (λx=>(3-x.2.2.2).toNat) ⟨0,rfl,by omega,X2,λi hi=>by omega⟩ ?_
 rintro x hh ⟨m,rfl,hn,X,hf⟩
 refine brd (λhc=>?_) λhc=>?_
 ·refine idx (by omega) (by omega) ?_
  have Ra:=((R.ext X).foc dU).elem (i:=m) (by omega)
  refine Ra.oF1 λy hy=>?_
  have no:∀{h'},Ext h h'->iP f.C (qT f.Kind) m=false->((Value.bool false = .bool f.ok)∧Ext h h'):=λx e=>⟨by rw[cz.ok,hb,show used f.C _=false from all_false (i:=m) (by omega) e];rfl,x⟩
  have go:∀{h'},Ext h h'->iP f.C (qT f.Kind) m=true->(∃Yn:Nat,((q,qT f.Kind,o6 f.Kind,IntKind.i64.wrap ((m:Int)+1)):Addr×Int×Int×Int)=(q,qT f.Kind,o6 f.Kind,(Yn:Int))∧Yn≤3∧Ext h h'∧∀i,i<Yn->iP f.C (qT f.Kind) i=true)∧((3:Int)-IntKind.i64.wrap ((m:Int)+1)).toNat<((3:Int)-(m:Int)).toNat:=by
   intro h' x e
   rw[ag (by omega)]
   refine⟨⟨m+1,rfl,by omega,x,λi hi=>?_⟩,by omega⟩
   by_cases e':i=m
   ·subst e';exact e
   ·exact hf i (by omega)
  refine(jm hy).go λh1 x1=>bt (br (λhb=>no (X.trans x1) ?_) λhb=>?_)
  ·rw[iP,show fin f.C[m]! = false by simpa using hb];rfl
  have hb:fin f.C[m]! = true:=by simpa using hb
  refine brd (λh2=>?_) λh2=>go (X.trans x1) ?_
  ·refine idx (by omega) (by omega) ((Ra.ext x1).oF1 λy hy=>(zu hy fw0).go λh3 x3=>bt (br (λNl=>no ((X.trans x1).trans x3) ?_) λNl=>go ((X.trans x1).trans x3) ?_))
   ·rw[iP,hb,decide_eq_false (by omega),Bool.true_and,Bool.false_or]
    simpa using Nl
   ·rw[iP,hb,decide_eq_false (by omega),Bool.true_and,Bool.false_or]
    simpa using Nl
  ·rw[iP,hb,decide_eq_true (by omega)];rfl
 have hCu:used f.C (qT f.Kind)=true:=all_true λi hi=>hf i (by omega)
 refine loop (λx hh=>∃m:Nat,x=(q,o6 f.Kind,(m:Int))∧m≤2∧Ext h hh∧∀i,i<m->iP f.S (o6 f.Kind) i=true) (λx=>(2-x.2.2).toNat) ⟨0,rfl,by omega,X,λi hi=>by omega⟩ ?_
 rintro x hh ⟨m,rfl,hn,X,hf⟩
 refine brd (λhc=>?_) λhc=>?_
 ·refine idx (by omega) (by omega) ?_
  have Ra:=((R.ext X).foc dx).elem (i:=m) (by omega)
  refine Ra.oF1 λy hy=>?_
  have no:∀{h'},Ext h h'->iP f.S (o6 f.Kind) m=false->((Value.bool false = .bool f.ok)∧Ext h h'):=λx e=>⟨by rw[cz.ok,hb,show used f.S _=false from all_false (i:=m) (by omega) e,Bool.and_false],x⟩
  have go:∀{h'},Ext h h'->iP f.S (o6 f.Kind) m=true->(∃Yn:Nat,((q,o6 f.Kind,IntKind.i64.wrap ((m:Int)+1)):Addr×Int×Int)=(q,o6 f.Kind,(Yn:Int))∧Yn≤2∧Ext h h'∧∀i,i<Yn->iP f.S (o6 f.Kind) i=true)∧((2:Int)-IntKind.i64.wrap ((m:Int)+1)).toNat<((2:Int)-(m:Int)).toNat:=by
   intro h' x e
   rw[ag (by omega)]
   refine⟨⟨m+1,rfl,by omega,x,λi hi=>?_⟩,by omega⟩
   by_cases e':i=m
   ·subst e';exact e
   ·exact hf i (by omega)
  refine(jm hy).go λh1 x1=>bt (br (λhb=>no (X.trans x1) ?_) λhb=>?_)
  ·rw[iP,show fin f.S[m]! = false by simpa using hb];rfl
  have hb:fin f.S[m]! = true:=by simpa using hb
  refine brd (λh2=>?_) λh2=>go (X.trans x1) ?_
  ·refine idx (by omega) (by omega) ((Ra.ext x1).oF1 λy hy=>(zu hy fw0).go λh3 x3=>bt (br (λNl=>no ((X.trans x1).trans x3) ?_) λNl=>go ((X.trans x1).trans x3) ?_))
   ·rw[iP,hb,decide_eq_false (by omega),Bool.true_and,Bool.false_or]
    simpa using Nl
   ·rw[iP,hb,decide_eq_false (by omega),Bool.true_and,Bool.false_or]
    simpa using Nl
  ·rw[iP,hb,decide_eq_true (by omega)];rfl
 ·refine⟨?_,X⟩
  rw[cz.ok,hb,hCu,show used f.S _=true from all_true λi hi=>hf i (by omega)];rfl
end Go.Sx
