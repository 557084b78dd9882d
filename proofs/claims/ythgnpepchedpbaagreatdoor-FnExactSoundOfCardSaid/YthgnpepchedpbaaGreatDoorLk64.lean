/- Lemmas. -/
import Derived.Test.YthgnpepchedpbaaGreatDoorLk60
import Derived.Test.YthgnpepchedpbaaGreatDoorLk35
import Derived.Test.YthgnpepchedpbaaGreatDoorTab
import Derived.Test.YthgnpepchedpbaaGreatDoorLk4
import Derived.Test.YthgnpepchedpbaaGreatDoorLh0
set_option linter.unusedVariables false
set_option linter.unusedSimpArgs false
namespace Go.Sx
open Go.Proofs
set_option maxRecDepth 100000
set_option maxHeartbeats 2000000
def plN(sc:List Value)(b:Option Addr)(l c:Nat)(n7 n8 n9:Int):List Value:=sc++[.slice b l c,.int .i64 n7,.int .i64 n8,.int .i64 n9]
theorem alB{y1 y2 y3:Nat}{b1 b2 b3 b:Option Addr}{l1 c1 l2 c2 l3 c3 l c:Nat}{n7 n8 n9:Int}:∀v ∈ (⟨plN (scC y1 y2 y3 b1 l1 c1 b2 l2 c2 b3 l3 c3) b l c n7 n8 n9⟩:Array Value).toList,v.oneCell'=true:=dI rfl
structure aC.am3 (p:aC):Prop where
 s:p.Score.ok=true
 n6:p.al.length≤6
 v:∀v ∈ p.al,v.small
section
variable {h:ab}{q:Addr}{p:aC}
theorem an2{h0 hh:ab}{L:List Blk}{g T:Nat}{pc cs:List Value}{b:Option Addr}{i c:Nat}{B C:List Blk}{vs:List aK}{v:aK}{K:Value->ab->Prop}{ty:Nat}{hb:ab}(O:SlO 122 aQ B b i c vs)(hi:i<6)(Ov:aQ.ow C cs v)(M:Mem h0 hh ((g,T,⟨pc⟩) :: (B++(C++L))))(Hp:∀(h':ab) (p:Prop),Ext hh h'->p->PIN hb ⟨g,6,none⟩ 1 h' p)(H:∀b' c' h' B',SlO 122 aQ B' b' (i+1) c' (vs++[v])->Mem h0 h' ((g,T,⟨pc⟩) :: (B'++L))->K (.slice b' (i+1) c') h'):
  ALC ⟨cs⟩ 122 (λg1 h1=>PIN hb ⟨g,6,none⟩ 1 h1<|gC ak (Builtin.append_ #[49,49] ty #[.slice b i c,.slice (some ⟨g1,0,none⟩) 1 1]) K h1) hh:=by
 have hm:(7:Nat)≤maxLen:=by decide
 refine M.alc λg1 h1 x1 M1=>Hp _ _ x1 ?_
 have M2:Mem h0 h1 (B++(C++((g1,122,⟨cs⟩) :: (g,T,⟨pc⟩) :: L))):=M1.cnt (λp=>by simp only[bN,bu,bZ] at *;omega)
 refine O.app (news:=cs) (Bn:=C) Ev M2 (ys:=[v]) rfl ⟨C,[],cs,[],by simp,by simp,Ov,rfl,rfl⟩ (λj v hj=>?_) (by omega) (by omega) λb' c' h' B' O' M'=>H b' c' h' B' O' (M'.cnt (λp=>by simp only[bN,bu,bZ] at *;omega))
 rw[dQ,Nat.zero_add,M1.cell .here,← hj];simp
theorem apc(R:RdP bz h q p)(H:p.am3):af ak 59 #[.pointer (some q)] (λu h'=>mN bz h h' u p) h:=by
 have n6:=H.n6
 have A:∀{hh:ab},Ext h hh->RdP bz hh q p:=λe=>R.ext e
 refine aaE.call ((Mem.start h).alc λg1 h1 x1 M=>(A M.ext).oI ((A M.ext).oI ((A M.ext).oI ?_)))
 have A1:=A M.ext
 have key:∀{hh:ab}{g:Nat}{cs:Array Value}{B5:List Blk},bU.ow B5 cs.toList p.Score->Mem h1 hh ((g,51,⟨bm⟩) :: B5) ->
   STA 10 hh ⟨g,0,none⟩ ⟨List.set (List.set (List.set (eE 0 6 cs bm) 7 (.int .i64 p.mO)) 8 (.int .i64 p.Next)) 9 (.int .i64 p.ft)⟩ λh'=>aaE.J2 (λu h'=>mN bz h h' u p) q ⟨g1,0,none⟩ ⟨g,0,none⟩ h':=λ{hh g cs B5} O5 N=>by
  have Rc:=bU.look O5 N (List.sublist_cons_self _ _)
  obtain⟨y1,y2,y3,b1,l1,c1,b2,l2,c2,b3,l3,c3,rfl,_⟩:=tP Rc
  clear Rc
  have M:=(M.join N).cnt (W:=(g,51,⟨bm⟩) :: ([]++(B5++[(g1,51,⟨bm⟩)])))
  refine M.dH (vs:=⟨plN (scC y1 y2 y3 b1 l1 c1 b2 l2 c2 b3 l3 c3) none 0 0 p.mO p.Next p.ft⟩) .here rfl alB rfl .here λh7 M=>?_
  unfold aaE.J2
  refine loop (λy hh=>∃(i:Nat) (b:Option Addr) (c:Nat) (B:List Blk),y=(q,⟨g1,0,none⟩,⟨g,0,none⟩,(i:Int))∧i≤p.al.length∧SlO 122 aQ B b i c (p.al.take i)∧Mem h hh ((g,51,⟨plN (scC y1 y2 y3 b1 l1 c1 b2 l2 c2 b3 l3 c3) b i c p.mO p.Next p.ft⟩) :: (B++(B5++[(g1,51,⟨bm⟩)]))))
   (λy=>((p.al.length:Int)-y.2.2.2).toNat) ⟨0,none,0,[],rfl,by omega,SlO.nil,M⟩ ?_
  rintro y hh ⟨i,b,c,B,rfl,hi,O,M⟩
  unfold aaE.B3
  simp only[mR]
  refine(A M.ext).oL λb1' lA c1' S=>?_
  have e1:=S.len
  refine brd (λhc=>?_) λhc=>?_
  ·refine o_l (M.cell .here 6) ((A M.ext).oL λb2' lB c2' S2=>?_)
   have e2:=S2.len
   refine S2.idn (by decide) (by omega) λa Ra=>(akv Ra (H.v _ (iL (by omega)))).mono ?_
   rintro _ h8 ⟨c8,B8,rfl,O8,N8⟩
   have x8:=N8.ext
   have M8:=M.join N8
   have s8:c8.size=45:=osz O8 rfl
   refine gw (M.Ov .here (by show 6<10;decide) x8 (siz s8 ?_))
   obtain⟨C,Ov,hC⟩:=aln vm (Foc.here aQ) rfl O8
   have M8:=M8.cnt (W:=(g,51,⟨plN (scC y1 y2 y3 b1 l1 c1 b2 l2 c2 b3 l3 c3) b i c p.mO p.Next p.ft⟩) :: (B++(C++(B5++[(g1,51,⟨bm⟩)])))) (λp=>by have:=hC p;simp only[List.append_eq,bN,bu,bZ] at *;omega)
   refine an2 O (by omega) Ov M8 (λh' p x H=>M.Ov .here (by show 6<10;decide) (x8.trans x) H) λb' c' h9 B' O' M=>lR (M.st1 .here (by show 6<10;decide) .here λgv M=>?_)
   rw[← vk (by omega)] at O'
   exact⟨⟨i+1,b',c',B',by rw[ag (by omega)],by omega,O',M⟩,by rw[ag (by omega)];show _<_;simp;omega⟩
  ·obtain rfl:i=p.al.length:=by omega
   rw[List.take_length] at O
   refine M.df .here rfl ?_
   have M:=M.cnt (W:=(g1,51,⟨bm⟩) :: (B5++B))
   exact M.dH .here rfl alB rfl .here λh3 M=>M.df .here rfl ⟨_,B5++B,rfl,K5 O5 O _ _ _,M.drop⟩
 refine⟨?_,?_⟩
 ·refine mN.go (Mem.start h1) (Uw (A1.fst gx) H.s) λh2 c2 B2 N O2 s2=>gw (A1.lN (by decide) N.ext (A1.lN (by decide) N.ext (A1.lN (by decide) N.ext (siz s2 (N.alc λg9 h3 x3 N=>A1.lN (by decide) N.ext (A1.lN (by decide) N.ext (A1.lN (by decide) N.ext ?_)))))))
  exact key O2 (N.cnt λp=>by simp only[List.append_eq,bN,bu,bZ];omega)
 ·refine(Mem.start h1).alc λg9 h2 x2 N=>A1.lN (by decide) N.ext (A1.lN (by decide) N.ext (A1.lN (by decide) N.ext (mN.go N (Uw ((A1.ext N.ext).fst gx) H.s) λh3 c2 B2 N O2 s2=>gw (A1.lN (by decide) N.ext (A1.lN (by decide) N.ext (A1.lN (by decide) N.ext (siz s2 ?_)))))))
  exact key O2 (N.cnt λp=>by simp only[List.append_eq,bN,bu,bZ];omega)
end
noncomputable def aC.may(p:aC)(count UQ:Int):Int:=if p.ok=true then if inR count 0 UQ=true then if 200000<p.mO+count then 3 else 0 else 2 else 1
theorem alF:wI.small:=⟨(λr hr=>nomatch hr),(λr hr=>nomatch hr),Nat.zero_le _,Nat.zero_le _,Nat.zero_le _⟩
theorem am1{s:bI}{v:aK}(h:acy s v=true):v.small:=by
 have z1:iw.Loop.ae.length≤1048576:=Nat.zero_le _
 have z3:vl.bT.ae.length≤1048576:=Nat.zero_le _
 have z4:vl.aH.ae.length≤1048576:=Nat.zero_le _
 have ring:∀{r:aY},r.ok=true->r.ae.length≤1048576:=λh=>by have:=kO h;omega
 have okf:∀{r:aY},r.okf=true->r.ae.length≤1048576:=λh=>ring (by unfold aY.okf at h;rw[Bool.and_eq_true] at h;exact h.1)
 unfold acy at h
 split at h
 ·unfold aeU at h
  simp only[Bool.and_eq_true,acj] at h
  obtain⟨⟨⟨⟨⟨⟨h1,h2⟩,h3⟩,_⟩,_⟩,_⟩,_⟩:=h
  exact⟨by rw[h1];exact z1,by rw[h2];exact alF,by rw[h3];exact z3,by rw[h3];exact z4⟩
 ·split at h
  ·cases h
  ·simp only[Bool.and_eq_true] at h
   have hb:=h.2
   unfold aeJ at hb
   split at hb
   ·simp only[Bool.and_eq_true,acj] at hb
    obtain⟨⟨h1,h2⟩,h3⟩:=hb
    unfold bK.ok at h1
    simp only[Bool.and_eq_true] at h1
    exact⟨ring h1.1.1.1,by rw[h2];exact alF,by rw[h3];exact z3,by rw[h3];exact z4⟩
   ·split at hb
    ·simp only[Bool.and_eq_true,acj] at hb
     obtain⟨⟨h1,h2⟩,h3⟩:=hb
     exact⟨by rw[h1];exact z1,an0 h2,by rw[h3];exact z3,by rw[h3];exact z4⟩
    ·simp only[Bool.and_eq_true,acj] at hb
     obtain⟨⟨h1,h2⟩,h3⟩:=hb
     unfold iU.ok at h3
     simp only[Bool.and_eq_true] at h3
     exact⟨by rw[h1];exact z1,by rw[h2];exact alF,okf h3.1.1.1,okf h3.1.1.2⟩
theorem alq{p:aC}(h:p.ok=true){v:aK}(hv:v ∈ p.al):acy p.Score v=true:=by
 unfold aC.ok at h
 simp only[Bool.and_eq_true,List.all_eq_true,List.mem_range] at h
 obtain⟨i,hi,rfl⟩:=List.mem_iff_getElem.1 hv
 have:=h.2 i hi
 unfold Zv at this
 rw[getElem!_pos p.al i hi,Bool.and_eq_true] at this
 exact this.1
theorem alk{p:aC}(h:p.ok=true):p.am3:=⟨(ahn h).1.s,(ahn h).1.n6,λv hv=>am1 (alq h hv)⟩
section
variable {h:ab}{q:Addr}{p:aC}
theorem ar0{count UQ:Int}(R:RdP bz h q p)(hm:UQ≤1000000):af ak 58 #[.pointer (some q),.int .i64 count,.int .i64 UQ] (λu h'=>u = .int .i64 (p.may count UQ)∧Ext h h') h:=by
 refine aiH.call (goX (atY R) λh1 x1=>bt (brN (λe=>⟨by unfold aC.may;rw[e,if_neg (by decide)],x1⟩) λe1=>?_))
 obtain⟨_,n1,n2⟩:=ahn e1
 refine goE x1 (kQ _ _ _ _) λh2 x2=>bt (brN (λe=>⟨by unfold aC.may;rw[if_pos e1,e,if_neg (by decide)],x2⟩) λe2=>(R.ext x2).oI ?_)
 have hc:0≤count∧count≤UQ:=by simp only[inR,Bool.and_eq_true,decide_eq_true_eq] at e2;exact e2
 rw[wrap64 (n:=p.mO+count) (by omega) (by omega)]
 exact brd (λk=>⟨by unfold aC.may;rw[if_pos e1,if_pos e2,if_pos k],x2⟩) λk=>⟨by unfold aC.may;rw[if_pos e1,if_pos e2,if_neg k],x2⟩
end
set_option maxHeartbeats 1000000
section
variable {α β:Type}{r:Rep α}{s:Rep β}{P:Program}{h0 h:ab}{q:Addr}{F:Fr}{B L:List Blk}{d:α}{t e bytes ty:Nat}{b:Option Addr}{l c:Nat}{xs:List β}{K:Value->ab->Prop}
theorem Pt.push{cs:Array Value}{x:β}(Pa:Pt r h0 h q F (B++L) d)(E:xK P t e s.sz bytes)(O:SlO e s B b l c xs)(Ox:s.ow [] cs.toList x)(Nq:l+1≤maxLen)(yx:(l+1)*bytes≤140737488355328)(H:∀b' c' h' B',SlO e s B' b' (l+1) c' (xs++[x])->Pt r h0 h' q F (B'++L) d->K (.slice b' (l+1) c') h'):
  ALC cs e (λg h=>gC P (Builtin.append_ #[t,t] ty #[.slice b l c,.slice (some ⟨g,0,none⟩) 1 1]) K h) h:=by
 obtain⟨e1,iS,BR,M,OR⟩:=Pa
 refine Oz (Bn:=[]) (L:=(F.g,F.T,⟨F.pre++(iS++F.post)⟩) :: (BR++L)) E O (M.cnt λp=>by simp only[bN,bu,bZ];omega) Ox Nq yx λb' c' h' B' O' M'=>H b' c' h' B' O' ⟨e1,iS,BR,M'.cnt λp=>?_,OR⟩
 simp only[bN,bu,bZ];omega
end
def abq.B7(aa:VH)(a:(Int×Addr×Addr×Option Addr×Nat×Nat×Int)->ab->Prop):Int×Addr×Addr×Option Addr×Nat×Nat×Int->ab->Prop |(Fe,t4,Ot,aoH,aoM,aoK,ajE),h=> BIF (decide (ajE<Fe)) (af ak 42 #[.pointer (some Ot)] (λYU vC=> asF .f32 YU λMu=> ALC ⟨[.float .f32 Mu]⟩ 22 (λb AP=> gC ak (Builtin.append_ #[23,23] 23 #[.slice aoH aoM aoK,.slice (some ⟨b,0,none⟩) 1 1]) (λRB vD=> asL RB λapi apk apj=> a (Fe,t4,Ot,api,apk,apj,((IntKind.i64.wrap (ajE+1)))) vD) AP) vC) h) (LDA 10 h Ot λc=> STA 10 h t4 c λre=> LDA 10 re t4 λd=> aa (.tuple ⟨[.agg d,.slice aoH aoM aoK,.int .i64 0]⟩) re)
def abq.g7(fr:Frame):Int×Addr×Addr×Option Addr×Nat×Nat×Int:=((gI (ah fr 1)),(gP (ah fr 4)),(gP (ah fr 8)),(gLb (ah fr 9)),(gLl (ah fr 9)),(gLc (ah fr 9)),(gI (ah fr 10)))
def abq.l7(aa:VH):=gg (kds 31 [(1,.i .i64),(4,.p),(8,.p),(9,.l),(10,.i .i64)]) λfr=>bk (abq.B7 aa) (abq.g7 fr)
def abq.S(p_0:Array Value)(Fe:Int)(aa:VH)(h:ab):=ALC p_0 51 (λb f=> ALC ⟨bm⟩ 51 (λa g=> af ak 58 #[.pointer (some ⟨b,0,none⟩),.int .i64 Fe,.int .i64 4096] (λi c=> asI .i64 i λd=> BIF (d !=0) (ALC ⟨[]⟩ 22 (λj k=> STA 10 k ⟨a,0,none⟩ ⟨bm⟩ λgv=> LDA 10 gv ⟨a,0,none⟩ λzi=> aa (.tuple ⟨[.agg zi,.slice (some ⟨j,0,none⟩) 0 0,.int .i64 d]⟩) gv) c) (af ak 59 #[.pointer (some ⟨b,0,none⟩)] (λyQ hP=> asA yQ λl=> ALC ⟨bm⟩ 51 (λe kT=> STA 10 kT ⟨e,0,none⟩ l λqQ=> ALC ⟨[]⟩ 22 (λm ta=> bk (abq.B7 aa) (Fe,⟨a,0,none⟩,⟨e,0,none⟩,(some ⟨m,0,none⟩),0,0,0) ta) qQ) hP) c)) g) f) h
theorem abq.call{p_0 Fe aa h}(H:abq.S p_0 Fe aa h):af ak 26 #[.agg p_0,.int .i64 Fe] aa h:=qc (Λ:=aS [(1000007,abq.l7 aa)]) Tryz.func26 (qs qf (qs qf (qs qf (qs qf (qs (qs qf (Rq.block (ql (abq.l7 aa) (qg (g:=abq.g7) (Λ:=λa=>aS []) (λ_ _ _=>by kernel_rfl) (λa=>qf))))) qf))))) (qe H)
def dC.B3(aa:VH)(a:(Addr×Option Addr×Nat×Nat×Int×Int)->ab->Prop):Addr×Option Addr×Nat×Nat×Int×Int->ab->Prop |(p_0,YI,YK,YJ,t6,t7),h=> BIF (decide (t7<t6)) (af ak 71 #[.pointer (some p_0)] (λb c=> asF .f32 b λd=> ALC ⟨[.float .f32 d]⟩ 22 (λe f=> gC ak (Builtin.append_ #[23,23] 23 #[.slice YI YK YJ,.slice (some ⟨e,0,none⟩) 1 1]) (λg i=> asL g λj k l=> a (p_0,j,k,l,t6,((IntKind.i64.wrap (t7+1)))) i) f) c) h) (aa (.slice YI YK YJ) h)
def dC.g3(fr:Frame):Addr×Option Addr×Nat×Nat×Int×Int:=((gP (ah fr 0)),(gLb (ah fr 5)),(gLl (ah fr 5)),(gLc (ah fr 5)),(gI (ah fr 6)),(gI (ah fr 7)))
def dC.l3(aa:VH):=gg (kds 16 [(0,.p),(5,.l),(6,.i .i64),(7,.i .i64)]) λfr=>bk (dC.B3 aa) (dC.g3 fr)
def dC.S(p_0:Addr)(Fe:Int)(aa:VH)(h:ab):=bk (dC.B3 aa) (p_0,none,0,0,Fe,0) h
theorem dC.call{p_0 Fe aa h}(H:dC.S p_0 Fe aa h):af ak 36 #[.pointer (some p_0),.int .i64 Fe] aa h:=qc (Λ:=aS [(1000003,dC.l3 aa)]) Tryz.func36 (qs qf (qs qf (qs (qs qf (Rq.block (ql (dC.l3 aa) (qg (g:=dC.g3) (Λ:=λa=>aS []) (λ_ _ _=>by kernel_rfl) (λa=>qf))))) qf))) (qe H)
set_option maxHeartbeats 2000000
noncomputable def aC.AX(p:aC):Nat->aC×List Nat
 | 0=>(p,[])
 | k+1=>((p.AX k).1.step.1,(p.AX k).2++[(p.AX k).1.step.2])
noncomputable def aC.ac2(p:aC)(count:Int):aC×List Nat×Int:=if p.may count 4096=0 then((p.AX count.toNat).1,(p.AX count.toNat).2,0) else(iv,[],p.may count 4096)
theorem oy{p:aC}(R:p.iW):∀k,(p.AX k).1.iW
 | 0=>R
 | k+1=>RV (oy R k)
theorem Dl{p:aC}(R:p.iW):∀k:Nat,(p.AX k).1.mO=p.mO+k
 | 0=>by show p.mO=_;omega
 | k+1=>by
  show(p.AX k).1.step.1.mO=_
  rw[Zi (oy R k),Dl R k];omega
theorem ali(p:aC):∀k:Nat,(p.AX k).2.length=k
 | 0=>rfl
 | k+1=>by
  show((p.AX k).2++[_]).length=_
  rw[List.length_append,ali p k];rfl
theorem akx{p:aC}{count UQ:Int}(h:p.may count UQ=0):p.ok=true∧0≤count∧count≤UQ∧p.mO+count≤200000:=by
 unfold aC.may at h
 split at h
 ·next h1=>
  split at h
  ·next h2=>
   split at h
   ·cases h
   ·next h3=>
    simp only[inR,Bool.and_eq_true,decide_eq_true_eq] at h2
    exact⟨h1,h2.1,h2.2,by omega⟩
  ·cases h
 ·cases h
section
variable {h0 h:ab}{q:Addr}{F:Fr}{L:List Blk}{p:aC}{count:Int}
theorem agw{k:Nat}(P:Pt bz h0 h q F L p)(R:p.iW)(Ud:0≤p.mO∧p.mO+k≤1000000)(hk:k≤4096):
  af ak 36 #[.pointer (some q),.int .i64 (k:Int)] (λu h'=>∃b c B,u = .slice b k c∧SlO 22 (rF .f32) B b k c (p.AX k).2∧Pt bz h0 h' q F (B++L) (p.AX k).1) h:=by
 have hm:(4097:Nat)≤maxLen:=by decide
 refine dC.call (loop (λy hh=>∃(n:Nat) (b':Option Addr) (c':Nat) (B:List Blk),y=(q,b',n,c',(k:Int),(n:Int))∧n≤k∧SlO 22 (rF .f32) B b' n c' (p.AX n).2∧Pt bz h0 hh q F (B++L) (p.AX n).1) (λy=>((k:Int)-y.2.2.2.2.2).toNat)
  ⟨0,_,_,[],rfl,by omega,SlO.nil,P⟩ ?_)
 rintro y hh ⟨n,b',c',B,rfl,hn,O,P⟩
 have hw:=Dl R n
 refine brd (λhc=>?_) λhc=>?_
 ·refine(I6 P (oy R n) (by omega)).mono ?_
  rintro _ h8 ⟨⟨y,rfl,hy⟩,P⟩
  exact cW (Pt.push P lD O ⟨rfl,_,rfl,hy⟩ (by omega) (by omega) λb2 c2 h9 B2 O2 P2=>lR ⟨⟨n+1,b2,c2,B2,by rw[ag (by omega)],by omega,O2,P2⟩,by rw[ag (by omega)];show _<_;simp;omega⟩)
 ·obtain rfl:n=k:=by omega
  exact⟨b',c',B,rfl,O,P⟩
def PFL(h h':ab)(u:Value)(r:aC×List Nat×Int):Prop:=∃cs B b l c C,u = .tuple ⟨[.agg cs,.slice b l c,.int .i64 r.2.2]⟩∧bz.ow B cs.toList r.1∧SlO 22 (rF .f32) C b l c r.2.1∧Mem h h' (B++C)
theorem PFL.go{P:Program}{f:FuncId}{args:Array Value}{r:aC×List Nat×Int}{hb h:ab}{L:List Blk}{K:Value->ab->Prop}(M:Mem hb h L)(c:af P f args (λu h'=>PFL h h' u r) h)(H:∀h' cs B b l c C,Mem hb h' ((B++C)++L)->bz.ow B cs.toList r.1->cs.size=bz.sz->SlO 22 (rF .f32) C b l c r.2.1->K (.tuple ⟨[.agg cs,.slice b l c,.int .i64 r.2.2]⟩) h'):af P f args K h:=
 c.mono λu h' ⟨cs,B,b,l,c,C,e,O,S,N⟩=>by subst e;exact H h' cs B b l c C (M.join N) O (by simpa using bz.jX O) S
theorem auG(k:¬p.may count 4096=0):p.ac2 count=(iv,[],p.may count 4096):=by unfold aC.ac2;rw[if_neg k]
theorem asv(k:p.may count 4096=0):p.ac2 count=((p.AX count.toNat).1,(p.AX count.toNat).2,0):=by unfold aC.ac2;rw[if_pos k]
theorem ajo{cs:Array Value}(R0:bz.rd h cs.toList p):af ak 26 #[.agg cs,.int .i64 count] (λu h'=>PFL h h' u (p.ac2 count)) h:=by
 have hm:(4097:Nat)≤maxLen:=by decide
 refine abq.call ((Mem.start h).alc λg1 h1 x1 M=>M.alc λg3 h2 x2 M=>?_)
 have R:RdP bz h2 ⟨g1,0,none⟩ p:=M.rdp (.there .here) (bz.ext M.ext R0)
 refine goM M (ar0 R (by decide)) λh3 M=>cN (br (λk=>?_) λk=>?_)
 ·rw[auG (by simpa using k)]
  refine M.alc λg8 h4 x4 M=>?_
  have M:=M.cnt (W:=(g3,51,⟨bm⟩) :: [(g8,22,⟨[]⟩)])
  exact M.dH .here rfl (dI rfl) rfl .here λh3 M=>M.df .here rfl ⟨_,[],_,_,_,_,rfl,Bx,SlO.empty g8,M.drop⟩
 have k:p.may count 4096=0:=by simpa using k
 rw[asv k]
 obtain⟨ok,c1,c2,c3⟩:=akx k
 obtain⟨n,rfl⟩:=Int.eq_ofNat_of_zero_le c1
 rw[Int.toNat_natCast]
 obtain⟨Ru,n1,n2⟩:=ahn ok
 have R:RdP bz h3 ⟨g1,0,none⟩ p:=M.rdp (.there .here) (bz.ext M.ext R0)
 refine mN.go M (apc R (alk ok)) λh4 c4 B4 M O4 s4=>gw (M.alc λg15 h5 x5 M=>M.dH .here s4 (bz.jy O4) rfl .here λh6 M=>?_)
 have P:Pt bz h h6 ⟨g15,0,none⟩ ⟨g15,51,[],[]⟩ [(g3,51,⟨bm⟩)] p:=Pt.new O4 (M.cnt (λp=>by simp only[bN,bu,bZ] at *;omega))
 refine(Mem.start h6).alc λZI h7 x7 N=>?_
 refine loop (λy hh=>∃(m:Nat) (b':Option Addr) (c':Nat) (B:List Blk),y=((n:Int),⟨g3,0,none⟩,⟨g15,0,none⟩,b',m,c',(m:Int))∧m≤n∧SlO 22 (rF .f32) B b' m c' (p.AX m).2 ∧
  Pt bz h hh ⟨g15,0,none⟩ ⟨g15,51,[],[]⟩ (B++[(g3,51,⟨bm⟩)]) (p.AX m).1) (λy=>((n:Int)-y.2.2.2.2.2.2).toNat)
  ⟨0,_,_,_,rfl,by omega,SlO.empty ZI,(P.join N).cnt (λp=>by simp only[bN,bu,bZ] at *;omega)⟩ ?_
 rintro y hh ⟨m,b',c',B,rfl,hn,O,P⟩
 have hw:=Dl Ru m
 refine brd (λhc=>?_) λhc=>?_
 ·refine(Uz P (oy Ru m) (by omega)).mono ?_
  rintro _ h8 ⟨⟨y,rfl,hy⟩,P⟩
  exact cW (Pt.push P lD O ⟨rfl,_,rfl,hy⟩ (by omega) (by omega) λb2 c2 h9 B2 O2 P2=>lR ⟨⟨m+1,b2,c2,B2,by rw[ag (by omega)],by omega,O2,P2⟩,by rw[ag (by omega)];show _<_;simp;omega⟩)
 obtain rfl:m=n:=by omega
 obtain⟨cs,BR,M,OR⟩:=P.out
 refine M.df .here (osz OR rfl) ?_
 have M:=M.cnt (W:=(g3,51,⟨bm⟩) :: (BR++B))
 exact M.dH .here (osz OR rfl) (bz.jy OR) rfl .here λh3 M=>M.df .here (osz OR rfl) ⟨_,BR,_,_,_,B,rfl,OR,O,M.drop⟩
end
theorem T2{s:bI}{n:Int}(h:(s.cj n).2=0):s.ok=true∧1≤n∧n≤6∧(s.cj n).1={ iv with Score:=s,al:=List.replicate n.toNat ln }:=by
 unfold bI.cj at h ⊢
 by_cases h1:s.ok=true
 ·rw[if_pos h1] at h ⊢
  by_cases h2:inR n 1 6=true
  ·rw[if_pos h2] at h ⊢
   have h3:=h2
   simp only[inR,Bool.and_eq_true,decide_eq_true_eq] at h3
   exact⟨h1,h3.1,h3.2,rfl⟩
  ·rw[if_neg h2] at h;cases h
 ·rw[if_neg h1] at h;cases h
theorem Co{s:bI}{n:Int}(h:(s.cj n).2=0):(s.cj n).1.iW∧(s.cj n).1.mO=0:=by
 obtain⟨h1,h2,h3,e⟩:=T2 h
 rw[e]
 have hl:(List.replicate n.toNat ln).length=n.toNat:=List.length_replicate
 refine⟨⟨h1,by show 1≤(List.replicate n.toNat ln).length;omega,by show(List.replicate n.toNat ln).length≤6;omega,⟨Int.le_refl _,by show(0:Int)≤_;omega⟩,⟨Int.le_refl _,by show(0:Int)≤64+0;omega⟩,λv hv=>.inl ?_,λi j Uc hj _=>?_⟩,rfl⟩
 ·have hv:v ∈ List.replicate n.toNat ln:=hv
  rw[(List.mem_replicate.1 hv).2];rfl
 ·have hj:j<(List.replicate n.toNat ln).length:=hj
  show(List.replicate n.toNat ln)[i]!.aT = -1
  rw[getElem!_pos _ i (by omega),List.getElem_replicate];rfl
theorem Oh(xs:List Nat):ao xs≤8*cf xs:=by unfold ao cf;omega
end Go.Sx
