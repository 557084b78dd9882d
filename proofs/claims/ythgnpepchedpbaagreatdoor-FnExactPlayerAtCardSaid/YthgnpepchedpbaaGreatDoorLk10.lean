/- Lemmas. -/
import Derived.Test.YthgnpepchedpbaaGreatDoorLk4
import Derived.Test.YthgnpepchedpbaaGreatDoorLk29
import Derived.Test.YthgnpepchedpbaaGreatDoorK3
import Derived.Test.YthgnpepchedpbaaGreatDoorTab
import Derived.Test.YthgnpepchedpbaaGreatDoorLk17
import Derived.Test.YthgnpepchedpbaaGreatDoorLr3
import Derived.Test.YthgnpepchedpbaaGreatDoorLk24
import Derived.Test.YthgnpepchedpbaaGreatDoorLk0b
set_option linter.unusedVariables false
set_option linter.unusedSimpArgs false
namespace Go.Sx
open Go.Proofs
set_option maxRecDepth 100000
set_option maxHeartbeats 1000000
section
variable {h:ab}{b:Option Addr}{l c:Nat}{rs:List aY}
theorem ad8:FW .f32 1065353216 Eo:=eM (by decide) (by decide)
theorem Us{r s d a1 a2 a3:Nat}(hr:FW .f32 r a1)(hs:FW .f32 s a2)(hd:FW .f32 d a3):Fl ak 190 #[.float .f32 r,.float .f32 s,.float .f32 d] .f32 (tg (jW .f32 a1 (eG .f32 a2 a3)) Eo):=λh=>by
 refine wC.call (fM hs hd λw1 h1=>fA hr h1 λw2 h2=>(Gn h2 ad8).go λh3 y x3 hy=>cW ?_)
 exact⟨⟨y,rfl,hy⟩,x3⟩
theorem W8{r s d a1 a2 a3:Nat}(hr:FW .f32 r a1)(hs:FW .f32 s a2)(hd:FW .f32 d a3):Fl ak 244 #[.float .f32 r,.float .f32 s,.float .f32 d] .f32 (tg (jW .f32 a1 (eG .f32 a2 a3)) Eo):=λh=>by
 refine yz.call (fM hs hd λw1 h1=>fA hr h1 λw2 h2=>(A3 h2 ad8).go λh3 y x3 hy=>cW ?_)
 exact⟨⟨y,rfl,hy⟩,x3⟩
theorem Eh(S:SlR bQ h b l c rs)(hr:∀r ∈ rs,r.ok=true)(hl:l≤1048576):
  af ak 189 #[.slice b l c] (λu h'=>∃b' c' B,u = .slice b' l c'∧SlO 22 (rF .f32) B b' l c' (rs.map aY.old)∧Mem h h' B) h:=by
 have hls:=S.len
 have hm:(1048577:Nat)≤maxLen:=by decide
 refine ff.call ((Mem.start h).alc λg h1 x1 M=>?_)
 refine loop (λy hh=>∃(n:Nat) (b':Option Addr) (c':Nat) (B:List Blk),y=(b,l,c,b',n,c',(n:Int))∧n≤l∧SlO 22 (rF .f32) B b' n c' ((rs.take n).map aY.old)∧Mem h hh B) (λy=>(l-y.2.2.2.2.2.2).toNat)
  ⟨0,_,_,_,rfl,by omega,SlO.empty g,M⟩ ?_
 rintro y hh ⟨n,b',c',B,rfl,hn,O,M⟩
 refine brd (λhc=>?_) λhc=>?_
 ·have hi:n<rs.length:=by omega
  have zT:=hr rs[n]! (by rw[getElem!_pos _ n hi];exact List.getElem_mem _)
  obtain⟨k1,k2,k3,k4,k5⟩:=kO zT
  refine(S.ext M.ext).idx pz (by omega) (by omega) λp Rp=>Rp.oL1 λb3 l3 c3 S3=>(S.ext M.ext).idx pz (by omega) (by omega) λp2 Rp2=>Rp2.oI ?_
  have hl3:rs[n]!.ae.length=l3:=S3.len
  refine S3.idx (by decide) k1 (by show rs[n]!.At<(l3:Int);omega) λp4 Rp4=>Rp4.oF1 λy hy=>?_
  have hy:FW .f32 y rs[n]!.old:=hy
  refine Oz (Bn:=[]) (L:=[]) lD O (by simpa using M) ⟨rfl,y,rfl,hy⟩ (by omega) (by omega) λb2 c2 h3 B2 O3 M3=>lR ⟨⟨n+1,b2,c2,B2,by rw[ag (by omega)],by omega,?_,by simpa using M3⟩,by rw[ag (by omega)];show _<_;simp;omega⟩
  rw[vk hi,List.map_append];exact O3
 ·obtain rfl:n=l:=by omega
  rw[← hls,List.take_length] at O
  rw[← hls]
  exact⟨b',c',B,rfl,O,M⟩
end
def ud.S(n_0:Int)(aa:VH)(h:ab):=af ak 46 #[.int .i64 n_0,.int .i64 1,.int .i64 6] (λa b=> asB a λc=> aa (.bool c) b) h
theorem ud.call{n_0 aa h}(H:ud.S n_0 aa h):af ak 68 #[.int .i64 n_0] aa h:=qk Tryz.func68 H
def nq.S(v_0:Array Value)(aa:VH)(h:ab):=ALC v_0 122 (λb a=> oI .i64 (cell a ⟨b,0,none⟩) λc=> aa (.bool (c==(-1))) a) h
theorem nq.call{v_0 aa h}(H:nq.S v_0 aa h):af ak 97 #[.agg v_0] aa h:=qk Tryz.func97 H
def oG.S(x_0:Array Value)(aa:VH)(h:ab):=ALC x_0 115 (λa d=> LDA 2 d ⟨a,0,none⟩ λe=> af ak 217 #[.agg e] (λf b=> asB f λg=> BIF g (LDA 6 b ⟨a,2,none⟩ λi=> af ak 218 #[.agg i,.int .i64 3] (λj c=> asB j λEF=> BIF EF (LDA 6 c ⟨a,8,none⟩ λzi=> af ak 218 #[.agg zi,.int .i64 2] (λyQ hP=> asB yQ λMH=> BIF MH (oF .f32 (cell hP ⟨a,14,none⟩) λrM=> af ak 144 #[.float .f32 rM] (λLV qQ=> asB LV λWr=> aa (.bool Wr) qQ) hP) (aa (.bool false) hP)) c) (aa (.bool false) c)) b) (aa (.bool false) b)) d) h
theorem oG.call{x_0 aa h}(H:oG.S x_0 aa h):af ak 145 #[.agg x_0] aa h:=qk Tryz.func145 H
def Bg.S(x_0:Addr)(aa:VH)(h:ab):=af ak 266 #[.pointer (some x_0)] (λd c=> asB d λe=> BIF e (af ak 261 #[.pointer (some (x_0.add 2))] (λf b=> asB f λg=> BIF g (oI .i64 (cell b (x_0.add 2)) λi=> BIF (i==3) (af ak 261 #[.pointer (some (x_0.add 8))] (λj a=> asB j λEF=> BIF EF (oI .i64 (cell a (x_0.add 8)) λk=> BIF (k==2) (oF .f32 (cell a (x_0.add 14)) λrk=> af ak 154 #[.float .f32 rk] (λxz l=> asB xz λEG=> aa (.bool EG) l) a) (aa (.bool false) a)) (aa (.bool false) a)) b) (aa (.bool false) b)) (aa (.bool false) b)) c) (aa (.bool false) c)) h
theorem Bg.call{x_0 aa h}(H:Bg.S x_0 aa h):af ak 205 #[.pointer (some x_0)] aa h:=qk Tryz.func205 H
def z9.S(x_0:Addr)(aa:VH)(h:ab):=LDA 2 h x_0 λb=> LDA 2 h (x_0.add 2) λc=> SIZ (Array.size b) 2 <|SIZ (Array.size c) 2 <|ALC ⟨(eE 2 2 c (eE 0 2 b [.slice none 0 0,.int .i64 0,.slice none 0 0,.int .i64 0]))⟩ 109 (λe f=> af ak 260 #[.slice (some ⟨e,0,none⟩) 2 2] (λg d=> asB g λi=> BIF i (af ak 261 #[.pointer (some (x_0.add 4))] (λj a=> asB j λEF=> BIF EF (oI .i64 (cell a (x_0.add 4)) λk=> BIF (k==1) (oF .f32 (cell a (x_0.add 10)) λrk=> oF .f32 (cell a (x_0.add 11)) λxB=> ALC ⟨[.float .f32 rk,.float .f32 xB]⟩ 22 (λl kB=> af ak 262 #[.slice (some ⟨l,0,none⟩) 2 2] (λLV qQ=> asB LV λWr=> aa (.bool Wr) qQ) kB) a) (aa (.bool false) a)) (aa (.bool false) a)) d) (aa (.bool false) d)) f) h
theorem z9.call{x_0 aa h}(H:z9.S x_0 aa h):af ak 195 #[.pointer (some x_0)] aa h:=qk Tryz.func195 H
theorem amX{α:Type}{r:Rep α}{h0 h:ab}{x:α}{cs:Array Value}{T:Nat}{F:Nat->ab->Prop}(E:Ext h0 h)(R:r.rd h cs.toList x)(H:∀g h',Ext h0 h'->RdP r h' ⟨g,0,none⟩ x->F g h'):ALC cs T F h:=
 gD R λg h' x' R'=>H g h' (E.trans x') R'
section
variable {h:ab}{q:Addr}
def bK.ok(x:bK):Bool:=x.Loop.ok&&(x.kS.ok&&x.kS.Kind==3)&&(x.fz.ok&&x.fz.Kind==2)&&fin x.fT
def iU.ok(x:iU):Bool:=x.bT.okf&&x.aH.okf&&(x.fz.ok&&x.fz.Kind==1)&&(fin x.fX&&fin x.fT)
theorem abA{x:bK}(R:RdP bf h q x):af ak 205 #[.pointer (some q)] (λu h'=>u = .bool x.ok∧Ext h h') h:=by
 have A:∀{hh:ab},Ext h hh->RdP bf hh q x:=λe=>R.ext e
 refine Bg.call (goX (JM (R.fst dL)) λh1 x1=>bt (br (λk1=>?_) λk1=>⟨by rw[bK.ok,k1];rfl,x1⟩))
 refine goE x1 (Lt ((A x1).foc dM)) λh2 x2=>bt (br (λk2=>(A x2).oI (br (λk3=>?_) λk3=>⟨by rw[bK.ok,k3];simp,x2⟩)) λk2=>⟨by rw[bK.ok,k2];simp,x2⟩)
 refine goE x2 (Lt ((A x2).foc dK)) λh3 x3=>bt (br (λk4=>(A x3).oI (br (λk5=>?_) λk5=>⟨by rw[bK.ok,k5];simp,x3⟩)) λk4=>⟨by rw[bK.ok,k4];simp,x3⟩)
 exact(A x3).oF λy hy=>goE x3 (jm hy _) λh4 x4=>bt ⟨by rw[bK.ok,k1,k2,k3,k4,k5];rfl,x4⟩
theorem Ie{cs:Array Value}{x:bK}(R0:bf.rd h cs.toList x):af ak 145 #[.agg cs] (λu h'=>u = .bool x.ok∧Ext h h') h:=by
 refine oG.call (amX (Ext.refl h) R0 λg h0 x0 R=>?_)
 have A:∀{hh:ab},Ext h0 hh->RdP bf hh ⟨g,0,none⟩ x:=λe=>R.ext e
 refine R.jH dL rfl λc1 R1=>goX (MC R1) λh1 x1=>bt (br (λk1=>?_) λk1=>⟨by rw[bK.ok,k1];rfl,x0.trans x1⟩)
 refine(A x1).jH dM rfl λc2 R2=>goE x1 (Gm R2 _) λh2 x2=>bt (br (λk2=>?_) λk2=>⟨by rw[bK.ok,k2];simp,x0.trans x2⟩)
 refine(A x2).jH dK rfl λc3 R3=>goE x2 (Gm R3 _) λh3 x3=>bt (br (λk3=>?_) λk3=>⟨by rw[bK.ok,k3];simp,x0.trans x3⟩)
 exact(A x3).oF2 λy hy=>goE x3 (mw hy _) λh4 x4=>bt ⟨by rw[bK.ok,k1,k2,k3];rfl,x0.trans x4⟩
theorem ah7{x y a b:Nat}(hx:FW .f32 x a)(hy:FW .f32 y b){T:Nat}{F:Nat->ab->Prop}(H:∀g h',Ext h h'->SlR (rF .f32) h' (some ⟨g,0,none⟩) 2 2 [a,b]->F g h'):ALC ⟨[.float .f32 x,.float .f32 y]⟩ T F h:=
 H0 (r:=rF .f32) (n:=2) (xs:=[a,b]) (cs:=[.float .f32 x,.float .f32 y]) ⟨rfl,[.float .f32 x],[.float .f32 y],rfl,⟨x,rfl,hx⟩,[.float .f32 y],[],rfl,⟨y,rfl,hy⟩,rfl⟩ (by decide) H
theorem XH{x:iU}(R:RdP jI h q x):af ak 195 #[.pointer (some q)] (λu h'=>u = .bool x.ok∧Ext h h') h:=by
 have A:∀{hh:ab},Ext h hh->RdP jI hh q x:=λe=>R.ext e
 have z0:(iT 2 bQ).rd h [Value.slice none 0 0,Value.int .i64 (0:Int),Value.slice none 0 0,Value.int .i64 (0:Int)] [wJ,wJ]:=⟨rfl,[Value.slice none 0 0,Value.int .i64 (0:Int)],[Value.slice none 0 0,Value.int .i64 (0:Int)],rfl,bQ.look pV (Mem.start h) (List.nil_sublist _),[Value.slice none 0 0,Value.int .i64 (0:Int)],[],rfl,bQ.look pV (Mem.start h) (List.nil_sublist _),rfl⟩
 refine z9.call ((R.fst ik).jc rfl λc1 R1=>R.lda fE rfl λc2 R2=>siz (rsz R1 rfl) (siz (rsz R2 rfl) ?_))
 have z1:=zG (put:=λl b=>l.set 0 b) (get:=λl=>l[0]!) z0 (λR=>F9 (i:=0) (by decide) R) R1
 have z2:=zG (put:=λl b=>l.set 1 b) (get:=λl=>l[1]!) z1 (λR=>F9 (i:=1) (by decide) R) R2
 refine H0 (r:=bQ) (n:=2) (xs:=[x.bT,x.aH]) z2 (by decide) λg h1 x1 S=>goE x1 (Qq S) λh2 x2=>bt ?_
 have k:x.ok=([x.bT,x.aH].all aY.okf&&(x.fz.ok&&x.fz.Kind==1)&&(fin x.fX&&fin x.fT)):=by rw[iU.ok];simp
 refine br (λk1=>?_) λk1=>⟨by rw[k,k1];rfl,x2⟩
 refine goE x2 (Lt ((A x2).foc gj)) λh3 x3=>bt (br (λk2=>(A x3).oI (br (λk3=>?_) λk3=>⟨by rw[k,k3];simp,x3⟩)) λk2=>⟨by rw[k,k2];simp,x3⟩)
 refine(A x3).oF λy hy=>(A x3).oF λz hz=>ah7 hy hz λg4 h4 x4 S=>goX (Ny S) λh5 x5=>bt ⟨?_,x3.trans (x4.trans x5)⟩
 rw[k,k1,k2,k3]
 simp[pW]
end
set_option maxHeartbeats 2000000
noncomputable def aeU(v:aK):Bool:=same v.String iw&&same v.aI wI&&same v.bY vl&&(v.aq==0)&&(v.mh==0) && !v.Gone&&(v.gR==0)
noncomputable def aeJ(s:bI)(v:aK):Bool:=
 if s.az[v.aq.toNat]!.Kind=1 then v.String.ok&&same v.aI wI&&same v.bY vl else if s.az[v.aq.toNat]!.Kind=2 then same v.String iw&&v.aI.ok&&same v.bY vl else same v.String iw&&same v.aI wI&&v.bY.ok
noncomputable def acy(s:bI)(v:aK):Bool:=if v.aT = -1 then aeU v else match tS s.bo v.aT with | none=>false | some e=>(e.aq==v.aq)&&(e.At==v.mh)&&fin v.gR&&aeJ s v
theorem yq{α:Type}[Inhabited α](p:α->Bool)(l:List α):(jL p l = -1∧∀i,i<l.length->p l[i]! = false)∨∃n:Nat,n<l.length∧jL p l=n∧(∀i,i<n->p l[i]! = false)∧p l[n]! = true:=by
 unfold jL
 by_cases h:l.any p=true
 ·rw[if_pos h]
  obtain⟨x,hx,hp⟩:=List.any_eq_true.1 h
  have qR:l.findIdx p<l.length:=List.findIdx_lt_length_of_exists ⟨x,hx,hp⟩
  refine .inr ⟨l.findIdx p,qR,rfl,λi hi=>?_,?_⟩
  ·rw[getElem!_pos l i (by omega)]
   have:=List.not_of_lt_findIdx hi
   simpa using this
  ·rw[getElem!_pos l _ qR]
   exact List.findIdx_getElem (w:=qR)
 ·rw[if_neg h]
  refine .inl ⟨rfl,λi hi=>?_⟩
  rw[getElem!_pos l i hi]
  rw[Bool.not_eq_true,List.any_eq_false] at h
  have:=h _ (List.getElem_mem hi)
  simpa using this
theorem sP{s:bI}(h:s.ok=true):kU s.bo s.az.length:=by
 unfold bI.ok at h
 rw[Bool.and_eq_true] at h
 exact BS.1 h.2
theorem Kg{s:bI}(h:s.ok=true){n:Int}{e:aZ}(he:tS s.bo n=some e):0≤e.aq∧e.aq<s.az.length:=by
 have G:=sP h
 have hm:=List.mem_of_find?_eq_some he
 have hp:=List.find?_some he
 obtain⟨i,hi,rfl⟩:=List.mem_iff_getElem.1 hm
 have:=G.part i hi
 rw[getElem!_pos _ i hi] at this
 rw[Bool.and_eq_true] at hp
 have hk:(s.bo[i]).Kind=2:=by have:=hp.1;unfold fF at this;simpa using this
 unfold jM at this
 rw[if_neg (by omega)] at this
 simp only[Bool.and_eq_true,inR,decide_eq_true_eq] at this
 omega
section
variable {h:ab}
theorem G1:Flat bF:=G3 (lh (AM _) (lh (AM _) (lh (AM _) (lh (AM _) (lh (AM _) (u0 _))))))
end
def hap(es:List aZ)(now:Int):Nat:=es.countP λe=>decide (e.At<now)
section
variable {h:ab}
theorem Ns{cs:Array Value}{v:aK}(R0:aQ.rd h cs.toList v):af ak 97 #[.agg cs] (λu h'=>u = .bool (v.aT == -1)∧Ext h h') h:=
 nq.call (gD R0 λg h1 x1 R=>R.oI2 ⟨rfl,x1⟩)
end
noncomputable def Zv(p:aC)(i:Nat):Bool:=acy p.Score p.al[i]! && (decide (p.al[i]!.aT<0)||(decide (p.al[i]!.mh<p.mO)&&(List.range i).all λk=>!(p.al[k]!.aT==p.al[i]!.aT)))
noncomputable def aC.ok(p:aC):Bool:=p.Score.ok&&inR p.al.length 1 6&&inR p.mO 0 200000&&inR p.ft 0 64&&(p.Next==(hap p.Score.bo p.mO:Int))&&(List.range p.al.length).all (Zv p)
section
variable {h:ab}
theorem Qo(n:Int):Ret ak 68 #[.int .i64 n] (.bool (inR n 1 6)):=λh=>ud.call ((js _ _ _).go λh1 x1=>bt ⟨rfl,x1⟩)
end
def wE.S(s_0:Addr)(aa:VH)(h:ab):=ALC ⟨dw⟩ 39 (λb c=> LDA 6 c s_0 λe=> ALC ⟨dw⟩ 39 (λa f=> STA 6 f ⟨a,0,none⟩ e λg=> ALC ⟨[]⟩ 22 (λi d=> oL (cell d (s_0.add 3)) λj k l=> gC ak (Builtin.append_ #[23,23] 23 #[.slice (some ⟨i,0,none⟩) 0 0,.slice j k l]) (λCx me=> asL Cx λXK XM XL=> ST1 me ⟨a,3,none⟩ (.slice XK XM XL) λhP=> ALC ⟨[]⟩ 135 (λm kB=> oL (cell kB (s_0.add 4)) λLw Lx ND=> gC ak (Builtin.append_ #[36,36] 36 #[.slice (some ⟨m,0,none⟩) 0 0,.slice Lw Lx ND]) (λDJ jF=> asL DJ λNF Ly Qz=> ST1 jF ⟨a,4,none⟩ (.slice NF Ly Qz) λjU=> ALC ⟨[]⟩ 131 (λn uD=> oL (cell uD (s_0.add 5)) λQB QC UD=> gC ak (Builtin.append_ #[37,37] 37 #[.slice (some ⟨n,0,none⟩) 0 0,.slice QB QC UD]) (λRA pw=> asL RA λafs aft ajR=> ST1 pw ⟨a,5,none⟩ (.slice afs aft ajR) λEc=> LDA 6 Ec ⟨a,0,none⟩ λo=> STA 6 Ec ⟨b,0,none⟩ o λre=> LDA 6 re ⟨b,0,none⟩ λp=> aa (.agg p) re) uD) jU) kB) hP) d) g) c) h
theorem wE.call{s_0 aa h}(H:wE.S s_0 aa h):af ak 65 #[.pointer (some s_0)] aa h:=qk Tryz.func65 H
def sQ.S(aa:VH)(h:ab):=ALC ⟨bg⟩ 122 (λa c=> STA 45 c ⟨a,0,none⟩ ⟨[.int .i64 (-1),.int .i64 0,.int .i64 0,.bool false,.float .f32 0,.slice none 0 0,.int .i64 0,.int .i64 0,.float .f32 0,.float .f32 0,.float .f32 0,.float .f32 0,.float .f32 0,.int .i64 0,.float .f32 0,.float .f32 0,.float .f32 0,.float .f32 0,.float .f32 0,.float .f32 0,.slice none 0 0,.slice none 0 0,.slice none 0 0,.int .i64 0,.float .f32 0,.float .f32 0,.float .f32 0,.float .f32 0,.float .f32 0,.bool false,.float .f32 0,.float .f32 0,.float .f32 0,.slice none 0 0,.int .i64 0,.slice none 0 0,.int .i64 0,.int .i64 0,.float .f32 0,.float .f32 0,.float .f32 0,.float .f32 0,.float .f32 0,.float .f32 0,.float .f32 0]⟩ λb=> LDA 45 b ⟨a,0,none⟩ λd=> aa (.agg d) b) h
theorem sQ.call{aa h}(H:sQ.S  aa h):af ak 66 #[] aa h:=qk Tryz.func66 H
def ew.S(ja:Option Addr)(iN jz:Nat)(aa:VH)(h:ab):=CMP ak .eql 36 (.tmp 3) (.const (.slice none 0 0)) (.slice ja iN jz) (.slice none 0 0) (λb a=> BIF b (aa (.slice none 0 0) a) (ALC ⟨[]⟩ 135 (λc d=> gC ak (Builtin.append_ #[36,36] 36 #[.slice (some ⟨c,0,none⟩) 0 0,.slice ja iN jz]) (λe f=> asL e λHS Gr IJ=> aa (.slice HS Gr IJ) f) d) a)) h
theorem ew.call{ja iN jz aa h}(H:ew.S ja iN jz aa h):af ak 112 #[.slice ja iN jz] aa h:=qk Tryz.func112 H
def fW.S(ja:Option Addr)(iN jz:Nat)(aa:VH)(h:ab):=CMP ak .eql 37 (.tmp 3) (.const (.slice none 0 0)) (.slice ja iN jz) (.slice none 0 0) (λb a=> BIF b (aa (.slice none 0 0) a) (ALC ⟨[]⟩ 131 (λc d=> gC ak (Builtin.append_ #[37,37] 37 #[.slice (some ⟨c,0,none⟩) 0 0,.slice ja iN jz]) (λe f=> asL e λHS Gr IJ=> aa (.slice HS Gr IJ) f) d) a)) h
theorem fW.call{ja iN jz aa h}(H:fW.S ja iN jz aa h):af ak 113 #[.slice ja iN jz] aa h:=qk Tryz.func113 H
def oD.S(s_0:Array Value)(aa:VH)(h:ab):=ALC s_0 39 (λa e=> ALC ⟨dw⟩ 39 (λd b=> oL (cell b ⟨a,3,none⟩) λII HR PA=> oL (cell b ⟨a,4,none⟩) λUH UI f=> oL (cell b ⟨a,5,none⟩) λHS Gr IJ=> af ak 111 #[.slice II HR PA] (λg c=> asL g λzU uf Du=> PIN b ⟨a,5,none⟩ 1 c <|PIN b ⟨a,4,none⟩ 1 c <|af ak 112 #[.slice UH UI f] (λzX jl=> asL zX λXN XO afp=> PIN b ⟨a,5,none⟩ 1 jl <|af ak 113 #[.slice HS Gr IJ] (λDI kB=> asL DI λLw Lx ND=> ST1 kB ⟨a,3,none⟩ (.slice zU uf Du) λqQ=> ST1 qQ ⟨a,4,none⟩ (.slice XN XO afp) λjF=> ST1 jF ⟨a,5,none⟩ (.slice Lw Lx ND) λta=> LDA 6 ta ⟨a,0,none⟩ λMF=> STA 6 ta ⟨d,0,none⟩ MF λvC=> LDA 6 vC ⟨d,0,none⟩ λi=> aa (.agg i) vC) jl) c) b) e) h
theorem oD.call{s_0 aa h}(H:oD.S s_0 aa h):af ak 69 #[.agg s_0] aa h:=qk Tryz.func69 H
def sD.S(aa:VH)(h:ab):=ALC ⟨bg⟩ 122 (λa c=> STA 45 c ⟨a,0,none⟩ ⟨[.int .i64 (-1),.int .i64 0,.int .i64 0,.bool false,.float .f32 0,.slice none 0 0,.int .i64 0,.int .i64 0,.float .f32 0,.float .f32 0,.float .f32 0,.float .f32 0,.float .f32 0,.int .i64 0,.float .f32 0,.float .f32 0,.float .f32 0,.float .f32 0,.float .f32 0,.float .f32 0,.slice none 0 0,.slice none 0 0,.slice none 0 0,.int .i64 0,.float .f32 0,.float .f32 0,.float .f32 0,.float .f32 0,.float .f32 0,.bool false,.float .f32 0,.float .f32 0,.float .f32 0,.slice none 0 0,.int .i64 0,.slice none 0 0,.int .i64 0,.int .i64 0,.float .f32 0,.float .f32 0,.float .f32 0,.float .f32 0,.float .f32 0,.float .f32 0,.float .f32 0]⟩ λb=> LDA 45 b ⟨a,0,none⟩ λd=> aa (.agg d) b) h
theorem sD.call{aa h}(H:sD.S  aa h):af ak 70 #[] aa h:=qk Tryz.func70 H
set_option maxHeartbeats 1000000
theorem mb:Flat aA:=G3 (lh aeS (lh (AM _) (lh (u0 _) (lh (u0 _) (u0 _)))))
theorem Qn:0<aA.sz:=by decide
def scC(y1 y2 y3:Nat)(b1:Option Addr)(l1 c1:Nat)(b2:Option Addr)(l2 c2:Nat)(b3:Option Addr)(l3 c3:Nat):List Value:=[.float .f32 y1,.float .f32 y2,.float .f32 y3,.slice b1 l1 c1,.slice b2 l2 c2,.slice b3 l3 c3]
section
variable {h:ab}
theorem tP{cs:Array Value}{s:bI}(R:bU.rd h cs.toList s):∃y1 y2 y3 b1 l1 c1 b2 l2 c2 b3 l3 c3,cs=⟨scC y1 y2 y3 b1 l1 c1 b2 l2 c2 b3 l3 c3⟩∧FW .f32 y1 s.sY∧FW .f32 y2 s.dv.xH∧FW .f32 y3 s.dv.iV ∧
  SlR (rF .f32) h b1 l1 c1 s.dv.bG∧SlR aA h b2 l2 c2 s.az∧SlR bF h b3 l3 c3 s.bo:=by
 obtain⟨v1,r1,e1,⟨y1,rfl,F1⟩,vT,r2,rfl,⟨v2,r3,rfl,⟨y2,rfl,F2⟩,v3,r4,rfl,⟨y3,rfl,F3⟩,b1,l1,c1,rfl,S1⟩,v5,v6,rfl,⟨b2,l2,c2,rfl,S2⟩,b3,l3,c3,rfl,S3⟩:=R
 exact⟨y1,y2,y3,b1,l1,c1,b2,l2,c2,b3,l3,c3,by cases cs;simpa [scC] using e1,F1,F2,F3,S1,S2,S3⟩
theorem OJ{s:bI}{y1 y2 y3:Nat}{b1 b2 b3:Option Addr}{l1 c1 l2 c2 l3 c3:Nat}{B1 B2 B3:List Blk}(F1:FW .f32 y1 s.sY)(F2:FW .f32 y2 s.dv.xH)(F3:FW .f32 y3 s.dv.iV)(O1:SlO 22 (rF .f32) B1 b1 l1 c1 s.dv.bG)(O2:SlO 135 aA B2 b2 l2 c2 s.az)(O3:SlO 131 bF B3 b3 l3 c3 s.bo):bU.ow (B1++(B2++B3)) (scC y1 y2 y3 b1 l1 c1 b2 l2 c2 b3 l3 c3) s:=
 ⟨[],B1++(B2++B3),[.float .f32 y1],_,rfl,rfl,⟨rfl,y1,rfl,F1⟩,B1,B2++B3,[.float .f32 y2,.float .f32 y3,.slice b1 l1 c1],[.slice b2 l2 c2,.slice b3 l3 c3],rfl,rfl,
  ⟨[],B1,[.float .f32 y2],[.float .f32 y3,.slice b1 l1 c1],rfl,rfl,⟨rfl,y2,rfl,F2⟩,[],B1,[.float .f32 y3],[.slice b1 l1 c1],rfl,rfl,⟨rfl,y3,rfl,F3⟩,b1,l1,c1,rfl,O1⟩,
  B2,B3,[.slice b2 l2 c2],[.slice b3 l3 c3],rfl,rfl,⟨b2,l2,c2,rfl,O2⟩,b3,l3,c3,rfl,O3⟩
theorem RO{y1 y2 y3:Nat}{b1 b2 b3:Option Addr}{l1 c1 l2 c2 l3 c3:Nat}:∀v ∈ (⟨scC y1 y2 y3 b1 l1 c1 b2 l2 c2 b3 l3 c3⟩:Array Value).toList,v.oneCell'=true:=λv hv=>by
 simp only[scC,List.mem_cons,List.mem_nil_iff,or_false] at hv
 rcases hv with rfl | rfl | rfl | rfl | rfl | rfl <;> rfl
theorem Tn{α:Type}{r:Rep α}{l c:Nat}{xs:List α}(hz:0<r.sz)(S:SlR r h none l c xs):xs=[]∧l=0:=by
 obtain⟨h1,h2,h3,ws,C,R⟩:=S
 have hw:ws=[]:=by
  cases ws with
  | nil=>rfl
  | cons w ws=>obtain⟨a,e,_⟩:=C 0 (by simp);cases e
 subst hw
 have hx:xs.length*r.sz=0:=by rw[← R.len];rfl
 have hl:xs.length=0:=by
  rcases Nat.mul_eq_zero.1 hx with h | h <;> omega
 exact⟨List.eq_nil_of_length_eq_zero hl,by omega⟩
theorem Az{b:Option Addr}{l c:Nat}{xs:List bh}(S:SlR aA h b l c xs)(hl:l≤1048576):
  af ak 112 #[.slice b l c] (λu h'=>∃b' c' B,u = .slice b' l c'∧SlO 135 aA B b' l c' xs∧Mem h h' B) h:=by
 refine ew.call (KT xO (br (λhb=>?_) λhb=>?_))
 ·obtain rfl:b=none:=by simpa using hb
  obtain⟨rfl,rfl⟩:=Tn Qn S
  exact⟨none,0,[],rfl,SlO.nil,Mem.start h⟩
 ·exact(Mem.start h).alc λg h1 x1 M=>jZ pF Qn mb (S.ext x1) M (by omega) λb' c' h' B' O' M'=>lR ⟨b',c',B',rfl,O',by simpa using M'⟩
theorem HX{b:Option Addr}{l c:Nat}{xs:List aZ}(S:SlR bF h b l c xs)(hl:l≤1048576):
  af ak 113 #[.slice b l c] (λu h'=>∃b' c' B,u = .slice b' l c'∧SlO 131 bF B b' l c' xs∧Mem h h' B) h:=by
 refine fW.call (KT Ey (br (λhb=>?_) λhb=>?_))
 ·obtain rfl:b=none:=by simpa using hb
  obtain⟨rfl,rfl⟩:=Tn tk S
  exact⟨none,0,[],rfl,SlO.nil,Mem.start h⟩
 ·exact(Mem.start h).alc λg h1 x1 M=>jZ wM tk G1 (S.ext x1) M (by omega) λb' c' h' B' O' M'=>lR ⟨b',c',B',rfl,O',by simpa using M'⟩
theorem yU{s:bI}(h:s.ok=true):s.dv.bG.length≤31∧s.az.length≤6∧s.bo.length≤128:=by
 have G:=sP h
 have g1:=G.even
 have g2:=G.UQ
 unfold bI.ok at h
 simp only[Bool.and_eq_true,decide_eq_true_eq] at h
 have ht:=h.1.1.2
 unfold bC.ok at ht
 simp only[Bool.and_eq_true,inR,decide_eq_true_eq] at ht
 exact⟨by omega,h.1.2.1,by omega⟩
theorem Uw{q:Addr}{s:bI}(R:RdP bU h q s)(hs:s.ok=true):af ak 65 #[.pointer (some q)] (λu h'=>mN bU h h' u s) h:=by
 obtain⟨z1,z2,z3⟩:=yU hs
 refine wE.call ((Mem.start h).alc λg1 h1 x1 M=>(R.ext M.ext).jc rfl λcs Rc=>?_)
 obtain⟨y1,y2,y3,b1,l1,c1,b2,l2,c2,b3,l3,c3,rfl,F1,F2,F3,S1,S2,S3⟩:=tP Rc
 refine M.alc λg4 h2 x2 M=>M.dH .here rfl RO rfl .here λh3 M=>M.alc λg7 h4 x4 M=>?_
 have A:∀{hh:ab},Ext h hh->RdP bU hh q s:=λe=>R.ext e
 refine(A M.ext).oL λb lA c S=>jZ lD (by decide) (u0 _) S M (by have:=S.len;omega) λb1' c1' h5 B1 O1 M=>lR ?_
 have e1:=S.len
 have M:=M.cnt (W:=(g4,39,⟨scC y1 y2 y3 b1 l1 c1 b2 l2 c2 b3 l3 c3⟩) :: (B1++[(g1,39,⟨dw⟩)]))
 refine M.st1 .here (by show 3<6;decide) .here λh6 M=>?_
 have M:Mem h h6 ((g4,39,⟨scC y1 y2 y3 b1' lA c1' b2 l2 c2 b3 l3 c3⟩) :: (B1++[(g1,39,⟨dw⟩)])):=M
 refine M.alc λg8 h7 x7 M=>(A M.ext).oL λb lB c S=>jZ pF Qn mb S M (by have:=S.len;omega) λb2' c2' h8 B2 O2 M=>lR ?_
 have e2:=S.len
 have M:=M.cnt (W:=(g4,39,⟨scC y1 y2 y3 b1' lA c1' b2 l2 c2 b3 l3 c3⟩) :: (B2++(B1++[(g1,39,⟨dw⟩)])))
 refine M.st1 .here (by show 4<6;decide) .here λh9 M=>?_
 have M:Mem h h9 ((g4,39,⟨scC y1 y2 y3 b1' lA c1' b2' lB c2' b3 l3 c3⟩) :: (B2++(B1++[(g1,39,⟨dw⟩)]))):=M
 refine M.alc λg9 gv Tw M=>(A M.ext).oL λb lC c S=>jZ wM tk G1 S M (by have:=S.len;omega) λb3' c3' me B3 O3 M=>lR ?_
 have e3:=S.len
 have M:=M.cnt (W:=(g4,39,⟨scC y1 y2 y3 b1' lA c1' b2' lB c2' b3 l3 c3⟩) :: (B3++(B2++(B1++[(g1,39,⟨dw⟩)]))))
 refine M.st1 .here (by show 5<6;decide) .here λjl M=>?_
 have M:Mem h jl ((g4,39,⟨scC y1 y2 y3 b1' lA c1' b2' lB c2' b3' lC c3'⟩) :: (B3++(B2++(B1++[(g1,39,⟨dw⟩)])))):=M
 refine M.df .here rfl ?_
 have M:=M.cnt (W:=(g1,39,⟨dw⟩) :: (B1++(B2++B3)))
 exact M.dH .here rfl RO rfl .here λhP M=>M.df .here rfl ⟨_,B1++(B2++B3),rfl,OJ F1 F2 F3 O1 O2 O3,M.drop⟩
theorem I8{cs:Array Value}{s:bI}(R0:bU.rd h cs.toList s)(hs:s.ok=true):af ak 69 #[.agg cs] (λu h'=>mN bU h h' u s) h:=by
 obtain⟨z1,z2,z3⟩:=yU hs
 obtain⟨y1,y2,y3,b1,l1,c1,b2,l2,c2,b3,l3,c3,rfl,F1,F2,F3,S1,S2,S3⟩:=tP R0
 have e1:=S1.len
 have e2:=S2.len
 have e3:=S3.len
 refine oD.call ((Mem.start h).alc λg1 h1 x1 M=>M.alc λg3 h2 x2 M=>?_)
 have M:=M.cnt (W:=(g1,39,⟨scC y1 y2 y3 b1 l1 c1 b2 l2 c2 b3 l3 c3⟩) :: [(g3,39,⟨dw⟩)])
 have P:RdP bU h2 ⟨g1,0,none⟩ s:=M.rdp .here (bU.ext M.ext R0)
 refine o_l (M.cell .here 3) (o_l (M.cell .here 4) (o_l (M.cell .here 5) ?_))
 refine(xI (S1.ext M.ext) (by omega)).mono ?_
 rintro _ h3 ⟨b1',c1',B1,rfl,O1,N⟩
 refine lR (P.IT (by decide) N.ext (P.IT (by decide) N.ext ?_))
 have x3:=N.ext
 have M:=M.join N
 refine(Az (S2.ext M.ext) (by omega)).mono ?_
 rintro _ h4 ⟨b2',c2',B2,rfl,O2,N⟩
 refine lR (P.IT (by decide) (x3.trans N.ext) ?_)
 have M:=M.join N
 refine(HX (S3.ext M.ext) (by omega)).mono ?_
 rintro _ h5 ⟨b3',c3',B3,rfl,O3,N⟩
 refine lR ?_
 have M:=(M.join N).cnt (W:=(g1,39,⟨scC y1 y2 y3 b1 l1 c1 b2 l2 c2 b3 l3 c3⟩) :: (B1++(B2++(B3++[(g3,39,⟨dw⟩)]))))
 refine M.st1 .here (by show 3<6;decide) .here λh6 M=>M.st1 .here (by show 4<6;decide) .here λh7 M=>M.st1 .here (by show 5<6;decide) .here λh8 M=>?_
 have M:Mem h h8 ((g1,39,⟨scC y1 y2 y3 b1' l1 c1' b2' l2 c2' b3' l3 c3'⟩) :: (B1++(B2++(B3++[(g3,39,⟨dw⟩)])))):=M
 refine M.df .here rfl ?_
 have M:=M.cnt (W:=(g3,39,⟨dw⟩) :: (B1++(B2++B3)))
 exact M.dH .here rfl RO rfl .here λhP M=>M.df .here rfl ⟨_,B1++(B2++B3),rfl,OJ F1 F2 F3 O1 O2 O3,M.drop⟩
end
end Go.Sx
namespace Go.Sx
section
variable {h:ab}
theorem Mem.Ov{h0 h':ab}{L:List Blk}{g j:Nat}{cs:Array Value}{p:Prop}(M:Mem h0 h L)(l:gi L g cs)(hj:j<cs.size)(X:Ext h h')(H:p):PIN h ⟨g,j,none⟩ 1 h' p:=by
 refine Sx.pin X (λk hk=>⟨cs[j],?_⟩) H
 obtain rfl:k=0:=by omega
 rw[kW,M.cell l]
 simp[hj]
theorem Upd.skip{B L L':List Blk}{g:Nat}{cs:Array Value}(k:Upd L g cs L'):Upd (B++L) g cs (B++L'):=by
 induction B with
 | nil=>exact k
 | cons p B ih=>exact .there ih
end
end Go.Sx
