/- Lemmas. -/
import Derived.Test.YthhepeklpgefkaaGreatDoorLp4
import Derived.Test.YthhepeklpgefkaaGreatDoorLk45
set_option linter.unusedVariables false
set_option linter.unusedSimpArgs false
namespace Go.Sx
section
variable {h:ab}
theorem Mem.Ng{h0 h':ab}{L:List Blk}{g j:Nat}{cs:Array Value}{p:Prop}(M:Mem h0 h L)(l:iR L g cs)(hj:j<cs.size)(X:Ext h h')(H:p):PIN h ⟨g,j,none⟩ 1 h' p:=by
 refine Sx.pin X (λk hk=>⟨cs[j],?_⟩) H
 obtain rfl:k=0:=by omega
 rw[ny,M.cell l]
 simp[hj]
theorem Upd.skip{B L L':List Blk}{g:Nat}{cs:Array Value}(k:Upd L g cs L'):Upd (B++L) g cs (B++L'):=by
 induction B with
 | nil=>exact k
 | cons p B ih=>exact .there ih
end
end Go.Sx
namespace Go.Sx
open Go.Proofs Ieee
set_option maxRecDepth 100000
set_option maxHeartbeats 2000000
def Ee(n:Int):bc:=⟨List.replicate n.toNat 0,0⟩
def Nh(n:Int)(op:Bool)(k l:Nat):cF:={ aY:=[Ee n],Left:=[Ee n],aG:=[],End:=uP k,Open:=op,fi:=l,Rest:=1061158912,fG:=3200253952 }
def rl(ok:Bool)(n:Int)(op:Bool)(k l:Nat):cF×Int:=if ok&&inR n 1 1024 then (Nh n op k l,0) else (lv,2)
def gh(n:Int)(op:Bool)(k l:Nat):cF×Int:=rl (place k&&inside l 0 1065353216) n op k l
theorem ZB{x:cF}{B1 B2 B3:List Blk}{b1 b2 b3:Option Addr}{l1 c1 l2 c2 l3 c3:Nat}{v:List Value}{y1 y2 y3:Nat}(O1:SlO aq bo B1 b1 l1 c1 x.aY)(O2:SlO aq bo B2 b2 l2 c2 x.Left)(O3:SlO au (rF .f32) B3 b3 l3 c3 x.aG)(hv:bQ.ow [] v x.End)(h1:FW .f32 y1 x.fi)(h2:FW .f32 y2 x.Rest)(h3:FW .f32 y3 x.fG):
  ck.ow (B1++(B2++B3)) ([.slice b1 l1 c1]++([.slice b2 l2 c2]++([.slice b3 l3 c3]++(v++[.bool x.Open,.float .f32 y1,.float .f32 y2,.float .f32 y3])))) x:=
 ⟨B1,B2++B3,[.slice b1 l1 c1],_,rfl,rfl,⟨b1,l1,c1,rfl,O1⟩,B2,B3,[.slice b2 l2 c2],_,rfl,rfl,⟨b2,l2,c2,rfl,O2⟩,B3,[],[.slice b3 l3 c3],_,by simp,rfl,⟨b3,l3,c3,rfl,O3⟩,
  [],[],v,_,rfl,rfl,hv,[],[],[.bool x.Open],_,rfl,rfl,⟨rfl,rfl⟩,[],[],[.float .f32 y1],_,rfl,rfl,⟨rfl,y1,rfl,h1⟩,[],[],[.float .f32 y2],[.float .f32 y3],rfl,rfl,⟨rfl,y2,rfl,h2⟩,⟨rfl,y3,rfl,h3⟩⟩
def ppC(b1:Option Addr)(l1 c1:Nat)(b2:Option Addr)(l2 c2:Nat)(b3:Option Addr)(l3 c3:Nat)(k:Int)(a b:Nat)(op:Bool)(y:Nat):List Value:=
 [.slice b1 l1 c1]++([.slice b2 l2 c2]++([.slice b3 l3 c3]++(flC k a b 0 0 0++[.bool op,.float .f32 y,.float .f32 1061158912,.float .f32 3200253952])))
theorem YY:FW .f32 1061158912 1061158912:=fK (by decide) (by decide)
theorem adk:FW .f32 3200253952 3200253952:=fK (by decide) (by decide)
section
variable {h:ab}{x a:Nat}
theorem Td{n:Int}{op ok:Bool}{k l:Nat}{g:Nat}{hh:ab}{L:List Blk}(M:Mem h hh ((g,av,⟨aH⟩) :: L))(e:(ok&&inR n 1 1024)=false):
  STA 13 hh ⟨g,0,none⟩ ⟨aH⟩ λh8=>LDA 13 h8 ⟨g,0,none⟩ λa9=>jG ck h h8 (.tuple ⟨[.agg a9,.int .i64 (2:Int)]⟩) (rl ok n op k l).1 (rl ok n op k l).2:=by
 rw[rl,e,if_neg (by decide)]
 exact M.dy .here rfl (eG rfl) rfl .here λh3 M=>M.cM .here rfl ⟨_,[],rfl,EI,(Mem.start h).grow M.ext⟩
theorem QI{h0 hh:ab}{B Bn L:List Blk}{b bb:Option Addr}{l c ll cc n:Nat}{xs:List bc}{K:Value->ab->Prop}{ty:Nat}{Q:ab->Prop->Prop}(O:SlO aq bo B b l c xs)(M:Mem h0 hh (B++(Bn++L)))(Or:SlO au (rF .f32) Bn bb ll cc (List.replicate n 0))(hl:l≤8)(Hp:∀(h':ab) (p:Prop),Ext hh h'->p->Q h' p)(H:∀b' c' h' B',Ext hh hh->SlO aq bo B' b' (l+1) c' (xs++[⟨List.replicate n 0,0⟩])->Mem h0 h' (B'++L)->K (.slice b' (l+1) c') h'):
  ALC ⟨[.slice bb ll cc,.int .i64 (0:Int)]⟩ aq (λg h=>Q h (iA ai (Builtin.append_ #[bG,bG] ty #[.slice b l c,.slice (some ⟨g,0,none⟩) 1 1]) K h)) hh:=by
 have hm:(9:Nat)≤maxLen:=by decide
 refine M.alc λg h1 x1 M1=>Hp _ _ x1 ?_
 have M2:Mem h0 h1 (B++(Bn++((g,aq,⟨[.slice bb ll cc,.int .i64 (0:Int)]⟩) :: L))):=M1.cnt (λp=>by simp only[bO,bz,cg] at *;omega)
 refine O.app (news:=[.slice bb ll cc,.int .i64 (0:Int)]) rR M2 (ys:=[⟨List.replicate n 0,0⟩]) rfl ⟨Bn,[],[.slice bb ll cc,.int .i64 (0:Int)],[],by simp,by simp,Cx (r:=⟨List.replicate n 0,0⟩) Or,rfl,rfl⟩ (λj v hj=>?_) (by omega) (by omega) λb' c' h' B' O' M'=>H b' c' h' B' (Ext.refl _) O' (M'.cnt (λp=>by simp only[bO,bz,cg] at *;omega))
 rw[eW,Nat.zero_add,M1.cell .here,← hj];simp
theorem NI{b s:Option Addr}{c sc:Nat}{n:Int}{op:Bool}{k l k' l':Nat}(S:SlR (rI .i64) h b 1 c [n])(Z:SlR (rF .f32) h s 0 sc [])(hk:FW .f32 k k')(hl:FW .f32 l l'):
  ae ai cG #[.slice b 1 c,.slice s 0 sc,.bool op,.float .f32 k,.float .f32 l] (λu h'=>jG ck h h' u (gh n op k' l').1 (gh n op k' l').2) h:=by
 refine aS.call ((Mem.start h).alc λg1 h1 x1 M=>goM M (mg _ _ _ _) λh2 M=>bd (BB rfl ?_))
 have key:∀ok:Bool,ok=(place k'&&inside l' 0 1065353216)->aS.J2 (λu h'=>jG ck h h' u (gh n op k' l').1 (gh n op k' l').2) b 1 c s 0 sc op k l ⟨g1,0,none⟩ ok h2:=by
  intro ok KV
  unfold gh
  rw[← KV]
  have aqL:∀{hh:ab}{AL:Nat}{b3:Option Addr}{c3:Nat}{B3:List Blk}{kk:Int}{yy zz:Nat},inR n 1 1024=true->ok=true->SlO au (rF .f32) B3 b3 0 c3 []->bQ.ow [] (flC kk yy zz 0 0 0) (uP k')->Mem h hh ((AL,av,⟨ppC none 0 0 none 0 0 b3 0 c3 kk yy zz op l⟩) :: (B3++[(g1,av,⟨aH⟩)])) ->
    bh (aS.B14 (λu h'=>jG ck h h' u (rl ok n op k' l').1 (rl ok n op k' l').2)) (b,1,c,⟨g1,0,none⟩,⟨AL,0,none⟩,(0:Int)) hh:=by
   intro hh AL b3 c3 B3 kk yy zz hn KV O3 OE M
   have hn2:1≤n∧n≤1024:=by simpa only[inR,Bool.and_eq_true,decide_eq_true_eq] using hn
   obtain⟨N,rfl⟩:∃N:Nat,n=(N:Int):=⟨n.toNat,by omega⟩
   refine loop (λx hx=>∃j:Nat,x=(b,1,c,⟨g1,0,none⟩,⟨AL,0,none⟩,(j:Int))∧(j=0∧Mem h hx ((AL,av,⟨ppC none 0 0 none 0 0 b3 0 c3 kk yy zz op l⟩) :: (B3++[(g1,av,⟨aH⟩)])) ∨
     j=1∧∃b1 c1 B1 b2 c2 B2,SlO aq bo B1 b1 1 c1 [⟨List.replicate N 0,0⟩]∧SlO aq bo B2 b2 1 c2 [⟨List.replicate N 0,0⟩]∧Mem h hx ((AL,av,⟨ppC b1 1 c1 b2 1 c2 b3 0 c3 kk yy zz op l⟩) :: (B1++(B2++(B3++[(g1,av,⟨aH⟩)]))))))
    (λx=>(1-x.2.2.2.2.2).toNat) ⟨0,rfl,.inl ⟨rfl,M⟩⟩ ?_
   rintro x hx ⟨j,rfl,⟨rfl,M⟩ | ⟨rfl,b1,c1,B1,b2,c2,B2,O1,O2,M⟩⟩
   ·unfold aS.B14
    simp only[rq]
    refine brd (λ_=>?_) λhc=>by omega
    refine o_l (M.cell .here 0) ((S.ext M.ext).idx (by decide) (by omega) (by omega) λp Rp=>Rp.oI1 ?_)
    show MKS fh au (N:Int) (N:Int) _ hx
    refine we M (by omega) λg56 h4 B4 x4 M4 O4=>M.Ng .here (by show 0<13;decide) x4 (siz rfl ?_)
    refine QI (n:=N) (B:=[]) SlO.nil M4 O4 (by omega) (λh' p x H=>M.Ng .here (by show 0<13;decide) (x4.trans x) H) λb1 c1 h5 B1 _ O1 M=>lZ (M.st1 (iR.skip .here) (by show 0<13;decide) (Upd.skip .here) λh6 M=>?_)
    have M:Mem h h6 (B1++((AL,av,⟨ppC b1 1 c1 none 0 0 b3 0 c3 kk yy zz op l⟩) :: (B3++[(g1,av,⟨aH⟩)]))):=M
    have M:=M.cnt (W:=(AL,av,⟨ppC b1 1 c1 none 0 0 b3 0 c3 kk yy zz op l⟩) :: (B1++(B3++[(g1,av,⟨aH⟩)])))
    refine o_l (M.cell .here 1) ((S.ext M.ext).idx (by decide) (by omega) (by omega) λp Rp=>Rp.oI1 ?_)
    show MKS fh au (N:Int) (N:Int) _ h6
    refine we M (by omega) λg67 h7 B7 x7 M7 O7=>M.Ng .here (by show 1<13;decide) x7 (siz rfl ?_)
    refine QI (n:=N) (B:=[]) SlO.nil M7 O7 (by omega) (λh' p x H=>M.Ng .here (by show 1<13;decide) (x7.trans x) H) λb2 c2 h8 B2 _ O2 M=>lZ (M.st1 (iR.skip .here) (by show 1<13;decide) (Upd.skip .here) λh9 M=>?_)
    have M:Mem h h9 (B2++((AL,av,⟨ppC b1 1 c1 b2 1 c2 b3 0 c3 kk yy zz op l⟩) :: (B1++(B3++[(g1,av,⟨aH⟩)])))):=M
    have M:=M.cnt (W:=(AL,av,⟨ppC b1 1 c1 b2 1 c2 b3 0 c3 kk yy zz op l⟩) :: (B1++(B2++(B3++[(g1,av,⟨aH⟩)]))))
    exact ⟨⟨1,by rw[show (0:Nat)=0 from rfl];rfl,.inr ⟨rfl,b1,c1,B1,b2,c2,B2,O1,O2,M⟩⟩,by decide⟩
   ·unfold aS.B14
    refine brd (λhc=>by omega) λ_=>?_
    have Fz:rl ok (N:Int) op k' l'=(Nh (N:Int) op k' l',0):=by rw[rl,KV,hn];rfl
    rw[Fz]
    have O:=ZB (x:=Nh (N:Int) op k' l') O1 O2 O3 OE hl YY adk
    refine M.cM .here rfl ?_
    have M:=M.cnt (W:=(g1,av,⟨aH⟩) :: (B1++(B2++B3)))
    exact M.dy .here rfl (ck.iH O) rfl .here λh3 M=>M.cM .here rfl ⟨_,_,rfl,O,M.drop⟩
  have aqM:∀{hh:ab}(ok7:Bool),ok7=(ok&&inR n 1 1024)->Mem h hh [(g1,av,⟨aH⟩)]->bh (aS.B7 (λu h'=>jG ck h h' u (rl ok n op k' l').1 (rl ok n op k' l').2)) (b,1,c,s,0,sc,op,k,l,⟨g1,0,none⟩,ok7,(0:Int)) hh:=by
   intro hh ok7 alM M
   refine loop (λx hx=>x=(b,1,c,s,0,sc,op,k,l,⟨g1,0,none⟩,ok7,(0:Int))∧hx=hh) (λ_=>0) ⟨rfl,rfl⟩ ?_
   rintro x hx ⟨rfl,rfl⟩
   unfold aS.B7
   refine brd (λhc=>by omega) λ_=>brN (λe=>Td M (by rw[← alM,e])) λe=>?_
   rw[e] at alM
   have h7:ok=true∧inR n 1 1024=true:=by simpa using alM.symm
   refine M.alc λg36 h4 x4 M=>lL pd (by decide) (nZ _) (Z.ext M.ext) M (by omega) λb3 c3 h5 B3 O3 M=>lZ ((Ej hk).mono ?_)
   rintro _ h6 ⟨⟨kk,yy,zz,rfl,OE⟩,x6⟩
   refine fe (siz rfl ((M.grow x6).alc λg44 h7' x7 M=>M.dy .here rfl (eG rfl) rfl .here λh8 M=>?_))
   exact aqL h7.2 h7.1 O3 OE M
  unfold aS.J2
  refine loop (λx hx=>∃j:Nat,j≤1∧x=(b,1,c,s,0,sc,op,k,l,⟨g1,0,none⟩,(if j=0 then ok else ok&&inR n 1 1024),(j:Int))∧Mem h hx [(g1,av,⟨aH⟩)]) (λx=>(1-x.2.2.2.2.2.2.2.2.2.2.2).toNat) ⟨0,by omega,rfl,M⟩ ?_
  rintro x hx ⟨j,hj,rfl,M⟩
  unfold aS.B3
  by_cases e:j=0
  ·subst e
   rw[if_pos rfl]
   refine brd (λ_=>br (λe=>?_) λe=>aqM _ (by rw[e];rfl) M) λhc=>by omega
   unfold aS.J5
   refine (S.ext M.ext).idx (by decide) (by omega) (by omega) λp Rp=>Rp.oI1 ?_
   show ae ai eO #[.int .i64 n,.int .i64 (1:Int),.int .i64 (1024:Int)] _ hx
   refine goM M (mg _ _ _ _) λh4 M=>bd ⟨⟨1,by omega,by rw[e];rfl,M⟩,by show (1-IntKind.i64.wrap (((0:Nat):Int)+1)).toNat<(1-((0:Nat):Int)).toNat;decide⟩
  ·obtain rfl:j=1:=by omega
   rw[if_neg (by decide)]
   exact brd (λhc=>by omega) λ_=>aqM _ rfl M
 refine BB rfl ?_
 rw[cY hk fw0,cY hk c1,cY hl fw0,cY hl c1]
 refine br (λk1=>br (λk2=>br (λk3=>key _ (by rw[place,inside,fge,flt,fge,fle,k1,k2,k3];rfl)) λk3=>key _ (by rw[place,inside,fge,flt,fge,k1,k2,k3];rfl)) λk2=>key _ (by rw[place,fge,flt,k1,k2];rfl)) λk1=>key _ (by rw[place,fge,k1];rfl)
end
set_option maxHeartbeats 4000000
theorem Ad{h0 h h1 h':ab}{L L':List Blk}{g j n:Nat}{cs:Array Value}{p:Prop}(M:Mem h0 h L)(l:iR L g cs)(M':Mem h1 h' L')(l':iR L' g cs)(H:p):PIN h ⟨g,j,none⟩ n h' p:=
 ⟨λi _=>by rw[eW,M.cell l,M'.cell l'],H⟩
theorem AA{h0 hh:ab}{B Bn L:List Blk}{b bb:Option Addr}{g l c ll cc n:Nat}{xs:List bc}{K:Value->ab->Prop}{ty:Nat}(O:SlO aq bo B b l c xs)(M:Mem h0 hh (B++(Bn++L)))(lk:iR L g ⟨[.slice bb ll cc,.int .i64 (0:Int)]⟩)(Or:SlO au (rF .f32) Bn bb ll cc (List.replicate n 0))(hl:l≤8)(H:∀b' c' h' B',SlO aq bo B' b' (l+1) c' (xs++[⟨List.replicate n 0,0⟩])->Mem h0 h' (B'++L)->K (.slice b' (l+1) c') h'):
  iA ai (Builtin.append_ #[bG,bG] ty #[.slice b l c,.slice (some ⟨g,0,none⟩) 1 1]) K hh:=by
 have hm:(9:Nat)≤maxLen:=by decide
 refine O.app (news:=[.slice bb ll cc,.int .i64 (0:Int)]) rR M (ys:=[⟨List.replicate n 0,0⟩]) rfl ⟨Bn,[],[.slice bb ll cc,.int .i64 (0:Int)],[],by simp,by simp,Cx (r:=⟨List.replicate n 0,0⟩) Or,rfl,rfl⟩ (λj v hj=>?_) (by omega) (by omega) H
 rw[eW,Nat.zero_add,M.cell (iR.skip (iR.skip lk)),← hj];simp
theorem MC(b:Option Addr)(l c:Nat):Ret ai pI #[.slice b l c] (.int .i64 l):=λh=>sT.call ⟨rfl,Ext.refl _⟩
section
variable {h:ab}{x a:Nat}
theorem aac{b s:Option Addr}{c sc:Nat}{n:Int}{op:Bool}{k l k' l':Nat}(S:SlR (rI .i64) h b 1 c [n])(Z:SlR (rF .f32) h s 0 sc [])(hk:FW .f32 k k')(hl:FW .f32 l l'):
  ae ai xy #[.slice b 1 c,.slice s 0 sc,.bool op,.float .f32 k,.float .f32 l] (λu h'=>jG ck h h' u (gh n op k' l').1 (gh n op k' l').2) h:=by
 refine bJ.call ((Mem.start h).alc λg1 h1 x1 M=>goM M (MC _ _ _ _) λh1' M=>cX (goM M (kJ _ _ _ _) λh2 M=>bd (BB rfl (BB rfl ?_))))
 have key:∀{hh:ab}(ok:Bool),ok=(place k'&&inside l' 0 1065353216)->Mem h hh [(g1,av,(⟨aH⟩:Array Value))]->bJ.J2 (λu h'=>jG ck h h' u (gh n op k' l').1 (gh n op k' l').2) b 1 c s 0 sc op k l ⟨g1,0,none⟩ ok hh:=by
  intro hh ok KV M
  unfold gh
  rw[← KV]
  unfold bJ.J2
  refine loop (λx hx=>x=(b,1,c,s,0,sc,op,k,l,⟨g1,0,none⟩,ok,s,0,sc,(0:Int),(0:Int))∧hx=hh) (λ_=>0) ⟨rfl,rfl⟩ ?_
  rintro x hx ⟨rfl,rfl⟩
  unfold bJ.B3
  refine brd (λhc=>by omega) λ_=>(yO (Z.ext M.ext) (by omega)).mono ?_
  rintro _ h3 ⟨b3,c3,B3,rfl,O3,N3⟩
  have M:=M.join N3
  refine lZ ((PV hk).mono ?_)
  rintro _ h6 ⟨⟨kk,yy,zz,rfl,OE⟩,x6⟩
  refine fe (siz rfl ((M.grow x6).alc λAL h7' x7 M=>M.dy .here rfl (eG rfl) rfl .here λh8 M=>?_))
  refine loop (λx hx=>∃j:Nat,x=(⟨g1,0,none⟩,ok,⟨AL,0,none⟩,b,1,c,(1:Int),(j:Int))∧(j=0∧Mem h hx ((AL,av,⟨ppC none 0 0 none 0 0 b3 0 c3 kk yy zz op l⟩) :: (B3++[(g1,av,(⟨aH⟩:Array Value))])) ∨
    j=1∧ok=true∧∃(N:Nat) (b1:Option Addr) (c1:Nat) (B1:List Blk) (b2:Option Addr) (c2:Nat) (B2:List Blk),n=(N:Int)∧inR n 1 1024=true∧SlO aq bo B1 b1 1 c1 [⟨List.replicate N 0,0⟩]∧SlO aq bo B2 b2 1 c2 [⟨List.replicate N 0,0⟩]∧Mem h hx ((AL,av,⟨ppC b1 1 c1 b2 1 c2 b3 0 c3 kk yy zz op l⟩) :: (B1++(B2++(B3++[(g1,av,(⟨aH⟩:Array Value))]))))))
   (λx=>(1-x.2.2.2.2.2.2.2).toNat) ⟨0,rfl,.inl ⟨rfl,M⟩⟩ ?_
  rintro x hx ⟨j,rfl,⟨rfl,M⟩ | ⟨rfl,aqA,N,b1,c1,B1,b2,c2,B2,rfl,hn,O1,O2,M⟩⟩
  ·unfold bJ.B9
   refine brd (λ_=>?_) λhc=>by omega
   refine (S.ext M.ext).idx (by decide) (by omega) (by omega) λp Rp=>Rp.oI1 ?_
   show BIF (!ok) _ (ae ai dY #[.int .i64 n,.int .i64 (1:Int),.int .i64 (1024:Int)] _ hx)
   have Mo:Mem h hx ((g1,av,(⟨aH⟩:Array Value)) :: ((AL,av,⟨ppC none 0 0 none 0 0 b3 0 c3 kk yy zz op l⟩) :: B3)):=M.cnt (λp=>by simp only[bO,bz,cg] at *;omega)
   refine brN (λe=>Td Mo (by rw[e];rfl)) λe=>goM Mo (kJ _ _ _ _) λh9 Mo=>bd (brN (λe2=>Td Mo (by rw[e2,Bool.and_false])) λhn=>?_)
   have hn2:1≤n∧n≤1024:=by simpa only[inR,Bool.and_eq_true,decide_eq_true_eq] using hn
   obtain⟨N,rfl⟩:∃N:Nat,n=(N:Int):=⟨n.toNat,by omega⟩
   unfold bJ.J13
   simp only[rq]
   refine Ia Mo (by omega) (by omega) λgd Ba qa la ca xa M Oa=>nq (fe (cX (M.alc λga kc x11 M=>M.dy .here rfl (eG rfl) rfl .here λiG M=>?_)))
   refine Ia M (by omega) (by omega) λgf Bb qb lb cb xb M Ob=>nq (fe (cX (M.alc λgb ke x14 M=>M.dy .here rfl (eG rfl) rfl .here λkB M=>?_)))
   -- the two rings,the pipe,the asE place
   have M:Mem h kB ((gb,aq,⟨[.slice qb lb cb,.int .i64 (0:Int)]⟩) :: (ga,aq,⟨[.slice qa la ca,.int .i64 (0:Int)]⟩) :: (AL,av,⟨ppC none 0 0 none 0 0 b3 0 c3 kk yy zz op l⟩) :: (g1,av,(⟨aH⟩:Array Value)) :: (Ba++(Bb++B3))):=M.cnt (λp=>by simp only[bO,bz,cg] at *;omega)
   refine o_l (M.cell (.there (.there .here)) 0) (M.cM (.there .here) rfl (o_l (M.cell (.there (.there .here)) 1) (M.cM .here rfl ?_)))
   have fin:∀{h':ab}{b1 b2:Option Addr}{c1 c2:Nat}{B1 B2 X:List Blk},SlO aq bo B1 b1 1 c1 [⟨List.replicate N 0,0⟩]->SlO aq bo B2 b2 1 c2 [⟨List.replicate N 0,0⟩]->Mem h h' ((AL,av,⟨ppC none 0 0 none 0 0 b3 0 c3 kk yy zz op l⟩) :: (B1++(B2++(B3++((g1,av,(⟨aH⟩:Array Value)) :: X))))) ->
     ST1 h' ⟨AL,0,none⟩ (.slice b1 1 c1) λjZ=>ST1 jZ ⟨AL,1,none⟩ (.slice b2 1 c2) λqz=>
      ((∃j:Nat,((⟨g1,0,none⟩:Addr),ok,(⟨AL,0,none⟩:Addr),b,1,c,(1:Int),IntKind.i64.wrap (((0:Nat):Int)+1))=(⟨g1,0,none⟩,ok,⟨AL,0,none⟩,b,1,c,(1:Int),(j:Int))∧(j=0∧Mem h qz ((AL,av,⟨ppC none 0 0 none 0 0 b3 0 c3 kk yy zz op l⟩) :: (B3++[(g1,av,(⟨aH⟩:Array Value))])) ∨
       j=1∧ok=true∧∃(N':Nat) (b1:Option Addr) (c1:Nat) (B1:List Blk) (b2:Option Addr) (c2:Nat) (B2:List Blk),(N:Int)=(N':Int)∧inR (N:Int) 1 1024=true∧SlO aq bo B1 b1 1 c1 [⟨List.replicate N' 0,0⟩]∧SlO aq bo B2 b2 1 c2 [⟨List.replicate N' 0,0⟩]∧Mem h qz ((AL,av,⟨ppC b1 1 c1 b2 1 c2 b3 0 c3 kk yy zz op l⟩) :: (B1++(B2++(B3++[(g1,av,(⟨aH⟩:Array Value))])))))) ∧
       (1-IntKind.i64.wrap (((0:Nat):Int)+1)).toNat<(1-((0:Nat):Int)).toNat):=λ{h' b1 b2 c1 c2 B1 B2 X} O1 O2 M=>by
    refine M.st1 .here (by show 0<13;decide) .here λjZ M=>M.st1 .here (by show 1<13;decide) .here λqz M=>?_
    have M:Mem h qz ((AL,av,⟨ppC b1 1 c1 b2 1 c2 b3 0 c3 kk yy zz op l⟩) :: (B1++(B2++(B3++((g1,av,(⟨aH⟩:Array Value)) :: X))))):=M
    exact ⟨⟨1,rfl,.inr ⟨rfl,e,N,b1,c1,B1,b2,c2,B2,rfl,hn,O1,O2,M.cnt (λp=>by simp only[bO,bz,cg] at *;omega)⟩⟩,by decide⟩
   refine ⟨siz rfl (M.alc λg73 iJ x16 M1=>?_),siz rfl (M.alc λg95 iJ x16 M1=>?_)⟩
   ·have M1:Mem h iJ ((g73,aq,⟨[.slice qa la ca,.int .i64 (0:Int)]⟩) :: (gb,aq,⟨[.slice qb lb cb,.int .i64 (0:Int)]⟩) :: (ga,aq,⟨[.slice qa la ca,.int .i64 (0:Int)]⟩) :: (AL,av,⟨ppC none 0 0 none 0 0 b3 0 c3 kk yy zz op l⟩) :: (g1,av,(⟨aH⟩:Array Value)) :: (Ba++(Bb++B3))):=M1
    refine Ad M .here M1 (.there .here) (Ad M (.there (.there .here)) M1 (.there (.there (.there .here))) (Ad M (.there (.there .here)) M1 (.there (.there (.there .here))) ⟨?_,siz rfl (M1.alc λg85 oZ x17 M2=>?_)⟩))
    ·refine AA (B:=[]) (Bn:=Ba) (L:=(g73,aq,⟨[.slice qa la ca,.int .i64 (0:Int)]⟩) :: (gb,aq,⟨[.slice qb lb cb,.int .i64 (0:Int)]⟩) :: (ga,aq,⟨[.slice qa la ca,.int .i64 (0:Int)]⟩) :: (AL,av,⟨ppC none 0 0 none 0 0 b3 0 c3 kk yy zz op l⟩) :: (g1,av,(⟨aH⟩:Array Value)) :: (Bb++B3)) SlO.nil (M1.cnt (λp=>by simp only[bO,bz,cg] at *;omega)) .here Oa (by omega) λb1 c1 oZ B1 O1 M2=>lZ ?_
     refine Ad M .here M2 (iR.skip (.there .here)) (Ad M (.there (.there .here)) M2 (iR.skip (.there (.there (.there .here)))) (siz rfl (M2.alc λg78 jn x18 M3=>?_)))
     have M3:Mem h jn ((g78,aq,⟨[.slice qb lb cb,.int .i64 (0:Int)]⟩) :: (B1++((g73,aq,⟨[.slice qa la ca,.int .i64 (0:Int)]⟩) :: (gb,aq,⟨[.slice qb lb cb,.int .i64 (0:Int)]⟩) :: (ga,aq,⟨[.slice qa la ca,.int .i64 (0:Int)]⟩) :: (AL,av,⟨ppC none 0 0 none 0 0 b3 0 c3 kk yy zz op l⟩) :: (g1,av,(⟨aH⟩:Array Value)) :: (Bb++B3)))):=M3
     refine Ad M (.there (.there .here)) M3 (.there (iR.skip (.there (.there (.there .here))))) (Ad M (.there .here) M3 (.there (iR.skip (.there (.there .here)))) (Ad M (.there (.there .here)) M3 (.there (iR.skip (.there (.there (.there .here))))) ?_))
     refine AA (B:=[]) (Bn:=Bb) (L:=(g78,aq,⟨[.slice qb lb cb,.int .i64 (0:Int)]⟩) :: (g73,aq,⟨[.slice qa la ca,.int .i64 (0:Int)]⟩) :: (gb,aq,⟨[.slice qb lb cb,.int .i64 (0:Int)]⟩) :: (ga,aq,⟨[.slice qa la ca,.int .i64 (0:Int)]⟩) :: (AL,av,⟨ppC none 0 0 none 0 0 b3 0 c3 kk yy zz op l⟩) :: (g1,av,(⟨aH⟩:Array Value)) :: (B1++B3)) SlO.nil (M3.cnt (λp=>by simp only[bO,bz,cg] at *;omega)) .here Ob (by omega) λb2 c2 tz B2 O2 M4=>lZ ?_
     exact fin O1 O2 (M4.cnt (W:=(AL,av,⟨ppC none 0 0 none 0 0 b3 0 c3 kk yy zz op l⟩) :: (B1++(B2++(B3++((g1,av,(⟨aH⟩:Array Value)) :: []))))))
    ·have M2:Mem h oZ ((g85,aq,⟨[.slice qb lb cb,.int .i64 (0:Int)]⟩) :: (g73,aq,⟨[.slice qa la ca,.int .i64 (0:Int)]⟩) :: (gb,aq,⟨[.slice qb lb cb,.int .i64 (0:Int)]⟩) :: (ga,aq,⟨[.slice qa la ca,.int .i64 (0:Int)]⟩) :: (AL,av,⟨ppC none 0 0 none 0 0 b3 0 c3 kk yy zz op l⟩) :: (g1,av,(⟨aH⟩:Array Value)) :: (Ba++(Bb++B3))):=M2
     refine Ad M (.there (.there .here)) M2 (.there (.there (.there (.there .here)))) (Ad M (.there .here) M2 (.there (.there (.there .here))) (Ad M (.there (.there .here)) M2 (.there (.there (.there (.there .here)))) ?_))
     refine AA (B:=[]) (Bn:=Ba) (L:=(g73,aq,⟨[.slice qa la ca,.int .i64 (0:Int)]⟩) :: (g85,aq,⟨[.slice qb lb cb,.int .i64 (0:Int)]⟩) :: (gb,aq,⟨[.slice qb lb cb,.int .i64 (0:Int)]⟩) :: (ga,aq,⟨[.slice qa la ca,.int .i64 (0:Int)]⟩) :: (AL,av,⟨ppC none 0 0 none 0 0 b3 0 c3 kk yy zz op l⟩) :: (g1,av,(⟨aH⟩:Array Value)) :: (Bb++B3)) SlO.nil (M2.cnt (λp=>by simp only[bO,bz,cg] at *;omega)) .here Oa (by omega) λb1 c1 jn B1 O1 M3=>lZ ?_
     refine Ad M .here M3 (iR.skip (.there (.there .here))) (Ad M (.there (.there .here)) M3 (iR.skip (.there (.there (.there (.there .here))))) ?_)
     refine AA (B:=[]) (Bn:=Bb) (L:=(g85,aq,⟨[.slice qb lb cb,.int .i64 (0:Int)]⟩) :: (g73,aq,⟨[.slice qa la ca,.int .i64 (0:Int)]⟩) :: (gb,aq,⟨[.slice qb lb cb,.int .i64 (0:Int)]⟩) :: (ga,aq,⟨[.slice qa la ca,.int .i64 (0:Int)]⟩) :: (AL,av,⟨ppC none 0 0 none 0 0 b3 0 c3 kk yy zz op l⟩) :: (g1,av,(⟨aH⟩:Array Value)) :: (B1++B3)) SlO.nil (M3.cnt (λp=>by simp only[bO,bz,cg] at *;omega)) .here Ob (by omega) λb2 c2 tz B2 O2 M4=>lZ ?_
     exact fin O1 O2 (M4.cnt (W:=(AL,av,⟨ppC none 0 0 none 0 0 b3 0 c3 kk yy zz op l⟩) :: (B1++(B2++(B3++((g1,av,(⟨aH⟩:Array Value)) :: []))))))
   ·have M1:Mem h iJ ((g95,aq,⟨[.slice qb lb cb,.int .i64 (0:Int)]⟩) :: (gb,aq,⟨[.slice qb lb cb,.int .i64 (0:Int)]⟩) :: (ga,aq,⟨[.slice qa la ca,.int .i64 (0:Int)]⟩) :: (AL,av,⟨ppC none 0 0 none 0 0 b3 0 c3 kk yy zz op l⟩) :: (g1,av,(⟨aH⟩:Array Value)) :: (Ba++(Bb++B3))):=M1
    refine Ad M (.there (.there .here)) M1 (.there (.there (.there .here))) (Ad M (.there .here) M1 (.there (.there .here)) (Ad M (.there (.there .here)) M1 (.there (.there (.there .here))) (siz rfl (M1.alc λg97 oZ x17 M2=>?_))))
    have M2:Mem h oZ ((g97,aq,⟨[.slice qa la ca,.int .i64 (0:Int)]⟩) :: (g95,aq,⟨[.slice qb lb cb,.int .i64 (0:Int)]⟩) :: (gb,aq,⟨[.slice qb lb cb,.int .i64 (0:Int)]⟩) :: (ga,aq,⟨[.slice qa la ca,.int .i64 (0:Int)]⟩) :: (AL,av,⟨ppC none 0 0 none 0 0 b3 0 c3 kk yy zz op l⟩) :: (g1,av,(⟨aH⟩:Array Value)) :: (Ba++(Bb++B3))):=M2
    refine Ad M .here M2 (.there (.there .here)) (Ad M (.there (.there .here)) M2 (.there (.there (.there (.there .here)))) (Ad M (.there (.there .here)) M2 (.there (.there (.there (.there .here)))) ?_))
    refine AA (B:=[]) (Bn:=Ba) (L:=(g97,aq,⟨[.slice qa la ca,.int .i64 (0:Int)]⟩) :: (g95,aq,⟨[.slice qb lb cb,.int .i64 (0:Int)]⟩) :: (gb,aq,⟨[.slice qb lb cb,.int .i64 (0:Int)]⟩) :: (ga,aq,⟨[.slice qa la ca,.int .i64 (0:Int)]⟩) :: (AL,av,⟨ppC none 0 0 none 0 0 b3 0 c3 kk yy zz op l⟩) :: (g1,av,(⟨aH⟩:Array Value)) :: (Bb++B3)) SlO.nil (M2.cnt (λp=>by simp only[bO,bz,cg] at *;omega)) .here Oa (by omega) λb1 c1 jn B1 O1 M3=>lZ ?_
    refine Ad M .here M3 (iR.skip (.there (.there .here))) (Ad M (.there (.there .here)) M3 (iR.skip (.there (.there (.there (.there .here))))) ?_)
    refine AA (B:=[]) (Bn:=Bb) (L:=(g95,aq,⟨[.slice qb lb cb,.int .i64 (0:Int)]⟩) :: (g97,aq,⟨[.slice qa la ca,.int .i64 (0:Int)]⟩) :: (gb,aq,⟨[.slice qb lb cb,.int .i64 (0:Int)]⟩) :: (ga,aq,⟨[.slice qa la ca,.int .i64 (0:Int)]⟩) :: (AL,av,⟨ppC none 0 0 none 0 0 b3 0 c3 kk yy zz op l⟩) :: (g1,av,(⟨aH⟩:Array Value)) :: (B1++B3)) SlO.nil (M3.cnt (λp=>by simp only[bO,bz,cg] at *;omega)) .here Ob (by omega) λb2 c2 tz B2 O2 M4=>lZ ?_
    exact fin O1 O2 (M4.cnt (W:=(AL,av,⟨ppC none 0 0 none 0 0 b3 0 c3 kk yy zz op l⟩) :: (B1++(B2++(B3++((g1,av,(⟨aH⟩:Array Value)) :: []))))))
  ·unfold bJ.B9
   refine brd (λhc=>by omega) λ_=>dp (by rw[aqA];rfl) ?_
   have Fz:rl ok (N:Int) op k' l'=(Nh (N:Int) op k' l',0):=by rw[rl,aqA,hn];rfl
   rw[Fz]
   have O:=ZB (x:=Nh (N:Int) op k' l') O1 O2 O3 OE hl YY adk
   refine M.cM .here rfl ?_
   have M:=M.cnt (W:=(g1,av,(⟨aH⟩:Array Value)) :: (B1++(B2++B3)))
   exact M.dy .here rfl (ck.iH O) rfl .here λh3 M=>M.cM .here rfl ⟨_,_,rfl,O,M.drop⟩
 refine goM M (HR hk _) λh3 M=>bd (br (λk1=>goM M (lS hl fw0 c1 _) λh4 M=>bd (key _ (by rw[k1];rfl) M)) λk1=>key _ (by rw[k1];rfl) M)
end
end Go.Sx
