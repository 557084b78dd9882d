/- Lemmas. -/
import Derived.Test.YthgnpepchedpbaaGreatDoorLk46
import Derived.Test.YthgnpepchedpbaaGreatDoorLk35
set_option linter.unusedVariables false
set_option linter.unusedSimpArgs false
namespace Go.Sx
open Go.Proofs Ieee
set_option maxRecDepth 100000
set_option maxHeartbeats 2000000
def yR(n:Int):aY:=⟨List.replicate n.toNat 0,0⟩
def GS(n:Int)(op:Bool)(k l:Nat):cp:={ aW:=[yR n],Left:=[yR n],aL:=[],End:=py k,Open:=op,fT:=l,Rest:=1061158912,fX:=3200253952 }
def mB(ok:Bool)(n:Int)(op:Bool)(k l:Nat):cp×Int:=if ok&&inR n 1 1024 then(GS n op k l,0) else(wI,2)
def eR(n:Int)(op:Bool)(k l:Nat):cp×Int:=mB (place k&&inside l 0 1065353216) n op k l
theorem T6{x:cp}{B1 B2 B3:List Blk}{b1 b2 b3:Option Addr}{l1 c1 l2 c2 l3 c3:Nat}{v:List Value}{y1 y2 y3:Nat}(O1:SlO 109 bQ B1 b1 l1 c1 x.aW)(O2:SlO 109 bQ B2 b2 l2 c2 x.Left)(O3:SlO 22 (rF .f32) B3 b3 l3 c3 x.aL)(hv:cx.ow [] v x.End)(h1:FW .f32 y1 x.fT)(h2:FW .f32 y2 x.Rest)(h3:FW .f32 y3 x.fX):
  dX.ow (B1++(B2++B3)) ([.slice b1 l1 c1]++([.slice b2 l2 c2]++([.slice b3 l3 c3]++(v++[.bool x.Open,.float .f32 y1,.float .f32 y2,.float .f32 y3])))) x:=
 ⟨B1,B2++B3,[.slice b1 l1 c1],_,rfl,rfl,⟨b1,l1,c1,rfl,O1⟩,B2,B3,[.slice b2 l2 c2],_,rfl,rfl,⟨b2,l2,c2,rfl,O2⟩,B3,[],[.slice b3 l3 c3],_,by simp,rfl,⟨b3,l3,c3,rfl,O3⟩,
  [],[],v,_,rfl,rfl,hv,[],[],[.bool x.Open],_,rfl,rfl,⟨rfl,rfl⟩,[],[],[.float .f32 y1],_,rfl,rfl,⟨rfl,y1,rfl,h1⟩,[],[],[.float .f32 y2],[.float .f32 y3],rfl,rfl,⟨rfl,y2,rfl,h2⟩,⟨rfl,y3,rfl,h3⟩⟩
def ppC(b1:Option Addr)(l1 c1:Nat)(b2:Option Addr)(l2 c2:Nat)(b3:Option Addr)(l3 c3:Nat)(k:Int)(a b:Nat)(op:Bool)(y:Nat):List Value:=
 [.slice b1 l1 c1]++([.slice b2 l2 c2]++([.slice b3 l3 c3]++(flC k a b 0 0 0++[.bool op,.float .f32 y,.float .f32 1061158912,.float .f32 3200253952])))
theorem Sy:FW .f32 1061158912 1061158912:=eM (by decide) (by decide)
theorem Wz:FW .f32 3200253952 3200253952:=eM (by decide) (by decide)
section
variable {h:ab}{x a:Nat}
theorem LR{n:Int}{op ok:Bool}{k l:Nat}{g:Nat}{hh:ab}{L:List Blk}(M:Mem h hh ((g,118,⟨aJ⟩) :: L))(e:(ok&&inR n 1 1024)=false):
  STA 13 hh ⟨g,0,none⟩ ⟨aJ⟩ λh8=>LDA 13 h8 ⟨g,0,none⟩ λa9=>fk dX h h8 (.tuple ⟨[.agg a9,.int .i64 (2:Int)]⟩) (mB ok n op k l).1 (mB ok n op k l).2:=by
 rw[mB,e,if_neg (by decide)]
 exact M.dH .here rfl (dI rfl) rfl .here λh3 M=>M.df .here rfl ⟨_,[],rfl,Pr,(Mem.start h).grow M.ext⟩
theorem K7{h0 hh:ab}{B Bn L:List Blk}{b bb:Option Addr}{l c ll cc n:Nat}{xs:List aY}{K:Value->ab->Prop}{ty:Nat}{Q:ab->Prop->Prop}(O:SlO 109 bQ B b l c xs)(M:Mem h0 hh (B++(Bn++L)))(Or:SlO 22 (rF .f32) Bn bb ll cc (List.replicate n 0))(hl:l≤8)(Hp:∀(h':ab) (p:Prop),Ext hh h'->p->Q h' p)(H:∀b' c' h' B',Ext hh hh->SlO 109 bQ B' b' (l+1) c' (xs++[⟨List.replicate n 0,0⟩])->Mem h0 h' (B'++L)->K (.slice b' (l+1) c') h'):
  ALC ⟨[.slice bb ll cc,.int .i64 (0:Int)]⟩ 109 (λg h=>Q h (gC ak (Builtin.append_ #[116,116] ty #[.slice b l c,.slice (some ⟨g,0,none⟩) 1 1]) K h)) hh:=by
 have hm:(9:Nat)≤maxLen:=by decide
 refine M.alc λg h1 x1 M1=>Hp _ _ x1 ?_
 have M2:Mem h0 h1 (B++(Bn++((g,109,⟨[.slice bb ll cc,.int .i64 (0:Int)]⟩) :: L))):=M1.cnt (λp=>by simp only[bN,bu,bZ] at *;omega)
 refine O.app (news:=[.slice bb ll cc,.int .i64 (0:Int)]) xJ M2 (ys:=[⟨List.replicate n 0,0⟩]) rfl ⟨Bn,[],[.slice bb ll cc,.int .i64 (0:Int)],[],by simp,by simp,wi (r:=⟨List.replicate n 0,0⟩) Or,rfl,rfl⟩ (λj v hj=>?_) (by omega) (by omega) λb' c' h' B' O' M'=>H b' c' h' B' (Ext.refl _) O' (M'.cnt (λp=>by simp only[bN,bu,bZ] at *;omega))
 rw[dQ,Nat.zero_add,M1.cell .here,← hj];simp
theorem Hj{b s:Option Addr}{c sc:Nat}{n:Int}{op:Bool}{k l k' l':Nat}(S:SlR (rI .i64) h b 1 c [n])(Z:SlR (rF .f32) h s 0 sc [])(hk:FW .f32 k k')(hl:FW .f32 l l'):
  af ak 183 #[.slice b 1 c,.slice s 0 sc,.bool op,.float .f32 k,.float .f32 l] (λu h'=>fk dX h h' u (eR n op k' l').1 (eR n op k' l').2) h:=by
 refine aD.call ((Mem.start h).alc λg1 h1 x1 M=>goM M (kQ _ _ _ _) λh2 M=>bt (vu rfl ?_))
 have key:∀ok:Bool,ok=(place k'&&inside l' 0 1065353216)->aD.J2 (λu h'=>fk dX h h' u (eR n op k' l').1 (eR n op k' l').2) b 1 c s 0 sc op k l ⟨g1,0,none⟩ ok h2:=by
  intro ok zT
  unfold eR
  rw[← zT]
  have ajG:∀{hh:ab}{uW:Nat}{b3:Option Addr}{c3:Nat}{B3:List Blk}{kk:Int}{yy zz:Nat},inR n 1 1024=true->ok=true->SlO 22 (rF .f32) B3 b3 0 c3 []->cx.ow [] (flC kk yy zz 0 0 0) (py k')->Mem h hh ((uW,118,⟨ppC none 0 0 none 0 0 b3 0 c3 kk yy zz op l⟩) :: (B3++[(g1,118,⟨aJ⟩)])) ->
    bk (aD.B14 (λu h'=>fk dX h h' u (mB ok n op k' l').1 (mB ok n op k' l').2)) (b,1,c,⟨g1,0,none⟩,⟨uW,0,none⟩,(0:Int)) hh:=by
   intro hh uW b3 c3 B3 kk yy zz hn zT O3 OE M
   have hn2:1≤n∧n≤1024:=by simpa only[inR,Bool.and_eq_true,decide_eq_true_eq] using hn
   obtain⟨N,rfl⟩:∃N:Nat,n=(N:Int):=⟨n.toNat,by omega⟩
   refine loop (λx hx=>∃j:Nat,x=(b,1,c,⟨g1,0,none⟩,⟨uW,0,none⟩,(j:Int))∧(j=0∧Mem h hx ((uW,118,⟨ppC none 0 0 none 0 0 b3 0 c3 kk yy zz op l⟩) :: (B3++[(g1,118,⟨aJ⟩)])) ∨
     j=1∧∃b1 c1 B1 b2 c2 B2,SlO 109 bQ B1 b1 1 c1 [⟨List.replicate N 0,0⟩]∧SlO 109 bQ B2 b2 1 c2 [⟨List.replicate N 0,0⟩]∧Mem h hx ((uW,118,⟨ppC b1 1 c1 b2 1 c2 b3 0 c3 kk yy zz op l⟩) :: (B1++(B2++(B3++[(g1,118,⟨aJ⟩)]))))))
    (λx=>(1-x.2.2.2.2.2).toNat) ⟨0,rfl,.inl ⟨rfl,M⟩⟩ ?_
   rintro x hx ⟨j,rfl,⟨rfl,M⟩ | ⟨rfl,b1,c1,B1,b2,c2,B2,O1,O2,M⟩⟩
   ·unfold aD.B14
    simp only[mR]
    refine brd (λ_=>?_) λhc=>by omega
    refine o_l (M.cell .here 0) ((S.ext M.ext).idx (by decide) (by omega) (by omega) λp Rp=>Rp.oI1 ?_)
    show MKS eC 22 (N:Int) (N:Int) _ hx
    refine qx M (by omega) λg56 h4 B4 x4 M4 O4=>M.Ov .here (by show 0<13;decide) x4 (siz rfl ?_)
    refine K7 (n:=N) (B:=[]) SlO.nil M4 O4 (by omega) (λh' p x H=>M.Ov .here (by show 0<13;decide) (x4.trans x) H) λb1 c1 h5 B1 _ O1 M=>lR (M.st1 (gi.skip .here) (by show 0<13;decide) (Upd.skip .here) λh6 M=>?_)
    have M:Mem h h6 (B1++((uW,118,⟨ppC b1 1 c1 none 0 0 b3 0 c3 kk yy zz op l⟩) :: (B3++[(g1,118,⟨aJ⟩)]))):=M
    have M:=M.cnt (W:=(uW,118,⟨ppC b1 1 c1 none 0 0 b3 0 c3 kk yy zz op l⟩) :: (B1++(B3++[(g1,118,⟨aJ⟩)])))
    refine o_l (M.cell .here 1) ((S.ext M.ext).idx (by decide) (by omega) (by omega) λp Rp=>Rp.oI1 ?_)
    show MKS eC 22 (N:Int) (N:Int) _ h6
    refine qx M (by omega) λg67 h7 B7 x7 M7 O7=>M.Ov .here (by show 1<13;decide) x7 (siz rfl ?_)
    refine K7 (n:=N) (B:=[]) SlO.nil M7 O7 (by omega) (λh' p x H=>M.Ov .here (by show 1<13;decide) (x7.trans x) H) λb2 c2 h8 B2 _ O2 M=>lR (M.st1 (gi.skip .here) (by show 1<13;decide) (Upd.skip .here) λh9 M=>?_)
    have M:Mem h h9 (B2++((uW,118,⟨ppC b1 1 c1 b2 1 c2 b3 0 c3 kk yy zz op l⟩) :: (B1++(B3++[(g1,118,⟨aJ⟩)])))):=M
    have M:=M.cnt (W:=(uW,118,⟨ppC b1 1 c1 b2 1 c2 b3 0 c3 kk yy zz op l⟩) :: (B1++(B2++(B3++[(g1,118,⟨aJ⟩)]))))
    exact⟨⟨1,by rw[show(0:Nat)=0 from rfl];rfl,.inr ⟨rfl,b1,c1,B1,b2,c2,B2,O1,O2,M⟩⟩,by decide⟩
   ·unfold aD.B14
    refine brd (λhc=>by omega) λ_=>?_
    have By:mB ok (N:Int) op k' l'=(GS (N:Int) op k' l',0):=by rw[mB,zT,hn];rfl
    rw[By]
    have O:=T6 (x:=GS (N:Int) op k' l') O1 O2 O3 OE hl Sy Wz
    refine M.df .here rfl ?_
    have M:=M.cnt (W:=(g1,118,⟨aJ⟩) :: (B1++(B2++B3)))
    exact M.dH .here rfl (dX.jy O) rfl .here λh3 M=>M.df .here rfl ⟨_,_,rfl,O,M.drop⟩
  have ajH:∀{hh:ab}(ok7:Bool),ok7=(ok&&inR n 1 1024)->Mem h hh [(g1,118,⟨aJ⟩)]->bk (aD.B7 (λu h'=>fk dX h h' u (mB ok n op k' l').1 (mB ok n op k' l').2)) (b,1,c,s,0,sc,op,k,l,⟨g1,0,none⟩,ok7,(0:Int)) hh:=by
   intro hh ok7 afk M
   refine loop (λx hx=>x=(b,1,c,s,0,sc,op,k,l,⟨g1,0,none⟩,ok7,(0:Int))∧hx=hh) (λ_=>0) ⟨rfl,rfl⟩ ?_
   rintro x hx ⟨rfl,rfl⟩
   unfold aD.B7
   refine brd (λhc=>by omega) λ_=>brN (λe=>LR M (by rw[← afk,e])) λe=>?_
   rw[e] at afk
   have h7:ok=true∧inR n 1 1024=true:=by simpa using afk.symm
   refine M.alc λg36 h4 x4 M=>jZ lD (by decide) (u0 _) (Z.ext M.ext) M (by omega) λb3 c3 h5 B3 O3 M=>lR ((yV hk).mono ?_)
   rintro _ h6 ⟨⟨kk,yy,zz,rfl,OE⟩,x6⟩
   refine gw (siz rfl ((M.grow x6).alc λg44 h7' x7 M=>M.dH .here rfl (dI rfl) rfl .here λh8 M=>?_))
   exact ajG h7.2 h7.1 O3 OE M
  unfold aD.J2
  refine loop (λx hx=>∃j:Nat,j≤1∧x=(b,1,c,s,0,sc,op,k,l,⟨g1,0,none⟩,(if j=0 then ok else ok&&inR n 1 1024),(j:Int))∧Mem h hx [(g1,118,⟨aJ⟩)]) (λx=>(1-x.2.2.2.2.2.2.2.2.2.2.2).toNat) ⟨0,by omega,rfl,M⟩ ?_
  rintro x hx ⟨j,hj,rfl,M⟩
  unfold aD.B3
  by_cases e:j=0
  ·subst e
   rw[if_pos rfl]
   refine brd (λ_=>br (λe=>?_) λe=>ajH _ (by rw[e];rfl) M) λhc=>by omega
   unfold aD.J5
   refine(S.ext M.ext).idx (by decide) (by omega) (by omega) λp Rp=>Rp.oI1 ?_
   show af ak 41 #[.int .i64 n,.int .i64 (1:Int),.int .i64 (1024:Int)] _ hx
   refine goM M (kQ _ _ _ _) λh4 M=>bt ⟨⟨1,by omega,by rw[e];rfl,M⟩,by show(1-IntKind.i64.wrap (((0:Nat):Int)+1)).toNat<(1-((0:Nat):Int)).toNat;decide⟩
  ·obtain rfl:j=1:=by omega
   rw[if_neg (by decide)]
   exact brd (λhc=>by omega) λ_=>ajH _ rfl M
 refine vu rfl ?_
 rw[cw hk fw0,cw hk c1,cw hl fw0,cw hl c1]
 refine br (λk1=>br (λk2=>br (λk3=>key _ (by rw[place,inside,fge,flt,fge,fle,k1,k2,k3];rfl)) λk3=>key _ (by rw[place,inside,fge,flt,fge,k1,k2,k3];rfl)) λk2=>key _ (by rw[place,fge,flt,k1,k2];rfl)) λk1=>key _ (by rw[place,fge,k1];rfl)
end
set_option maxHeartbeats 4000000
theorem uq{h0 h h1 h':ab}{L L':List Blk}{g j n:Nat}{cs:Array Value}{p:Prop}(M:Mem h0 h L)(l:gi L g cs)(M':Mem h1 h' L')(l':gi L' g cs)(H:p):PIN h ⟨g,j,none⟩ n h' p:=
 ⟨λi _=>by rw[dQ,M.cell l,M'.cell l'],H⟩
theorem uF{h0 hh:ab}{B Bn L:List Blk}{b bb:Option Addr}{g l c ll cc n:Nat}{xs:List aY}{K:Value->ab->Prop}{ty:Nat}(O:SlO 109 bQ B b l c xs)(M:Mem h0 hh (B++(Bn++L)))(lk:gi L g ⟨[.slice bb ll cc,.int .i64 (0:Int)]⟩)(Or:SlO 22 (rF .f32) Bn bb ll cc (List.replicate n 0))(hl:l≤8)(H:∀b' c' h' B',SlO 109 bQ B' b' (l+1) c' (xs++[⟨List.replicate n 0,0⟩])->Mem h0 h' (B'++L)->K (.slice b' (l+1) c') h'):
  gC ak (Builtin.append_ #[116,116] ty #[.slice b l c,.slice (some ⟨g,0,none⟩) 1 1]) K hh:=by
 have hm:(9:Nat)≤maxLen:=by decide
 refine O.app (news:=[.slice bb ll cc,.int .i64 (0:Int)]) xJ M (ys:=[⟨List.replicate n 0,0⟩]) rfl ⟨Bn,[],[.slice bb ll cc,.int .i64 (0:Int)],[],by simp,by simp,wi (r:=⟨List.replicate n 0,0⟩) Or,rfl,rfl⟩ (λj v hj=>?_) (by omega) (by omega) H
 rw[dQ,Nat.zero_add,M.cell (gi.skip (gi.skip lk)),← hj];simp
theorem Gs(b:Option Addr)(l c:Nat):Ret ak 286 #[.slice b l c] (.int .i64 l):=λh=>nu.call ⟨rfl,Ext.refl _⟩
section
variable {h:ab}{x a:Nat}
theorem TF{b s:Option Addr}{c sc:Nat}{n:Int}{op:Bool}{k l k' l':Nat}(S:SlR (rI .i64) h b 1 c [n])(Z:SlR (rF .f32) h s 0 sc [])(hk:FW .f32 k k')(hl:FW .f32 l l'):
  af ak 236 #[.slice b 1 c,.slice s 0 sc,.bool op,.float .f32 k,.float .f32 l] (λu h'=>fk dX h h' u (eR n op k' l').1 (eR n op k' l').2) h:=by
 refine bq.call ((Mem.start h).alc λg1 h1 x1 M=>goM M (Gs _ _ _ _) λh1' M=>cN (goM M (js _ _ _ _) λh2 M=>bt (vu rfl (vu rfl ?_))))
 have key:∀{hh:ab}(ok:Bool),ok=(place k'&&inside l' 0 1065353216)->Mem h hh [(g1,118,(⟨aJ⟩:Array Value))]->bq.J2 (λu h'=>fk dX h h' u (eR n op k' l').1 (eR n op k' l').2) b 1 c s 0 sc op k l ⟨g1,0,none⟩ ok hh:=by
  intro hh ok zT M
  unfold eR
  rw[← zT]
  unfold bq.J2
  refine loop (λx hx=>x=(b,1,c,s,0,sc,op,k,l,⟨g1,0,none⟩,ok,s,0,sc,(0:Int),(0:Int))∧hx=hh) (λ_=>0) ⟨rfl,rfl⟩ ?_
  rintro x hx ⟨rfl,rfl⟩
  unfold bq.B3
  refine brd (λhc=>by omega) λ_=>(xI (Z.ext M.ext) (by omega)).mono ?_
  rintro _ h3 ⟨b3,c3,B3,rfl,O3,N3⟩
  have M:=M.join N3
  refine lR ((Jq hk).mono ?_)
  rintro _ h6 ⟨⟨kk,yy,zz,rfl,OE⟩,x6⟩
  refine gw (siz rfl ((M.grow x6).alc λuW h7' x7 M=>M.dH .here rfl (dI rfl) rfl .here λh8 M=>?_))
  refine loop (λx hx=>∃j:Nat,x=(⟨g1,0,none⟩,ok,⟨uW,0,none⟩,b,1,c,(1:Int),(j:Int))∧(j=0∧Mem h hx ((uW,118,⟨ppC none 0 0 none 0 0 b3 0 c3 kk yy zz op l⟩) :: (B3++[(g1,118,(⟨aJ⟩:Array Value))])) ∨
    j=1∧ok=true∧∃(N:Nat) (b1:Option Addr) (c1:Nat) (B1:List Blk) (b2:Option Addr) (c2:Nat) (B2:List Blk),n=(N:Int)∧inR n 1 1024=true∧SlO 109 bQ B1 b1 1 c1 [⟨List.replicate N 0,0⟩]∧SlO 109 bQ B2 b2 1 c2 [⟨List.replicate N 0,0⟩]∧Mem h hx ((uW,118,⟨ppC b1 1 c1 b2 1 c2 b3 0 c3 kk yy zz op l⟩) :: (B1++(B2++(B3++[(g1,118,(⟨aJ⟩:Array Value))]))))))
   (λx=>(1-x.2.2.2.2.2.2.2).toNat) ⟨0,rfl,.inl ⟨rfl,M⟩⟩ ?_
  rintro x hx ⟨j,rfl,⟨rfl,M⟩ | ⟨rfl,ajv,N,b1,c1,B1,b2,c2,B2,rfl,hn,O1,O2,M⟩⟩
  ·unfold bq.B9
   refine brd (λ_=>?_) λhc=>by omega
   refine(S.ext M.ext).idx (by decide) (by omega) (by omega) λp Rp=>Rp.oI1 ?_
   show BIF (!ok) _ (af ak 46 #[.int .i64 n,.int .i64 (1:Int),.int .i64 (1024:Int)] _ hx)
   have Mo:Mem h hx ((g1,118,(⟨aJ⟩:Array Value)) :: ((uW,118,⟨ppC none 0 0 none 0 0 b3 0 c3 kk yy zz op l⟩) :: B3)):=M.cnt (λp=>by simp only[bN,bu,bZ] at *;omega)
   refine brN (λe=>LR Mo (by rw[e];rfl)) λe=>goM Mo (js _ _ _ _) λh9 Mo=>bt (brN (λe2=>LR Mo (by rw[e2,Bool.and_false])) λhn=>?_)
   have hn2:1≤n∧n≤1024:=by simpa only[inR,Bool.and_eq_true,decide_eq_true_eq] using hn
   obtain⟨N,rfl⟩:∃N:Nat,n=(N:Int):=⟨n.toNat,by omega⟩
   unfold bq.J13
   simp only[mR]
   refine Cn Mo (by omega) (by omega) λgv Ba qa la ca xa M Oa=>jJ (gw (cN (M.alc λga me x11 M=>M.dH .here rfl (dI rfl) rfl .here λjl M=>?_)))
   refine Cn M (by omega) (by omega) λhP Bb qb lb cb xb M Ob=>jJ (gw (cN (M.alc λgb j0 x14 M=>M.dH .here rfl (dI rfl) rfl .here λkB M=>?_)))
   -- the two rings,the pipe,the akU place
   have M:Mem h kB ((gb,109,⟨[.slice qb lb cb,.int .i64 (0:Int)]⟩) :: (ga,109,⟨[.slice qa la ca,.int .i64 (0:Int)]⟩) :: (uW,118,⟨ppC none 0 0 none 0 0 b3 0 c3 kk yy zz op l⟩) :: (g1,118,(⟨aJ⟩:Array Value)) :: (Ba++(Bb++B3))):=M.cnt (λp=>by simp only[bN,bu,bZ] at *;omega)
   refine o_l (M.cell (.there (.there .here)) 0) (M.df (.there .here) rfl (o_l (M.cell (.there (.there .here)) 1) (M.df .here rfl ?_)))
   have fin:∀{h':ab}{b1 b2:Option Addr}{c1 c2:Nat}{B1 B2 X:List Blk},SlO 109 bQ B1 b1 1 c1 [⟨List.replicate N 0,0⟩]->SlO 109 bQ B2 b2 1 c2 [⟨List.replicate N 0,0⟩]->Mem h h' ((uW,118,⟨ppC none 0 0 none 0 0 b3 0 c3 kk yy zz op l⟩) :: (B1++(B2++(B3++((g1,118,(⟨aJ⟩:Array Value)) :: X))))) ->
     ST1 h' ⟨uW,0,none⟩ (.slice b1 1 c1) λjU=>ST1 jU ⟨uW,1,none⟩ (.slice b2 1 c2) λvC=>
      ((∃j:Nat,((⟨g1,0,none⟩:Addr),ok,(⟨uW,0,none⟩:Addr),b,1,c,(1:Int),IntKind.i64.wrap (((0:Nat):Int)+1))=(⟨g1,0,none⟩,ok,⟨uW,0,none⟩,b,1,c,(1:Int),(j:Int))∧(j=0∧Mem h vC ((uW,118,⟨ppC none 0 0 none 0 0 b3 0 c3 kk yy zz op l⟩) :: (B3++[(g1,118,(⟨aJ⟩:Array Value))])) ∨
       j=1∧ok=true∧∃(N':Nat) (b1:Option Addr) (c1:Nat) (B1:List Blk) (b2:Option Addr) (c2:Nat) (B2:List Blk),(N:Int)=(N':Int)∧inR (N:Int) 1 1024=true∧SlO 109 bQ B1 b1 1 c1 [⟨List.replicate N' 0,0⟩]∧SlO 109 bQ B2 b2 1 c2 [⟨List.replicate N' 0,0⟩]∧Mem h vC ((uW,118,⟨ppC b1 1 c1 b2 1 c2 b3 0 c3 kk yy zz op l⟩) :: (B1++(B2++(B3++[(g1,118,(⟨aJ⟩:Array Value))])))))) ∧
       (1-IntKind.i64.wrap (((0:Nat):Int)+1)).toNat<(1-((0:Nat):Int)).toNat):=λ{h' b1 b2 c1 c2 B1 B2 X} O1 O2 M=>by
    refine M.st1 .here (by show 0<13;decide) .here λjU M=>M.st1 .here (by show 1<13;decide) .here λvC M=>?_
    have M:Mem h vC ((uW,118,⟨ppC b1 1 c1 b2 1 c2 b3 0 c3 kk yy zz op l⟩) :: (B1++(B2++(B3++((g1,118,(⟨aJ⟩:Array Value)) :: X))))):=M
    exact⟨⟨1,rfl,.inr ⟨rfl,e,N,b1,c1,B1,b2,c2,B2,rfl,hn,O1,O2,M.cnt (λp=>by simp only[bN,bu,bZ] at *;omega)⟩⟩,by decide⟩
   refine⟨siz rfl (M.alc λZL kT x16 M1=>?_),siz rfl (M.alc λg95 kT x16 M1=>?_)⟩
   ·have M1:Mem h kT ((ZL,109,⟨[.slice qa la ca,.int .i64 (0:Int)]⟩) :: (gb,109,⟨[.slice qb lb cb,.int .i64 (0:Int)]⟩) :: (ga,109,⟨[.slice qa la ca,.int .i64 (0:Int)]⟩) :: (uW,118,⟨ppC none 0 0 none 0 0 b3 0 c3 kk yy zz op l⟩) :: (g1,118,(⟨aJ⟩:Array Value)) :: (Ba++(Bb++B3))):=M1
    refine uq M .here M1 (.there .here) (uq M (.there (.there .here)) M1 (.there (.there (.there .here))) (uq M (.there (.there .here)) M1 (.there (.there (.there .here))) ⟨?_,siz rfl (M1.alc λg85 qQ x17 M2=>?_)⟩))
    ·refine uF (B:=[]) (Bn:=Ba) (L:=(ZL,109,⟨[.slice qa la ca,.int .i64 (0:Int)]⟩) :: (gb,109,⟨[.slice qb lb cb,.int .i64 (0:Int)]⟩) :: (ga,109,⟨[.slice qa la ca,.int .i64 (0:Int)]⟩) :: (uW,118,⟨ppC none 0 0 none 0 0 b3 0 c3 kk yy zz op l⟩) :: (g1,118,(⟨aJ⟩:Array Value)) :: (Bb++B3)) SlO.nil (M1.cnt (λp=>by simp only[bN,bu,bZ] at *;omega)) .here Oa (by omega) λb1 c1 qQ B1 O1 M2=>lR ?_
     refine uq M .here M2 (gi.skip (.there .here)) (uq M (.there (.there .here)) M2 (gi.skip (.there (.there (.there .here)))) (siz rfl (M2.alc λZM jF x18 M3=>?_)))
     have M3:Mem h jF ((ZM,109,⟨[.slice qb lb cb,.int .i64 (0:Int)]⟩) :: (B1++((ZL,109,⟨[.slice qa la ca,.int .i64 (0:Int)]⟩) :: (gb,109,⟨[.slice qb lb cb,.int .i64 (0:Int)]⟩) :: (ga,109,⟨[.slice qa la ca,.int .i64 (0:Int)]⟩) :: (uW,118,⟨ppC none 0 0 none 0 0 b3 0 c3 kk yy zz op l⟩) :: (g1,118,(⟨aJ⟩:Array Value)) :: (Bb++B3)))):=M3
     refine uq M (.there (.there .here)) M3 (.there (gi.skip (.there (.there (.there .here))))) (uq M (.there .here) M3 (.there (gi.skip (.there (.there .here)))) (uq M (.there (.there .here)) M3 (.there (gi.skip (.there (.there (.there .here))))) ?_))
     refine uF (B:=[]) (Bn:=Bb) (L:=(ZM,109,⟨[.slice qb lb cb,.int .i64 (0:Int)]⟩) :: (ZL,109,⟨[.slice qa la ca,.int .i64 (0:Int)]⟩) :: (gb,109,⟨[.slice qb lb cb,.int .i64 (0:Int)]⟩) :: (ga,109,⟨[.slice qa la ca,.int .i64 (0:Int)]⟩) :: (uW,118,⟨ppC none 0 0 none 0 0 b3 0 c3 kk yy zz op l⟩) :: (g1,118,(⟨aJ⟩:Array Value)) :: (B1++B3)) SlO.nil (M3.cnt (λp=>by simp only[bN,bu,bZ] at *;omega)) .here Ob (by omega) λb2 c2 ta B2 O2 M4=>lR ?_
     exact fin O1 O2 (M4.cnt (W:=(uW,118,⟨ppC none 0 0 none 0 0 b3 0 c3 kk yy zz op l⟩) :: (B1++(B2++(B3++((g1,118,(⟨aJ⟩:Array Value)) :: []))))))
    ·have M2:Mem h qQ ((g85,109,⟨[.slice qb lb cb,.int .i64 (0:Int)]⟩) :: (ZL,109,⟨[.slice qa la ca,.int .i64 (0:Int)]⟩) :: (gb,109,⟨[.slice qb lb cb,.int .i64 (0:Int)]⟩) :: (ga,109,⟨[.slice qa la ca,.int .i64 (0:Int)]⟩) :: (uW,118,⟨ppC none 0 0 none 0 0 b3 0 c3 kk yy zz op l⟩) :: (g1,118,(⟨aJ⟩:Array Value)) :: (Ba++(Bb++B3))):=M2
     refine uq M (.there (.there .here)) M2 (.there (.there (.there (.there .here)))) (uq M (.there .here) M2 (.there (.there (.there .here))) (uq M (.there (.there .here)) M2 (.there (.there (.there (.there .here)))) ?_))
     refine uF (B:=[]) (Bn:=Ba) (L:=(ZL,109,⟨[.slice qa la ca,.int .i64 (0:Int)]⟩) :: (g85,109,⟨[.slice qb lb cb,.int .i64 (0:Int)]⟩) :: (gb,109,⟨[.slice qb lb cb,.int .i64 (0:Int)]⟩) :: (ga,109,⟨[.slice qa la ca,.int .i64 (0:Int)]⟩) :: (uW,118,⟨ppC none 0 0 none 0 0 b3 0 c3 kk yy zz op l⟩) :: (g1,118,(⟨aJ⟩:Array Value)) :: (Bb++B3)) SlO.nil (M2.cnt (λp=>by simp only[bN,bu,bZ] at *;omega)) .here Oa (by omega) λb1 c1 jF B1 O1 M3=>lR ?_
     refine uq M .here M3 (gi.skip (.there (.there .here))) (uq M (.there (.there .here)) M3 (gi.skip (.there (.there (.there (.there .here))))) ?_)
     refine uF (B:=[]) (Bn:=Bb) (L:=(g85,109,⟨[.slice qb lb cb,.int .i64 (0:Int)]⟩) :: (ZL,109,⟨[.slice qa la ca,.int .i64 (0:Int)]⟩) :: (gb,109,⟨[.slice qb lb cb,.int .i64 (0:Int)]⟩) :: (ga,109,⟨[.slice qa la ca,.int .i64 (0:Int)]⟩) :: (uW,118,⟨ppC none 0 0 none 0 0 b3 0 c3 kk yy zz op l⟩) :: (g1,118,(⟨aJ⟩:Array Value)) :: (B1++B3)) SlO.nil (M3.cnt (λp=>by simp only[bN,bu,bZ] at *;omega)) .here Ob (by omega) λb2 c2 ta B2 O2 M4=>lR ?_
     exact fin O1 O2 (M4.cnt (W:=(uW,118,⟨ppC none 0 0 none 0 0 b3 0 c3 kk yy zz op l⟩) :: (B1++(B2++(B3++((g1,118,(⟨aJ⟩:Array Value)) :: []))))))
   ·have M1:Mem h kT ((g95,109,⟨[.slice qb lb cb,.int .i64 (0:Int)]⟩) :: (gb,109,⟨[.slice qb lb cb,.int .i64 (0:Int)]⟩) :: (ga,109,⟨[.slice qa la ca,.int .i64 (0:Int)]⟩) :: (uW,118,⟨ppC none 0 0 none 0 0 b3 0 c3 kk yy zz op l⟩) :: (g1,118,(⟨aJ⟩:Array Value)) :: (Ba++(Bb++B3))):=M1
    refine uq M (.there (.there .here)) M1 (.there (.there (.there .here))) (uq M (.there .here) M1 (.there (.there .here)) (uq M (.there (.there .here)) M1 (.there (.there (.there .here))) (siz rfl (M1.alc λg97 qQ x17 M2=>?_))))
    have M2:Mem h qQ ((g97,109,⟨[.slice qa la ca,.int .i64 (0:Int)]⟩) :: (g95,109,⟨[.slice qb lb cb,.int .i64 (0:Int)]⟩) :: (gb,109,⟨[.slice qb lb cb,.int .i64 (0:Int)]⟩) :: (ga,109,⟨[.slice qa la ca,.int .i64 (0:Int)]⟩) :: (uW,118,⟨ppC none 0 0 none 0 0 b3 0 c3 kk yy zz op l⟩) :: (g1,118,(⟨aJ⟩:Array Value)) :: (Ba++(Bb++B3))):=M2
    refine uq M .here M2 (.there (.there .here)) (uq M (.there (.there .here)) M2 (.there (.there (.there (.there .here)))) (uq M (.there (.there .here)) M2 (.there (.there (.there (.there .here)))) ?_))
    refine uF (B:=[]) (Bn:=Ba) (L:=(g97,109,⟨[.slice qa la ca,.int .i64 (0:Int)]⟩) :: (g95,109,⟨[.slice qb lb cb,.int .i64 (0:Int)]⟩) :: (gb,109,⟨[.slice qb lb cb,.int .i64 (0:Int)]⟩) :: (ga,109,⟨[.slice qa la ca,.int .i64 (0:Int)]⟩) :: (uW,118,⟨ppC none 0 0 none 0 0 b3 0 c3 kk yy zz op l⟩) :: (g1,118,(⟨aJ⟩:Array Value)) :: (Bb++B3)) SlO.nil (M2.cnt (λp=>by simp only[bN,bu,bZ] at *;omega)) .here Oa (by omega) λb1 c1 jF B1 O1 M3=>lR ?_
    refine uq M .here M3 (gi.skip (.there (.there .here))) (uq M (.there (.there .here)) M3 (gi.skip (.there (.there (.there (.there .here))))) ?_)
    refine uF (B:=[]) (Bn:=Bb) (L:=(g95,109,⟨[.slice qb lb cb,.int .i64 (0:Int)]⟩) :: (g97,109,⟨[.slice qa la ca,.int .i64 (0:Int)]⟩) :: (gb,109,⟨[.slice qb lb cb,.int .i64 (0:Int)]⟩) :: (ga,109,⟨[.slice qa la ca,.int .i64 (0:Int)]⟩) :: (uW,118,⟨ppC none 0 0 none 0 0 b3 0 c3 kk yy zz op l⟩) :: (g1,118,(⟨aJ⟩:Array Value)) :: (B1++B3)) SlO.nil (M3.cnt (λp=>by simp only[bN,bu,bZ] at *;omega)) .here Ob (by omega) λb2 c2 ta B2 O2 M4=>lR ?_
    exact fin O1 O2 (M4.cnt (W:=(uW,118,⟨ppC none 0 0 none 0 0 b3 0 c3 kk yy zz op l⟩) :: (B1++(B2++(B3++((g1,118,(⟨aJ⟩:Array Value)) :: []))))))
  ·unfold bq.B9
   refine brd (λhc=>by omega) λ_=>cM (by rw[ajv];rfl) ?_
   have By:mB ok (N:Int) op k' l'=(GS (N:Int) op k' l',0):=by rw[mB,ajv,hn];rfl
   rw[By]
   have O:=T6 (x:=GS (N:Int) op k' l') O1 O2 O3 OE hl Sy Wz
   refine M.df .here rfl ?_
   have M:=M.cnt (W:=(g1,118,(⟨aJ⟩:Array Value)) :: (B1++(B2++B3)))
   exact M.dH .here rfl (dX.jy O) rfl .here λh3 M=>M.df .here rfl ⟨_,_,rfl,O,M.drop⟩
 refine goM M (Cb hk _) λh3 M=>bt (br (λk1=>goM M (jO hl fw0 c1 _) λh4 M=>bt (key _ (by rw[k1];rfl) M)) λk1=>key _ (by rw[k1];rfl) M)
end
end Go.Sx
