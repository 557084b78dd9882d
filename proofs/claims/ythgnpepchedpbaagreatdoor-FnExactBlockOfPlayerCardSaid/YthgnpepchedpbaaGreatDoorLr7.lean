/- Lemmas. -/
import Derived.Test.YthgnpepchedpbaaGreatDoorLg
import Derived.Test.YthgnpepchedpbaaGreatDoorLp4
import Derived.Test.YthgnpepchedpbaaGreatDoorTabE
import Derived.Test.YthgnpepchedpbaaGreatDoorLr3
import Derived.Test.YthgnpepchedpbaaGreatDoorLk24
set_option linter.unusedVariables false
set_option linter.unusedSimpArgs false
namespace Go.Sx
open Go.Proofs
def aQ:Rep aK:=(Rep.seq (rI .i64) (Rep.seq (rI .i64) (Rep.seq (rI .i64) (Rep.seq rB (Rep.seq (rF .f32) (Rep.seq bf (Rep.seq dX (jI)))))))).via λa=>(a.aT,a.aq,a.mh,a.Gone,a.gR,a.String,a.aI,a.bY)
theorem Gd:Foc aQ (rI .i64) 0 (λa=>a.aT) (λa b=>{ a with aT:=b }):=(Foc.via (f:=λa:aK=>(a.aT,a.aq,a.mh,a.Gone,a.gR,a.String,a.aI,a.bY)) (get':=λa=>a.aT) (ig:=λa b=>{ a with aT:=b }) (Foc.fst (Foc.here (rI .i64))) (λ_=>rfl) (λ_ _=>rfl)).at rfl
theorem yt:Foc aQ (rI .i64) 1 (λa=>a.aq) (λa b=>{ a with aq:=b }):=(Foc.via (f:=λa:aK=>(a.aT,a.aq,a.mh,a.Gone,a.gR,a.String,a.aI,a.bY)) (get':=λa=>a.aq) (ig:=λa b=>{ a with aq:=b }) (Foc.snd (Foc.fst (Foc.here (rI .i64)))) (λ_=>rfl) (λ_ _=>rfl)).at rfl
theorem Gb:Foc aQ (rI .i64) 2 (λa=>a.mh) (λa b=>{ a with mh:=b }):=(Foc.via (f:=λa:aK=>(a.aT,a.aq,a.mh,a.Gone,a.gR,a.String,a.aI,a.bY)) (get':=λa=>a.mh) (ig:=λa b=>{ a with mh:=b }) (Foc.snd (Foc.snd (Foc.fst (Foc.here (rI .i64))))) (λ_=>rfl) (λ_ _=>rfl)).at rfl
theorem Gc:Foc aQ rB 3 (λa=>a.Gone) (λa b=>{ a with Gone:=b }):=(Foc.via (f:=λa:aK=>(a.aT,a.aq,a.mh,a.Gone,a.gR,a.String,a.aI,a.bY)) (get':=λa=>a.Gone) (ig:=λa b=>{ a with Gone:=b }) (Foc.snd (Foc.snd (Foc.snd (Foc.fst (Foc.here rB))))) (λ_=>rfl) (λ_ _=>rfl)).at rfl
theorem EN:Foc aQ (rF .f32) 4 (λa=>a.gR) (λa b=>{ a with gR:=b }):=(Foc.via (f:=λa:aK=>(a.aT,a.aq,a.mh,a.Gone,a.gR,a.String,a.aI,a.bY)) (get':=λa=>a.gR) (ig:=λa b=>{ a with gR:=b }) (Foc.snd (Foc.snd (Foc.snd (Foc.snd (Foc.fst (Foc.here (rF .f32))))))) (λ_=>rfl) (λ_ _=>rfl)).at rfl
theorem bO:Foc aQ bf 5 (λa=>a.String) (λa b=>{ a with String:=b }):=(Foc.via (f:=λa:aK=>(a.aT,a.aq,a.mh,a.Gone,a.gR,a.String,a.aI,a.bY)) (get':=λa=>a.String) (ig:=λa b=>{ a with String:=b }) (Foc.snd (Foc.snd (Foc.snd (Foc.snd (Foc.snd (Foc.fst (Foc.here bf))))))) (λ_=>rfl) (λ_ _=>rfl)).at rfl
theorem cE:Foc aQ dX 20 (λa=>a.aI) (λa b=>{ a with aI:=b }):=(Foc.via (f:=λa:aK=>(a.aT,a.aq,a.mh,a.Gone,a.gR,a.String,a.aI,a.bY)) (get':=λa=>a.aI) (ig:=λa b=>{ a with aI:=b }) (Foc.snd (Foc.snd (Foc.snd (Foc.snd (Foc.snd (Foc.snd (Foc.fst (Foc.here dX)))))))) (λ_=>rfl) (λ_ _=>rfl)).at rfl
theorem cP:Foc aQ jI 33 (λa=>a.bY) (λa b=>{ a with bY:=b }):=(Foc.via (f:=λa:aK=>(a.aT,a.aq,a.mh,a.Gone,a.gR,a.String,a.aI,a.bY)) (get':=λa=>a.bY) (ig:=λa b=>{ a with bY:=b }) (Foc.snd (Foc.snd (Foc.snd (Foc.snd (Foc.snd (Foc.snd (Foc.snd (Foc.here jI)))))))) (λ_=>rfl) (λ_ _=>rfl)).at rfl
def CW:aK:=⟨0,0,0,false,0,iw,wI,vl⟩
theorem vm:aQ.ow [] [.int .i64 0,.int .i64 0,.int .i64 0,.bool false,.float .f32 0,.slice none 0 0,.int .i64 0,.int .i64 0,.float .f32 0,.float .f32 0,.float .f32 0,.float .f32 0,.float .f32 0,.int .i64 0,.float .f32 0,.float .f32 0,.float .f32 0,.float .f32 0,.float .f32 0,.float .f32 0,.slice none 0 0,.slice none 0 0,.slice none 0 0,.int .i64 0,.float .f32 0,.float .f32 0,.float .f32 0,.float .f32 0,.float .f32 0,.bool false,.float .f32 0,.float .f32 0,.float .f32 0,.slice none 0 0,.int .i64 0,.slice none 0 0,.int .i64 0,.int .i64 0,.float .f32 0,.float .f32 0,.float .f32 0,.float .f32 0,.float .f32 0,.float .f32 0,.float .f32 0] CW:=⟨[],[],[.int .i64 0],_,rfl,rfl,⟨rfl,rfl⟩,⟨[],[],[.int .i64 0],_,rfl,rfl,⟨rfl,rfl⟩,⟨[],[],[.int .i64 0],_,rfl,rfl,⟨rfl,rfl⟩,⟨[],[],[.bool false],_,rfl,rfl,⟨rfl,rfl⟩,⟨[],[],[.float .f32 0],_,rfl,rfl,⟨rfl,0,rfl,eM (by decide) (by decide)⟩,⟨[],[],[.slice none 0 0,.int .i64 0,.int .i64 0,.float .f32 0,.float .f32 0,.float .f32 0,.float .f32 0,.float .f32 0,.int .i64 0,.float .f32 0,.float .f32 0,.float .f32 0,.float .f32 0,.float .f32 0,.float .f32 0],_,rfl,rfl,wL,⟨[],[],[.slice none 0 0,.slice none 0 0,.slice none 0 0,.int .i64 0,.float .f32 0,.float .f32 0,.float .f32 0,.float .f32 0,.float .f32 0,.bool false,.float .f32 0,.float .f32 0,.float .f32 0],_,rfl,rfl,Pr,Tz⟩⟩⟩⟩⟩⟩⟩
instance afX:cJ aQ 0 (rI .i64) (λa=>a.aT) (λa b=>{ a with aT:=b }):=⟨Foc.at Gd rfl⟩
instance afY:cJ aQ 1 (rI .i64) (λa=>a.aq) (λa b=>{ a with aq:=b }):=⟨Foc.at yt rfl⟩
instance afZ:cJ aQ 2 (rI .i64) (λa=>a.mh) (λa b=>{ a with mh:=b }):=⟨Foc.at Gb rfl⟩
instance ag0:cJ aQ 3 rB (λa=>a.Gone) (λa b=>{ a with Gone:=b }):=⟨Foc.at Gc rfl⟩
instance ag1:cJ aQ 4 (rF .f32) (λa=>a.gR) (λa b=>{ a with gR:=b }):=⟨Foc.at EN rfl⟩
instance QT:cJ aQ 5 (rSl 22 (rF .f32)) (λa=>a.String.Loop.ae) (λa b=>{ a with String:={ a.String with Loop:={ a.String.Loop with ae:=b } } }):=⟨Foc.at (bO.trans NJ.f) rfl⟩
instance ag2:cJ aQ 6 (rI .i64) (λa=>a.String.Loop.At) (λa b=>{ a with String:={ a.String with Loop:={ a.String.Loop with At:=b } } }):=⟨Foc.at (bO.trans NK.f) rfl⟩
instance ag3:cJ aQ 7 (rI .i64) (λa=>a.String.kS.Kind) (λa b=>{ a with String:={ a.String with kS:={ a.String.kS with Kind:=b } } }):=⟨Foc.at (bO.trans NL.f) rfl⟩
instance adP:cJ aQ 13 (rI .i64) (λa=>a.String.fz.Kind) (λa b=>{ a with String:={ a.String with fz:={ a.String.fz with Kind:=b } } }):=⟨Foc.at (bO.trans NM.f) rfl⟩
instance adQ:cJ aQ 19 (rF .f32) (λa=>a.String.fT) (λa b=>{ a with String:={ a.String with fT:=b } }):=⟨Foc.at (bO.trans LF.f) rfl⟩
instance NP:cJ aQ 20 (rSl 109 bQ) (λa=>a.aI.aW) (λa b=>{ a with aI:={ a.aI with aW:=b } }):=⟨Foc.at (cE.trans JP.f) rfl⟩
instance NQ:cJ aQ 21 (rSl 109 bQ) (λa=>a.aI.Left) (λa b=>{ a with aI:={ a.aI with Left:=b } }):=⟨Foc.at (cE.trans JQ.f) rfl⟩
instance NR:cJ aQ 22 (rSl 22 (rF .f32)) (λa=>a.aI.aL) (λa b=>{ a with aI:={ a.aI with aL:=b } }):=⟨Foc.at (cE.trans UL.f) rfl⟩
instance adR:cJ aQ 23 (rI .i64) (λa=>a.aI.End.Kind) (λa b=>{ a with aI:={ a.aI with End:={ a.aI.End with Kind:=b } } }):=⟨Foc.at (cE.trans UM.f) rfl⟩
instance adS:cJ aQ 29 rB (λa=>a.aI.Open) (λa b=>{ a with aI:={ a.aI with Open:=b } }):=⟨Foc.at (cE.trans UN.f) rfl⟩
instance adT:cJ aQ 30 (rF .f32) (λa=>a.aI.fT) (λa b=>{ a with aI:={ a.aI with fT:=b } }):=⟨Foc.at (cE.trans QO.f) rfl⟩
instance adU:cJ aQ 31 (rF .f32) (λa=>a.aI.Rest) (λa b=>{ a with aI:={ a.aI with Rest:=b } }):=⟨Foc.at (cE.trans QP.f) rfl⟩
instance adV:cJ aQ 32 (rF .f32) (λa=>a.aI.fX) (λa b=>{ a with aI:={ a.aI with fX:=b } }):=⟨Foc.at (cE.trans QQ.f) rfl⟩
instance NS:cJ aQ 33 (rSl 22 (rF .f32)) (λa=>a.bY.bT.ae) (λa b=>{ a with bY:={ a.bY with bT:={ a.bY.bT with ae:=b } } }):=⟨Foc.at (cP.trans Y7.f) rfl⟩
instance adW:cJ aQ 34 (rI .i64) (λa=>a.bY.bT.At) (λa b=>{ a with bY:={ a.bY with bT:={ a.bY.bT with At:=b } } }):=⟨Foc.at (cP.trans Y8.f) rfl⟩
instance NT:cJ aQ 35 (rSl 22 (rF .f32)) (λa=>a.bY.aH.ae) (λa b=>{ a with bY:={ a.bY with aH:={ a.bY.aH with ae:=b } } }):=⟨Foc.at (cP.trans Y9.f) rfl⟩
instance adX:cJ aQ 36 (rI .i64) (λa=>a.bY.aH.At) (λa b=>{ a with bY:={ a.bY with aH:={ a.bY.aH with At:=b } } }):=⟨Foc.at (cP.trans Ya.f) rfl⟩
instance adY:cJ aQ 37 (rI .i64) (λa=>a.bY.fz.Kind) (λa b=>{ a with bY:={ a.bY with fz:={ a.bY.fz with Kind:=b } } }):=⟨Foc.at (cP.trans Yb.f) rfl⟩
instance adZ:cJ aQ 43 (rF .f32) (λa=>a.bY.fX) (λa b=>{ a with bY:={ a.bY with fX:=b } }):=⟨Foc.at (cP.trans UJ.f) rfl⟩
instance ae0:cJ aQ 44 (rF .f32) (λa=>a.bY.fT) (λa b=>{ a with bY:={ a.bY with fT:=b } }):=⟨Foc.at (cP.trans UK.f) rfl⟩
def bz:Rep aC:=(Rep.seq bU (Rep.seq (rSl 122 aQ) (Rep.seq (rI .i64) (Rep.seq (rI .i64) ((rI .i64)))))).via λa=>(a.Score,a.al,a.mO,a.Next,a.ft)
theorem gx:Foc bz bU 0 (λa=>a.Score) (λa b=>{ a with Score:=b }):=(Foc.via (f:=λa:aC=>(a.Score,a.al,a.mO,a.Next,a.ft)) (get':=λa=>a.Score) (ig:=λa b=>{ a with Score:=b }) (Foc.fst (Foc.here bU)) (λ_=>rfl) (λ_ _=>rfl)).at rfl
theorem tH:Foc bz (rSl 122 aQ) 6 (λa=>a.al) (λa b=>{ a with al:=b }):=(Foc.via (f:=λa:aC=>(a.Score,a.al,a.mO,a.Next,a.ft)) (get':=λa=>a.al) (ig:=λa b=>{ a with al:=b }) (Foc.snd (Foc.fst (Foc.here (rSl 122 aQ)))) (λ_=>rfl) (λ_ _=>rfl)).at rfl
theorem G9:Foc bz (rI .i64) 7 (λa=>a.mO) (λa b=>{ a with mO:=b }):=(Foc.via (f:=λa:aC=>(a.Score,a.al,a.mO,a.Next,a.ft)) (get':=λa=>a.mO) (ig:=λa b=>{ a with mO:=b }) (Foc.snd (Foc.snd (Foc.fst (Foc.here (rI .i64))))) (λ_=>rfl) (λ_ _=>rfl)).at rfl
theorem xk:Foc bz (rI .i64) 8 (λa=>a.Next) (λa b=>{ a with Next:=b }):=(Foc.via (f:=λa:aC=>(a.Score,a.al,a.mO,a.Next,a.ft)) (get':=λa=>a.Next) (ig:=λa b=>{ a with Next:=b }) (Foc.snd (Foc.snd (Foc.snd (Foc.fst (Foc.here (rI .i64)))))) (λ_=>rfl) (λ_ _=>rfl)).at rfl
theorem AN:Foc bz (rI .i64) 9 (λa=>a.ft) (λa b=>{ a with ft:=b }):=(Foc.via (f:=λa:aC=>(a.Score,a.al,a.mO,a.Next,a.ft)) (get':=λa=>a.ft) (ig:=λa b=>{ a with ft:=b }) (Foc.snd (Foc.snd (Foc.snd (Foc.snd (Foc.here (rI .i64)))))) (λ_=>rfl) (λ_ _=>rfl)).at rfl
def iv:aC:=⟨Mj,[],0,0,0⟩
theorem Bx:bz.ow [] [.float .f32 0,.float .f32 0,.float .f32 0,.slice none 0 0,.slice none 0 0,.slice none 0 0,.slice none 0 0,.int .i64 0,.int .i64 0,.int .i64 0] iv:=⟨[],[],[.float .f32 0,.float .f32 0,.float .f32 0,.slice none 0 0,.slice none 0 0,.slice none 0 0],_,rfl,rfl,Kn,⟨[],[],[.slice none 0 0],_,rfl,rfl,⟨none,0,0,rfl,SlO.nil⟩,⟨[],[],[.int .i64 0],_,rfl,rfl,⟨rfl,rfl⟩,⟨[],[],[.int .i64 0],_,rfl,rfl,⟨rfl,rfl⟩,⟨rfl,rfl⟩⟩⟩⟩⟩
instance adH:cJ bz 4 (rSl 135 aA) (λa=>a.Score.az) (λa b=>{ a with Score:={ a.Score with az:=b } }):=⟨Foc.at (gx.trans QR.f) rfl⟩
instance adI:cJ bz 5 (rSl 131 bF) (λa=>a.Score.bo) (λa b=>{ a with Score:={ a.Score with bo:=b } }):=⟨Foc.at (gx.trans QS.f) rfl⟩
instance adJ:cJ bz 6 (rSl 122 aQ) (λa=>a.al) (λa b=>{ a with al:=b }):=⟨Foc.at tH rfl⟩
instance adK:cJ bz 7 (rI .i64) (λa=>a.mO) (λa b=>{ a with mO:=b }):=⟨Foc.at G9 rfl⟩
instance adL:cJ bz 8 (rI .i64) (λa=>a.Next) (λa b=>{ a with Next:=b }):=⟨Foc.at xk rfl⟩
instance adM:cJ bz 9 (rI .i64) (λa=>a.ft) (λa b=>{ a with ft:=b }):=⟨Foc.at AN rfl⟩
set_option maxRecDepth 100000
set_option maxHeartbeats 1000000
noncomputable def same{α:Type}(x y:α):Bool:=@decide (x=y) (Classical.propDecidable _)
section
variable {α:Type}{x y:α}
theorem acj:same x y=true↔x=y:=by unfold same;exact @decide_eq_true_iff _ (Classical.propDecidable _)
theorem aqH:same x x=true:=acj.2 rfl
theorem aoQ(h:x≠y):same x y=false:=by
 rw[Bool.eq_false_iff];intro e;exact h (acj.1 e)
theorem ak6(a b:Nat):(a==b)=same a b:=by rw[Bool.eq_iff_iff,acj,beq_iff_eq]
variable {xs ys:List α}
theorem alV(h:xs.length≠ys.length):same xs ys=false:=aoQ λe=>h (by rw[e])
variable [Inhabited α]
theorem alD{i:Nat}(h:same xs[i]! ys[i]! = false):same xs ys=false:=aoQ λe=>by
 rw[e,aqH] at h;cases h
theorem akA(hl:xs.length=ys.length)(h:∀i,i<xs.length->same xs[i]! ys[i]! = true):same xs ys=true:=by
 rw[acj]
 apply List.ext_getElem hl
 intro i h1 h2
 have:=acj.1 (h i h1)
 rwa [getElem!_pos xs i h1,getElem!_pos ys i h2] at this
end
theorem auh{xs ys:List Nat}(h1:xs.length=2)(h2:ys.length=2):same xs ys=((xs[0]! == ys[0]!)&&(xs[1]! == ys[1]!)):=by
 obtain⟨a,b,rfl⟩:=is2 h1
 obtain⟨c,d,rfl⟩:=is2 h2
 rw[Bool.eq_iff_iff]
 simp[acj]
theorem brN{b:Bool}{p q:Prop}(ht:b=false->p)(hf:b=true->q):BIF (!b) p q:=br (λh=>ht (nt h)) λh=>hf (nf h)
def aqU{α:Type}(P:Program)(r:Rep α)(f:Value):Prop:=∀(ca cb:Array Value) (x y:α) h,r.rd h ca.toList x->r.rd h cb.toList y->pE P f #[.agg ca,.agg cb] (λu h'=>u = .bool (same x y)∧Ext h h') h
theorem goE{P:Program}{f:FuncId}{args:Array Value}{v:Value}{h0 h:ab}{K:Value->ab->Prop}(E:Ext h0 h)(c:af P f args (λu h'=>u=v∧Ext h h') h)(H:∀h',Ext h0 h'->K v h'):af P f args K h:=
 c.mono λu h' ⟨e,x⟩=>by subst e;exact H h' (E.trans x)
theorem goD{P:Program}{f:Value}{args:Array Value}{v:Value}{h0 h:ab}{K:Value->ab->Prop}(E:Ext h0 h)(c:pE P f args (λu h'=>u=v∧Ext h h') h)(H:∀h',Ext h0 h'->K v h'):pE P f args K h:=
 pE.mono (λu h' ⟨e,x⟩=>by subst e;exact H h' (E.trans x)) c
theorem aiK(x y:aY):same x y=(same x.ae y.ae&&(x.At==y.At)):=by
 rw[Bool.eq_iff_iff]
 simp only[acj,Bool.and_eq_true,beq_iff_eq]
 cases x;cases y;simp[and_assoc]
theorem aew(x y:cz):same x y=((x.Kind==y.Kind)&&same x.C y.C&&same x.S y.S):=by
 rw[Bool.eq_iff_iff]
 simp only[acj,Bool.and_eq_true,beq_iff_eq]
 cases x;cases y;simp[and_assoc]
theorem aki(x y:bK):same x y=(same x.Loop y.Loop&&same x.kS y.kS&&same x.fz y.fz&&(x.fT==y.fT)):=by
 rw[Bool.eq_iff_iff]
 simp only[acj,Bool.and_eq_true,beq_iff_eq]
 cases x;cases y;simp[and_assoc]
theorem alp(x y:cp):same x y=(same x.aW y.aW&&same x.Left y.Left&&same x.aL y.aL&&same x.End y.End&&(x.Open==y.Open)&&(x.fT==y.fT)&&(x.Rest==y.Rest)&&(x.fX==y.fX)):=by
 rw[Bool.eq_iff_iff]
 simp only[acj,Bool.and_eq_true,beq_iff_eq]
 cases x;cases y;simp[and_assoc]
theorem alU(x y:iU):same x y=(same x.bT y.bT&&same x.aH y.aH&&same x.fz y.fz&&(x.fX==y.fX)&&(x.fT==y.fT)):=by
 rw[Bool.eq_iff_iff]
 simp only[acj,Bool.and_eq_true,beq_iff_eq]
 cases x;cases y;simp[and_assoc]
theorem QU{α:Type}{r:Rep α}{h:ab}{x:α}{T n:Nat}{z cs:Array Value}{F:Nat->ab->Prop}(R:r.rd h cs.toList x)(hz:z.size=n)(hn:r.sz=n)(H:∀g h',Ext h h'->RdP r h' ⟨g,0,none⟩ x->F g h'):ALC z T (λg h1=>STA n h1 ⟨g,0,none⟩ cs λh2=>F g h2) h:=
 (Mem.start h).alc λg h1 x1 M=>M.dH .here (rsz R hn) (r.wj R) hz .here λh2 M=>H g h2 M.ext (M.rdp .here (r.ext M.ext R))
def mE(t:bC)(i:Nat):Bool:=flt .f32 t.bG[i]! t.iV&&(i==0||fgt .f32 t.bG[i]! t.bG[i-1]!)
def bC.ok(t:bC):Bool:=inside t.xH 1065353216 1184645120&&inside t.iV 1065353216 1167458304&&inR t.bG.length 1 31&&(t.bG[0]! == 0)&&(List.range t.bG.length).all (mE t)
def place(a:Nat):Bool:=fge .f32 a 0&&flt .f32 a 1065353216
def bh.ok(x:bh):Bool:=uo x.Name&&inside x.B 0 1065353216 &&
 if x.Kind=1 then inside x.A 0 1056964608&&place x.C else if x.Kind=2 then place x.A&&(feq .f32 x.C 0||feq .f32 x.C 1065353216) else if x.Kind=3 then place x.A&&fin x.C else false
section
variable {h:ab}{x a:Nat}
theorem c1:FW .f32 1065353216 1065353216:=eM (by decide) (by decide)
theorem c05:FW .f32 1056964608 1056964608:=eM (by decide) (by decide)
theorem cB:FW .f32 1184645120 1184645120:=eM (by decide) (by decide)
theorem cO:FW .f32 1167458304 1167458304:=eM (by decide) (by decide)
theorem cR:FW .f32 1232348160 1232348160:=eM (by decide) (by decide)
theorem SlR.at0{α:Type}{r:Rep α}{b:Option Addr}{l c:Nat}{xs:List α}[Inhabited α]{F:Addr->Prop}(S:SlR r h b l c xs)(hz:0<r.sz)(h2:0<l)(H:∀a,RdP r h a xs[0]!->F a):bd b (0:Int) l F:=
 S.idx hz (by omega) (by omega) λa R=>by
  have e:a.add ((0:Int).toNat*r.sz)=a:=by rw[show(0:Int).toNat=0 from rfl,Nat.zero_mul,kW]
  rw[e] at R
  exact H a R
theorem SlR.idn{α:Type}{r:Rep α}{b:Option Addr}{l c n:Nat}{xs:List α}[Inhabited α]{F:Addr->Prop}(S:SlR r h b l c xs)(hz:0<r.sz)(h2:n<l)(H:∀a,RdP r h (a.add ((n:Int).toNat*r.sz)) xs[n]!->F a):bd b (n:Int) l F:=
 S.idx hz (by omega) (by omega) H
theorem Uv(hx:FW .f32 x a):Ret ak 225 #[.float .f32 x] (.bool (inside a 1065353216 1184645120)):=λh=>by
 refine rr.call ?_
 rw[rr.S,cw hx c1,cw hx cB]
 exact br (λhb=>⟨by rw[inside,fge,hb];rfl,Ext.refl _⟩) λhb=>⟨by rw[inside,fge,hb];rfl,Ext.refl _⟩
theorem Xy(hx:FW .f32 x a):Ret ak 160 #[.float .f32 x] (.bool (inside a 1065353216 1184645120)):=λh=>
 yA.call ((jO hx c1 cB).go λh1 x1=>bt ⟨rfl,x1⟩)
theorem XA(hx:FW .f32 x a):Ret ak 103 #[.float .f32 x] (.bool (inside a 1065353216 1232348160)):=λh=>
 yC.call ((jO hx c1 cR).go λh1 x1=>bt ⟨rfl,x1⟩)
theorem JL(hx:FW .f32 x a):Ret ak 228 #[.float .f32 x] (.bool (place a)):=λh=>by
 refine ri.call ?_
 rw[ri.S,cw hx fw0,cw hx c1]
 exact br (λhb=>⟨by rw[place,fge,hb];rfl,Ext.refl _⟩) λhb=>⟨by rw[place,fge,hb];rfl,Ext.refl _⟩
theorem Cb(hx:FW .f32 x a):Ret ak 229 #[.float .f32 x] (.bool (place a)):=λh=>by
 refine tL.call ?_
 rw[tL.S,cw hx fw0,cw hx c1]
 exact br (λhb=>⟨by rw[place,fge,hb];rfl,Ext.refl _⟩) λhb=>⟨by rw[place,fge,hb];rfl,Ext.refl _⟩
theorem Js{m n:Nat}(hx:FW .f32 x a)(hm:FW .f32 m n):Ret ak 153 #[.float .f32 x,.float .f32 m,.bool false] (.bool (inside a 0 n)):=λh=>by
 refine jf.call ?_
 rw[jf.S,cw hx fw0,cw hx hm]
 exact cM rfl (br (λhb=>⟨by rw[inside,fge,hb];rfl,Ext.refl _⟩) λhb=>⟨by rw[inside,fge,hb];rfl,Ext.refl _⟩)
theorem KM(hx:FW .f32 x a):Ret ak 153 #[.float .f32 x,.float .f32 1065353216,.bool true] (.bool (place a)):=λh=>by
 refine jf.call ?_
 rw[jf.S,cw hx fw0,cw hx c1]
 exact vu rfl (br (λhb=>⟨by rw[place,fge,hb];rfl,Ext.refl _⟩) λhb=>⟨by rw[place,fge,hb];rfl,Ext.refl _⟩)
theorem zK{n:Nat}(h0:0<n)(h:n<9223372036854775808):IntKind.i64.wrap ((n:Int)-1)=((n-1:Nat):Int):=by rw[wrap64 (by omega) (by omega)];omega
theorem SR{q:Addr}{t:bC}(R:RdP dD h q t):af ak 151 #[.pointer (some q)] (λu h'=>u = .bool t.ok∧Ext h h') h:=by
 have hm:=cu
 refine fq.call (R.oL λb l c S=>R.oF1 λy hy=>goX (Uv hy h) λh1 x1=>bt ?_)
 have hl:=S.len
 have s1:=S.2.1
 have s2:=S.2.2.1
 refine brN (λhb=>⟨by rw[bC.ok,hb];rfl,x1⟩) λhb=>(R.ext x1).oF λz hz=>?_
 rw[cw hz c1]
 refine br (λk1=>(R.ext x1).oF λw hw=>?_) λk1=>⟨by rw[bC.ok,inside,inside,fge,fge,k1];simp,x1⟩
 rw[cw hw cO]
 refine brN (λk2=>⟨by rw[bC.ok,inside,inside,fle,fle,k2];simp,x1⟩) λk2=>?_
 have ho:inside t.iV 1065353216 1167458304=true:=by rw[inside,fge,fle,k1,k2];rfl
 refine brd (λe1=>⟨by rw[bC.ok,hl,inR,decide_eq_false (p:=(1:Int)≤(l:Int)) (by omega)];simp,x1⟩) λe1=>brd (λe2=>⟨by rw[bC.ok,hl,inR,decide_eq_false (p:=(l:Int)≤31) (by omega)];simp,x1⟩) λe2=>?_
 have hlen:inR (t.bG.length:Int) 1 31=true:=by rw[hl,inR,decide_eq_true (by omega),decide_eq_true (by omega)];rfl
 refine(R.ext x1).oL λb1 l1 c1' S1=>?_
 have e3:=S1.len
 refine S1.at0 (by decide) (by omega) λp Rp=>Rp.oF1 λy hy=>goE x1 (zu hy fw0 _) λh2 x2=>bt (brN (λhb=>⟨by rw[bC.ok,hb];simp,x2⟩) λh0=>?_)
 refine loop (λx hh=>∃n:Nat,x=(q,(l:Int),(n:Int))∧n≤l∧Ext h hh∧∀i,i<n->mE t i=true) (λx=>((l:Int)-x.2.2).toNat) ⟨0,rfl,by omega,x2,λi hi=>by omega⟩ ?_
 rintro x hh ⟨n,rfl,hn,X,hd⟩
 have R':=R.ext X
 have no:n<l->mE t n=false->(Value.bool false = .bool t.ok∧Ext h hh):=λe hf=>⟨by rw[bC.ok,all_false (f:=mE t) (by rw[hl];exact e) hf,Bool.and_false],X⟩
 refine brd (λhc=>?_) λhc=>⟨by rw[bC.ok,hb,ho,hlen,h0,all_true λi hi=>hd i (by omega)];rfl,X⟩
 have next:mE t n=true->((∃m:Nat,(q,(l:Int),IntKind.i64.wrap ((n:Int)+1))=(q,(l:Int),(m:Int))∧m≤l∧Ext h hh∧∀i,i<m->mE t i=true)∧((l:Int)-IntKind.i64.wrap ((n:Int)+1)).toNat<((l:Int)-n).toNat):=λhn1=>
  ⟨⟨n+1,by rw[ag (by omega)],by omega,X,λi hi=>by
   by_cases e:i=n
   ·subst e;exact hn1
   ·exact hd i (by omega)⟩,by rw[ag (by omega)];omega⟩
 refine brd (λh0=>?_) λh0=>?_
 ·rw[zK (by omega) (by omega)]
  refine R'.oL λb1 l1 c1 S1=>?_
  have e1:=S1.len
  refine S1.idx (by decide) (by omega) (by omega) λp Rp=>Rp.oF1 λy hy=>R'.oL λb2 l2 c2 S2=>?_
  have e2:=S2.len
  refine S2.idx (by decide) (by omega) (by omega) λp Rp=>Rp.oF1 λz hz=>?_
  rw[cw hy hz]
  have en:(n==0)=false:=by simp;omega
  refine brN (λk=>no (by omega) (by rw[mE,en,Bool.false_or,show fgt .f32 t.bG[n]! t.bG[n-1]! = false from k,Bool.and_false])) λk1=>R'.oL λb3 l3 c3 S3=>?_
  have e3:=S3.len
  refine S3.idx (by decide) (by omega) (by omega) λp Rp=>Rp.oF1 λy hy=>R'.oF λz hz=>?_
  rw[cw hy hz]
  refine brN (λk=>no (by omega) (by rw[mE,show flt .f32 t.bG[n]! t.iV=false from k,Bool.false_and])) λk2=>next ?_
  rw[mE,show flt .f32 t.bG[n]! t.iV=true from k2,show fgt .f32 t.bG[n]! t.bG[n-1]! = true from k1,Bool.or_true];rfl
 ·obtain rfl:n=0:=by omega
  refine R'.oL λb3 l3 c3 S3=>?_
  have e3:=S3.len
  refine S3.idx (by decide) (by omega) (by omega) λp Rp=>Rp.oF1 λy hy=>R'.oF λz hz=>?_
  rw[cw hy hz]
  refine brN (λk=>no (by omega) (by rw[mE,show flt .f32 t.bG[0]! t.iV=false from k,Bool.false_and])) λk2=>next ?_
  rw[mE,show flt .f32 t.bG[0]! t.iV=true from k2];rfl
theorem Be{cs:Array Value}{t:bC}(R:dD.rd h cs.toList t):af ak 100 #[.agg cs] (λu h'=>u = .bool t.ok∧Ext h h') h:=
 pc.call (gD R λg h1 x1 R1=>goE x1 (SR R1) λh2 x2=>bt ⟨rfl,x2⟩)
theorem A6{cs:Array Value}{t:bC}(R:dD.rd h cs.toList t):af ak 104 #[.agg cs] (λu h'=>u = .bool t.ok∧Ext h h') h:=by
 have hm:=cu
 refine cq.call (gD R λg h1 x1 R1=>R1.oF2 λy hy=>goE (Ext.refl h1) (Xy hy _) λh2 x2=>bt (brN (λhb=>⟨by rw[bC.ok,hb];rfl,x1.trans x2⟩) λhb=>(R1.ext x2).oF2 λz hz=>goE x2 (jO hz c1 cO _) λh3 x3=>bt (brN (λho=>⟨by rw[bC.ok,ho];simp,x1.trans x3⟩) λho=>(R1.ext x3).oL2 λb l c S=>goE x3 (iK _ _ _ _) λh4 x4=>cN (goE x4 (js _ _ _ _) λh5 x5=>bt (brN (λe=>⟨?_,x1.trans x5⟩) λe=>?_)))))
 ·rw[← S.len] at e
  rw[bC.ok,e];simp
 rw[← S.len] at e
 have hl:=S.len
 have hp:1≤l:=by
  unfold inR at e
  simp only[Bool.and_eq_true,decide_eq_true_eq] at e
  omega
 refine(R1.ext x5).oL2 λb1 l1 c1' S1=>?_
 have e1:=S1.len
 refine S1.at0 (by decide) (by omega) λp Rp=>Rp.oF1 λy hy=>goE x5 (FK hy _) λh6 x6=>cN (br (λk=>⟨?_,x1.trans x6⟩) λk=>?_)
 ·have:(t.bG[0]! == 0)=false:=by
   rw[beq_eq_false_iff_ne]
   simp only[bne_iff_ne,ne_eq] at k
   omega
  rw[bC.ok,this];simp
 have h0:(t.bG[0]! == 0)=true:=by
  rw[beq_iff_eq]
  simp only[bne_eq_false_iff_eq] at k
  omega
 unfold cq.J3
 refine(R1.ext x6).oL λb2 l2 c2 S2=>?_
 have e2:=S2.len
 have s1:=S2.2.1
 have s2:=S2.2.2.1
 refine loop (λx hh=>∃n:Nat,x=(⟨g,0,none⟩,b2,l2,c2,(l2:Int),(n:Int))∧n≤l2∧Ext h6 hh∧∀i,i<n->mE t i=true) (λx=>((l2:Int)-x.2.2.2.2.2).toNat) ⟨0,rfl,by omega,Ext.refl _,λi hi=>by omega⟩ ?_
 rintro x hh ⟨n,rfl,hn,X,hd⟩
 have R':=R1.ext (x6.trans X)
 have X':=x1.trans (x6.trans X)
 have no:n<l2->mE t n=false->(Value.bool false = .bool t.ok∧Ext h hh):=λe hf=>⟨by rw[bC.ok,all_false (f:=mE t) (by rw[e2];exact e) hf,Bool.and_false],X'⟩
 refine brd (λhc=>?_) λhc=>⟨by rw[bC.ok,hb,ho,e,h0,all_true λi hi=>hd i (by omega)];rfl,X'⟩
 have next:mE t n=true->((∃m:Nat,((⟨g,0,none⟩:Addr),b2,l2,c2,(l2:Int),IntKind.i64.wrap ((n:Int)+1))=(⟨g,0,none⟩,b2,l2,c2,(l2:Int),(m:Int))∧m≤l2∧Ext h6 hh∧∀i,i<m->mE t i=true)∧((l2:Int)-IntKind.i64.wrap ((n:Int)+1)).toNat<((l2:Int)-n).toNat):=λhn1=>
  ⟨⟨n+1,by rw[ag (by omega)],by omega,X,λi hi=>by
   by_cases e:i=n
   ·subst e;exact hn1
   ·exact hd i (by omega)⟩,by rw[ag (by omega)];omega⟩
 refine(S2.ext X).idx (by decide) (by omega) (by omega) λp Rp=>Rp.oF1 λy hy=>R'.oF λz hz=>?_
 rw[cw hy hz]
 refine brN (λk=>no (by omega) (by rw[mE,show flt .f32 t.bG[n]! t.iV=false from k,Bool.false_and])) λk2=>brd (λh0=>?_) λh0=>?_
 ·rw[zK (by omega) (by omega)]
  refine R'.oL λb3 l3 c3 S3=>?_
  have e3:=S3.len
  refine S3.idx (by decide) (by omega) (by omega) λp Rp=>Rp.oF1 λz hz=>?_
  rw[cw hy hz]
  have en:(n==0)=false:=by simp;omega
  refine brN (λk=>no (by omega) (by rw[mE,en,Bool.false_or,show fgt .f32 t.bG[n]! t.bG[n-1]! = false from k,Bool.and_false])) λk1=>next ?_
  rw[mE,show flt .f32 t.bG[n]! t.iV=true from k2,show fgt .f32 t.bG[n]! t.bG[n-1]! = true from k1,Bool.or_true];rfl
 ·obtain rfl:n=0:=by omega
  refine next ?_
  rw[mE,show flt .f32 t.bG[0]! t.iV=true from k2];rfl
theorem EU{q:Addr}{x:bh}(R:RdP aA h q x):af ak 101 #[.pointer (some q)] (λu h'=>u = .bool x.ok∧Ext h h') h:=by
 refine eY.call (R.oS1 λhs=>goE (Ext.refl h) (Uy _ hs _) λh1 x1=>bt (brN (λhn=>⟨by rw[bh.ok,hn];rfl,x1⟩) λhn=>(R.ext x1).oF λy hy=>goE x1 (Js hy c1 _) λh2 x2=>bt (brN (λhb=>⟨by rw[bh.ok,hb];simp,x2⟩) λhb=>?_)))
 have R2:=R.ext x2
 have k:x.ok=if x.Kind=1 then inside x.A 0 1056964608&&place x.C else if x.Kind=2 then place x.A&&(feq .f32 x.C 0||feq .f32 x.C 1065353216) else if x.Kind=3 then place x.A&&fin x.C else false:=by rw[bh.ok,hn,hb];rfl
 refine R2.oI (br (λe1=>?_) λe1=>br (λe2=>?_) λe2=>br (λe3=>?_) λe3=>?_)
 ·rw[if_pos (by simpa using e1)] at k
  refine R2.oF λy hy=>goE x2 (Js hy c05 _) λh3 x3=>bt (br (λd=>?_) λd=>⟨by rw[k,d];rfl,x3⟩)
  exact(R.ext x3).oF λy hy=>goE x3 (KM hy _) λh4 x4=>bt ⟨by rw[k,d];rfl,x4⟩
 ·rw[if_neg (by simpa using e1),if_pos (by simpa using e2)] at k
  refine R2.oF λy hy=>goE x2 (KM hy _) λh3 x3=>bt (br (λd=>?_) λd=>⟨by rw[k,d];rfl,x3⟩)
  refine(R.ext x3).oF λy hy=>?_
  rw[cw hy fw0]
  refine br (λd2=>⟨by rw[k,d,show feq .f32 x.C 0=true from d2];rfl,x3⟩) λd2=>(R.ext x3).oF λy hy=>?_
  rw[cw hy c1]
  exact⟨by rw[k,d,show feq .f32 x.C 0=false from d2];rfl,x3⟩
 ·rw[if_neg (by simpa using e1),if_neg (by simpa using e2),if_pos (by simpa using e3)] at k
  refine R2.oF λy hy=>goE x2 (KM hy _) λh3 x3=>bt (br (λd=>?_) λd=>⟨by rw[k,d];rfl,x3⟩)
  exact(R.ext x3).oF λy hy=>goE x3 (jm hy _) λh4 x4=>bt ⟨by rw[k,d];rfl,x4⟩
 ·rw[if_neg (by simpa using e1),if_neg (by simpa using e2),if_neg (by simpa using e3)] at k
  exact⟨by rw[k],x2⟩
theorem BE{cs:Array Value}{x:bh}(R0:aA.rd h cs.toList x):af ak 162 #[.agg cs] (λu h'=>u = .bool x.ok∧Ext h h') h:=by
 refine er.call (gD R0 λg h0 x0 R=>R.oS2 λhs=>goE (Ext.refl h0) (Xz _ hs _) λh1 x1=>bt (brN (λhn=>⟨by rw[bh.ok,hn];rfl,x0.trans x1⟩) λhn=>(R.ext x1).oF2 λy hy=>goE x1 (jO hy fw0 c1 _) λh2 x2=>bt (brN (λhb=>⟨by rw[bh.ok,hb];simp,x0.trans x2⟩) λhb=>?_)))
 have R2:=R.ext x2
 have k:x.ok=if x.Kind=1 then inside x.A 0 1056964608&&place x.C else if x.Kind=2 then place x.A&&(feq .f32 x.C 0||feq .f32 x.C 1065353216) else if x.Kind=3 then place x.A&&fin x.C else false:=by rw[bh.ok,hn,hb];rfl
 refine R2.oI (br (λe1=>?_) λe1=>br (λe2=>?_) λe2=>br (λe3=>?_) λe3=>?_)
 ·rw[if_pos (by simpa using e1)] at k
  refine R2.oF λy hy=>goE x2 (jO hy fw0 c05 _) λh3 x3=>bt (br (λd=>?_) λd=>⟨by rw[k,d];rfl,x0.trans x3⟩)
  exact(R.ext x3).oF λy hy=>goE x3 (JL hy _) λh4 x4=>bt ⟨by rw[k,d];rfl,x0.trans x4⟩
 ·rw[if_neg (by simpa using e1),if_pos (by simpa using e2)] at k
  refine R2.oF λy hy=>goE x2 (Cb hy _) λh3 x3=>bt (br (λd=>?_) λd=>⟨by rw[k,d];rfl,x0.trans x3⟩)
  refine(R.ext x3).oF λy hy=>?_
  rw[cw hy fw0]
  refine br (λd2=>⟨by rw[k,d,show feq .f32 x.C 0=true from d2];rfl,x0.trans x3⟩) λd2=>(R.ext x3).oF λy hy=>?_
  rw[cw hy c1]
  exact⟨by rw[k,d,show feq .f32 x.C 0=false from d2];rfl,x0.trans x3⟩
 ·rw[if_neg (by simpa using e1),if_neg (by simpa using e2),if_pos (by simpa using e3)] at k
  refine R2.oF λy hy=>goE x2 (Cb hy _) λh3 x3=>bt (br (λd=>?_) λd=>⟨by rw[k,d];rfl,x0.trans x3⟩)
  exact(R.ext x3).oF λy hy=>goE x3 (mw hy _) λh4 x4=>bt ⟨by rw[k,d];rfl,x0.trans x4⟩
 ·rw[if_neg (by simpa using e1),if_neg (by simpa using e2),if_neg (by simpa using e3)] at k
  exact⟨by rw[k],x0.trans x2⟩
end
end Go.Sx
