/- Lemmas. -/
import Derived.Test.YthhepeklpgefkaaGreatDoorLg
import Derived.Test.YthhepeklpgefkaaGreatDoorLp4
import Derived.Test.YthhepeklpgefkaaGreatDoorTabE
import Derived.Test.YthhepeklpgefkaaGreatDoorLr3
import Derived.Test.YthhepeklpgefkaaGreatDoorLk24
set_option linter.unusedVariables false
set_option linter.unusedSimpArgs false
namespace Go.Sx
open Go.Proofs
def az:Rep aJ:=(Rep.seq (rI .i64) (Rep.seq (rI .i64) (Rep.seq (rI .i64) (Rep.seq rB (Rep.seq (rF .f32) (Rep.seq aX (Rep.seq ck (fQ)))))))).via λa=>(a.aT,a.ar,a.lq,a.Gone,a.ja,a.String,a.aP,a.cz)
theorem Mf:Foc az (rI .i64) 0 (λa=>a.aT) (λa b=>{ a with aT:=b }):=(Foc.via (f:=λa:aJ=>(a.aT,a.ar,a.lq,a.Gone,a.ja,a.String,a.aP,a.cz)) (get':=λa=>a.aT) (jR:=λa b=>{ a with aT:=b }) (Foc.fst (Foc.here (rI .i64))) (λ_=>rfl) (λ_ _=>rfl)).at rfl
theorem DH:Foc az (rI .i64) 1 (λa=>a.ar) (λa b=>{ a with ar:=b }):=(Foc.via (f:=λa:aJ=>(a.aT,a.ar,a.lq,a.Gone,a.ja,a.String,a.aP,a.cz)) (get':=λa=>a.ar) (jR:=λa b=>{ a with ar:=b }) (Foc.snd (Foc.fst (Foc.here (rI .i64)))) (λ_=>rfl) (λ_ _=>rfl)).at rfl
theorem Md:Foc az (rI .i64) 2 (λa=>a.lq) (λa b=>{ a with lq:=b }):=(Foc.via (f:=λa:aJ=>(a.aT,a.ar,a.lq,a.Gone,a.ja,a.String,a.aP,a.cz)) (get':=λa=>a.lq) (jR:=λa b=>{ a with lq:=b }) (Foc.snd (Foc.snd (Foc.fst (Foc.here (rI .i64))))) (λ_=>rfl) (λ_ _=>rfl)).at rfl
theorem Me:Foc az rB 3 (λa=>a.Gone) (λa b=>{ a with Gone:=b }):=(Foc.via (f:=λa:aJ=>(a.aT,a.ar,a.lq,a.Gone,a.ja,a.String,a.aP,a.cz)) (get':=λa=>a.Gone) (jR:=λa b=>{ a with Gone:=b }) (Foc.snd (Foc.snd (Foc.snd (Foc.fst (Foc.here rB))))) (λ_=>rfl) (λ_ _=>rfl)).at rfl
theorem KR:Foc az (rF .f32) 4 (λa=>a.ja) (λa b=>{ a with ja:=b }):=(Foc.via (f:=λa:aJ=>(a.aT,a.ar,a.lq,a.Gone,a.ja,a.String,a.aP,a.cz)) (get':=λa=>a.ja) (jR:=λa b=>{ a with ja:=b }) (Foc.snd (Foc.snd (Foc.snd (Foc.snd (Foc.fst (Foc.here (rF .f32))))))) (λ_=>rfl) (λ_ _=>rfl)).at rfl
theorem bu:Foc az aX 5 (λa=>a.String) (λa b=>{ a with String:=b }):=(Foc.via (f:=λa:aJ=>(a.aT,a.ar,a.lq,a.Gone,a.ja,a.String,a.aP,a.cz)) (get':=λa=>a.String) (jR:=λa b=>{ a with String:=b }) (Foc.snd (Foc.snd (Foc.snd (Foc.snd (Foc.snd (Foc.fst (Foc.here aX))))))) (λ_=>rfl) (λ_ _=>rfl)).at rfl
theorem bV:Foc az ck 20 (λa=>a.aP) (λa b=>{ a with aP:=b }):=(Foc.via (f:=λa:aJ=>(a.aT,a.ar,a.lq,a.Gone,a.ja,a.String,a.aP,a.cz)) (get':=λa=>a.aP) (jR:=λa b=>{ a with aP:=b }) (Foc.snd (Foc.snd (Foc.snd (Foc.snd (Foc.snd (Foc.snd (Foc.fst (Foc.here ck)))))))) (λ_=>rfl) (λ_ _=>rfl)).at rfl
theorem cm:Foc az fQ 33 (λa=>a.cz) (λa b=>{ a with cz:=b }):=(Foc.via (f:=λa:aJ=>(a.aT,a.ar,a.lq,a.Gone,a.ja,a.String,a.aP,a.cz)) (get':=λa=>a.cz) (jR:=λa b=>{ a with cz:=b }) (Foc.snd (Foc.snd (Foc.snd (Foc.snd (Foc.snd (Foc.snd (Foc.snd (Foc.here fQ)))))))) (λ_=>rfl) (λ_ _=>rfl)).at rfl
def tp:aJ:=⟨0,0,0,false,0,ff,lv,mD⟩
theorem rL:az.ow [] [.int .i64 0,.int .i64 0,.int .i64 0,.bool false,.float .f32 0,.slice none 0 0,.int .i64 0,.int .i64 0,.float .f32 0,.float .f32 0,.float .f32 0,.float .f32 0,.float .f32 0,.int .i64 0,.float .f32 0,.float .f32 0,.float .f32 0,.float .f32 0,.float .f32 0,.float .f32 0,.slice none 0 0,.slice none 0 0,.slice none 0 0,.int .i64 0,.float .f32 0,.float .f32 0,.float .f32 0,.float .f32 0,.float .f32 0,.bool false,.float .f32 0,.float .f32 0,.float .f32 0,.slice none 0 0,.int .i64 0,.slice none 0 0,.int .i64 0,.int .i64 0,.float .f32 0,.float .f32 0,.float .f32 0,.float .f32 0,.float .f32 0,.float .f32 0,.float .f32 0] tp:=⟨[],[],[.int .i64 0],_,rfl,rfl,⟨rfl,rfl⟩,⟨[],[],[.int .i64 0],_,rfl,rfl,⟨rfl,rfl⟩,⟨[],[],[.int .i64 0],_,rfl,rfl,⟨rfl,rfl⟩,⟨[],[],[.bool false],_,rfl,rfl,⟨rfl,rfl⟩,⟨[],[],[.float .f32 0],_,rfl,rfl,⟨rfl,0,rfl,fK (by decide) (by decide)⟩,⟨[],[],[.slice none 0 0,.int .i64 0,.int .i64 0,.float .f32 0,.float .f32 0,.float .f32 0,.float .f32 0,.float .f32 0,.int .i64 0,.float .f32 0,.float .f32 0,.float .f32 0,.float .f32 0,.float .f32 0,.float .f32 0],_,rfl,rfl,uG,⟨[],[],[.slice none 0 0,.slice none 0 0,.slice none 0 0,.int .i64 0,.float .f32 0,.float .f32 0,.float .f32 0,.float .f32 0,.float .f32 0,.bool false,.float .f32 0,.float .f32 0,.float .f32 0],_,rfl,rfl,EI,Lu⟩⟩⟩⟩⟩⟩⟩
instance amg:dn az 0 (rI .i64) (λa=>a.aT) (λa b=>{ a with aT:=b }):=⟨Foc.at Mf rfl⟩
instance amh:dn az 1 (rI .i64) (λa=>a.ar) (λa b=>{ a with ar:=b }):=⟨Foc.at DH rfl⟩
instance ami:dn az 2 (rI .i64) (λa=>a.lq) (λa b=>{ a with lq:=b }):=⟨Foc.at Md rfl⟩
instance amj:dn az 3 rB (λa=>a.Gone) (λa b=>{ a with Gone:=b }):=⟨Foc.at Me rfl⟩
instance amk:dn az 4 (rF .f32) (λa=>a.ja) (λa b=>{ a with ja:=b }):=⟨Foc.at KR rfl⟩
instance XQ:dn az 5 (rSl au (rF .f32)) (λa=>a.String.Loop.af) (λa b=>{ a with String:={ a.String with Loop:={ a.String.Loop with af:=b } } }):=⟨Foc.at (bu.trans UP.f) rfl⟩
instance aml:dn az 6 (rI .i64) (λa=>a.String.Loop.At) (λa b=>{ a with String:={ a.String with Loop:={ a.String.Loop with At:=b } } }):=⟨Foc.at (bu.trans UQ.f) rfl⟩
instance amm:dn az 7 (rI .i64) (λa=>a.String.mK.Kind) (λa b=>{ a with String:={ a.String with mK:={ a.String.mK with Kind:=b } } }):=⟨Foc.at (bu.trans UR.f) rfl⟩
instance akf:dn az 13 (rI .i64) (λa=>a.String.gl.Kind) (λa b=>{ a with String:={ a.String with gl:={ a.String.gl with Kind:=b } } }):=⟨Foc.at (bu.trans US.f) rfl⟩
instance akg:dn az 19 (rF .f32) (λa=>a.String.fi) (λa b=>{ a with String:={ a.String with fi:=b } }):=⟨Foc.at (bu.trans SW.f) rfl⟩
instance UU:dn az 20 (rSl aq bo) (λa=>a.aP.aY) (λa b=>{ a with aP:={ a.aP with aY:=b } }):=⟨Foc.at (bV.trans Qp.f) rfl⟩
instance UW:dn az 21 (rSl aq bo) (λa=>a.aP.Left) (λa b=>{ a with aP:={ a.aP with Left:=b } }):=⟨Foc.at (bV.trans Qq.f) rfl⟩
instance UX:dn az 22 (rSl au (rF .f32)) (λa=>a.aP.aG) (λa b=>{ a with aP:={ a.aP with aG:=b } }):=⟨Foc.at (bV.trans abo.f) rfl⟩
instance akh:dn az 23 (rI .i64) (λa=>a.aP.End.Kind) (λa b=>{ a with aP:={ a.aP with End:={ a.aP.End with Kind:=b } } }):=⟨Foc.at (bV.trans abp.f) rfl⟩
instance aki:dn az 29 rB (λa=>a.aP.Open) (λa b=>{ a with aP:={ a.aP with Open:=b } }):=⟨Foc.at (bV.trans abq.f) rfl⟩
instance akj:dn az 30 (rF .f32) (λa=>a.aP.fi) (λa b=>{ a with aP:={ a.aP with fi:=b } }):=⟨Foc.at (bV.trans XL.f) rfl⟩
instance akk:dn az 31 (rF .f32) (λa=>a.aP.Rest) (λa b=>{ a with aP:={ a.aP with Rest:=b } }):=⟨Foc.at (bV.trans XM.f) rfl⟩
instance akl:dn az 32 (rF .f32) (λa=>a.aP.fG) (λa b=>{ a with aP:={ a.aP with fG:=b } }):=⟨Foc.at (bV.trans XN.f) rfl⟩
instance UY:dn az 33 (rSl au (rF .f32)) (λa=>a.cz.bX.af) (λa b=>{ a with cz:={ a.cz with bX:={ a.cz.bX with af:=b } } }):=⟨Foc.at (cm.trans aeG.f) rfl⟩
instance akm:dn az 34 (rI .i64) (λa=>a.cz.bX.At) (λa b=>{ a with cz:={ a.cz with bX:={ a.cz.bX with At:=b } } }):=⟨Foc.at (cm.trans aeH.f) rfl⟩
instance UZ:dn az 35 (rSl au (rF .f32)) (λa=>a.cz.aK.af) (λa b=>{ a with cz:={ a.cz with aK:={ a.cz.aK with af:=b } } }):=⟨Foc.at (cm.trans aeI.f) rfl⟩
instance akn:dn az 36 (rI .i64) (λa=>a.cz.aK.At) (λa b=>{ a with cz:={ a.cz with aK:={ a.cz.aK with At:=b } } }):=⟨Foc.at (cm.trans aeJ.f) rfl⟩
instance ako:dn az 37 (rI .i64) (λa=>a.cz.gl.Kind) (λa b=>{ a with cz:={ a.cz with gl:={ a.cz.gl with Kind:=b } } }):=⟨Foc.at (cm.trans aeK.f) rfl⟩
instance akp:dn az 43 (rF .f32) (λa=>a.cz.fG) (λa b=>{ a with cz:={ a.cz with fG:=b } }):=⟨Foc.at (cm.trans abm.f) rfl⟩
instance akq:dn az 44 (rF .f32) (λa=>a.cz.fi) (λa b=>{ a with cz:={ a.cz with fi:=b } }):=⟨Foc.at (cm.trans abn.f) rfl⟩
def aR:Rep ay:=(Rep.seq da (Rep.seq (rSl ao az) (Rep.seq (rI .i64) (Rep.seq (rI .i64) ((rI .i64)))))).via λa=>(a.Score,a.al,a.nJ,a.Next,a.eF)
theorem cP:Foc aR da 0 (λa=>a.Score) (λa b=>{ a with Score:=b }):=(Foc.via (f:=λa:ay=>(a.Score,a.al,a.nJ,a.Next,a.eF)) (get':=λa=>a.Score) (jR:=λa b=>{ a with Score:=b }) (Foc.fst (Foc.here da)) (λ_=>rfl) (λ_ _=>rfl)).at rfl
theorem yX:Foc aR (rSl ao az) 6 (λa=>a.al) (λa b=>{ a with al:=b }):=(Foc.via (f:=λa:ay=>(a.Score,a.al,a.nJ,a.Next,a.eF)) (get':=λa=>a.al) (jR:=λa b=>{ a with al:=b }) (Foc.snd (Foc.fst (Foc.here (rSl ao az)))) (λ_=>rfl) (λ_ _=>rfl)).at rfl
theorem Mb:Foc aR (rI .i64) 7 (λa=>a.nJ) (λa b=>{ a with nJ:=b }):=(Foc.via (f:=λa:ay=>(a.Score,a.al,a.nJ,a.Next,a.eF)) (get':=λa=>a.nJ) (jR:=λa b=>{ a with nJ:=b }) (Foc.snd (Foc.snd (Foc.fst (Foc.here (rI .i64))))) (λ_=>rfl) (λ_ _=>rfl)).at rfl
theorem CV:Foc aR (rI .i64) 8 (λa=>a.Next) (λa b=>{ a with Next:=b }):=(Foc.via (f:=λa:ay=>(a.Score,a.al,a.nJ,a.Next,a.eF)) (get':=λa=>a.Next) (jR:=λa b=>{ a with Next:=b }) (Foc.snd (Foc.snd (Foc.snd (Foc.fst (Foc.here (rI .i64)))))) (λ_=>rfl) (λ_ _=>rfl)).at rfl
theorem GB:Foc aR (rI .i64) 9 (λa=>a.eF) (λa b=>{ a with eF:=b }):=(Foc.via (f:=λa:ay=>(a.Score,a.al,a.nJ,a.Next,a.eF)) (get':=λa=>a.eF) (jR:=λa b=>{ a with eF:=b }) (Foc.snd (Foc.snd (Foc.snd (Foc.snd (Foc.here (rI .i64)))))) (λ_=>rfl) (λ_ _=>rfl)).at rfl
def EG:ay:=⟨TB,[],0,0,0⟩
theorem Og:aR.ow [] [.float .f32 0,.float .f32 0,.float .f32 0,.slice none 0 0,.slice none 0 0,.slice none 0 0,.slice none 0 0,.int .i64 0,.int .i64 0,.int .i64 0] EG:=⟨[],[],[.float .f32 0,.float .f32 0,.float .f32 0,.slice none 0 0,.slice none 0 0,.slice none 0 0],_,rfl,rfl,Rg,⟨[],[],[.slice none 0 0],_,rfl,rfl,⟨none,0,0,rfl,SlO.nil⟩,⟨[],[],[.int .i64 0],_,rfl,rfl,⟨rfl,rfl⟩,⟨[],[],[.int .i64 0],_,rfl,rfl,⟨rfl,rfl⟩,⟨rfl,rfl⟩⟩⟩⟩⟩
instance ak7:dn aR 4 (rSl bk aM) (λa=>a.Score.aI) (λa b=>{ a with Score:={ a.Score with aI:=b } }):=⟨Foc.at (cP.trans XO.f) rfl⟩
instance ak8:dn aR 5 (rSl bq bD) (λa=>a.Score.aU) (λa b=>{ a with Score:={ a.Score with aU:=b } }):=⟨Foc.at (cP.trans XP.f) rfl⟩
instance ak9:dn aR 6 (rSl ao az) (λa=>a.al) (λa b=>{ a with al:=b }):=⟨Foc.at yX rfl⟩
instance aka:dn aR 7 (rI .i64) (λa=>a.nJ) (λa b=>{ a with nJ:=b }):=⟨Foc.at Mb rfl⟩
instance akb:dn aR 8 (rI .i64) (λa=>a.Next) (λa b=>{ a with Next:=b }):=⟨Foc.at CV rfl⟩
instance akc:dn aR 9 (rI .i64) (λa=>a.eF) (λa b=>{ a with eF:=b }):=⟨Foc.at GB rfl⟩
set_option maxRecDepth 100000
set_option maxHeartbeats 1000000
noncomputable def same{α:Type}(x y:α):Bool:=@decide (x=y) (Classical.propDecidable _)
section
variable {α:Type}{x y:α}
theorem jg:same x y=true↔x=y:=by unfold same;exact @decide_eq_true_iff _ (Classical.propDecidable _)
theorem abT:same x x=true:=jg.2 rfl
theorem ZP(h:x≠y):same x y=false:=by
 rw[Bool.eq_false_iff];intro e;exact h (jg.1 e)
theorem Ip(a b:Nat):(a==b)=same a b:=by rw[Bool.eq_iff_iff,jg,beq_iff_eq]
variable {xs ys:List α}
theorem Vy(h:xs.length≠ys.length):same xs ys=false:=ZP λe=>h (by rw[e])
variable [Inhabited α]
theorem Tk{i:Nat}(h:same xs[i]! ys[i]! = false):same xs ys=false:=ZP λe=>by
 rw[e,abT] at h;cases h
theorem NC(hl:xs.length=ys.length)(h:∀i,i<xs.length->same xs[i]! ys[i]! = true):same xs ys=true:=by
 rw[jg]
 apply List.ext_getElem hl
 intro i h1 h2
 have:=jg.1 (h i h1)
 rwa [getElem!_pos xs i h1,getElem!_pos ys i h2] at this
end
theorem aj7{xs ys:List Nat}(h1:xs.length=2)(h2:ys.length=2):same xs ys=((xs[0]! == ys[0]!)&&(xs[1]! == ys[1]!)):=by
 obtain⟨a,b,rfl⟩:=is2 h1
 obtain⟨c,d,rfl⟩:=is2 h2
 rw[Bool.eq_iff_iff]
 simp[jg]
theorem brN{b:Bool}{p q:Prop}(ht:b=false->p)(hf:b=true->q):BIF (!b) p q:=br (λh=>ht (nt h)) λh=>hf (nf h)
def acZ{α:Type}(P:Program)(r:Rep α)(f:Value):Prop:=∀(ca cb:Array Value) (x y:α) h,r.rd h ca.toList x->r.rd h cb.toList y->oc P f #[.agg ca,.agg cb] (λu h'=>u = .bool (same x y)∧Ext h h') h
theorem goE{P:Program}{f:FuncId}{args:Array Value}{v:Value}{h0 h:ab}{K:Value->ab->Prop}(E:Ext h0 h)(c:ae P f args (λu h'=>u=v∧Ext h h') h)(H:∀h',Ext h0 h'->K v h'):ae P f args K h:=
 c.mono λu h' ⟨e,x⟩=>by subst e;exact H h' (E.trans x)
theorem goD{P:Program}{f:Value}{args:Array Value}{v:Value}{h0 h:ab}{K:Value->ab->Prop}(E:Ext h0 h)(c:oc P f args (λu h'=>u=v∧Ext h h') h)(H:∀h',Ext h0 h'->K v h'):oc P f args K h:=
 oc.mono (λu h' ⟨e,x⟩=>by subst e;exact H h' (E.trans x)) c
theorem Fb(x y:bc):same x y=(same x.af y.af&&(x.At==y.At)):=by
 rw[Bool.eq_iff_iff]
 simp only[jg,Bool.and_eq_true,beq_iff_eq]
 cases x;cases y;simp[and_assoc]
theorem vb(x y:cN):same x y=((x.Kind==y.Kind)&&same x.C y.C&&same x.S y.S):=by
 rw[Bool.eq_iff_iff]
 simp only[jg,Bool.and_eq_true,beq_iff_eq]
 cases x;cases y;simp[and_assoc]
theorem Kl(x y:bP):same x y=(same x.Loop y.Loop&&same x.mK y.mK&&same x.gl y.gl&&(x.fi==y.fi)):=by
 rw[Bool.eq_iff_iff]
 simp only[jg,Bool.and_eq_true,beq_iff_eq]
 cases x;cases y;simp[and_assoc]
theorem QN(x y:cF):same x y=(same x.aY y.aY&&same x.Left y.Left&&same x.aG y.aG&&same x.End y.End&&(x.Open==y.Open)&&(x.fi==y.fi)&&(x.Rest==y.Rest)&&(x.fG==y.fG)):=by
 rw[Bool.eq_iff_iff]
 simp only[jg,Bool.and_eq_true,beq_iff_eq]
 cases x;cases y;simp[and_assoc]
theorem Vx(x y:jh):same x y=(same x.bX y.bX&&same x.aK y.aK&&same x.gl y.gl&&(x.fG==y.fG)&&(x.fi==y.fi)):=by
 rw[Bool.eq_iff_iff]
 simp only[jg,Bool.and_eq_true,beq_iff_eq]
 cases x;cases y;simp[and_assoc]
theorem Jx{α:Type}{r:Rep α}{h:ab}{x:α}{T n:Nat}{z cs:Array Value}{F:Nat->ab->Prop}(R:r.rd h cs.toList x)(hz:z.size=n)(hn:r.sz=n)(H:∀g h',Ext h h'->RdP r h' ⟨g,0,none⟩ x->F g h'):ALC z T (λg h1=>STA n h1 ⟨g,0,none⟩ cs λh2=>F g h2) h:=
 (Mem.start h).alc λg h1 x1 M=>M.dy .here (rsz R hn) (r.rQ R) hz .here λh2 M=>H g h2 M.ext (M.rdp .here (r.ext M.ext R))
def rr(t:bR)(i:Nat):Bool:=flt .f32 t.bU[i]! t.kZ&&(i==0||fgt .f32 t.bU[i]! t.bU[i-1]!)
def bR.ok(t:bR):Bool:=inside t.Di 1065353216 1184645120&&inside t.kZ 1065353216 1167458304&&inR t.bU.length 1 31&&(t.bU[0]! == 0)&&(List.range t.bU.length).all (rr t)
def place(a:Nat):Bool:=fge .f32 a 0&&flt .f32 a 1065353216
def bA.ok(x:bA):Bool:=Ac x.Name&&inside x.B 0 1065353216 &&
 if x.Kind=1 then inside x.A 0 1056964608&&place x.C else if x.Kind=2 then place x.A&&(feq .f32 x.C 0||feq .f32 x.C 1065353216) else if x.Kind=3 then place x.A&&fin x.C else false
section
variable {h:ab}{x a:Nat}
theorem c1:FW .f32 1065353216 1065353216:=fK (by decide) (by decide)
theorem c05:FW .f32 1056964608 1056964608:=fK (by decide) (by decide)
theorem cB:FW .f32 1184645120 1184645120:=fK (by decide) (by decide)
theorem cO:FW .f32 1167458304 1167458304:=fK (by decide) (by decide)
theorem cR:FW .f32 1232348160 1232348160:=fK (by decide) (by decide)
theorem SlR.at0{α:Type}{r:Rep α}{b:Option Addr}{l c:Nat}{xs:List α}[Inhabited α]{F:Addr->Prop}(S:SlR r h b l c xs)(hz:0<r.sz)(h2:0<l)(H:∀a,RdP r h a xs[0]!->F a):bg b (0:Int) l F:=
 S.idx hz (by omega) (by omega) λa R=>by
  have e:a.add ((0:Int).toNat*r.sz)=a:=by rw[show (0:Int).toNat=0 from rfl,Nat.zero_mul,ny]
  rw[e] at R
  exact H a R
theorem SlR.idn{α:Type}{r:Rep α}{b:Option Addr}{l c n:Nat}{xs:List α}[Inhabited α]{F:Addr->Prop}(S:SlR r h b l c xs)(hz:0<r.sz)(h2:n<l)(H:∀a,RdP r h (a.add ((n:Int).toNat*r.sz)) xs[n]!->F a):bg b (n:Int) l F:=
 S.idx hz (by omega) (by omega) H
theorem ab6(hx:FW .f32 x a):Ret ai xS #[.float .f32 x] (.bool (inside a 1065353216 1184645120)):=λh=>by
 refine xd.call ?_
 rw[xd.S,cY hx c1,cY hx cB]
 exact br (λhb=>⟨by rw[inside,fge,hb];rfl,Ext.refl _⟩) λhb=>⟨by rw[inside,fge,hb];rfl,Ext.refl _⟩
theorem ae7(hx:FW .f32 x a):Ret ai zA #[.float .f32 x] (.bool (inside a 1065353216 1184645120)):=λh=>
 DP.call ((lS hx c1 cB).go λh1 x1=>bd ⟨rfl,x1⟩)
theorem aea(hx:FW .f32 x a):Ret ai zC #[.float .f32 x] (.bool (inside a 1065353216 1232348160)):=λh=>
 DR.call ((lS hx c1 cR).go λh1 x1=>bd ⟨rfl,x1⟩)
theorem Qj(hx:FW .f32 x a):Ret ai sj #[.float .f32 x] (.bool (place a)):=λh=>by
 refine wT.call ?_
 rw[wT.S,cY hx fw0,cY hx c1]
 exact br (λhb=>⟨by rw[place,fge,hb];rfl,Ext.refl _⟩) λhb=>⟨by rw[place,fge,hb];rfl,Ext.refl _⟩
theorem HR(hx:FW .f32 x a):Ret ai nK #[.float .f32 x] (.bool (place a)):=λh=>by
 refine z9.call ?_
 rw[z9.S,cY hx fw0,cY hx c1]
 exact br (λhb=>⟨by rw[place,fge,hb];rfl,Ext.refl _⟩) λhb=>⟨by rw[place,fge,hb];rfl,Ext.refl _⟩
theorem PY{m n:Nat}(hx:FW .f32 x a)(hm:FW .f32 m n):Ret ai iD #[.float .f32 x,.float .f32 m,.bool false] (.bool (inside a 0 n)):=λh=>by
 refine lJ.call ?_
 rw[lJ.S,cY hx fw0,cY hx hm]
 exact dp rfl (br (λhb=>⟨by rw[inside,fge,hb];rfl,Ext.refl _⟩) λhb=>⟨by rw[inside,fge,hb];rfl,Ext.refl _⟩)
theorem RY(hx:FW .f32 x a):Ret ai iD #[.float .f32 x,.float .f32 1065353216,.bool true] (.bool (place a)):=λh=>by
 refine lJ.call ?_
 rw[lJ.S,cY hx fw0,cY hx c1]
 exact BB rfl (br (λhb=>⟨by rw[place,fge,hb];rfl,Ext.refl _⟩) λhb=>⟨by rw[place,fge,hb];rfl,Ext.refl _⟩)
theorem Fm{n:Nat}(h0:0<n)(h:n<9223372036854775808):IntKind.i64.wrap ((n:Int)-1)=((n-1:Nat):Int):=by rw[wrap64 (by omega) (by omega)];omega
theorem Zo{q:Addr}{t:bR}(R:RdP eJ h q t):ae ai wN #[.pointer (some q)] (λu h'=>u = .bool t.ok∧Ext h h') h:=by
 have hm:=bW
 refine gV.call (R.oL λb l c S=>R.oF1 λy hy=>goX (ab6 hy h) λh1 x1=>bd ?_)
 have hl:=S.len
 have s1:=S.2.1
 have s2:=S.2.2.1
 refine brN (λhb=>⟨by rw[bR.ok,hb];rfl,x1⟩) λhb=>(R.ext x1).oF λz hz=>?_
 rw[cY hz c1]
 refine br (λk1=>(R.ext x1).oF λw hw=>?_) λk1=>⟨by rw[bR.ok,inside,inside,fge,fge,k1];simp,x1⟩
 rw[cY hw cO]
 refine brN (λk2=>⟨by rw[bR.ok,inside,inside,fle,fle,k2];simp,x1⟩) λk2=>?_
 have ho:inside t.kZ 1065353216 1167458304=true:=by rw[inside,fge,fle,k1,k2];rfl
 refine brd (λe1=>⟨by rw[bR.ok,hl,inR,decide_eq_false (p:=(1:Int)≤(l:Int)) (by omega)];simp,x1⟩) λe1=>brd (λe2=>⟨by rw[bR.ok,hl,inR,decide_eq_false (p:=(l:Int)≤31) (by omega)];simp,x1⟩) λe2=>?_
 have hlen:inR (t.bU.length:Int) 1 31=true:=by rw[hl,inR,decide_eq_true (by omega),decide_eq_true (by omega)];rfl
 refine (R.ext x1).oL λb1 l1 c1' S1=>?_
 have e3:=S1.len
 refine S1.at0 (by decide) (by omega) λp Rp=>Rp.oF1 λy hy=>goE x1 (kq hy fw0 _) λh2 x2=>bd (brN (λhb=>⟨by rw[bR.ok,hb];simp,x2⟩) λh0=>?_)
 refine loop (λx hh=>∃n:Nat,x=(q,(l:Int),(n:Int))∧n≤l∧Ext h hh∧∀i,i<n->rr t i=true) (λx=>((l:Int)-x.2.2).toNat) ⟨0,rfl,by omega,x2,λi hi=>by omega⟩ ?_
 rintro x hh ⟨n,rfl,hn,X,hd⟩
 have R':=R.ext X
 have no:n<l->rr t n=false->(Value.bool false = .bool t.ok∧Ext h hh):=λe hf=>⟨by rw[bR.ok,all_false (f:=rr t) (by rw[hl];exact e) hf,Bool.and_false],X⟩
 refine brd (λhc=>?_) λhc=>⟨by rw[bR.ok,hb,ho,hlen,h0,all_true λi hi=>hd i (by omega)];rfl,X⟩
 have next:rr t n=true->((∃m:Nat,(q,(l:Int),IntKind.i64.wrap ((n:Int)+1))=(q,(l:Int),(m:Int))∧m≤l∧Ext h hh∧∀i,i<m->rr t i=true)∧((l:Int)-IntKind.i64.wrap ((n:Int)+1)).toNat<((l:Int)-n).toNat):=λhn1=>
  ⟨⟨n+1,by rw[ag (by omega)],by omega,X,λi hi=>by
   by_cases e:i=n
   ·subst e;exact hn1
   ·exact hd i (by omega)⟩,by rw[ag (by omega)];omega⟩
 refine brd (λh0=>?_) λh0=>?_
 ·rw[Fm (by omega) (by omega)]
  refine R'.oL λb1 l1 c1 S1=>?_
  have e1:=S1.len
  refine S1.idx (by decide) (by omega) (by omega) λp Rp=>Rp.oF1 λy hy=>R'.oL λb2 l2 c2 S2=>?_
  have e2:=S2.len
  refine S2.idx (by decide) (by omega) (by omega) λp Rp=>Rp.oF1 λz hz=>?_
  rw[cY hy hz]
  have en:(n==0)=false:=by simp;omega
  refine brN (λk=>no (by omega) (by rw[rr,en,Bool.false_or,show fgt .f32 t.bU[n]! t.bU[n-1]! = false from k,Bool.and_false])) λk1=>R'.oL λb3 l3 c3 S3=>?_
  have e3:=S3.len
  refine S3.idx (by decide) (by omega) (by omega) λp Rp=>Rp.oF1 λy hy=>R'.oF λz hz=>?_
  rw[cY hy hz]
  refine brN (λk=>no (by omega) (by rw[rr,show flt .f32 t.bU[n]! t.kZ=false from k,Bool.false_and])) λk2=>next ?_
  rw[rr,show flt .f32 t.bU[n]! t.kZ=true from k2,show fgt .f32 t.bU[n]! t.bU[n-1]! = true from k1,Bool.or_true];rfl
 ·obtain rfl:n=0:=by omega
  refine R'.oL λb3 l3 c3 S3=>?_
  have e3:=S3.len
  refine S3.idx (by decide) (by omega) (by omega) λp Rp=>Rp.oF1 λy hy=>R'.oF λz hz=>?_
  rw[cY hy hz]
  refine brN (λk=>no (by omega) (by rw[rr,show flt .f32 t.bU[0]! t.kZ=false from k,Bool.false_and])) λk2=>next ?_
  rw[rr,show flt .f32 t.bU[0]! t.kZ=true from k2];rfl
theorem H3{cs:Array Value}{t:bR}(R:eJ.rd h cs.toList t):ae ai qV #[.agg cs] (λu h'=>u = .bool t.ok∧Ext h h') h:=
 uz.call (fj R λg h1 x1 R1=>goE x1 (Zo R1) λh2 x2=>bd ⟨rfl,x2⟩)
theorem FO{cs:Array Value}{t:bR}(R:eJ.rd h cs.toList t):ae ai mR #[.agg cs] (λu h'=>u = .bool t.ok∧Ext h h') h:=by
 have hm:=bW
 refine cZ.call (fj R λg h1 x1 R1=>R1.oF2 λy hy=>goE (Ext.refl h1) (ae7 hy _) λh2 x2=>bd (brN (λhb=>⟨by rw[bR.ok,hb];rfl,x1.trans x2⟩) λhb=>(R1.ext x2).oF2 λz hz=>goE x2 (lS hz c1 cO _) λh3 x3=>bd (brN (λho=>⟨by rw[bR.ok,ho];simp,x1.trans x3⟩) λho=>(R1.ext x3).oL2 λb l c S=>goE x3 (kN _ _ _ _) λh4 x4=>cX (goE x4 (kJ _ _ _ _) λh5 x5=>bd (brN (λe=>⟨?_,x1.trans x5⟩) λe=>?_)))))
 ·rw[← S.len] at e
  rw[bR.ok,e];simp
 rw[← S.len] at e
 have hl:=S.len
 have hp:1≤l:=by
  unfold inR at e
  simp only[Bool.and_eq_true,decide_eq_true_eq] at e
  omega
 refine (R1.ext x5).oL2 λb1 l1 c1' S1=>?_
 have e1:=S1.len
 refine S1.at0 (by decide) (by omega) λp Rp=>Rp.oF1 λy hy=>goE x5 (AD hy _) λh6 x6=>cX (br (λk=>⟨?_,x1.trans x6⟩) λk=>?_)
 ·have:(t.bU[0]! == 0)=false:=by
   rw[beq_eq_false_iff_ne]
   simp only[bne_iff_ne,ne_eq] at k
   omega
  rw[bR.ok,this];simp
 have h0:(t.bU[0]! == 0)=true:=by
  rw[beq_iff_eq]
  simp only[bne_eq_false_iff_eq] at k
  omega
 unfold cZ.J3
 refine (R1.ext x6).oL λb2 l2 c2 S2=>?_
 have e2:=S2.len
 have s1:=S2.2.1
 have s2:=S2.2.2.1
 refine loop (λx hh=>∃n:Nat,x=(⟨g,0,none⟩,b2,l2,c2,(l2:Int),(n:Int))∧n≤l2∧Ext h6 hh∧∀i,i<n->rr t i=true) (λx=>((l2:Int)-x.2.2.2.2.2).toNat) ⟨0,rfl,by omega,Ext.refl _,λi hi=>by omega⟩ ?_
 rintro x hh ⟨n,rfl,hn,X,hd⟩
 have R':=R1.ext (x6.trans X)
 have X':=x1.trans (x6.trans X)
 have no:n<l2->rr t n=false->(Value.bool false = .bool t.ok∧Ext h hh):=λe hf=>⟨by rw[bR.ok,all_false (f:=rr t) (by rw[e2];exact e) hf,Bool.and_false],X'⟩
 refine brd (λhc=>?_) λhc=>⟨by rw[bR.ok,hb,ho,e,h0,all_true λi hi=>hd i (by omega)];rfl,X'⟩
 have next:rr t n=true->((∃m:Nat,((⟨g,0,none⟩:Addr),b2,l2,c2,(l2:Int),IntKind.i64.wrap ((n:Int)+1))=(⟨g,0,none⟩,b2,l2,c2,(l2:Int),(m:Int))∧m≤l2∧Ext h6 hh∧∀i,i<m->rr t i=true)∧((l2:Int)-IntKind.i64.wrap ((n:Int)+1)).toNat<((l2:Int)-n).toNat):=λhn1=>
  ⟨⟨n+1,by rw[ag (by omega)],by omega,X,λi hi=>by
   by_cases e:i=n
   ·subst e;exact hn1
   ·exact hd i (by omega)⟩,by rw[ag (by omega)];omega⟩
 refine (S2.ext X).idx (by decide) (by omega) (by omega) λp Rp=>Rp.oF1 λy hy=>R'.oF λz hz=>?_
 rw[cY hy hz]
 refine brN (λk=>no (by omega) (by rw[rr,show flt .f32 t.bU[n]! t.kZ=false from k,Bool.false_and])) λk2=>brd (λh0=>?_) λh0=>?_
 ·rw[Fm (by omega) (by omega)]
  refine R'.oL λb3 l3 c3 S3=>?_
  have e3:=S3.len
  refine S3.idx (by decide) (by omega) (by omega) λp Rp=>Rp.oF1 λz hz=>?_
  rw[cY hy hz]
  have en:(n==0)=false:=by simp;omega
  refine brN (λk=>no (by omega) (by rw[rr,en,Bool.false_or,show fgt .f32 t.bU[n]! t.bU[n-1]! = false from k,Bool.and_false])) λk1=>next ?_
  rw[rr,show flt .f32 t.bU[n]! t.kZ=true from k2,show fgt .f32 t.bU[n]! t.bU[n-1]! = true from k1,Bool.or_true];rfl
 ·obtain rfl:n=0:=by omega
  refine next ?_
  rw[rr,show flt .f32 t.bU[0]! t.kZ=true from k2];rfl
theorem KX{q:Addr}{x:bA}(R:RdP aM h q x):ae ai oE #[.pointer (some q)] (λu h'=>u = .bool x.ok∧Ext h h') h:=by
 refine gu.call (R.oS1 λhs=>goE (Ext.refl h) (ab8 _ hs _) λh1 x1=>bd (brN (λhn=>⟨by rw[bA.ok,hn];rfl,x1⟩) λhn=>(R.ext x1).oF λy hy=>goE x1 (PY hy c1 _) λh2 x2=>bd (brN (λhb=>⟨by rw[bA.ok,hb];simp,x2⟩) λhb=>?_)))
 have R2:=R.ext x2
 have k:x.ok=if x.Kind=1 then inside x.A 0 1056964608&&place x.C else if x.Kind=2 then place x.A&&(feq .f32 x.C 0||feq .f32 x.C 1065353216) else if x.Kind=3 then place x.A&&fin x.C else false:=by rw[bA.ok,hn,hb];rfl
 refine R2.oI (br (λe1=>?_) λe1=>br (λe2=>?_) λe2=>br (λe3=>?_) λe3=>?_)
 ·rw[if_pos (by simpa using e1)] at k
  refine R2.oF λy hy=>goE x2 (PY hy c05 _) λh3 x3=>bd (br (λd=>?_) λd=>⟨by rw[k,d];rfl,x3⟩)
  exact (R.ext x3).oF λy hy=>goE x3 (RY hy _) λh4 x4=>bd ⟨by rw[k,d];rfl,x4⟩
 ·rw[if_neg (by simpa using e1),if_pos (by simpa using e2)] at k
  refine R2.oF λy hy=>goE x2 (RY hy _) λh3 x3=>bd (br (λd=>?_) λd=>⟨by rw[k,d];rfl,x3⟩)
  refine (R.ext x3).oF λy hy=>?_
  rw[cY hy fw0]
  refine br (λd2=>⟨by rw[k,d,show feq .f32 x.C 0=true from d2];rfl,x3⟩) λd2=>(R.ext x3).oF λy hy=>?_
  rw[cY hy c1]
  exact ⟨by rw[k,d,show feq .f32 x.C 0=false from d2];rfl,x3⟩
 ·rw[if_neg (by simpa using e1),if_neg (by simpa using e2),if_pos (by simpa using e3)] at k
  refine R2.oF λy hy=>goE x2 (RY hy _) λh3 x3=>bd (br (λd=>?_) λd=>⟨by rw[k,d];rfl,x3⟩)
  exact (R.ext x3).oF λy hy=>goE x3 (kX hy _) λh4 x4=>bd ⟨by rw[k,d];rfl,x4⟩
 ·rw[if_neg (by simpa using e1),if_neg (by simpa using e2),if_neg (by simpa using e3)] at k
  exact ⟨by rw[k],x2⟩
theorem Hh{cs:Array Value}{x:bA}(R0:aM.rd h cs.toList x):ae ai mP #[.agg cs] (λu h'=>u = .bool x.ok∧Ext h h') h:=by
 refine fz.call (fj R0 λg h0 x0 R=>R.oS2 λhs=>goE (Ext.refl h0) (ae9 _ hs _) λh1 x1=>bd (brN (λhn=>⟨by rw[bA.ok,hn];rfl,x0.trans x1⟩) λhn=>(R.ext x1).oF2 λy hy=>goE x1 (lS hy fw0 c1 _) λh2 x2=>bd (brN (λhb=>⟨by rw[bA.ok,hb];simp,x0.trans x2⟩) λhb=>?_)))
 have R2:=R.ext x2
 have k:x.ok=if x.Kind=1 then inside x.A 0 1056964608&&place x.C else if x.Kind=2 then place x.A&&(feq .f32 x.C 0||feq .f32 x.C 1065353216) else if x.Kind=3 then place x.A&&fin x.C else false:=by rw[bA.ok,hn,hb];rfl
 refine R2.oI (br (λe1=>?_) λe1=>br (λe2=>?_) λe2=>br (λe3=>?_) λe3=>?_)
 ·rw[if_pos (by simpa using e1)] at k
  refine R2.oF λy hy=>goE x2 (lS hy fw0 c05 _) λh3 x3=>bd (br (λd=>?_) λd=>⟨by rw[k,d];rfl,x0.trans x3⟩)
  exact (R.ext x3).oF λy hy=>goE x3 (Qj hy _) λh4 x4=>bd ⟨by rw[k,d];rfl,x0.trans x4⟩
 ·rw[if_neg (by simpa using e1),if_pos (by simpa using e2)] at k
  refine R2.oF λy hy=>goE x2 (HR hy _) λh3 x3=>bd (br (λd=>?_) λd=>⟨by rw[k,d];rfl,x0.trans x3⟩)
  refine (R.ext x3).oF λy hy=>?_
  rw[cY hy fw0]
  refine br (λd2=>⟨by rw[k,d,show feq .f32 x.C 0=true from d2];rfl,x0.trans x3⟩) λd2=>(R.ext x3).oF λy hy=>?_
  rw[cY hy c1]
  exact ⟨by rw[k,d,show feq .f32 x.C 0=false from d2];rfl,x0.trans x3⟩
 ·rw[if_neg (by simpa using e1),if_neg (by simpa using e2),if_pos (by simpa using e3)] at k
  refine R2.oF λy hy=>goE x2 (HR hy _) λh3 x3=>bd (br (λd=>?_) λd=>⟨by rw[k,d];rfl,x0.trans x3⟩)
  exact (R.ext x3).oF λy hy=>goE x3 (nh hy _) λh4 x4=>bd ⟨by rw[k,d];rfl,x0.trans x4⟩
 ·rw[if_neg (by simpa using e1),if_neg (by simpa using e2),if_neg (by simpa using e3)] at k
  exact ⟨by rw[k],x0.trans x2⟩
end
end Go.Sx
