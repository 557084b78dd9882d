/- Lemmas. -/
import Derived.Test.YthhepeklpgefkaaGreatDoorSx9
set_option linter.unusedVariables false
set_option linter.unusedSimpArgs false
namespace Go.Sx
variable {P:Program}{τ:Static}
abbrev D4:=Exit->Frame->ab->Prop
def KN(J:Frame->ab->Prop)(K:D4):D4:=λe fr h=>match e with | .normal=>J fr h | e=>K e fr h
def KB(id:Nat)(K:D4):D4:=λe fr h=>match e with | .exit j=>bif Nat.beq j id then K .normal fr h else K (.exit j) fr h | e=>K e fr h
def lab:Code->Option Nat
 | .region id _ _=>some id
 | .seq a b=>(match lab a with | some i=>some i | none=>lab b)
 | .cond _ a b=>(match lab a with | some i=>some i | none=>lab b)
 | .block _ c=>lab c
 | .loop c=>lab c
 | _=>none
abbrev qD:=Nat->Option (Frame->ab->Prop)
def LI(Λ:qD)(c:Code):Option (Frame->ab->Prop):=match lab c with | some i=>Λ i | none=>none
def Wy(Λ:qD)(c:Code):Option (Frame->ab->Prop):=match lab c with | some i=>Λ (1000000+i) | none=>none
def asD(P:Program)(τ:Static)(ops:Array Oper)(draw:Bool)(K:Frame->ab->Prop)(fr:Frame)(h:ab):Prop:=
 match draw with
 | false=>aj9 P τ ops K 0 ops.toList fr h
 | true=>bif Region.noSelect ops then Q6 P τ ops (Ke ops (List.range ops.size) []) K ops.size (Array.replicate ops.size false) fr h [] else False
def wpI(P:Program)(τ:Static)(Λ:qD):Code->D4->Frame->ab->Prop
 | .skip,K,fr,h=>K .normal fr h
 | .region _ ops draw,K,fr,h=>asD P τ ops draw (K .normal) fr h
 | .seq a b,K,fr,h=>wpI P τ Λ a (KN (match LI Λ b with | some J=>J | none=>wpI P τ Λ b K) K) fr h
 | .cond c a b,K,fr,h=>(match evL fr c with | .bool t=>BIF t (wpI P τ Λ a K fr h) (wpI P τ Λ b K fr h) | _=>False)
 | .block id c,K,fr,h=>wpI P τ Λ c (KB id K) fr h
 | .loop c,_,fr,h=>(match Wy Λ c with | some L=>L fr h | none=>False)
 | .exit id,K,fr,h=>K (.exit id) fr h
 | .ret,K,fr,h=>K .ret fr h
 | _,_,_,_=>False
def Ok(P:Program)(c:Code)(K:D4)(fr:Frame)(h:ab):Prop:=
 ∀(a:Act) (w:World),a.tmps.toList=fr->w.heap=h->c.wp P (λe a' w'=>Left a w (K e) a' w') a w
def Lb(P:Program)(L:Frame->ab->Prop)(c:Code)(K:D4):Prop:=
 ∀fr h,L fr h->∃(I:Frame->ab->Prop) (m:Frame->ab->Nat),I fr h∧∀fr h,I fr h->Ok P c (KN (λDe h'=>I De h'∧m De h'<m fr h) K) fr h
inductive Rq (P:Program) (τ:Static) (Λ:qD):Code->D4->Prop
 | skip {K}:Rq P τ Λ .skip K
 | region {i ops d K}:Rq P τ Λ (.region i ops d) K
 | exit {i K}:Rq P τ Λ (.exit i) K
 | ret {K}:Rq P τ Λ .ret K
 | seq {a b K}:LI Λ b=none->Rq P τ Λ a (KN (wpI P τ Λ b K) K)->Rq P τ Λ b K->Rq P τ Λ (.seq a b) K
 | asG {a b K}(J:Frame->ab->Prop):LI Λ b=some J->(∀fr h,J fr h->wpI P τ Λ b K fr h)->Rq P τ Λ a (KN J K)->Rq P τ Λ b K->Rq P τ Λ (.seq a b) K
 | aBe {a b K}:LI Λ b=some (λ_ _=>False)->Rq P τ Λ a (KN (λ_ _=>False) K)->Rq P τ Λ (.seq a b) K
 | cond {c a b K}:Rq P τ Λ a K->Rq P τ Λ b K->Rq P τ Λ (.cond c a b) K
 | block {i c K}:Rq P τ Λ c (KB i K)->Rq P τ Λ (.block i c) K
 | loop {c K}(L:Frame->ab->Prop):Wy Λ c=some L->Lb P L c K->Rq P τ Λ (.loop c) K
theorem Left.trans{a a1:Act}{w w1:World}{X:Frame->ab->Prop}{a2:Act}{w2:World}(h1:a1.defers=a.defers)(h2:jH w w1)(h:Left a1 w1 X a2 w2):Left a w X a2 w2:=
 ⟨h.1.trans h1,h2.trans h.2.1,h.2.2⟩
theorem Zx(hτ:OkS P τ)(hm:P.follows .mixedOrders=true){Λ:qD}{c:Code}{K:D4}(hr:Rq P τ Λ c K):∀fr h,wpI P τ Λ c K fr h->Ok P c K fr h:=by
 induction hr with
 | skip=>intro fr h H a w ha hw;subst ha;subst hw;exact wp_skip ⟨rfl,jH.refl w,H⟩
 | @region i ops d K=>
  intro fr h H a w ha hw
  subst ha;subst hw
  unfold wpI asD at H
  cases d with
  | false=>exact wp_region_list (ZQ hτ (a0:=a) (w0:=w) (λa' w' hl=>hl) ops.toList 0 a w rfl (jH.refl w) H)
  | true=>
   simp only[] at H
   cases hns:Region.noSelect ops with
   | false=>rw[hns] at H;exact H.elim
   | true=>
    rw[hns] at H
    have hcl:BC ops (Array.replicate ops.size false):=λj hj=>by
     exfalso
     rcases Nat.lt_or_ge j ops.size with h' | h'
     ·simp[h'] at hj
     ·simp[h'] at hj
    have H':=Jc hτ hns rfl _ _ _ _ _ hcl H
    exact wp_region_any hm (YJ (a0:=a) (w0:=w) (λa' w' hl=>hl) _ _ _ a { w with drawn:=w.drawn+1 } rfl (AG w _) H')
 | exit=>intro fr h H a w ha hw;subst ha;subst hw;exact wp_exit ⟨rfl,jH.refl w,H⟩
 | ret=>intro fr h H a w ha hw;subst ha;subst hw;exact wp_ret ⟨rfl,jH.refl w,H⟩
 | @seq x y K hl _ _ iha ihb=>
  intro fr h H a w ha hw
  unfold wpI at H
  rw[hl] at H
  refine wp_seq (wp_mono (iha fr h H a w ha hw) λe a1 w1 q=>?_)
  cases e with
  | normal=>exact wp_mono (ihb _ _ q.2.2 a1 w1 rfl rfl) λe a2 w2 q2=>Left.trans q.1 q.2.1 q2
  | _=>exact q
 | @asG x y K J hl hJ _ _ iha ihb=>
  intro fr h H a w ha hw
  unfold wpI at H
  rw[hl] at H
  refine wp_seq (wp_mono (iha fr h H a w ha hw) λe a1 w1 q=>?_)
  cases e with
  | normal=>exact wp_mono (ihb _ _ (hJ _ _ q.2.2) a1 w1 rfl rfl) λe a2 w2 q2=>Left.trans q.1 q.2.1 q2
  | _=>exact q
 | @aBe x y K hl _ iha=>
  intro fr h H a w ha hw
  unfold wpI at H
  rw[hl] at H
  refine wp_seq (wp_mono (iha fr h H a w ha hw) λe a1 w1 q=>?_)
  cases e with
  | normal=>exact q.2.2.elim
  | _=>exact q
 | @cond c x y K _ _ iha ihb=>
  intro fr h H a w ha hw
  unfold wpI at H
  split at H
  ·rename_i t hc
   refine wp_cond (t:=t) (by rw[← LW,ha];exact hc) ?_
   cases t
   ·exact ihb fr h H a w ha hw
   ·exact iha fr h H a w ha hw
  ·exact H.elim
 | @block i c K _ ih=>
  intro fr h H a w ha hw
  refine wp_block (wp_mono (ih fr h H a w ha hw) λe a1 w1 q=>?_)
  cases e with
  | exit j=>
   simp only[Exit.inBlock]
   unfold Left KB at q
   obtain⟨q1,q2,q3⟩:=q
   by_cases hj:j=i
   ·rw[if_pos hj]
    subst hj
    simp only[Nat.beq_refl,cond_true] at q3
    exact ⟨q1,q2,q3⟩
   ·rw[if_neg hj]
    have:Nat.beq j i=false:=by
     cases hb:Nat.beq j i with
     | false=>rfl
     | true=>exact absurd (Nat.beq_eq ▸ hb) hj
    simp only[this,cond_false] at q3
    exact ⟨q1,q2,q3⟩
  | _=>exact q
 | @loop c K L hl hL=>
  intro fr h H a w ha hw
  unfold wpI at H
  rw[hl] at H
  obtain⟨I,m,h0,alN⟩:=hL fr h H
  refine wp_loop (λa' w'=>Left a w I a' w') (λa' w'=>m a'.tmps.toList w'.heap) ⟨rfl,jH.refl w,by rw[ha,hw];exact h0⟩ λa1 w1 hI=>?_
  have hb:=alN _ _ hI.2.2 a1 w1 rfl rfl
  refine wp_mono hb λe a2 w2 q=>?_
  cases e with
  | normal=>exact ⟨Left.trans hI.1 hI.2.1 ⟨q.1,q.2.1,q.2.2.1⟩,q.2.2.2⟩
  | _=>exact Left.trans hI.1 hI.2.1 q
inductive Kd where
 | i (k:IntKind) | b | f (k:FloatKind) | s | p | l | a | v
def gI(v:Value):Int:=match v with | .int _ n=>n | _=>0
def gB(v:Value):Bool:=match v with | .bool b=>b | _=>false
def gF(v:Value):Nat:=match v with | .float _ n=>n | _=>0
def gS(v:Value):ByteArray:=match v with | .string s=>s | _=>ByteArray.empty
def gP(v:Value):Addr:=match v with | .pointer (some a)=>a | _=>⟨0,0,none⟩
def gLb(v:Value):Option Addr:=match v with | .slice b _ _=>b | _=>none
def gLl(v:Value):Nat:=match v with | .slice _ l _=>l | _=>0
def gLc(v:Value):Nat:=match v with | .slice _ _ c=>c | _=>0
def gA(v:Value):Array Value:=match v with | .agg cs=>cs | _=>#[]
def Yq(k:Kd)(v:Value):Bool:=
 match k,v with
 | .i k,.int k' _=>decide (k'=k)
 | .b,.bool _=>true
 | .f k,.float k' _=>decide (k'=k)
 | .s,.string _=>true
 | .p,.pointer (some _)=>true
 | .l,.slice _ _ _=>true
 | .a,.agg _=>true
 | .v,_=>true
 | _,_=>false
def adl(k:Kd)(v:Value):Value:=
 match k with
 | .i k=>.int k (gI v)
 | .b=>.bool (gB v)
 | .f k=>.float k (gF v)
 | .s=>.string (gS v)
 | .p=>.pointer (some (gP v))
 | .l=>.slice (gLb v) (gLl v) (gLc v)
 | .a=>.agg (gA v)
 | .v=>v
def shape:List Kd->Frame->Bool
 | [],[]=>true
 | k :: ks,v :: fr=>Yq k v&&shape ks fr
 | _,_=>false
def canon:List Kd->Nat->Frame->Frame
 | [],_,_=>[]
 | k :: ks,i,fr=>adl k (ah fr i) :: canon ks (i+1) fr
theorem aas{k:Kd}{v:Value}(h:Yq k v=true):adl k v=v:=by
 cases k <;> cases v <;> simp only[Yq,Bool.false_eq_true,decide_eq_true_eq] at h <;> first
  | rfl
  | (subst h;rfl)
  | skip
 all_goals
  rename_i a
  cases a <;> first
   | rfl
   | (simp at h;done)
theorem Q1:∀(ks:List Kd) (fr pre:Frame),shape ks fr=true->canon ks pre.length (pre++fr)=fr
 | [],[],_,_=>rfl
 | [],_ :: _,_,h=>by simp[shape] at h
 | _ :: _,[],_,h=>by simp[shape] at h
 | k :: ks,v :: fr,pre,h=>by
  simp only[shape,Bool.and_eq_true] at h
  have h1:ah (pre++v :: fr) pre.length=v:=by simp[wU]
  have h2:=Q1 ks fr (pre++[v]) h.2
  simp only[List.length_append,List.length_cons,List.length_nil,List.append_assoc,List.singleton_append] at h2
  simp only[canon,h1,aas h.1,h2]
theorem U9{ks:List Kd}{fr:Frame}(h:shape ks fr=true):canon ks 0 fr=fr:=Q1 ks fr [] h
def GRD(b:Bool)(p:Prop):Prop:=match b with | true=>p | false=>False
theorem Rj{b:Bool}{p:Prop}(h:GRD b p):b=true∧p:=by cases b <;> first | exact h.elim | exact ⟨rfl,h⟩
theorem seg{ks:List Kd}{Λ:qD}{c:Code}{K:D4}{J:Frame->ab->Prop}(H:∀fr h,J fr h=wpI P τ Λ c K (canon ks 0 fr) h):∀fr h,GRD (shape ks fr) (J fr h)->wpI P τ Λ c K fr h:=by
 intro fr h hj
 obtain⟨h1,h2⟩:=Rj hj
 rw[H,U9 h1] at h2
 exact h2
def bh{X:Type}(B:(X->ab->Prop)->X->ab->Prop)(x:X)(h:ab):Prop:=
 ∃(I:X->ab->Prop) (m:X->ab->Nat),I x h∧∀x h,I x h->B (λx' h'=>I x' h'∧m x' h'<m x h) x h
theorem aBd(hτ:OkS P τ)(hm:P.follows .mixedOrders=true){X:Type}{ks:List Kd}{g:Frame->X}{B:(X->ab->Prop)->X->ab->Prop}{Λ:(X->ab->Prop)->qD}{c:Code}{K:D4}(H:∀N fr h,B N (g fr) h=wpI P τ (Λ N) c (KN (λDe h'=>GRD (shape ks De) (N (g De) h')) K) (canon ks 0 fr) h)(hr:∀N,Rq P τ (Λ N) c (KN (λDe h'=>GRD (shape ks De) (N (g De) h')) K)):Lb P (λfr h=>GRD (shape ks fr) (bh B (g fr) h)) c K:=by
 intro fr h hl
 obtain⟨h1,I,m,h2,h3⟩:=Rj hl
 refine ⟨λfr h=>GRD (shape ks fr) (I (g fr) h),λfr h=>m (g fr) h,by show GRD (shape ks fr) (I (g fr) h);rw[h1];exact h2,λfr h hi=>?_⟩
 obtain⟨h1,h2⟩:=Rj hi
 have h4:=h3 _ _ h2
 rw[H,U9 h1] at h4
 have e:(λDe h'=>GRD (shape ks De) ((λx' h'=>I x' h'∧m x' h'<m (g fr) h) (g De) h'))=λDe h'=>GRD (shape ks De) (I (g De) h')∧m (g De) h'<m (g fr) h:=by
  funext De h'
  cases shape ks De <;> simp[GRD]
 have h5:=Zx hτ hm (hr (λx' h'=>I x' h'∧m x' h'<m (g fr) h)) fr h h4
 rw[e] at h5
 exact h5
def an:List (Nat×(Frame->ab->Prop))->qD
 | [],_=>none
 | (i,J) :: r,n=>bif Nat.beq i n then some J else an r n
def HL(ls:List Nat):Code->Bool
 | .seq a b=>HL ls a&&HL ls b && !(match lab b with | some i=>ls.any (Nat.beq i) | none=>false)
 | .cond _ a b=>HL ls a&&HL ls b
 | .block _ c=>HL ls c
 | .skip | .region .. | .exit _ | .ret=>true
 | _=>false
theorem MD:∀{l:List (Nat×(Frame->ab->Prop))}{n:Nat},(l.map (·.1)).any (Nat.beq n)=false->an l n=none
 | [],_,_=>rfl
 | (i,J) :: r,n,h=>by
  simp only[List.map_cons,List.any_cons,Bool.or_eq_false_iff] at h
  have:Nat.beq i n=false:=by
   cases hb:Nat.beq i n with
   | false=>rfl
   | true=>
    rw[Nat.beq_eq] at hb
    subst hb
    have:=h.1
    rw[Nat.beq_refl] at this
    cases this
  unfold an
  rw[this]
  exact MD h.2
theorem Rq.free{l:List (Nat×(Frame->ab->Prop))}:∀{c:Code}{K:D4},HL (l.map (·.1)) c=true->Rq P τ (an l) c K
 | .seq a b,K,h=>by
  simp only[HL,Bool.and_eq_true,Bool.not_eq_true'] at h
  refine .seq ?_ (Rq.free h.1.1) (Rq.free h.1.2)
  unfold LI
  split
  ·rename_i i e
   have:=h.2
   rw[e] at this
   exact MD this
  ·rfl
 | .cond c a b,K,h=>by
  simp only[HL,Bool.and_eq_true] at h
  exact .cond (Rq.free h.1) (Rq.free h.2)
 | .block i c,K,h=>.block (Rq.free (c:=c) h)
 | .skip,_,_=>.skip
 | .region ..,_,_=>.region
 | .exit _,_,_=>.exit
 | .ret,_,_=>.ret
 | .loop _,_,h=>by cases h
 | .rangeFunc ..,_,h=>by cases h
 | .scope _,_,h=>by cases h
 | .label _,_,h=>by cases h
 | .goto _,_,h=>by cases h
 | .refuse _,_,h=>by cases h
def aks:List (Nat×Kd)->Nat->Kd
 | [],_=>.v
 | (i,k) :: r,n=>bif Nat.beq i n then k else aks r n
def kds(n:Nat)(l:List (Nat×Kd)):List Kd:=(List.range n).map (aks l)
def acS(τ:Static)(fr:Frame)(h:ab):List ResultVar->List Value->(List Value->Prop)->Prop
 | [],acc,F=>F acc
 | .tmp t :: r,acc,F=>acS τ fr h r (acc++[ah fr t]) F
 | .cell p t :: r,acc,F=>(match ah fr p with | .pointer (some a)=>LD τ t h a λv=>acS τ fr h r (acc++[v]) F | _=>False)
def akO(τ:Static)(rs:List ResultVar)(aa:Value->ab->Prop)(fr:Frame)(h:ab):Prop:=
 acS τ fr h rs [] λvs=>match vs with | [v]=>aa v h | vs=>aa (.tuple ⟨vs⟩) h
def K0(τ:Static)(rs:List ResultVar)(aa:Value->ab->Prop):D4:=λe fr h=>match e with
 | .normal=>akO τ rs aa fr h
 | .ret=>akO τ rs aa fr h
 | _=>False
def afE(tm:Array Value)(r:ResultVar):Sem Value:=match r with
 | .tmp t=>pure (tm.getD t undef)
 | .cell a t=>do loadVar t (← asAddr (tm.getD a undef))
theorem Ly(hτ:OkS P τ){w:World}(tm:Array Value):∀(rs:List ResultVar) (acc:List Value) (F:List Value->Prop),acS τ tm.toList w.heap rs acc F ->
  ∃vs:List Value,(rs.mapM (afE tm)).run P w = .ok vs w∧F (acc++vs)
 | [],acc,F,H=>⟨[],rfl,by rw[List.append_nil];exact H⟩
 | .tmp t :: r,acc,F,H=>by
  obtain⟨vs,h1,h2⟩:=Ly hτ tm r _ F H
  refine ⟨ah tm.toList t :: vs,?_,by rw[List.append_assoc] at h2;exact h2⟩
  have h0:(afE tm (.tmp t)).run P w = .ok (ah tm.toList t) w:=by
   have:tm.getD t undef=ah tm.toList t:=by rw[wU];simp[Array.getD_eq_getD_getElem?]
   rw[← this];rfl
  rw[List.mapM_cons]
  simp[h1,h0]
 | .cell p t :: r,acc,F,H=>by
  unfold acS at H
  split at H
  ·rename_i a hp
   obtain⟨v,hv,H⟩:=acM (P:=P) hτ H
   obtain⟨vs,h1,h2⟩:=Ly hτ tm r _ F H
   refine ⟨v :: vs,?_,by rw[List.append_assoc] at h2;exact h2⟩
   have h0:(afE tm (.cell p t)).run P w = .ok v w:=by
    have:tm.getD p undef = .pointer (some a):=by rw[← hp,wU];simp[Array.getD_eq_getD_getElem?]
    simp only[afE,this,asAddr,Sem.run_bind,Sem.run_pure,Result.andThen_ok,hv]
   rw[List.mapM_cons]
   simp[h1,h0]
  ·exact H.elim
theorem TU(hτ:OkS P τ){fn:Func}{aa:Value->ab->Prop}{tm:Array Value}{w:World}(H:akO τ fn.results.toList aa tm.toList w.heap):∃v,(results fn tm).run P w = .ok v w∧aa v w.heap:=by
 obtain⟨vs,h1,h2⟩:=Ly (P:=P) hτ tm _ _ _ H
 refine ⟨if h:vs.toArray.size=1 then vs.toArray[0] else .tuple vs.toArray,?_,?_⟩
 ·have e:results fn tm=(do let vs ← fn.results.mapM (afE tm);pure (if h:vs.size=1 then vs[0] else .tuple vs)):=rfl
  rw[e,Array.mapM_eq_mapM_toList,Sem.run_bind,Sem.run_map,h1]
  rfl
 ·rw[List.nil_append] at h2
  match vs,h2 with
  | [],h2=>exact h2
  | [v],h2=>exact h2
  | a :: b :: r,h2=>exact h2
theorem ahb (hτ : OkS P τ) (hm : P.follows .mixedOrders = true) {f : FuncId} {fn : Func} {c : Code} {args : Array Value} {Λ : qD} {aa : Value -> ab -> Prop} {h : ab}
    (hf : P.funcs[f]? = some fn) (hb : fn.body = some c) (hn : (fn.name == "runtime.NumGoroutine") = false) (hr : Rq P τ Λ c (K0 τ fn.results.toList aa))
    (H : wpI P τ Λ c (K0 τ fn.results.toList aa) (args.toList ++ List.replicate (fn.ntmps - args.size) undef) h) : ae P f args aa h := by
  intro w hw
  have Xd : (callFunc f args).run P w = .ok (.enter f args) w := by
    unfold callFunc
    simp only [Sem.run_bind, run_program, Result.andThen_ok, hf, hn, hb, Option.isNone_some, Bool.false_eq_true, if_false]
    rfl
  rw [Xd]
  refine calls_of_wp hf hb ?_
  refine wp_mono (Zx hτ hm hr _ _ H { tmps := args ++ Array.replicate (fn.ntmps - args.size) undef, defers := [] } w (by simp) hw) λe a' w' q => ?_
  obtain ⟨q1, q2, q3⟩ := q
  cases e with
  | normal =>
    obtain ⟨v, h1, h2⟩ := TU (P := P) hτ q3
    exact ⟨q1, v, h1, v, rfl, q2, h2⟩
  | ret =>
    obtain ⟨v, h1, h2⟩ := TU (P := P) hτ q3
    exact ⟨q1, v, h1, v, rfl, q2, h2⟩
  | _ => exact q3.elim
theorem qf {l : List (Nat × (Frame -> ab -> Prop))} {c : Code} {K : D4} (h : HL (l.map (·.1)) c = true := by kernel_rfl) : Rq P τ (an l) c K := Rq.free h
theorem qs {Λ : qD} {a b : Code} {K : D4} (ha : Rq P τ Λ a (KN (wpI P τ Λ b K) K)) (hb : Rq P τ Λ b K) (h : LI Λ b = none := by kernel_rfl) : Rq P τ Λ (.seq a b) K := Rq.seq h ha hb
theorem qj {Λ : qD} {a b : Code} {K : D4} (J : Frame -> ab -> Prop) (ha : Rq P τ Λ a (KN J K)) (hb : Rq P τ Λ b K) (h : LI Λ b = some J := by kernel_rfl) (hs : ∀ fr h, J fr h -> wpI P τ Λ b K fr h := by exact seg λ_ _ => by kernel_rfl) : Rq P τ Λ (.seq a b) K := Rq.asG J h hs ha hb
theorem ql {Λ : qD} {c : Code} {K : D4} (L : Frame -> ab -> Prop) (hl : Lb P L c K) (h : Wy Λ c = some L := by kernel_rfl) : Rq P τ Λ (.loop c) K := Rq.loop L h hl
theorem qc0 (hτ : OkS P τ) (hm : P.follows .mixedOrders = true) {f : FuncId} {fn : Func} {args : Array Value} {Λ : qD} {aa : Value -> ab -> Prop} {h : ab} (hf : P.funcs[f]? = some fn) (hr : Rq P τ Λ (fn.body.getD .skip) (K0 τ fn.results.toList aa))
    (H : wpI P τ Λ (fn.body.getD .skip) (K0 τ fn.results.toList aa) (args.toList ++ List.replicate (fn.ntmps - args.size) undef) h) (hb : fn.body = some (fn.body.getD .skip)) (hn : (fn.name == "runtime.NumGoroutine") = false) : ae P f args aa h := ahb hτ hm hf hb hn hr H
theorem qe {a b : Prop} (H : b) (h : b = a := by kernel_rfl) : a := Eq.mp h H
end Go.Sx
