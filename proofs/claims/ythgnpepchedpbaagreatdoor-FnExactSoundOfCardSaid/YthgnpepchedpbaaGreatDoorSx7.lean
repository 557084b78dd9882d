/- Lemmas. -/
import Derived.Test.YthgnpepchedpbaaGreatDoorSx6
import Derived.Tactics
set_option linter.unusedVariables false
set_option linter.unusedSimpArgs false
namespace Go.Sx
variable {P:Program}{τ:Static}
theorem Ch:∀(l:Frame) (n:Nat) (v:Value),IK l n v=l.set n v
 | [],_,_=>rfl
 | _ :: _,0,_=>rfl
 | a :: l,n+1,v=>by simp[IK,Ch l n v]
theorem rj:∀(l:Frame) (n:Nat),ah l n=l[n]?.getD undef
 | [],_=>rfl
 | _ :: _,0=>rfl
 | a :: l,n+1=>by simp[ah,rj l n]
theorem FY(a:Act):evL a.tmps.toList=a.eval:=by
 funext x
 cases x <;> simp[evL,Act.eval,rj,Array.getD_eq_getD_getElem?]
theorem GX(a:Act)(d:Option Tmp)(v:Value):(a.put d v).tmps.toList=lO a.tmps.toList d v:=by
 cases d <;> simp[Act.put,lO,Ch]
theorem put_defers(a:Act)(d:Option Tmp)(v:Value):(a.put d v).defers=a.defers:=by cases d <;> rfl
theorem JR{fr:Frame}{d:Nat}{b:Bool}(h:ah fr d = .bool b):IK fr d (.bool b)=fr:=by
 rw[Ch]
 rw[rj] at h
 cases hd:fr[d]? with
 | none=>rw[hd] at h;simp[undef] at h
 | some v=>
  rw[hd] at h
  simp at h
  subst h
  obtain⟨qR,he⟩:=List.getElem?_eq_some_iff.1 hd
  rw[← he,List.set_getElem_self]
def sB(ops:Array Oper)(fr:Frame)(j:Nat):Value:=match (ops[j]?).bind (·.dst) with | some d=>ah fr d | none=>undef
def kR(ops:Array Oper)(fr:Frame)(o:Oper):Bool:=
 match o.guard with
 | none=>true
 | some (j,want)=>match sB ops fr j with | .bool b=>b==want | _=>false
theorem Zy(ops:Array Oper)(a:Act)(o:Oper):Region.wanted o (yielded ops a.tmps)=kR ops a.tmps.toList o:=by
 unfold Region.wanted kR
 cases o.guard with
 | none=>rfl
 | some g=>
  obtain⟨j,want⟩:=g
  simp only[yielded,sB]
  cases (ops[j]?).bind (·.dst) with
  | none=>rfl
  | some d=>
   simp only[Option.bind_some,rj,Array.getElem?_toList]
   cases a.tmps[d]? with
   | none=>rfl
   | some v=>cases v <;> simp
def CK(P:Program)(τ:Static)(ops:Array Oper)(o:Oper)(fr:Frame)(h:ab)(X:Frame->ab->Prop):Prop:=
 match o.guard with
 | none=>opI P τ o (evL fr) (λv h'=>X (lO fr o.dst v) h') h
 | some (j,want)=>match sB ops fr j with
  | .bool true=>bif want then opI P τ o (evL fr) (λv h'=>X (lO fr o.dst v) h') h else X (lO fr o.dst undef) h
  | .bool false=>bif want then X (lO fr o.dst undef) h else opI P τ o (evL fr) (λv h'=>X (lO fr o.dst v) h') h
  | _=>X (lO fr o.dst undef) h
def ka(P:Program)(ops:Array Oper)(o:Oper)(fr:Frame)(h:ab)(X:Frame->ab->Prop):Prop:=
 if kR ops fr o=true then jt P (execOp (evL fr) o) (λv h'=>X (lO fr o.dst v) h') h else X (lO fr o.dst undef) h
theorem Tp(hτ:OkS P τ){ops:Array Oper}{o:Oper}{fr:Frame}{h:ab}{X:Frame->ab->Prop}(H:CK P τ ops o fr h X):ka P ops o fr h X:=by
 unfold CK at H
 have yes:kR ops fr o=true->opI P τ o (evL fr) (λv h'=>X (lO fr o.dst v) h') h->ka P ops o fr h X:=λe H=>by
  unfold ka;rw[if_pos e];exact JY hτ _ _ _ _ H
 have no:kR ops fr o=false->X (lO fr o.dst undef) h->ka P ops o fr h X:=λe H=>by
  unfold ka;rw[if_neg (by rw[e];simp)];exact H
 cases hg:o.guard with
 | none=>rw[hg] at H;exact yes (by unfold kR;rw[hg]) H
 | some g=>
  obtain⟨j,want⟩:=g
  rw[hg] at H
  simp only[] at H
  have hw:∀v,sB ops fr j=v->kR ops fr o=(match v with | .bool b=>b==want | _=>false):=λv e=>by unfold kR;rw[hg];simp only[e]
  cases hv:sB ops fr j <;> rw[hv] at H <;> first
   | exact no (hw _ hv) H
   | skip
  rename_i b
  cases b <;> cases want <;> first
   | exact no (hw _ hv) H
   | exact yes (hw _ hv) H
theorem ka.mono{ops:Array Oper}{o:Oper}{fr:Frame}{h:ab}{X X':Frame->ab->Prop}(hx:∀fr h,X fr h->X' fr h)(H:ka P ops o fr h X):ka P ops o fr h X':=by
 unfold ka at *
 split
 ·rename_i c;rw[if_pos c] at H;exact jt.mono (λ_ _ h=>hx _ _ h) H
 ·rename_i c;rw[if_neg c] at H;exact hx _ _ H
def Left(a:Act)(w:World)(X:Frame->ab->Prop)(a':Act)(w':World):Prop:=a'.defers=a.defers∧hZ w w'∧X a'.tmps.toList w'.heap
theorem acq {o : Oper} {a : Act} {w : World} {X : Frame -> ab -> Prop} {next : Act -> World -> Prop} {Q : Exit -> Act -> World -> Prop}
    (H : jt P (execOp (evL a.tmps.toList) o) (λv h' => X (lO a.tmps.toList o.dst v) h') w.heap) (hn : ∀ a' w', Left a w X a' w' -> next a' w') : o.wp P a w next Q := by
  unfold Oper.wp
  rw [← FY]
  have h0 := H w rfl
  generalize (execOp (evL a.tmps.toList) o).run P w = r at *
  have fin : ∀ v w', hZ w w' -> X (lO a.tmps.toList o.dst v) w'.heap -> next (a.put o.dst v) w' := λv w' hs hx =>
    hn _ _ ⟨put_defers a _ _, hs, by rw [GX]; exact hx⟩
  cases r with
  | ok n w' =>
    cases n <;> simp only [E2] at h0 <;> simp only [Oper.upon] <;> first
      | exact h0.elim
      | exact fin _ _ h0.1 h0.2
      | (refine Calls.mono h0 λe w'' ⟨v, he, h1, h2⟩ => ?_
         subst he
         exact fin v w'' h1 h2)
  | halt x w' => exact h0.elim
theorem OT{ops:Array Oper}{o:Oper}{a:Act}{w:World}{X:Frame->ab->Prop}{next:Act->World->Prop}{Q:Exit->Act->World->Prop}(H:ka P ops o a.tmps.toList w.heap X)(hn:∀a' w',Left a w X a' w'->next a' w'):
  if Region.wanted o (yielded ops a.tmps) then o.wp P a w next Q∨(o.asks P a w∧LetsOut Q) else next (a.put o.dst undef) w:=by
 rw[Zy]
 unfold ka at H
 split
 ·rename_i c;rw[if_pos c] at H;exact .inl (acq H hn)
 ·rename_i c;rw[if_neg c] at H;exact hn _ _ ⟨put_defers a _ _,hZ.refl w,by rw[GX];exact H⟩
def SP(ops:Array Oper)(i:Nat):Bool:=ops.toList.any λo=>match o.guard with | some (j,_)=>Nat.beq j i | none=>false
def Hk(ops:Array Oper)(i:Nat)(o:Oper)(fr:Frame)(h:ab)(X:Frame->ab->Prop):Prop:=
 bif SP ops i then(match o.dst with
  | some d=>(match ah fr d with
   | .bool b=>BIF b (X (IK fr d (.bool true)) h) (X (IK fr d (.bool false)) h)
   | _=>X fr h)
  | none=>X fr h) else X fr h
theorem Bh{ops:Array Oper}{i:Nat}{o:Oper}{fr:Frame}{h:ab}{X:Frame->ab->Prop}(H:Hk ops i o fr h X):X fr h:=by
 unfold Hk at H
 cases hg:SP ops i with
 | false=>rw[hg] at H;exact H
 | true=>
  rw[hg] at H
  simp only[cond_true] at H
  split at H
  ·split at H
   ·rename_i b hb
    cases b
    ·have H':X (IK fr _ (.bool false)) h:=H
     rw[JR hb] at H';exact H'
    ·have H':X (IK fr _ (.bool true)) h:=H
     rw[JR hb] at H';exact H'
   ·exact H
  ·exact H
def acr(P:Program)(τ:Static)(ops:Array Oper)(K:Frame->ab->Prop):Nat->List Oper->Frame->ab->Prop
 | _,[],fr,h=>K fr h
 | i,o :: rest,fr,h=>CK P τ ops o fr h λfr h=>Hk ops i o fr h λfr h=>acr P τ ops K (i+1) rest fr h
theorem Tj(hτ:OkS P τ){ops:Array Oper}{K:Frame->ab->Prop}{Q:Exit->Act->World->Prop}{a0:Act}{w0:World}(hQ:∀a w,Left a0 w0 K a w->Q .normal a w):
  ∀(l:List Oper) (i:Nat) (a:Act) (w:World),a.defers=a0.defers->hZ w0 w->acr P τ ops K i l a.tmps.toList w.heap->wpList P ops Q l a w
 | [],_,a,w,hd,hs,H=>hQ a w ⟨hd,hs,H⟩
 | o :: rest,i,a,w,hd,hs,H=>by
  unfold wpList
  refine OT (X:=λfr h=>acr P τ ops K (i+1) rest fr h) ?_ λa' w' ⟨h1,h2,h3⟩=>Tj hτ hQ rest (i+1) a' w' (h1.trans hd) (hs.trans h2) h3
  exact ka.mono (λ_ _ h=>Bh h) (Tp hτ H)
def Lin{α:Type}(F:(α->Prop)->Prop):Prop:=∀K,F K->∃v,K v∧∀K':α->Prop,K' v->F K'
theorem Lin.of{α:Type}(v:α):Lin λK:α->Prop=>K v:=λ_ h=>⟨v,h,λ_ h=>h⟩
theorem Lin.km{α:Type}:Lin λ_:α->Prop=>False:=λ_ h=>h.elim
theorem Lin.and{α:Type}{p:Prop}{F:(α->Prop)->Prop}(h:Lin F):Lin λK=>p∧F K:=λK ⟨hp,hk⟩=>by
 obtain⟨v,h1,h2⟩:=h K hk
 exact⟨v,h1,λK' hk=>⟨hp,h2 K' hk⟩⟩
theorem Yf{α:Type}(k:IntKind)(o:Option Value)(f:Int->α):Lin λK:α->Prop=>oI k o λn=>K (f n):=λK h=>by
 obtain⟨n,rfl,h'⟩:=Rg h
 exact⟨f n,h',λK' hk=>by simpa [oI,asI] using hk⟩
theorem Yd{α:Type}(o:Option Value)(f:Bool->α):Lin λK:α->Prop=>oB o λn=>K (f n):=λK h=>by
 obtain⟨n,rfl,h'⟩:=Rd h
 exact⟨f n,h',λK' hk=>hk⟩
theorem Ye{α:Type}(k:FloatKind)(o:Option Value)(f:Nat->α):Lin λK:α->Prop=>oF k o λn=>K (f n):=λK h=>by
 obtain⟨n,rfl,h'⟩:=Rf h
 exact⟨f n,h',λK' hk=>by simpa [oF,asF] using hk⟩
theorem Yi{α:Type}(o:Option Value)(f:ByteArray->α):Lin λK:α->Prop=>oS o λn=>K (f n):=λK h=>by
 obtain⟨n,rfl,h'⟩:=Rj h
 exact⟨f n,h',λK' hk=>hk⟩
theorem Yh{α:Type}(o:Option Value)(f:Addr->α):Lin λK:α->Prop=>oP o λn=>K (f n):=λK h=>by
 obtain⟨n,rfl,h'⟩:=Ri h
 exact⟨f n,h',λK' hk=>hk⟩
theorem Yg{α:Type}(o:Option Value)(f:Option Addr->Nat->Nat->α):Lin λK:α->Prop=>oL o λb l c=>K (f b l c):=λK h=>by
 obtain⟨b,l,c,rfl,h'⟩:=LL h
 exact⟨f b l c,h',λK' hk=>hk⟩
theorem Yj{α:Type}(o:Option Value)(f:Value->α):Lin λK:α->Prop=>oV o λn=>K (f n):=λK h=>by
 obtain⟨n,rfl,h'⟩:=Rk h
 exact⟨f n,h',λK' hk=>hk⟩
theorem Yc(t:Nat)(cs:Array Value)(off:Nat):Lin λK=>GT τ t cs off K:=by
 unfold GT
 split
 ·exact Lin.km
 ·split <;> first
   | exact Yf _ _ _
   | exact Yd _ _
   | exact Ye _ _ _
   | exact Yi _ _
   | exact Yh _ _
   | exact Yg _ _
   | exact Yj _ _
   | exact Lin.of _
   | exact Lin.km
theorem abL{α:Type}(n:Nat)(h:ab)(a:Addr)(f:Array Value->α):Lin λK:α->Prop=>LDA n h a λcs=>K (f cs):=λK H=>by
 obtain⟨cs,h1,h2,h3⟩:=H
 exact⟨f cs,h3,λK' hk=>⟨cs,h1,h2,hk⟩⟩
theorem ag5(t:Nat)(h:ab)(a:Addr):Lin λK=>LD τ t h a K:=by
 unfold LD
 split
 ·exact Lin.km
 ·split <;> first
   | exact Yf _ _ _
   | exact Yd _ _
   | exact Ye _ _ _
   | exact Yi _ _
   | exact Yh _ _
   | exact Yg _ _
   | exact Yj _ _
   | exact abL _ _ _ _
   | exact Lin.km
theorem Cf{α:Type}(pl:Nat->Option (Nat×Nat))(n0:Nat)(f:List Value->α):∀(parts:List (Nat×Value)) (cells:List Value),Lin λK:α->Prop=>yp pl n0 parts cells λc=>K (f c)
 | [],cells=>Lin.of _
 | (i,v) :: rest,cells=>by
  unfold yp
  split
  ·exact Lin.km
  ·rename_i off size _
   cases Nat.ble (off+size) n0 with
   | false=>exact Lin.km
   | true=>
    simp only[cond_true]
    split
    ·exact Lin.and (Cf pl n0 f rest _)
    ·cases Nat.beq size 1 with
     | false=>exact Lin.km
     | true=>exact Cf pl n0 f rest _
def vc(op:BinOp)(x y:Value):Bool:=
 match x,y with
 | .int _ _,.int _ _=>true
 | .float _ _,.float _ _=>(match op with | .add | .sub | .mul | .quo=>false | _=>true)
 | .string _,.string _=>true
 | .bool _,.bool _=>true
 | _,_=>false
theorem abM{op:BinOp}{t:Nat}{x y:Value}(r:Prop)(hp:vc op x y=true):Lin λK=>KO τ op t x y r K:=by
 unfold KO
 split
 ·split
  ·exact Lin.and (Lin.of _)
  ·exact Lin.and (Lin.of _)
  ·split
   ·split <;> first
     | exact Lin.of _
     | exact Lin.and (Lin.of _)
     | exact Lin.km
   ·exact Lin.km
 ·split
  ·cases op <;> first
    | (simp[vc] at hp;done)
    | exact Lin.of _
    | exact Lin.km
  ·exact Lin.km
 ·split <;> first
   | exact Lin.of _
   | exact Lin.and (Lin.of _)
   | exact Lin.km
 ·split
  ·split <;> first
    | exact Lin.of _
    | exact Lin.km
  ·exact Lin.km
 ·rename_i h1 h2 h3 h4
  exfalso
  cases x <;> cases y <;> simp only[vc,Bool.false_eq_true] at hp <;> first
   | exact h1 _ _ _ _ rfl rfl
   | exact h2 _ _ _ _ rfl rfl
   | exact h3 _ _ rfl rfl
   | exact h4 _ _ rfl rfl
theorem ag6{op:UnOp}{x:Value}:Lin λK=>unI op x K:=by
 unfold unI
 split <;> first
  | exact Lin.of _
  | exact Lin.km
def K4(τ:Static)(d:Nat)(x:Value):Bool:=
 match ti τ d with
 | some i=>(match i.ty,x with
  | .int _,.int _ _=>true
  | .float _,.int _ _=>true
  | .str,.string _=>true
  | _,_=>false)
 | none=>false
theorem oM{α:Type}{v:Option Value}{d:Int}{G:Int->(α->Prop)->Prop}(hg:∀n,Lin (G n)):Lin λK=>rR v d λn=>G n K:=by
 unfold rR
 split
 ·exact hg _
 ·exact hg _
 ·exact Lin.km
end Go.Sx
