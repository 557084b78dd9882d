/- Lemmas. -/
import Derived.Test.YthhepeklpgefkaaGreatDoorSx6
import Derived.Tactics
set_option linter.unusedVariables false
set_option linter.unusedSimpArgs false
namespace Go.Sx
variable {P:Program}{τ:Static}
theorem I4:∀(l:Frame) (n:Nat) (v:Value),Pz l n v=l.set n v
 | [],_,_=>rfl
 | _ :: _,0,_=>rfl
 | a :: l,n+1,v=>by simp[Pz,I4 l n v]
theorem wU:∀(l:Frame) (n:Nat),ah l n=l[n]?.getD undef
 | [],_=>rfl
 | _ :: _,0=>rfl
 | a :: l,n+1=>by simp[ah,wU l n]
theorem LW(a:Act):evL a.tmps.toList=a.eval:=by
 funext x
 cases x <;> simp[evL,Act.eval,wU,Array.getD_eq_getD_getElem?]
theorem Np(a:Act)(d:Option Tmp)(v:Value):(a.put d v).tmps.toList=pA a.tmps.toList d v:=by
 cases d <;> simp[Act.put,pA,I4]
theorem put_defers(a:Act)(d:Option Tmp)(v:Value):(a.put d v).defers=a.defers:=by cases d <;> rfl
theorem Qs{fr:Frame}{d:Nat}{b:Bool}(h:ah fr d = .bool b):Pz fr d (.bool b)=fr:=by
 rw[I4]
 rw[wU] at h
 cases hd:fr[d]? with
 | none=>rw[hd] at h;simp[undef] at h
 | some v=>
  rw[hd] at h
  simp at h
  subst h
  obtain⟨vR,he⟩:=List.getElem?_eq_some_iff.1 hd
  rw[← he,List.set_getElem_self]
def xZ(ops:Array Oper)(fr:Frame)(j:Nat):Value:=match (ops[j]?).bind (·.dst) with | some d=>ah fr d | none=>undef
def o8(ops:Array Oper)(fr:Frame)(o:Oper):Bool:=
 match o.guard with
 | none=>true
 | some (j,want)=>match xZ ops fr j with | .bool b=>b==want | _=>false
theorem ag8(ops:Array Oper)(a:Act)(o:Oper):Region.wanted o (yielded ops a.tmps)=o8 ops a.tmps.toList o:=by
 unfold Region.wanted o8
 cases o.guard with
 | none=>rfl
 | some g=>
  obtain⟨j,want⟩:=g
  simp only[yielded,xZ]
  cases (ops[j]?).bind (·.dst) with
  | none=>rfl
  | some d=>
   simp only[Option.bind_some,wU,Array.getElem?_toList]
   cases a.tmps[d]? with
   | none=>rfl
   | some v=>cases v <;> simp
def Ix(P:Program)(τ:Static)(ops:Array Oper)(o:Oper)(fr:Frame)(h:ab)(X:Frame->ab->Prop):Prop:=
 match o.guard with
 | none=>opI P τ o (evL fr) (λv h'=>X (pA fr o.dst v) h') h
 | some (j,want)=>match xZ ops fr j with
  | .bool true=>bif want then opI P τ o (evL fr) (λv h'=>X (pA fr o.dst v) h') h else X (pA fr o.dst undef) h
  | .bool false=>bif want then X (pA fr o.dst undef) h else opI P τ o (evL fr) (λv h'=>X (pA fr o.dst v) h') h
  | _=>X (pA fr o.dst undef) h
def mJ(P:Program)(ops:Array Oper)(o:Oper)(fr:Frame)(h:ab)(X:Frame->ab->Prop):Prop:=
 if o8 ops fr o=true then lK P (execOp (evL fr) o) (λv h'=>X (pA fr o.dst v) h') h else X (pA fr o.dst undef) h
theorem ZW(hτ:OkS P τ){ops:Array Oper}{o:Oper}{fr:Frame}{h:ab}{X:Frame->ab->Prop}(H:Ix P τ ops o fr h X):mJ P ops o fr h X:=by
 unfold Ix at H
 have yes:o8 ops fr o=true->opI P τ o (evL fr) (λv h'=>X (pA fr o.dst v) h') h->mJ P ops o fr h X:=λe H=>by
  unfold mJ;rw[if_pos e];exact QB hτ _ _ _ _ H
 have no:o8 ops fr o=false->X (pA fr o.dst undef) h->mJ P ops o fr h X:=λe H=>by
  unfold mJ;rw[if_neg (by rw[e];simp)];exact H
 cases hg:o.guard with
 | none=>rw[hg] at H;exact yes (by unfold o8;rw[hg]) H
 | some g=>
  obtain⟨j,want⟩:=g
  rw[hg] at H
  simp only[] at H
  have hw:∀v,xZ ops fr j=v->o8 ops fr o=(match v with | .bool b=>b==want | _=>false):=λv e=>by unfold o8;rw[hg];simp only[e]
  cases hv:xZ ops fr j <;> rw[hv] at H <;> first
   | exact no (hw _ hv) H
   | skip
  rename_i b
  cases b <;> cases want <;> first
   | exact no (hw _ hv) H
   | exact yes (hw _ hv) H
theorem mJ.mono{ops:Array Oper}{o:Oper}{fr:Frame}{h:ab}{X X':Frame->ab->Prop}(hx:∀fr h,X fr h->X' fr h)(H:mJ P ops o fr h X):mJ P ops o fr h X':=by
 unfold mJ at *
 split
 ·rename_i c;rw[if_pos c] at H;exact lK.mono (λ_ _ h=>hx _ _ h) H
 ·rename_i c;rw[if_neg c] at H;exact hx _ _ H
def Left(a:Act)(w:World)(X:Frame->ab->Prop)(a':Act)(w':World):Prop:=a'.defers=a.defers∧jH w w'∧X a'.tmps.toList w'.heap
theorem aj8 {o : Oper} {a : Act} {w : World} {X : Frame -> ab -> Prop} {next : Act -> World -> Prop} {Q : Exit -> Act -> World -> Prop}
    (H : lK P (execOp (evL a.tmps.toList) o) (λv h' => X (pA a.tmps.toList o.dst v) h') w.heap) (hn : ∀ a' w', Left a w X a' w' -> next a' w') : o.wp P a w next Q := by
  unfold Oper.wp
  rw [← LW]
  have h0 := H w rfl
  generalize (execOp (evL a.tmps.toList) o).run P w = r at *
  have fin : ∀ v w', jH w w' -> X (pA a.tmps.toList o.dst v) w'.heap -> next (a.put o.dst v) w' := λv w' hs hx =>
    hn _ _ ⟨put_defers a _ _, hs, by rw [Np]; exact hx⟩
  cases r with
  | ok n w' =>
    cases n <;> simp only [JS] at h0 <;> simp only [Oper.upon] <;> first
      | exact h0.elim
      | exact fin _ _ h0.1 h0.2
      | (refine Calls.mono h0 λe w'' ⟨v, he, h1, h2⟩ => ?_
         subst he
         exact fin v w'' h1 h2)
  | halt x w' => exact h0.elim
theorem VI{ops:Array Oper}{o:Oper}{a:Act}{w:World}{X:Frame->ab->Prop}{next:Act->World->Prop}{Q:Exit->Act->World->Prop}(H:mJ P ops o a.tmps.toList w.heap X)(hn:∀a' w',Left a w X a' w'->next a' w'):
  if Region.wanted o (yielded ops a.tmps) then o.wp P a w next Q∨(o.asks P a w∧LetsOut Q) else next (a.put o.dst undef) w:=by
 rw[ag8]
 unfold mJ at H
 split
 ·rename_i c;rw[if_pos c] at H;exact .inl (aj8 H hn)
 ·rename_i c;rw[if_neg c] at H;exact hn _ _ ⟨put_defers a _ _,jH.refl w,by rw[Np];exact H⟩
def Zl(ops:Array Oper)(i:Nat):Bool:=ops.toList.any λo=>match o.guard with | some (j,_)=>Nat.beq j i | none=>false
def NJ(ops:Array Oper)(i:Nat)(o:Oper)(fr:Frame)(h:ab)(X:Frame->ab->Prop):Prop:=
 bif Zl ops i then (match o.dst with
  | some d=>(match ah fr d with
   | .bool b=>BIF b (X (Pz fr d (.bool true)) h) (X (Pz fr d (.bool false)) h)
   | _=>X fr h)
  | none=>X fr h) else X fr h
theorem H6{ops:Array Oper}{i:Nat}{o:Oper}{fr:Frame}{h:ab}{X:Frame->ab->Prop}(H:NJ ops i o fr h X):X fr h:=by
 unfold NJ at H
 cases hg:Zl ops i with
 | false=>rw[hg] at H;exact H
 | true=>
  rw[hg] at H
  simp only[cond_true] at H
  split at H
  ·split at H
   ·rename_i b hb
    cases b
    ·have H':X (Pz fr _ (.bool false)) h:=H
     rw[Qs hb] at H';exact H'
    ·have H':X (Pz fr _ (.bool true)) h:=H
     rw[Qs hb] at H';exact H'
   ·exact H
  ·exact H
def aj9(P:Program)(τ:Static)(ops:Array Oper)(K:Frame->ab->Prop):Nat->List Oper->Frame->ab->Prop
 | _,[],fr,h=>K fr h
 | i,o :: rest,fr,h=>Ix P τ ops o fr h λfr h=>NJ ops i o fr h λfr h=>aj9 P τ ops K (i+1) rest fr h
theorem ZQ(hτ:OkS P τ){ops:Array Oper}{K:Frame->ab->Prop}{Q:Exit->Act->World->Prop}{a0:Act}{w0:World}(hQ:∀a w,Left a0 w0 K a w->Q .normal a w):
  ∀(l:List Oper) (i:Nat) (a:Act) (w:World),a.defers=a0.defers->jH w0 w->aj9 P τ ops K i l a.tmps.toList w.heap->wpList P ops Q l a w
 | [],_,a,w,hd,hs,H=>hQ a w ⟨hd,hs,H⟩
 | o :: rest,i,a,w,hd,hs,H=>by
  unfold wpList
  refine VI (X:=λfr h=>aj9 P τ ops K (i+1) rest fr h) ?_ λa' w' ⟨h1,h2,h3⟩=>ZQ hτ hQ rest (i+1) a' w' (h1.trans hd) (hs.trans h2) h3
  exact mJ.mono (λ_ _ h=>H6 h) (ZW hτ H)
def Lin{α:Type}(F:(α->Prop)->Prop):Prop:=∀K,F K->∃v,K v∧∀K':α->Prop,K' v->F K'
theorem Lin.of{α:Type}(v:α):Lin λK:α->Prop=>K v:=λ_ h=>⟨v,h,λ_ h=>h⟩
theorem Lin.mY{α:Type}:Lin λ_:α->Prop=>False:=λ_ h=>h.elim
theorem Lin.and{α:Type}{p:Prop}{F:(α->Prop)->Prop}(h:Lin F):Lin λK=>p∧F K:=λK ⟨hp,hk⟩=>by
 obtain⟨v,h1,h2⟩:=h K hk
 exact ⟨v,h1,λK' hk=>⟨hp,h2 K' hk⟩⟩
theorem aeO{α:Type}(k:IntKind)(o:Option Value)(f:Int->α):Lin λK:α->Prop=>oI k o λn=>K (f n):=λK h=>by
 obtain⟨n,rfl,h'⟩:=XZ h
 exact ⟨f n,h',λK' hk=>by simpa [oI,asI] using hk⟩
theorem aeM{α:Type}(o:Option Value)(f:Bool->α):Lin λK:α->Prop=>oB o λn=>K (f n):=λK h=>by
 obtain⟨n,rfl,h'⟩:=XX h
 exact ⟨f n,h',λK' hk=>hk⟩
theorem aeN{α:Type}(k:FloatKind)(o:Option Value)(f:Nat->α):Lin λK:α->Prop=>oF k o λn=>K (f n):=λK h=>by
 obtain⟨n,rfl,h'⟩:=XY h
 exact ⟨f n,h',λK' hk=>by simpa [oF,asF] using hk⟩
theorem aeR{α:Type}(o:Option Value)(f:ByteArray->α):Lin λK:α->Prop=>oS o λn=>K (f n):=λK h=>by
 obtain⟨n,rfl,h'⟩:=Y2 h
 exact ⟨f n,h',λK' hk=>hk⟩
theorem aeQ{α:Type}(o:Option Value)(f:Addr->α):Lin λK:α->Prop=>oP o λn=>K (f n):=λK h=>by
 obtain⟨n,rfl,h'⟩:=Y1 h
 exact ⟨f n,h',λK' hk=>hk⟩
theorem aeP{α:Type}(o:Option Value)(f:Option Addr->Nat->Nat->α):Lin λK:α->Prop=>oL o λb l c=>K (f b l c):=λK h=>by
 obtain⟨b,l,c,rfl,h'⟩:=MW h
 exact ⟨f b l c,h',λK' hk=>hk⟩
theorem aeS{α:Type}(o:Option Value)(f:Value->α):Lin λK:α->Prop=>oV o λn=>K (f n):=λK h=>by
 obtain⟨n,rfl,h'⟩:=Y3 h
 exact ⟨f n,h',λK' hk=>hk⟩
theorem aeL(t:Nat)(cs:Array Value)(off:Nat):Lin λK=>GT τ t cs off K:=by
 unfold GT
 split
 ·exact Lin.mY
 ·split <;> first
   | exact aeO _ _ _
   | exact aeM _ _
   | exact aeN _ _ _
   | exact aeR _ _
   | exact aeQ _ _
   | exact aeP _ _
   | exact aeS _ _
   | exact Lin.of _
   | exact Lin.mY
theorem air{α:Type}(n:Nat)(h:ab)(a:Addr)(f:Array Value->α):Lin λK:α->Prop=>LDA n h a λcs=>K (f cs):=λK H=>by
 obtain⟨cs,h1,h2,h3⟩:=H
 exact ⟨f cs,h3,λK' hk=>⟨cs,h1,h2,hk⟩⟩
theorem amo(t:Nat)(h:ab)(a:Addr):Lin λK=>LD τ t h a K:=by
 unfold LD
 split
 ·exact Lin.mY
 ·split <;> first
   | exact aeO _ _ _
   | exact aeM _ _
   | exact aeN _ _ _
   | exact aeR _ _
   | exact aeQ _ _
   | exact aeP _ _
   | exact aeS _ _
   | exact air _ _ _ _
   | exact Lin.mY
theorem I0{α:Type}(pl:Nat->Option (Nat×Nat))(n0:Nat)(f:List Value->α):∀(parts:List (Nat×Value)) (cells:List Value),Lin λK:α->Prop=>DC pl n0 parts cells λc=>K (f c)
 | [],cells=>Lin.of _
 | (i,v) :: rest,cells=>by
  unfold DC
  split
  ·exact Lin.mY
  ·rename_i off size _
   cases Nat.ble (off+size) n0 with
   | false=>exact Lin.mY
   | true=>
    simp only[cond_true]
    split
    ·exact Lin.and (I0 pl n0 f rest _)
    ·cases Nat.beq size 1 with
     | false=>exact Lin.mY
     | true=>exact I0 pl n0 f rest _
def AW(op:BinOp)(x y:Value):Bool:=
 match x,y with
 | .int _ _,.int _ _=>true
 | .float _ _,.float _ _=>(match op with | .add | .sub | .mul | .quo=>false | _=>true)
 | .string _,.string _=>true
 | .bool _,.bool _=>true
 | _,_=>false
theorem ais{op:BinOp}{t:Nat}{x y:Value}(r:Prop)(hp:AW op x y=true):Lin λK=>RZ τ op t x y r K:=by
 unfold RZ
 split
 ·split
  ·exact Lin.and (Lin.of _)
  ·exact Lin.and (Lin.of _)
  ·split
   ·split <;> first
     | exact Lin.of _
     | exact Lin.and (Lin.of _)
     | exact Lin.mY
   ·exact Lin.mY
 ·split
  ·cases op <;> first
    | (simp[AW] at hp;done)
    | exact Lin.of _
    | exact Lin.mY
  ·exact Lin.mY
 ·split <;> first
   | exact Lin.of _
   | exact Lin.and (Lin.of _)
   | exact Lin.mY
 ·split
  ·split <;> first
    | exact Lin.of _
    | exact Lin.mY
  ·exact Lin.mY
 ·rename_i h1 h2 h3 h4
  exfalso
  cases x <;> cases y <;> simp only[AW,Bool.false_eq_true] at hp <;> first
   | exact h1 _ _ _ _ rfl rfl
   | exact h2 _ _ _ _ rfl rfl
   | exact h3 _ _ rfl rfl
   | exact h4 _ _ rfl rfl
theorem amp{op:UnOp}{x:Value}:Lin λK=>unI op x K:=by
 unfold unI
 split <;> first
  | exact Lin.of _
  | exact Lin.mY
def QG(τ:Static)(d:Nat)(x:Value):Bool:=
 match ti τ d with
 | some i=>(match i.ty,x with
  | .int _,.int _ _=>true
  | .float _,.int _ _=>true
  | .str,.string _=>true
  | _,_=>false)
 | none=>false
theorem uj{α:Type}{v:Option Value}{d:Int}{G:Int->(α->Prop)->Prop}(hg:∀n,Lin (G n)):Lin λK=>xu v d λn=>G n K:=by
 unfold xu
 split
 ·exact hg _
 ·exact hg _
 ·exact Lin.mY
end Go.Sx
