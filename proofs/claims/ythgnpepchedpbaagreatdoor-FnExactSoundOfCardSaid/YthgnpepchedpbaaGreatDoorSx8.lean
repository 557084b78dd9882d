/- Lemmas. -/
import Derived.Test.YthgnpepchedpbaaGreatDoorSx7
set_option linter.unusedVariables false
set_option linter.unusedSimpArgs false
namespace Go.Sx
variable {P:Program}{τ:Static}
def zI(τ:Static)(o:Oper)(ev:Operand->Value):Bool:=
 match o.op with
 | .move _ | .assign _ | .pick .. | .build .. | .load .. | .nilCheck _ | .unOp .. | .makeFunc .. | .fieldAddr .. | .field .. | .indexAddr .. | .index .. | .extract ..=>true
 | .slice .. | .sliceToArrayPointer ..=>true
 | .binOp op _ x y _=>vc op (ev x) (ev y)
 | .convert s d x=>(ti τ s).isSome&&K4 τ d (ev x)
 | .call c=>(match c.callee with
  | .builtin .len=>(match c.args.toList,c.argTypes.toList with
   | [x],[t]=>(match ti τ t,ev x with
    | some ⟨.str,_,_,_⟩,.string _=>true
    | some ⟨.sl _,_,_,_⟩,.slice _ _ _=>true
    | some ⟨.arr _ _,_,_,_⟩,_=>true
    | _,_=>false)
   | _,_=>false)
  | _=>false)
 | _=>false
def OO(h:ab)(a:Addr)(n:Nat)(h':ab):Prop:=∀j,j<n->cell h' (a.add j)=cell h (a.add j)
def LG(τ:Static)(o:Oper)(ev:Operand->Value):Option (Addr×Nat):=
 match o.op with
 | .load t x=>(match ev x,ti τ t with | .pointer (some a),some i=>some (a,Nat.max 1 i.size) | _,_=>none)
 | _=>none
def Es(τ:Static)(o:Oper)(ev:Operand->Value)(h h':ab):Prop:=
 match LG τ o ev with | some (a,n)=>OO h a n h' | none=>True
theorem TD {t : Nat} {i : TI} (hi : ti τ t = some i) {h h' : ab} {a : Addr} (hs : OO h a (Nat.max 1 i.size) h') {K : Value -> Prop} (H : LD τ t h a K) : LD τ t h' a K := by
  have h0 : cell h' a = cell h a := by
    have := hs 0 (by have := Nat.le_max_left 1 i.size; exact this)
    simpa [Addr.add] using this
  unfold LD at *
  rw [hi] at H ⊢
  simp only [] at H ⊢
  split <;> rename_i e <;> simp only [e] at H <;> first
    | (rw [h0]; exact H)
    | exact H
    | (obtain ⟨cs, h1, h2, h3⟩ := H
       exact ⟨cs, h1, λj hj => by rw [hs j (Nat.lt_of_lt_of_le hj (Nat.le_max_right 1 i.size))]; exact h2 j hj, h3⟩)
theorem RT{o:Oper}{ev:Operand->Value}(hs:zI τ o ev=true){K:Value->ab->Prop}{h:ab}(H:opI P τ o ev K h):
  ∃v,K v h∧∀(K':Value->ab->Prop) (h':ab),Es τ o ev h h'->K' v h'->opI P τ o ev K' h':=by
 have HT:∀(F:(Value->Prop)->Prop),Lin F->(∀(K':Value->ab->Prop) (h':ab),opI P τ o ev K' h'=F λv=>K' v h') ->
   ∃v,K v h∧∀(K':Value->ab->Prop) (h':ab),Es τ o ev h h'->K' v h'->opI P τ o ev K' h':=by
  intro F hl hF
  rw[hF] at H
  obtain⟨v,h1,h2⟩:=hl _ H
  exact⟨v,h1,λK' h' _ hk=>by rw[hF];exact h2 _ hk⟩
 unfold zI at hs
 split at hs <;> rename_i e
 ·exact HT (λK=>K _) (Lin.of _) λK' h'=>by unfold opI;rw[e]
 ·exact HT (λK=>K _) (Lin.of _) λK' h'=>by unfold opI;rw[e]
 ·rename_i c a b
  cases hc:ev c with
  | bool t=>
   refine HT (λK=>BIF t (K (ev a)) (K (ev b))) ?_ λK' h'=>by unfold opI;rw[e];simp only[hc]
   cases t <;> exact Lin.of _
  | _=>unfold opI at H;rw[e] at H;simp only[hc] at H
 ·rename_i t parts
  cases hi:ti τ t with
  | none=>unfold opI at H;rw[e] at H;simp only[hi] at H
  | some i=>
   obtain⟨ty,n,b,z⟩:=i
   cases ty with
   | st fs=>
    cases hz:z.isEmpty || !(fs.all λf=>(ti τ f.1).isSome) with
    | true=>unfold opI at H;rw[e] at H;simp only[hi,hz,cond_true] at H
    | false=>
     exact HT (λK=>yp (SC τ fs) z.length (parts.toList.map λp=>(p.1,ev p.2)) z λcells=>K (.agg ⟨cells⟩)) (Cf _ _ (λc=>Value.agg ⟨c⟩) _ _) λK' h'=>by unfold opI;rw[e];simp only[hi,hz,cond_false]
   | arr m e'=>
    cases hj:ti τ e' with
    | none=>unfold opI at H;rw[e] at H;simp only[hi,hj] at H
    | some j=>
     cases hz:z.isEmpty with
     | true=>unfold opI at H;rw[e] at H;simp only[hi,hj,hz,cond_true] at H
     | false=>
      exact HT (λK=>yp (λi=>some (i*j.size,j.size)) z.length (parts.toList.map λp=>(p.1,ev p.2)) z λcells=>K (.agg ⟨cells⟩)) (Cf _ _ (λc=>Value.agg ⟨c⟩) _ _) λK' h'=>by unfold opI;rw[e];simp only[hi,hj,hz,cond_false]
   | _=>unfold opI at H;rw[e] at H;simp only[hi] at H
 ·rename_i t x
  cases hx:ev x with
  | pointer a=>
   cases a with
   | none=>unfold opI at H;rw[e] at H;simp only[hx] at H
   | some a=>
    have hF:∀(K':Value->ab->Prop) (h':ab),opI P τ o ev K' h'=LD τ t h' a (λv=>K' v h'):=λK' h'=>by unfold opI;rw[e];simp only[hx]
    rw[hF] at H
    obtain⟨v,h1,h2⟩:=ag5 t h a _ H
    refine⟨v,h1,λK' h' hst hk=>?_⟩
    rw[hF]
    cases hi:ti τ t with
    | none=>unfold LD at H;rw[hi] at H;exact H.elim
    | some i=>
     have apb:OO h a (Nat.max 1 i.size) h':=by
      unfold Es LG at hst
      simp only[e,hx,hi] at hst
      exact hst
     exact TD hi apb (h2 (λv=>K' v h') hk)
  | _=>unfold opI at H;rw[e] at H;simp only[hx] at H
 ·rename_i x
  refine HT (λK=>match ev x with | .pointer (some a)=>K (.pointer (some a)) | .func (.func f) a c=>K (.func (.func f) a c) | _=>False) ?_ λK' h'=>by
   unfold opI;rw[e];rfl
  split <;> first | exact Lin.of _ | exact Lin.km
 ·exact HT (λK=>unI _ _ K) ag6 λK' h'=>by unfold opI;rw[e]
 ·exact HT (λK=>K _) (Lin.of _) λK' h'=>by unfold opI;rw[e]
 ·rename_i t x i
  refine HT (λK=>match ev x,ti τ t with
   | .pointer (some a),some ⟨.st fs,_,_,_⟩=>(match fs[i]? with
    | some (u,off)=>(match ti τ u with
     | some j=>bif Nat.beq j.size 0 then False else K (.pointer (some (a.add off)))
     | none=>False)
    | none=>False)
   | _,_=>False) ?_ λK' h'=>by unfold opI;rw[e];rfl
  split
  ·split
   ·split
    ·rename_i j _
     cases Nat.beq j.size 0 with
     | true=>exact Lin.km
     | false=>exact Lin.of _
    ·exact Lin.km
   ·exact Lin.km
  ·exact Lin.km
 ·rename_i t x i
  refine HT (λK=>match ev x,ti τ t with
   | .agg cs,some ⟨.st fs,_,_,_⟩=>(match fs[i]? with
    | some (u,off)=>GT τ u cs off K
    | none=>False)
   | _,_=>False) ?_ λK' h'=>by unfold opI;rw[e];rfl
  split
  ·split
   ·exact Yc _ _ _
   ·exact Lin.km
  ·exact Lin.km
 ·rename_i t x i
  refine HT (λK=>match ti τ t,ev x,ev i with
   | some ⟨.arr n e,_,_,_⟩,.pointer (some a),.int _ i=>(match ti τ e with
    | some j=>IDX i n (K (.pointer (some (a.add (i.toNat*j.size)))))
    | none=>False)
   | some ⟨.sl e,_,_,_⟩,.slice b len _,.int _ i=>(match ti τ e with
    | some j=>bd b i len λa=>K (.pointer (some (a.add (i.toNat*j.size))))
    | none=>False)
   | _,_,_=>False) ?_ λK' h'=>by unfold opI;rw[e];rfl
  split
  ·split
   ·exact Lin.and (Lin.of _)
   ·exact Lin.km
  ·split
   ·unfold bd
    split
    ·exact Lin.and (Lin.of _)
    ·exact Lin.km
   ·exact Lin.km
  ·exact Lin.km
 ·rename_i t x i
  refine HT (λK=>match ti τ t,ev x,ev i with
   | some ⟨.arr n e,_,_,_⟩,.agg cs,.int _ i=>(match ti τ e with
    | some j=>IDX i n (GT τ e cs (i.toNat*j.size) K)
    | none=>False)
   | some ⟨.str,_,_,_⟩,.string s,.int _ i=>IDX i s.size (K (.int .u8 (hD s i)))
   | _,_,_=>False) ?_ λK' h'=>by unfold opI;rw[e];rfl
  split
  ·split
   ·exact Lin.and (Yc _ _ _)
   ·exact Lin.km
  ·exact Lin.and (Lin.of _)
  ·exact Lin.km
 ·rename_i x i
  refine HT (λK=>match ev x with
   | .tuple vs=>(match vs.toList[i]? with | some v=>K v | none=>False)
   | _=>False) ?_ λK' h'=>by unfold opI;rw[e];rfl
  split
  ·split
   ·exact Lin.of _
   ·exact Lin.km
  ·exact Lin.km
 ·rename_i t x lo hi mx
  refine HT (λK=>Hi τ t (ev x) (lo.map ev) (hi.map ev) (mx.map ev) K) ?_ λK' h'=>by unfold opI;rw[e]
  unfold Hi
  split
  ·split
   ·split
    ·exact oM λl=>Lin.and (Lin.of _)
    ·exact Lin.km
   ·exact Lin.km
  ·exact Lin.km
  ·split
   ·exact oM λl=>oM λr=>Lin.and (Lin.of _)
   ·split
    ·exact oM λl=>oM λr=>Lin.and (Lin.of _)
    ·exact Lin.km
   ·split
    ·exact oM λl=>oM λr=>Lin.and (Lin.of _)
    ·exact Lin.km
   ·exact Lin.km
 ·rename_i t x
  refine HT (λK=>match ti τ t,ev x with
   | some ⟨.arr n _,_,_,_⟩,.slice b len _=>AAP b n len λa=>K (.pointer (some a))
   | _,_=>False) ?_ λK' h'=>by unfold opI;rw[e];rfl
  split
  ·unfold AAP
   split
   ·exact Lin.and (Lin.of _)
   ·exact Lin.km
  ·exact Lin.km
 ·rename_i op t x y u
  have Ue:∀(r r':Prop) K,KO τ op t (ev x) (ev y) r K=KO τ op t (ev x) (ev y) r' K:=by
   intro r r' K
   unfold KO
   split <;> first
    | rfl
    | skip
   rename_i h1 h2 h3 h4
   exfalso
   cases hx:ev x <;> cases hy:ev y <;> rw[hx,hy] at hs <;> simp only[vc,Bool.false_eq_true] at hs <;> first
    | exact h1 _ _ _ _ hx hy
    | exact h2 _ _ _ _ hx hy
    | exact h3 _ _ hx hy
    | exact h4 _ _ hx hy
  exact HT (λK=>KO τ op t (ev x) (ev y) False K) (abM False hs) λK' h'=>by unfold opI;rw[e];exact Ue _ _ _
 ·rename_i s d x
  rw[Bool.and_eq_true] at hs
  obtain⟨hs1,Fk⟩:=hs
  obtain⟨i,hi⟩:=Option.isSome_iff_exists.1 hs1
  unfold K4 at Fk
  split at Fk
  ·rename_i j hj
   split at Fk <;> rename_i e1 e2
   ·exact HT (λK=>K _) (Lin.of _) λK' h'=>by unfold opI;rw[e];simp only[Jw,hi,hj,e1,e2];rfl
   ·exact HT (λK=>K _) (Lin.of _) λK' h'=>by unfold opI;rw[e];simp only[Jw,hi,hj,e1,e2];rfl
   ·exact HT (λK=>K _) (Lin.of _) λK' h'=>by unfold opI;rw[e];simp only[Jw,hi,hj,e1,e2];rfl
   ·cases Fk
  ·cases Fk
 ·rename_i c
  split at hs
  ·rename_i ec
   split at hs
   ·rename_i x t ea et
    split at hs
    ·rename_i e1 e2;exact HT (λK=>K _) (Lin.of _) λK' h'=>by unfold opI;rw[e];simp only[ec,ea,et,e1,e2];rfl
    ·rename_i e1 e2;exact HT (λK=>K _) (Lin.of _) λK' h'=>by unfold opI;rw[e];simp only[ec,ea,et,e1,e2];rfl
    ·rename_i e1;exact HT (λK=>K _) (Lin.of _) λK' h'=>by unfold opI;rw[e];simp only[ec,ea,et,e1];rfl
    ·cases hs
   ·cases hs
  ·cases hs
 ·cases hs
end Go.Sx
