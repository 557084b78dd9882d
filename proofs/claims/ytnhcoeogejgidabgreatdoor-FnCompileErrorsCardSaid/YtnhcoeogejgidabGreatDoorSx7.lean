/- Regions: the operations one behind the other, and in the orders that are left open. -/
import Derived.Test.YtnhcoeogejgidabGreatDoorSx6
import Derived.Tactics
set_option linter.unusedSectionVars false
namespace Go.Sx
variable [Mode]
variable {P : Program} {τ : Static}

theorem lset_eq : ∀ (l : Frame) (n : Nat) (v : Value), lset l n v = l.set n v
  | [], _, _ => rfl
  | _ :: _, 0, _ => rfl
  | a :: l, n + 1, v => by simp [lset, lset_eq l n v]
theorem lget_eq : ∀ (l : Frame) (n : Nat), lget l n = l[n]?.getD undef
  | [], _ => rfl
  | _ :: _, 0 => rfl
  | a :: l, n + 1 => by simp [lget, lget_eq l n]
theorem evL_toList (a : Act) : evL a.tmps.toList = a.eval := by
  funext x
  cases x <;> simp [evL, Act.eval, lget_eq, Array.getD_eq_getD_getElem?]
theorem put_toList (a : Act) (d : Option Tmp) (v : Value) : (a.put d v).tmps.toList = putL a.tmps.toList d v := by
  cases d <;> simp [Act.put, putL, lset_eq]
theorem put_defers (a : Act) (d : Option Tmp) (v : Value) : (a.put d v).defers = a.defers := by cases d <;> rfl
theorem lset_same {fr : Frame} {d : Nat} {b : Bool} (h : lget fr d = .bool b) : lset fr d (.bool b) = fr := by
  rw [lset_eq]
  rw [lget_eq] at h
  cases hd : fr[d]? with
  | none => rw [hd] at h; simp [undef] at h
  | some v =>
    rw [hd] at h
    simp at h
    subst h
    obtain ⟨hlt, he⟩ := List.getElem?_eq_some_iff.1 hd
    rw [← he, List.set_getElem_self]

theorem lset_tup {fr : Frame} {d : Nat} {cs : Array Value} (h : lget fr d = .tuple cs) : lset fr d (.tuple cs) = fr := by
  rw [lset_eq]
  rw [lget_eq] at h
  cases hd : fr[d]? with
  | none => exact List.set_eq_of_length_le (List.getElem?_eq_none_iff.1 hd)
  | some v =>
    rw [hd] at h
    obtain ⟨hl, e⟩ := List.getElem?_eq_some_iff.1 hd
    have h : v = .tuple cs := h
    subst h
    apply List.ext_getElem?
    intro i
    by_cases hi : d = i
    · subst hi
      rw [List.getElem?_set_self hl, hd]
    · rw [List.getElem?_set_ne hi]
def guardV (ops : Array Oper) (fr : Frame) (j : Nat) : Value := match (ops[j]?).bind (·.dst) with | some d => lget fr d | none => undef
def wantL (ops : Array Oper) (fr : Frame) (o : Oper) : Bool :=
  match o.guard with
  | none => true
  | some (j, want) => match guardV ops fr j with | .bool b => b == want | _ => false
theorem wantL_eq (ops : Array Oper) (a : Act) (o : Oper) : Region.wanted o (yielded ops a.tmps) = wantL ops a.tmps.toList o := by
  unfold Region.wanted wantL
  cases o.guard with
  | none => rfl
  | some g =>
    obtain ⟨j, want⟩ := g
    simp only [yielded, guardV]
    cases (ops[j]?).bind (·.dst) with
    | none => rfl
    | some d =>
      simp only [Option.bind_some, lget_eq, Array.getElem?_toList]
      cases a.tmps[d]? with
      | none => rfl
      | some v => cases v <;> simp

def stepI (P : Program) (τ : Static) (ops : Array Oper) (o : Oper) (fr : Frame) (h : Heap) (X : Frame → Heap → Prop) : Prop :=
  match o.guard with
  | none => opI P τ o (evL fr) (fun v h' => X (putL fr o.dst v) h') h
  | some (j, want) => match guardV ops fr j with
    | .bool true => bif want then opI P τ o (evL fr) (fun v h' => X (putL fr o.dst v) h') h else X (putL fr o.dst undef) h
    | .bool false => bif want then X (putL fr o.dst undef) h else opI P τ o (evL fr) (fun v h' => X (putL fr o.dst v) h') h
    | _ => X (putL fr o.dst undef) h
def stepS (P : Program) (ops : Array Oper) (o : Oper) (fr : Frame) (h : Heap) (X : Frame → Heap → Prop) : Prop :=
  if wantL ops fr o = true then SEMN P (execOp (evL fr) o) (fun v h' => X (putL fr o.dst v) h') h else X (putL fr o.dst undef) h
theorem stepI_S (hτ : OkS P τ) {ops : Array Oper} {o : Oper} {fr : Frame} {h : Heap} {X : Frame → Heap → Prop} (H : stepI P τ ops o fr h X) : stepS P ops o fr h X := by
  unfold stepI at H
  have yes : wantL ops fr o = true → opI P τ o (evL fr) (fun v h' => X (putL fr o.dst v) h') h → stepS P ops o fr h X := fun e H => by
    unfold stepS; rw [if_pos e]; exact opI_sound hτ _ _ _ _ H
  have no : wantL ops fr o = false → X (putL fr o.dst undef) h → stepS P ops o fr h X := fun e H => by
    unfold stepS; rw [if_neg (by rw [e]; simp)]; exact H
  cases hg : o.guard with
  | none => rw [hg] at H; exact yes (by unfold wantL; rw [hg]) H
  | some g =>
    obtain ⟨j, want⟩ := g
    rw [hg] at H
    simp only [] at H
    have hw : ∀ v, guardV ops fr j = v → wantL ops fr o = (match v with | .bool b => b == want | _ => false) := fun v e => by unfold wantL; rw [hg]; simp only [e]
    cases hv : guardV ops fr j <;> rw [hv] at H <;> first
      | exact no (hw _ hv) H
      | skip
    rename_i b
    cases b <;> cases want <;> first
      | exact no (hw _ hv) H
      | exact yes (hw _ hv) H
theorem stepS.mono {ops : Array Oper} {o : Oper} {fr : Frame} {h : Heap} {X X' : Frame → Heap → Prop} (hx : ∀ fr h, X fr h → X' fr h) (H : stepS P ops o fr h X) : stepS P ops o fr h X' := by
  unfold stepS at *
  split
  · rename_i c; rw [if_pos c] at H; exact SEMN.mono (fun _ _ h => hx _ _ h) H
  · rename_i c; rw [if_neg c] at H; exact hx _ _ H

/-- What a step leaves at the machine. -/
def Left (a : Act) (w : World) (X : Frame → Heap → Prop) (a' : Act) (w' : World) : Prop := a'.defers = a.defers ∧ Same w w' ∧ X a'.tmps.toList w'.heap

theorem semn_wp {o : Oper} {a : Act} {w : World} {X : Frame → Heap → Prop} {next : Act → World → Prop} {Q : Exit → Act → World → Prop}
    (H : SEMN P (execOp (evL a.tmps.toList) o) (fun v h' => X (putL a.tmps.toList o.dst v) h') w.heap) (hn : ∀ a' w', Left a w X a' w' → next a' w') : o.wp P a w next Q := by
  unfold Oper.wp
  rw [← evL_toList]
  have h0 := H w rfl
  generalize (execOp (evL a.tmps.toList) o).run P w = r at *
  have fin : ∀ v w', Same w w' → X (putL a.tmps.toList o.dst v) w'.heap → next (a.put o.dst v) w' := fun v w' hs hx =>
    hn _ _ ⟨put_defers a _ _, hs, by rw [put_toList]; exact hx⟩
  cases r with
  | ok n w' =>
    cases n <;> simp only [UponN] at h0 <;> simp only [Oper.upon] <;> first
      | exact h0.elim
      | exact fin _ _ h0.1 h0.2
      | (refine Calls.mono h0 fun e w'' ⟨v, he, h1, h2⟩ => ?_
         subst he
         exact fin v w'' h1 h2)
  | halt x w' => exact h0.elim
theorem stepS_wp {ops : Array Oper} {o : Oper} {a : Act} {w : World} {X : Frame → Heap → Prop} {next : Act → World → Prop} {Q : Exit → Act → World → Prop}
    (H : stepS P ops o a.tmps.toList w.heap X) (hn : ∀ a' w', Left a w X a' w' → next a' w') :
    if Region.wanted o (yielded ops a.tmps) then o.wp P a w next Q ∨ (o.asks P a w ∧ LetsOut Q) else next (a.put o.dst undef) w := by
  rw [wantL_eq]
  unfold stepS at H
  split
  · rename_i c; rw [if_pos c] at H; exact .inl (semn_wp H hn)
  · rename_i c; rw [if_neg c] at H; exact hn _ _ ⟨put_defers a _ _, Same.refl w, by rw [put_toList]; exact H⟩

def isGuard (ops : Array Oper) (i : Nat) : Bool := ops.toList.any fun o => match o.guard with | some (j, _) => Nat.beq j i | none => false
def splitI (ops : Array Oper) (i : Nat) (o : Oper) (fr : Frame) (h : Heap) (X : Frame → Heap → Prop) : Prop :=
  bif isGuard ops i then (match o.dst with
    | some d => (match lget fr d with
      | .bool b => BIF b (X (lset fr d (.bool true)) h) (X (lset fr d (.bool false)) h)
      | .tuple cs => X (lset fr d (.tuple cs)) h
      | _ => False)
    | none => X fr h) else X fr h
theorem splitI_out {ops : Array Oper} {i : Nat} {o : Oper} {fr : Frame} {h : Heap} {X : Frame → Heap → Prop} (H : splitI ops i o fr h X) : X fr h := by
  unfold splitI at H
  cases hg : isGuard ops i with
  | false => rw [hg] at H; exact H
  | true =>
    rw [hg] at H
    simp only [cond_true] at H
    split at H
    · split at H
      · rename_i b hb
        cases b
        · have H' : X (lset fr _ (.bool false)) h := H
          rw [lset_same hb] at H'; exact H'
        · have H' : X (lset fr _ (.bool true)) h := H
          rw [lset_same hb] at H'; exact H'
      · rename_i cs hb
        rw [lset_tup hb] at H; exact H
      · exact H.elim
    · exact H
/-- A guard's value that is not told: a bool, or none at all. -/
def SPL (v : Value) (T F : Prop) (U : Array Value → Prop) : Prop := match v with
  | .bool b => BIF b T F
  | .tuple cs => U cs
  | _ => False

def seqI (P : Program) (τ : Static) (ops : Array Oper) (K : Frame → Heap → Prop) : Nat → List Oper → Frame → Heap → Prop
  | _, [], fr, h => K fr h
  | i, o :: rest, fr, h => stepI P τ ops o fr h fun fr h => splitI ops i o fr h fun fr h => seqI P τ ops K (i + 1) rest fr h
theorem seqI_wp (hτ : OkS P τ) {ops : Array Oper} {K : Frame → Heap → Prop} {Q : Exit → Act → World → Prop} {a0 : Act} {w0 : World} (hQ : ∀ a w, Left a0 w0 K a w → Q .normal a w) :
    ∀ (l : List Oper) (i : Nat) (a : Act) (w : World), a.defers = a0.defers → Same w0 w → seqI P τ ops K i l a.tmps.toList w.heap → wpList P ops Q l a w
  | [], _, a, w, hd, hs, H => hQ a w ⟨hd, hs, H⟩
  | o :: rest, i, a, w, hd, hs, H => by
    unfold wpList
    refine stepS_wp (X := fun fr h => seqI P τ ops K (i + 1) rest fr h) ?_ fun a' w' ⟨h1, h2, h3⟩ => seqI_wp hτ hQ rest (i + 1) a' w' (h1.trans hd) (hs.trans h2) h3
    exact stepS.mono (fun _ _ h => splitI_out h) (stepI_S hτ H)

def Lin {α : Type} (F : (α → Prop) → Prop) : Prop := ∀ K, F K → ∃ v, K v ∧ ∀ K' : α → Prop, K' v → F K'
theorem Lin.of {α : Type} (v : α) : Lin fun K : α → Prop => K v := fun _ h => ⟨v, h, fun _ h => h⟩
theorem Lin.fals {α : Type} : Lin fun _ : α → Prop => False := fun _ h => h.elim
theorem Lin.and {α : Type} {p : Prop} {F : (α → Prop) → Prop} (h : Lin F) : Lin fun K => p ∧ F K := fun K ⟨hp, hk⟩ => by
  obtain ⟨v, h1, h2⟩ := h K hk
  exact ⟨v, h1, fun K' hk => ⟨hp, h2 K' hk⟩⟩
theorem lin_oI {α : Type} (k : IntKind) (o : Option Value) (f : Int → α) : Lin fun K : α → Prop => oI k o fun n => K (f n) := fun K h => by
  obtain ⟨n, rfl, h'⟩ := oI_out h
  exact ⟨f n, h', fun K' hk => by simpa [oI, asI] using hk⟩
theorem lin_oB {α : Type} (o : Option Value) (f : Bool → α) : Lin fun K : α → Prop => oB o fun n => K (f n) := fun K h => by
  obtain ⟨n, rfl, h'⟩ := oB_out h
  exact ⟨f n, h', fun K' hk => hk⟩
theorem lin_oF {α : Type} (k : FloatKind) (o : Option Value) (f : Nat → α) : Lin fun K : α → Prop => oF k o fun n => K (f n) := fun K h => by
  obtain ⟨n, rfl, h'⟩ := oF_out h
  exact ⟨f n, h', fun K' hk => by simpa [oF, asF] using hk⟩
theorem lin_oS {α : Type} (o : Option Value) (f : ByteArray → α) : Lin fun K : α → Prop => oS o fun n => K (f n) := fun K h => by
  obtain ⟨n, rfl, h'⟩ := oS_out h
  exact ⟨f n, h', fun K' hk => hk⟩
theorem lin_oP {α : Type} (o : Option Value) (f : Addr → α) : Lin fun K : α → Prop => oP o fun n => K (f n) := fun K h => by
  obtain ⟨n, rfl, h'⟩ := oP_out h
  exact ⟨f n, h', fun K' hk => hk⟩
theorem lin_oL {α : Type} (o : Option Value) (f : Option Addr → Nat → Nat → α) : Lin fun K : α → Prop => oL o fun b l c => K (f b l c) := fun K h => by
  obtain ⟨b, l, c, rfl, h'⟩ := oL_out h
  exact ⟨f b l c, h', fun K' hk => hk⟩
theorem lin_oV {α : Type} (o : Option Value) (f : Value → α) : Lin fun K : α → Prop => oV o fun n => K (f n) := fun K h => by
  obtain ⟨n, rfl, h'⟩ := oV_out h
  exact ⟨f n, h', fun K' hk => hk⟩
theorem lin_GT (t : Nat) (cs : Array Value) (off : Nat) : Lin fun K => GT τ t cs off K := by
  unfold GT
  split
  · exact Lin.fals
  · split <;> first
      | exact lin_oI _ _ _
      | exact lin_oB _ _
      | exact lin_oF _ _ _
      | exact lin_oS _ _
      | exact lin_oP _ _
      | exact lin_oL _ _
      | exact lin_oV _ _
      | exact Lin.of _
      | exact Lin.fals
theorem lin_LDA {α : Type} (n : Nat) (h : Heap) (a : Addr) (f : Array Value → α) : Lin fun K : α → Prop => LDA n h a fun cs => K (f cs) := fun K H => by
  obtain ⟨cs, h1, h2, h3⟩ := H
  exact ⟨f cs, h3, fun K' hk => ⟨cs, h1, h2, hk⟩⟩
theorem lin_LD (t : Nat) (h : Heap) (a : Addr) : Lin fun K => LD τ t h a K := by
  unfold LD
  split
  · exact Lin.fals
  · split <;> first
      | exact lin_oI _ _ _
      | exact lin_oB _ _
      | exact lin_oF _ _ _
      | exact lin_oS _ _
      | exact lin_oP _ _
      | exact lin_oL _ _
      | exact lin_oV _ _
      | exact lin_LDA _ _ _ _
      | exact Lin.fals
theorem lin_fill {α : Type} (pl : Nat → Option (Nat × Nat)) (n0 : Nat) (f : List Value → α) : ∀ (parts : List (Nat × Value)) (cells : List Value), Lin fun K : α → Prop => fillI pl n0 parts cells fun c => K (f c)
  | [], cells => Lin.of _
  | (i, v) :: rest, cells => by
    unfold fillI
    split
    · exact Lin.fals
    · rename_i off size _
      cases Nat.ble (off + size) n0 with
      | false => exact Lin.fals
      | true =>
        simp only [cond_true]
        split
        · exact Lin.and (lin_fill pl n0 f rest _)
        · cases Nat.beq size 1 with
          | false => exact Lin.fals
          | true => exact lin_fill pl n0 f rest _
def plainPair (op : BinOp) (x y : Value) : Bool :=
  match x, y with
  | .int _ _, .int _ _ => true
  | .float _ _, .float _ _ => (match op with | .add | .sub | .mul | .quo => false | _ => true)
  | .string _, .string _ => true
  | .bool _, .bool _ => true
  | _, _ => false
theorem lin_bin {op : BinOp} {t : Nat} {x y : Value} (r : Prop) (hp : plainPair op x y = true) : Lin fun K => binI τ op t x y r K := by
  unfold binI
  split
  · split
    · exact Lin.and (Lin.of _)
    · exact Lin.and (Lin.of _)
    · split
      · split <;> first
          | exact Lin.of _
          | exact Lin.and (Lin.of _)
          | exact Lin.fals
      · exact Lin.fals
  · split
    · cases op <;> first
        | (simp [plainPair] at hp; done)
        | exact Lin.of _
        | exact Lin.fals
    · exact Lin.fals
  · split <;> first
      | exact Lin.of _
      | exact Lin.and (Lin.of _)
      | exact Lin.fals
  · split
    · split <;> first
        | exact Lin.of _
        | exact Lin.fals
    · exact Lin.fals
  · rename_i h1 h2 h3 h4
    exfalso
    cases x <;> cases y <;> simp only [plainPair, Bool.false_eq_true] at hp <;> first
      | exact h1 _ _ _ _ rfl rfl
      | exact h2 _ _ _ _ rfl rfl
      | exact h3 _ _ rfl rfl
      | exact h4 _ _ rfl rfl
theorem lin_un {op : UnOp} {x : Value} : Lin fun K => unI op x K := by
  unfold unI
  split <;> first
    | exact Lin.of _
    | exact Lin.fals
def plainConv (τ : Static) (d : Nat) (x : Value) : Bool :=
  match ti τ d with
  | some i => (match i.ty, x with
    | .int _, .int _ _ => true
    | .float _, .int _ _ => true
    | .str, .string _ => true
    | _, _ => false)
  | none => false
theorem lin_bound {α : Type} {v : Option Value} {d : Int} {G : Int → (α → Prop) → Prop} (hg : ∀ n, Lin (G n)) : Lin fun K => boundI v d fun n => G n K := by
  unfold boundI
  split
  · exact hg _
  · exact hg _
  · exact Lin.fals
end Go.Sx
