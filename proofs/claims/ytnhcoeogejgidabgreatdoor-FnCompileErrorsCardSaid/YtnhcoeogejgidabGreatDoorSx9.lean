/- Regions that leave their order open: soundness of the one walk. -/
import Derived.Test.YtnhcoeogejgidabGreatDoorSx8
set_option linter.unusedSectionVars false
namespace Go.Sx
variable [Mode]
variable {P : Program} {τ : Static}

/-- A load that has been taken: who, in which heap, where. -/
structure Pin where
  i : Nat
  h : Heap
  a : Addr
  n : Nat
def preds (ops : Array Oper) (j : Nat) : List Nat := match ops[j]? with | some o => (o.after.toList.filter (Region.binds .any)).map (·.on) | none => []
/-- Who comes before whom, whatever the order: a mask an operation. -/
def masks (ops : Array Oper) : List Nat → List Nat → List Nat
  | [], acc => acc
  | j :: r, acc => masks ops r (acc ++ [(preds ops j).foldl (fun m k => Nat.lor (Nat.lor m (2 ^ k)) (acc.getD k 0)) 0])
def relP (ms : List Nat) (i j : Nat) : Bool := !(Nat.testBit (ms.getD j 0) i)
def PIN (h0 : Heap) (a : Addr) (n : Nat) (h' : Heap) (X : Prop) : Prop := stabA h0 a n h' ∧ X
def PINS (ms : List Nat) (j : Nat) (h' : Heap) (X : Prop) : List Pin → Prop
  | [] => X
  | p :: r => bif relP ms p.i j then PIN p.h p.a p.n h' (PINS ms j h' X r) else PINS ms j h' X r
def ALL (F : Nat → Prop) : List Nat → Prop
  | [] => True
  | [i] => F i
  | i :: r => F i ∧ ALL F r

inductive Reach (ops : Array Oper) : Nat → Nat → Prop
  | one {k j : Nat} : k ∈ preds ops j → Reach ops k j
  | more {k m j : Nat} : Reach ops k m → m ∈ preds ops j → Reach ops k j
def closedL (ops : Array Oper) (listed : Array Bool) : Prop := ∀ j, listed.getD j false = true → ∀ k ∈ preds ops j, listed.getD k false = true
theorem closed_reach {ops : Array Oper} {listed : Array Bool} (hc : closedL ops listed) {k j : Nat} (hr : Reach ops k j) (hj : ∀ m ∈ preds ops j, listed.getD m false = true) : listed.getD k false = true := by
  induction hr with
  | one h => exact hj _ h
  | more h1 h2 ih => exact ih fun m hm => hc _ (hj _ h2) m hm
theorem foldl_lor_bit (acc : List Nat) : ∀ (l : List Nat) (m i : Nat), Nat.testBit (l.foldl (fun m k => Nat.lor (Nat.lor m (2 ^ k)) (acc.getD k 0)) m) i = true → Nat.testBit m i = true ∨ ∃ k ∈ l, i = k ∨ Nat.testBit (acc.getD k 0) i = true
  | [], m, i, h => .inl h
  | k :: l, m, i, h => by
    rw [List.foldl_cons] at h
    rcases foldl_lor_bit acc l _ i h with h | ⟨k', hk, h⟩
    · change Nat.testBit ((m ||| 2 ^ k) ||| acc.getD k 0) i = true at h
      rw [Nat.testBit_or, Nat.testBit_or, Bool.or_eq_true, Bool.or_eq_true] at h
      rcases h with (h | h) | h
      · exact .inl h
      · refine .inr ⟨k, List.mem_cons_self .., .inl ?_⟩
        rw [Nat.testBit_two_pow] at h
        exact (of_decide_eq_true h).symm
      · exact .inr ⟨k, List.mem_cons_self .., .inr h⟩
    · exact .inr ⟨k', List.mem_cons_of_mem _ hk, h⟩
theorem masks_reach (ops : Array Oper) : ∀ (l : List Nat) (acc : List Nat), (∀ j i, Nat.testBit (acc.getD j 0) i = true → Reach ops i j) → (l = List.range' acc.length l.length) →
    ∀ j i, Nat.testBit ((masks ops l acc).getD j 0) i = true → Reach ops i j
  | [], acc, ha, _ => ha
  | x :: r, acc, ha, hl => by
    unfold masks
    have hx : x = acc.length := by
      rw [List.length_cons, List.range'_succ] at hl
      exact (List.cons.inj hl).1
    refine masks_reach ops r _ (fun j i h => ?_) (by
      rw [List.length_cons, List.range'_succ] at hl
      have := (List.cons.inj hl).2
      simpa using this)
    rw [List.getD_eq_getElem?_getD] at h
    rcases Nat.lt_trichotomy j acc.length with hj | hj | hj
    · rw [List.getElem?_append_left hj] at h
      exact ha j i (by rw [List.getD_eq_getElem?_getD]; exact h)
    · rw [hj, List.getElem?_append_right (Nat.le_refl _)] at h
      simp only [Nat.sub_self, List.getElem?_cons_zero, Option.getD_some] at h
      rcases foldl_lor_bit acc _ 0 i h with h | ⟨k, hk, h⟩
      · simp at h
      · rw [hj, ← hx]
        rcases h with rfl | h
        · exact .one hk
        · exact .more (ha k i h) hk
    · rw [List.getElem?_eq_none (by simp; omega)] at h
      simp at h
theorem relP_of_ready {ops : Array Oper} {listed : Array Bool} (hc : closedL ops listed) {i j : Nat} (hi : i ∈ Region.ready .any ops listed) (hj : j ∈ Region.ready .any ops listed) :
    relP (masks ops (List.range ops.size) []) i j = true := by
  unfold relP
  rw [Bool.not_eq_true']
  cases hb : Nat.testBit ((masks ops (List.range ops.size) []).getD j 0) i with
  | false => rfl
  | true =>
    have hr := masks_reach ops (List.range ops.size) [] (fun j i h => by simp at h) (by simp [List.range_eq_range']) j i hb
    obtain ⟨_, oj, hoj, hall⟩ := mem_ready.1 hj
    have h1 := closed_reach hc hr (fun m hm => by
      unfold preds at hm
      rw [hoj] at hm
      obtain ⟨e, he, rfl⟩ := List.mem_map.1 hm
      rw [List.mem_filter] at he
      exact hall e (by simpa using he.1) he.2)
    have h0 := (mem_ready.1 hi).1
    rcases Nat.lt_or_ge i listed.size with h' | h'
    · simp [h'] at h0 h1; rw [h0] at h1; cases h1
    · simp [Array.getElem?_eq_none h'] at h1
theorem closed_list {ops : Array Oper} {listed : Array Bool} (hc : closedL ops listed) {i : Nat} (hi : i ∈ Region.ready .any ops listed) : closedL ops (listed.setIfInBounds i true) := by
  intro j hj k hk
  by_cases hij : i = j
  · subst hij
    obtain ⟨_, oj, hoj, hall⟩ := mem_ready.1 hi
    unfold preds at hk
    rw [hoj] at hk
    obtain ⟨e, he, rfl⟩ := List.mem_map.1 hk
    rw [List.mem_filter] at he
    exact getD_set_true (hall e (by simpa using he.1) he.2)
  · rw [getD_set_ne false hij] at hj
    exact getD_set_true (hc j hj k hk)

section
variable (P) (ops : Array Oper) (K : Frame → Heap → Prop) (ms : List Nat)
/-- What is asked behind operation j of the loads that have been taken. -/
def Kept (pins : List Pin) (j : Nat) (h h' : Heap) : Prop := ∀ p ∈ pins, relP ms p.i j = true → h' = h ∨ stabA p.h p.a p.n h'
def AnyP (pins : List Pin) : Nat → Array Bool → Frame → Heap → Prop
  | 0, listed, fr, h => Region.ready .any ops listed = [] ∧ K fr h
  | n + 1, listed, fr, h => (Region.ready .any ops listed = [] → K fr h) ∧
    ∀ i ∈ Region.ready .any ops listed, ∀ o, ops[i]? = some o → stepS P ops o fr h fun fr' h' => Kept ms pins i h h' ∧ AnyP pins n (listed.setIfInBounds i true) fr' h'
end
section
variable {ops : Array Oper} {K : Frame → Heap → Prop} {ms : List Nat}
theorem stepS.mono' {o : Oper} {fr : Frame} {h : Heap} {X X' : Frame → Heap → Prop} (hx : ∀ u h, X (putL fr o.dst u) h → X' (putL fr o.dst u) h) (H : stepS P ops o fr h X) : stepS P ops o fr h X' := by
  unfold stepS at *
  split
  · rename_i c; rw [if_pos c] at H; exact SEMN.mono (fun u h => hx u h) H
  · rename_i c; rw [if_neg c] at H; exact hx _ _ H
theorem AnyP.weaken {pins pins' : List Pin} (hp : ∀ p ∈ pins, p ∈ pins') : ∀ (n : Nat) (listed : Array Bool) (fr : Frame) (h : Heap), AnyP P ops K ms pins' n listed fr h → AnyP P ops K ms pins n listed fr h
  | 0, _, _, _, H => H
  | n + 1, _, _, _, H => ⟨H.1, fun i hi o ho => stepS.mono (fun _ _ ⟨h1, h2⟩ => ⟨fun p hm => h1 p (hp p hm), AnyP.weaken hp n _ _ _ h2⟩) (H.2 i hi o ho)⟩

/-- In this frame the operation gives v, in every heap that meets St, and does nothing else. -/
def YLD (P : Program) (ops : Array Oper) (o : Oper) (fr : Frame) (v : Value) (St : Heap → Prop) : Prop :=
  (wantL ops fr o = true ∧ ∀ h', St h' → SEMN P (execOp (evL fr) o) (fun u h'' => u = v ∧ h'' = h') h') ∨ (wantL ops fr o = false ∧ v = undef)
theorem YLD.step {o : Oper} {fr : Frame} {v : Value} {St : Heap → Prop} (hy : YLD P ops o fr v St) {h : Heap} (hs : St h) {X : Frame → Heap → Prop} (hx : X (putL fr o.dst v) h) : stepS P ops o fr h X := by
  unfold stepS
  rcases hy with ⟨hw, hv⟩ | ⟨hw, rfl⟩
  · rw [if_pos hw]
    exact SEMN.mono (fun u h' ⟨e1, e2⟩ => by rw [e1, e2]; exact hx) (hv h hs)
  · rw [if_neg (by rw [hw]; simp)]
    exact hx
theorem lget_lset_ne {fr : Frame} {d t : Nat} {v : Value} (h : d ≠ t) : lget (lset fr d v) t = lget fr t := by
  rw [lget_eq, lget_eq, lset_eq, List.getElem?_set_ne h]
theorem evL_putL {fr : Frame} {d : Option Tmp} {v : Value} {x : Operand} (h : ∀ t, d = some t → x ≠ .tmp t) : evL (putL fr d v) x = evL fr x := by
  cases d with
  | none => rfl
  | some t =>
    cases x <;> try rfl
    rename_i u
    exact lget_lset_ne fun e => h t rfl (by rw [e])
theorem execOp_putL (o : Oper) (hs : ∀ cs b, o.op ≠ .select cs b) (fr : Frame) (d : Option Tmp) (v : Value) (h : ∀ t, d = some t → t ∉ o.looksAt ops) : execOp (evL (putL fr d v)) o = execOp (evL fr) o := by
  refine execOp_congr o hs fun x hx => evL_putL fun t ht hxt => h t ht ?_
  subst hxt
  refine List.mem_append.2 (.inl (List.mem_filterMap.2 ⟨.tmp t, by simpa using hx, rfl⟩))
theorem wantL_putL (o : Oper) (fr : Frame) (d : Option Tmp) (v : Value) (h : ∀ t, d = some t → t ∉ o.looksAt ops) : wantL ops (putL fr d v) o = wantL ops fr o := by
  unfold wantL
  cases hg : o.guard with
  | none => rfl
  | some g =>
    obtain ⟨j, want⟩ := g
    have : guardV ops (putL fr d v) j = guardV ops fr j := by
      unfold guardV
      cases hd : (ops[j]?).bind (·.dst) with
      | none => rfl
      | some t =>
        cases d with
        | none => rfl
        | some u =>
          refine lget_lset_ne fun e => h u rfl ?_
          subst e
          refine List.mem_append.2 (.inr ?_)
          rw [hg]
          simp only []
          rw [hd]
          simp
    simp only [this]
theorem putL_comm (fr : Frame) {x y : Option Tmp} (v u : Value) (h : ∀ d, x = some d → y ≠ some d) : putL (putL fr x v) y u = putL (putL fr y u) x v := by
  cases x <;> cases y <;> try rfl
  rename_i a b
  have : a ≠ b := fun e => h a rfl (by rw [e])
  simp only [putL, lset_eq]
  rw [List.set_comm _ _ this]
theorem first (hns : Region.noSelect ops = true) {i : Nat} {oi : Oper} {v : Value} {St : Heap → Prop} (hi : ops[i]? = some oi) {pins pins' : List Pin} (hsub : ∀ p ∈ pins, p ∈ pins')
    (hR : ∀ j h h', relP ms i j = true → Kept ms pins' j h h' → h' = h ∨ St h') (hms : ms = masks ops (List.range ops.size) []) :
    ∀ (n : Nat) (listed : Array Bool) (fr : Frame) (h : Heap), closedL ops listed →
      (∀ j oj, ops[j]? = some oj → j ≠ i → listed.getD j true = false → (∀ e ∈ oj.after, Region.binds .any e = true → e.on ≠ i) → oi.apart ops oj = true) →
      i ∈ Region.ready .any ops listed → YLD P ops oi fr v St → St h →
      AnyP P ops K ms pins' n (listed.setIfInBounds i true) (putL fr oi.dst v) h → AnyP P ops K ms pins (n + 1) listed fr h := by
  have hsel := Region.noSelect_spec hns
  intro n
  induction n with
  | zero =>
    intro listed fr h hc _ hr hy hs H
    refine ⟨fun e => (by rw [e] at hr; cases hr), fun j hj o ho => ?_⟩
    by_cases hji : j = i
    · subst hji
      rw [hi] at ho
      cases ho
      exact hy.step hs ⟨fun _ _ _ => .inl rfl, H⟩
    · have := ready_mono hj hji
      rw [H.1] at this
      cases this
  | succ n ih =>
    intro listed fr h hc hfree hr hy hs H
    refine ⟨fun e => (by rw [e] at hr; cases hr), fun j hj oj hoj => ?_⟩
    by_cases hji : j = i
    · subst hji
      rw [hi] at hoj
      cases hoj
      exact hy.step hs ⟨fun _ _ _ => .inl rfl, AnyP.weaken hsub _ _ _ _ H⟩
    · have h1 := H.2 j (ready_mono hj hji) oj hoj
      obtain ⟨hjun, oj', hoj', hall⟩ := mem_ready.1 hj
      rw [hoj] at hoj'
      cases hoj'
      have hnot : ∀ e ∈ oj.after, Region.binds .any e = true → e.on ≠ i := fun e he hb heq => by
        have h1 := hall e he hb
        have h0 := (mem_ready.1 hr).1
        rw [heq] at h1
        rcases Nat.lt_or_ge i listed.size with h' | h'
        · simp [h'] at h0 h1; rw [h0] at h1; cases h1
        · simp [Array.getElem?_eq_none h'] at h1
      obtain ⟨a1, a2, a3⟩ := Oper.apart_spec (hfree j oj hoj hji hjun hnot)
      have hrel : relP ms i j = true := by rw [hms]; exact relP_of_ready hc hr hj
      have h2 : stepS P ops oj fr h fun fr' h' => Kept ms pins' j h h' ∧ AnyP P ops K ms pins' n ((listed.setIfInBounds i true).setIfInBounds j true) (putL fr' oi.dst v) h' := by
        unfold stepS at h1 ⊢
        rw [wantL_putL oj fr oi.dst v a1, execOp_putL oj (fun cs b => hsel j oj cs b hoj) fr oi.dst v a1] at h1
        split
        · rename_i c
          rw [if_pos c] at h1
          exact SEMN.mono (fun u h' ⟨k1, k2⟩ => ⟨k1, by rw [← putL_comm fr v u a2]; exact k2⟩) h1
        · rename_i c
          rw [if_neg c] at h1
          exact ⟨h1.1, by rw [← putL_comm fr v undef a2]; exact h1.2⟩
      have hfree' : ∀ k ok, ops[k]? = some ok → k ≠ i → (listed.setIfInBounds j true).getD k true = false →
          (∀ e ∈ ok.after, Region.binds .any e = true → e.on ≠ i) → oi.apart ops ok = true := fun k ok hk hki hun hno => by
        refine hfree k ok hk hki ?_ hno
        by_cases hjk : j = k
        · subst hjk; exact hjun
        · rw [getD_set_ne true hjk] at hun; exact hun
      refine stepS.mono' (fun u h' ⟨k1, k2⟩ => ⟨fun p hp => k1 p (hsub p hp), ?_⟩) h2
      have hs' : St h' := by
        rcases hR j h h' hrel k1 with e | e
        · rw [e]; exact hs
        · exact e
      have hy' : YLD P ops oi (putL fr oj.dst u) v St := by
        unfold YLD
        rw [wantL_putL oi fr oj.dst u a3, execOp_putL oi (fun cs b => hsel i oi cs b hi) fr oj.dst u a3]
        exact hy
      refine ih (listed.setIfInBounds j true) _ h' (closed_list hc hj) hfree' (ready_mono hr (Ne.symm hji)) hy' hs' ?_
      rw [Array.setIfInBounds_comm _ _ hji]
      exact k2

theorem AnyP_wp {Q : Exit → Act → World → Prop} {a0 : Act} {w0 : World} (hQ : ∀ a w, Left a0 w0 K a w → Q .normal a w) :
    ∀ (n : Nat) (listed : Array Bool) (pins : List Pin) (a : Act) (w : World), a.defers = a0.defers → Same w0 w → AnyP P ops K ms pins n listed a.tmps.toList w.heap → wpAny P .any ops Q n listed a w
  | 0, _, _, a, w, hd, hs, H => ⟨H.1, hQ a w ⟨hd, hs, H.2⟩⟩
  | n + 1, listed, pins, a, w, hd, hs, H => ⟨fun e => hQ a w ⟨hd, hs, H.1 e⟩, fun i hi => by
      obtain ⟨_, o, ho, _⟩ := mem_ready.1 hi
      unfold wpOp
      rw [ho]
      simp only []
      refine stepS_wp (H.2 i hi o ho) fun a' w' ⟨h1, h2, h3⟩ => ?_
      exact AnyP_wp hQ n _ pins a' w' (h1.trans hd) (hs.trans h2) h3.2⟩
end

def simpleG (τ : Static) (ops : Array Oper) (o : Oper) (fr : Frame) : Bool :=
  match o.guard with
  | none => simpleI τ o (evL fr)
  | some (j, want) => match guardV ops fr j with
    | .bool true => bif want then simpleI τ o (evL fr) else true
    | .bool false => bif want then true else simpleI τ o (evL fr)
    | _ => true
def addPin (τ : Static) (ops : Array Oper) (i : Nat) (o : Oper) (fr : Frame) (h : Heap) (pins : List Pin) : List Pin :=
  bif wantL ops fr o then (match loadsAt τ o (evL fr) with | some (a, n) => ⟨i, h, a, n⟩ :: pins | none => pins) else pins
def pickI (τ : Static) (ops : Array Oper) (listed : Array Bool) (fr : Frame) (rs : List Nat) : Option Nat :=
  rs.find? fun i => match ops[i]? with | some o => simpleG τ ops o fr && Region.free .any ops listed i | none => false
def drawI (P : Program) (τ : Static) (ops : Array Oper) (ms : List Nat) (K : Frame → Heap → Prop) : Nat → Array Bool → Frame → Heap → List Pin → Prop
  | 0, listed, fr, h, _ => (match Region.ready .any ops listed with | [] => K fr h | _ => False)
  | n + 1, listed, fr, h, pins => (match Region.ready .any ops listed with
    | [] => K fr h
    | r :: rs => (match pickI τ ops listed fr (r :: rs) with
      | some i => (match ops[i]? with
        | some o => stepI P τ ops o fr h fun fr' h' => splitI ops i o fr' h' fun fr' h' => drawI P τ ops ms K n (listed.setIfInBounds i true) fr' h' (addPin τ ops i o fr h pins)
        | none => False)
      | none => ALL (fun i => match ops[i]? with
        | some o => stepI P τ ops o fr h fun fr' h' => PINS ms i h' (splitI ops i o fr' h' fun fr' h' => drawI P τ ops ms K n (listed.setIfInBounds i true) fr' h' pins) pins
        | none => False) (r :: rs)))
theorem ALL_out {F : Nat → Prop} : ∀ {l : List Nat}, ALL F l → ∀ i ∈ l, F i
  | [], _, i, hi => by cases hi
  | [j], H, i, hi => by
    rw [List.mem_singleton] at hi
    rw [hi]; exact H
  | j :: k :: r, H, i, hi => by
    rcases List.mem_cons.1 hi with rfl | hi
    · exact H.1
    · exact ALL_out H.2 i hi
theorem PINS_out {ms : List Nat} {j : Nat} {h h' : Heap} {X : Prop} : ∀ {pins : List Pin}, PINS ms j h' X pins → X ∧ Kept ms pins j h h'
  | [], H => ⟨H, fun p hp => by cases hp⟩
  | p :: r, H => by
    unfold PINS at H
    cases hr : relP ms p.i j with
    | true =>
      rw [hr] at H
      obtain ⟨h1, h2⟩ := PINS_out (h := h) H.2
      refine ⟨h1, fun q hq hrel => ?_⟩
      rcases List.mem_cons.1 hq with rfl | hq
      · exact .inr H.1
      · exact h2 q hq hrel
    | false =>
      rw [hr] at H
      obtain ⟨h1, h2⟩ := PINS_out (h := h) H
      refine ⟨h1, fun q hq hrel => ?_⟩
      rcases List.mem_cons.1 hq with rfl | hq
      · rw [hr] at hrel; cases hrel
      · exact h2 q hq hrel
theorem YLD_of {ops : Array Oper} {o : Oper} {fr : Frame} {h : Heap} {X : Frame → Heap → Prop} (hτ : OkS P τ) (hs : simpleG τ ops o fr = true) (H : stepI P τ ops o fr h X) :
    ∃ v, X (putL fr o.dst v) h ∧ YLD P ops o fr v (fun h' => wantL ops fr o = true → stabO τ o (evL fr) h h') := by
  have yes : wantL ops fr o = true → simpleI τ o (evL fr) = true → opI P τ o (evL fr) (fun v h' => X (putL fr o.dst v) h') h → ∃ v, X (putL fr o.dst v) h ∧ YLD P ops o fr v (fun h' => wantL ops fr o = true → stabO τ o (evL fr) h h') := by
    intro e hs H
    obtain ⟨v, h1, h2⟩ := simple_lin hs H
    refine ⟨v, h1, .inl ⟨e, fun h' hst => ?_⟩⟩
    exact opI_sound hτ o (evL fr) (fun u h'' => u = v ∧ h'' = h') h' (h2 (fun u h'' => u = v ∧ h'' = h') h' (hst e) ⟨rfl, rfl⟩)
  have no : wantL ops fr o = false → X (putL fr o.dst undef) h → ∃ v, X (putL fr o.dst v) h ∧ YLD P ops o fr v (fun h' => wantL ops fr o = true → stabO τ o (evL fr) h h') :=
    fun e H => ⟨undef, H, .inr ⟨e, rfl⟩⟩
  unfold stepI at H
  unfold simpleG at hs
  cases hg : o.guard with
  | none => rw [hg] at H hs; exact yes (by unfold wantL; rw [hg]) hs H
  | some g =>
    obtain ⟨j, want⟩ := g
    rw [hg] at H hs
    simp only [] at H hs
    have hw : ∀ v, guardV ops fr j = v → wantL ops fr o = (match v with | .bool b => b == want | _ => false) := fun v e => by unfold wantL; rw [hg]; simp only [e]; rfl
    cases hv : guardV ops fr j <;> rw [hv] at H hs <;> first
      | exact no (hw _ hv) H
      | skip
    rename_i b
    cases b <;> cases want <;> first
      | exact no (hw _ hv) H
      | exact yes (hw _ hv) hs H
theorem drawI_any (hτ : OkS P τ) {ops : Array Oper} {K : Frame → Heap → Prop} (hns : Region.noSelect ops = true) {ms : List Nat} (hms : ms = masks ops (List.range ops.size) []) :
    ∀ (n : Nat) (listed : Array Bool) (fr : Frame) (h : Heap) (pins : List Pin), closedL ops listed → drawI P τ ops ms K n listed fr h pins → AnyP P ops K ms pins n listed fr h
  | 0, listed, fr, h, pins, _, H => by
    unfold drawI at H
    unfold AnyP
    split at H
    · rename_i e; exact ⟨e, H⟩
    · exact H.elim
  | n + 1, listed, fr, h, pins, hc, H => by
    unfold drawI at H
    split at H
    · rename_i e
      refine ⟨fun _ => H, fun i hi => ?_⟩
      rw [e] at hi; cases hi
    · rename_i r rs e
      split at H
      · rename_i i hp
        split at H
        · rename_i o ho
          have hmem : i ∈ Region.ready .any ops listed := by rw [e]; exact List.mem_of_find?_eq_some hp
          have hprop := List.find?_some hp
          rw [ho] at hprop
          simp only [Bool.and_eq_true] at hprop
          obtain ⟨hs, hf⟩ := hprop
          obtain ⟨v, h1, h2⟩ := YLD_of hτ hs H
          have h3 := drawI_any hτ hns hms n _ _ _ _ (closed_list hc hmem) (splitI_out h1)
          refine first (pins' := addPin τ ops i o fr h pins) hns ho ?_ ?_ hms n listed fr h hc (Region.free_spec ho hf) hmem h2 ?_ h3
          · intro p hp
            unfold addPin
            cases wantL ops fr o with
            | false => exact hp
            | true =>
              simp only [cond_true]
              split
              · exact List.mem_cons_of_mem _ hp
              · exact hp
          · intro j h0 h' hrel hk
            unfold addPin at hk
            by_cases hw : wantL ops fr o = true
            · rw [hw] at hk
              simp only [cond_true] at hk
              unfold stabO
              split at hk
              · rename_i a m hl
                rcases hk _ (List.mem_cons_self ..) hrel with e1 | e1
                · exact .inl e1
                · refine .inr fun _ => ?_
                  rw [hl]
                  exact e1
              · rename_i hl
                refine .inr fun _ => ?_
                rw [hl]
                trivial
            · exact .inr fun e1 => absurd e1 hw
          · intro _
            unfold stabO
            split
            · exact fun _ _ => rfl
            · trivial
        · exact H.elim
      · refine ⟨fun e2 => (by rw [e] at e2; cases e2), fun i hi o ho => ?_⟩
        have hF := ALL_out H i (by rw [← e]; exact hi)
        rw [ho] at hF
        simp only [] at hF
        refine stepS.mono (fun fr' h' hp => ?_) (stepI_S hτ hF)
        obtain ⟨k1, k2⟩ := PINS_out (h := h) hp
        exact ⟨k2, drawI_any hτ hns hms n _ _ _ _ (closed_list hc hi) (splitI_out k1)⟩
end Go.Sx
