/- Regions that leave their order open: one order is walked, the simple operations first. -/
import Derived.Test.YtnhcoeogejgidabGreatDoorSx7
set_option linter.unusedSectionVars false
namespace Go.Sx
variable [Mode]
variable {P : Program} {τ : Static}

def simpleI (τ : Static) (o : Oper) (ev : Operand → Value) : Bool :=
  match o.op with
  | .move _ | .assign _ | .pick .. | .build .. | .load .. | .nilCheck _ | .unOp .. | .makeFunc .. | .fieldAddr .. | .field .. | .indexAddr .. | .index .. | .extract .. => true
  | .slice .. | .sliceToArrayPointer .. => true
  | .binOp op _ x y _ => plainPair op (ev x) (ev y)
  | .convert s d x => (ti τ s).isSome && plainConv τ d (ev x)
  | .call c => (match c.callee with
    | .builtin .len => (match c.args.toList, c.argTypes.toList with
      | [x], [t] => (match ti τ t, ev x with
        | some ⟨.str, _, _, _⟩, .string _ => true
        | some ⟨.sl _, _, _, _⟩, .slice _ _ _ => true
        | some ⟨.arr _ _, _, _, _⟩, _ => true
        | _, _ => false)
      | _, _ => false)
    | _ => false)
  | _ => false
/-- What a load looks at stays as it is. -/
def stabA (h : Heap) (a : Addr) (n : Nat) (h' : Heap) : Prop := ∀ j, j < n → cell h' (a.add j) = cell h (a.add j)
def loadsAt (τ : Static) (o : Oper) (ev : Operand → Value) : Option (Addr × Nat) :=
  match o.op with
  | .load t x => (match ev x, ti τ t with | .pointer (some a), some i => some (a, Nat.max 1 i.size) | _, _ => none)
  | _ => none
def stabO (τ : Static) (o : Oper) (ev : Operand → Value) (h h' : Heap) : Prop :=
  match loadsAt τ o ev with | some (a, n) => stabA h a n h' | none => True
theorem LD_stable {t : Nat} {i : TI} (hi : ti τ t = some i) {h h' : Heap} {a : Addr} (hs : stabA h a (Nat.max 1 i.size) h') {K : Value → Prop} (H : LD τ t h a K) : LD τ t h' a K := by
  have h0 : cell h' a = cell h a := by
    have := hs 0 (by have := Nat.le_max_left 1 i.size; exact this)
    simpa [Addr.add] using this
  unfold LD at *
  rw [hi] at H ⊢
  simp only [] at H ⊢
  split <;> rename_i e <;> simp only [e] at H <;> first
    | (rw [h0]; exact H)
    | exact H
    | (obtain ⟨cs, h1, h2, h3⟩ := H
       exact ⟨cs, h1, fun j hj => by rw [hs j (Nat.lt_of_lt_of_le hj (Nat.le_max_right 1 i.size))]; exact h2 j hj, h3⟩)
theorem simple_lin {o : Oper} {ev : Operand → Value} (hs : simpleI τ o ev = true) {K : Value → Heap → Prop} {h : Heap} (H : opI P τ o ev K h) :
    ∃ v, K v h ∧ ∀ (K' : Value → Heap → Prop) (h' : Heap), stabO τ o ev h h' → K' v h' → opI P τ o ev K' h' := by
  have lin : ∀ (F : (Value → Prop) → Prop), Lin F → (∀ (K' : Value → Heap → Prop) (h' : Heap), opI P τ o ev K' h' = F fun v => K' v h') →
      ∃ v, K v h ∧ ∀ (K' : Value → Heap → Prop) (h' : Heap), stabO τ o ev h h' → K' v h' → opI P τ o ev K' h' := by
    intro F hl hF
    rw [hF] at H
    obtain ⟨v, h1, h2⟩ := hl _ H
    exact ⟨v, h1, fun K' h' _ hk => by rw [hF]; exact h2 _ hk⟩
  unfold simpleI at hs
  split at hs <;> rename_i e
  · exact lin (fun K => K _) (Lin.of _) fun K' h' => by unfold opI; rw [e]
  · exact lin (fun K => K _) (Lin.of _) fun K' h' => by unfold opI; rw [e]
  · rename_i c a b
    cases hc : ev c with
    | bool t =>
      refine lin (fun K => BIF t (K (ev a)) (K (ev b))) ?_ fun K' h' => by unfold opI; rw [e]; simp only [hc]
      cases t <;> exact Lin.of _
    | _ => unfold opI at H; rw [e] at H; simp only [hc] at H
  · rename_i t parts
    cases hi : ti τ t with
    | none => unfold opI at H; rw [e] at H; simp only [hi] at H
    | some i =>
      obtain ⟨ty, n, b, z⟩ := i
      cases ty with
      | st fs =>
        cases hz : z.isEmpty || !(fs.all fun f => (ti τ f.1).isSome) with
        | true => unfold opI at H; rw [e] at H; simp only [hi, hz, cond_true] at H
        | false =>
          exact lin (fun K => fillI (fldPl τ fs) z.length (parts.toList.map fun p => (p.1, ev p.2)) z fun cells => K (.agg ⟨cells⟩)) (lin_fill _ _ (fun c => Value.agg ⟨c⟩) _ _) fun K' h' => by unfold opI; rw [e]; simp only [hi, hz, cond_false]
      | arr m e' =>
        cases hj : ti τ e' with
        | none => unfold opI at H; rw [e] at H; simp only [hi, hj] at H
        | some j =>
          cases hz : z.isEmpty with
          | true => unfold opI at H; rw [e] at H; simp only [hi, hj, hz, cond_true] at H
          | false =>
            exact lin (fun K => fillI (fun i => some (i * j.size, j.size)) z.length (parts.toList.map fun p => (p.1, ev p.2)) z fun cells => K (.agg ⟨cells⟩)) (lin_fill _ _ (fun c => Value.agg ⟨c⟩) _ _) fun K' h' => by unfold opI; rw [e]; simp only [hi, hj, hz, cond_false]
      | _ => unfold opI at H; rw [e] at H; simp only [hi] at H
  · rename_i t x
    cases hx : ev x with
    | pointer a =>
      cases a with
      | none => unfold opI at H; rw [e] at H; simp only [hx] at H
      | some a =>
        have hF : ∀ (K' : Value → Heap → Prop) (h' : Heap), opI P τ o ev K' h' = LD τ t h' a (fun v => K' v h') := fun K' h' => by unfold opI; rw [e]; simp only [hx]
        rw [hF] at H
        obtain ⟨v, h1, h2⟩ := lin_LD t h a _ H
        refine ⟨v, h1, fun K' h' hst hk => ?_⟩
        rw [hF]
        cases hi : ti τ t with
        | none => unfold LD at H; rw [hi] at H; exact H.elim
        | some i =>
          have hst' : stabA h a (Nat.max 1 i.size) h' := by
            unfold stabO loadsAt at hst
            simp only [e, hx, hi] at hst
            exact hst
          exact LD_stable hi hst' (h2 (fun v => K' v h') hk)
    | _ => unfold opI at H; rw [e] at H; simp only [hx] at H
  · rename_i x
    refine lin (fun K => match ev x with | .pointer (some a) => K (.pointer (some a)) | .func (.func f) a c => K (.func (.func f) a c) | _ => False) ?_ fun K' h' => by
      unfold opI; rw [e]; rfl
    split <;> first | exact Lin.of _ | exact Lin.fals
  · exact lin (fun K => unI _ _ K) lin_un fun K' h' => by unfold opI; rw [e]
  · exact lin (fun K => K _) (Lin.of _) fun K' h' => by unfold opI; rw [e]
  · rename_i t x i
    refine lin (fun K => match ev x, ti τ t with
      | .pointer (some a), some ⟨.st fs, _, _, _⟩ => (match fs[i]? with
        | some (u, off) => (match ti τ u with
          | some j => bif Nat.beq j.size 0 then False else K (.pointer (some (a.add off)))
          | none => False)
        | none => False)
      | _, _ => False) ?_ fun K' h' => by unfold opI; rw [e]; rfl
    split
    · split
      · split
        · rename_i j _
          cases Nat.beq j.size 0 with
          | true => exact Lin.fals
          | false => exact Lin.of _
        · exact Lin.fals
      · exact Lin.fals
    · exact Lin.fals
  · rename_i t x i
    refine lin (fun K => match ev x, ti τ t with
      | .agg cs, some ⟨.st fs, _, _, _⟩ => (match fs[i]? with
        | some (u, off) => GT τ u cs off K
        | none => False)
      | _, _ => False) ?_ fun K' h' => by unfold opI; rw [e]; rfl
    split
    · split
      · exact lin_GT _ _ _
      · exact Lin.fals
    · exact Lin.fals
  · rename_i t x i
    refine lin (fun K => match ti τ t, ev x, ev i with
      | some ⟨.arr n e, _, _, _⟩, .pointer (some a), .int _ i => (match ti τ e with
        | some j => IDX i n (K (.pointer (some (a.add (i.toNat * j.size)))))
        | none => False)
      | some ⟨.sl e, _, _, _⟩, .slice b len _, .int _ i => (match ti τ e with
        | some j => IDXS b i len fun a => K (.pointer (some (a.add (i.toNat * j.size))))
        | none => False)
      | _, _, _ => False) ?_ fun K' h' => by unfold opI; rw [e]; rfl
    split
    · split
      · exact Lin.and (Lin.of _)
      · exact Lin.fals
    · split
      · unfold IDXS
        split
        · exact Lin.and (Lin.of _)
        · exact Lin.fals
      · exact Lin.fals
    · exact Lin.fals
  · rename_i t x i
    refine lin (fun K => match ti τ t, ev x, ev i with
      | some ⟨.arr n e, _, _, _⟩, .agg cs, .int _ i => (match ti τ e with
        | some j => IDX i n (GT τ e cs (i.toNat * j.size) K)
        | none => False)
      | some ⟨.str, _, _, _⟩, .string s, .int _ i => IDX i s.size (K (.int .u8 (byteAt s i)))
      | _, _, _ => False) ?_ fun K' h' => by unfold opI; rw [e]; rfl
    split
    · split
      · exact Lin.and (lin_GT _ _ _)
      · exact Lin.fals
    · exact Lin.and (Lin.of _)
    · exact Lin.fals
  · rename_i x i
    refine lin (fun K => match ev x with
      | .tuple vs => (match vs.toList[i]? with | some v => K v | none => False)
      | _ => False) ?_ fun K' h' => by unfold opI; rw [e]; rfl
    split
    · split
      · exact Lin.of _
      · exact Lin.fals
    · exact Lin.fals
  · rename_i t x lo hi mx
    refine lin (fun K => sliceI τ t (ev x) (lo.map ev) (hi.map ev) (mx.map ev) K) ?_ fun K' h' => by unfold opI; rw [e]
    unfold sliceI
    split
    · split
      · split
        · exact lin_bound fun l => Lin.and (Lin.of _)
        · exact Lin.fals
      · exact Lin.fals
    · exact Lin.fals
    · split
      · exact lin_bound fun l => lin_bound fun r => Lin.and (Lin.of _)
      · split
        · exact lin_bound fun l => lin_bound fun r => Lin.and (Lin.of _)
        · exact Lin.fals
      · split
        · exact lin_bound fun l => lin_bound fun r => Lin.and (Lin.of _)
        · exact Lin.fals
      · exact Lin.fals
  · rename_i t x
    refine lin (fun K => match ti τ t, ev x with
      | some ⟨.arr n _, _, _, _⟩, .slice b len _ => AAP b n len fun a => K (.pointer (some a))
      | _, _ => False) ?_ fun K' h' => by unfold opI; rw [e]; rfl
    split
    · unfold AAP
      split
      · exact Lin.and (Lin.of _)
      · exact Lin.fals
    · exact Lin.fals
  · rename_i op t x y u
    have hraw : ∀ (r r' : Prop) K, binI τ op t (ev x) (ev y) r K = binI τ op t (ev x) (ev y) r' K := by
      intro r r' K
      unfold binI
      split <;> first
        | rfl
        | skip
      rename_i h1 h2 h3 h4
      exfalso
      cases hx : ev x <;> cases hy : ev y <;> rw [hx, hy] at hs <;> simp only [plainPair, Bool.false_eq_true] at hs <;> first
        | exact h1 _ _ _ _ hx hy
        | exact h2 _ _ _ _ hx hy
        | exact h3 _ _ hx hy
        | exact h4 _ _ hx hy
    exact lin (fun K => binI τ op t (ev x) (ev y) False K) (lin_bin False hs) fun K' h' => by unfold opI; rw [e]; exact hraw _ _ _
  · rename_i s d x
    rw [Bool.and_eq_true] at hs
    obtain ⟨hs1, hs2⟩ := hs
    obtain ⟨i, hi⟩ := Option.isSome_iff_exists.1 hs1
    unfold plainConv at hs2
    split at hs2
    · rename_i j hj
      split at hs2 <;> rename_i e1 e2
      · exact lin (fun K => K _) (Lin.of _) fun K' h' => by unfold opI; rw [e]; simp only [convI, hi, hj, e1, e2]; rfl
      · exact lin (fun K => K _) (Lin.of _) fun K' h' => by unfold opI; rw [e]; simp only [convI, hi, hj, e1, e2]; rfl
      · exact lin (fun K => K _) (Lin.of _) fun K' h' => by unfold opI; rw [e]; simp only [convI, hi, hj, e1, e2]; rfl
      · cases hs2
    · cases hs2
  · rename_i c
    split at hs
    · rename_i ec
      split at hs
      · rename_i x t ea et
        split at hs
        · rename_i e1 e2; exact lin (fun K => K _) (Lin.of _) fun K' h' => by unfold opI; rw [e]; simp only [ec, ea, et, e1, e2]; rfl
        · rename_i e1 e2; exact lin (fun K => K _) (Lin.of _) fun K' h' => by unfold opI; rw [e]; simp only [ec, ea, et, e1, e2]; rfl
        · rename_i e1; exact lin (fun K => K _) (Lin.of _) fun K' h' => by unfold opI; rw [e]; simp only [ec, ea, et, e1]; rfl
        · cases hs
      · cases hs
    · cases hs
  · cases hs
end Go.Sx
