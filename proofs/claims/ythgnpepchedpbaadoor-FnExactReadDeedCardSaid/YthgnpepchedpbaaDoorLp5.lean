/- Rules for reading data behind pointers, at whatever form their addresses have; slices read element by element; loops over them. -/
import Derived.Test.YthgnpepchedpbaaDoorLp3
set_option linter.unusedVariables false
set_option linter.unusedSimpArgs false
namespace Go.Sx

section
variable {α β : Type} {r : Rep α} {h : Heap} {q : Addr} {x : α} {off g : Nat}
theorem add0 (q : Addr) : q.add 0 = q := by simp [Addr.add]
theorem add_g (g n : Nat) : (⟨g, 0, none⟩ : Addr).add n = ⟨g, n, none⟩ := by rw [add_none, Nat.zero_add]
theorem RdP.fst {p : Rep β} {get : α → β} {put : α → β → α} (R : RdP r h q x) (F : Foc r p 0 get put) : RdP p h q (get x) := by have := R.foc F; rwa [add0] at this
theorem RdP.oS1 {get : α → ByteArray} {put : α → ByteArray → α} {K : ByteArray → Prop} (R : RdP r h q x) [F : FocC r 0 rS get put] (H : (get x).size ≤ maxLen → K (get x)) : Sx.oS (Sx.cell h q) K := by have := RdP.oS (off := 0) R (F := F) H; rwa [add0] at this
end
instance lf_I (k : IntKind) : FocC (rI k) 0 (rI k) (fun a => a) (fun _ b => b) := ⟨Foc.here _⟩
instance lf_F (k : FloatKind) : FocC (rF k) 0 (rF k) (fun a => a) (fun _ b => b) := ⟨Foc.here _⟩
instance lf_B : FocC rB 0 rB (fun a => a) (fun _ b => b) := ⟨Foc.here _⟩
instance lf_S : FocC rS 0 rS (fun a => a) (fun _ b => b) := ⟨Foc.here _⟩
instance lf_L {α : Type} (e : Nat) (r : Rep α) : FocC (rSl e r) 0 (rSl e r) (fun a => a) (fun _ b => b) := ⟨Foc.here _⟩
instance lf_2_0 : FocC (rArr 2 (rF .f32)) 0 (rF .f32) (fun l => l[0]!) (fun l b => l.set 0 b) := ⟨(Foc.arr (rF .f32) 0 (by decide)).at rfl⟩
instance lf_2_1 : FocC (rArr 2 (rF .f32)) 1 (rF .f32) (fun l => l[1]!) (fun l b => l.set 1 b) := ⟨(Foc.arr (rF .f32) 1 (by decide)).at rfl⟩
instance lf_3_0 : FocC (rArr 3 (rF .f32)) 0 (rF .f32) (fun l => l[0]!) (fun l b => l.set 0 b) := ⟨(Foc.arr (rF .f32) 0 (by decide)).at rfl⟩
instance lf_3_1 : FocC (rArr 3 (rF .f32)) 1 (rF .f32) (fun l => l[1]!) (fun l b => l.set 1 b) := ⟨(Foc.arr (rF .f32) 1 (by decide)).at rfl⟩
instance lf_3_2 : FocC (rArr 3 (rF .f32)) 2 (rF .f32) (fun l => l[2]!) (fun l b => l.set 2 b) := ⟨(Foc.arr (rF .f32) 2 (by decide)).at rfl⟩
instance lf_4_0 : FocC (rArr 4 (rF .f32)) 0 (rF .f32) (fun l => l[0]!) (fun l b => l.set 0 b) := ⟨(Foc.arr (rF .f32) 0 (by decide)).at rfl⟩
instance lf_4_1 : FocC (rArr 4 (rF .f32)) 1 (rF .f32) (fun l => l[1]!) (fun l b => l.set 1 b) := ⟨(Foc.arr (rF .f32) 1 (by decide)).at rfl⟩
instance lf_4_2 : FocC (rArr 4 (rF .f32)) 2 (rF .f32) (fun l => l[2]!) (fun l b => l.set 2 b) := ⟨(Foc.arr (rF .f32) 2 (by decide)).at rfl⟩
instance lf_4_3 : FocC (rArr 4 (rF .f32)) 3 (rF .f32) (fun l => l[3]!) (fun l b => l.set 3 b) := ⟨(Foc.arr (rF .f32) 3 (by decide)).at rfl⟩
section
variable {α β : Type} {r : Rep α} {h0 h h' : Heap} {q : Addr} {x : α} {off g n : Nat} {L : List Blk} {cs : Array Value}
theorem RdP.pin {p : Prop} (R : RdP r h q x) (hn : r.sz = n) (X : Ext h h') (H : p) : PIN h q n h' p := by
  obtain ⟨vs, h1, h2⟩ := R
  have := r.rlen h2
  exact Sx.pin X (fun j hj => ⟨vs[j]'(by omega), h1 j _ (List.getElem?_eq_getElem (by omega))⟩) H
theorem Pt.join {F : Fr} {h'' : Heap} {L2 : List Blk} (P : Pt r h0 h q F L x) (M : Mem h h'' L2) : Pt r h0 h'' q F (L2 ++ L) x := by
  obtain ⟨e, mid, B, N, O⟩ := P
  refine ⟨e, mid, B, ?_, O⟩
  have := N.join M
  refine this.perm ?_
  refine List.perm_middle.trans (List.Perm.cons _ ?_)
  rw [← List.append_assoc, ← List.append_assoc]
  exact List.Perm.append_right _ List.perm_append_comm
theorem Pt.sub {F : Fr} {L2 : List Blk} (P : Pt r h0 h q F L x) (s : L2.Sublist L) : Pt r h0 h q F L2 x := by
  obtain ⟨e, mid, B, N, O⟩ := P
  exact ⟨e, mid, B, N.sub (List.Sublist.cons_cons _ ((List.Sublist.refl _).append s)), O⟩
theorem Pt.drop {F : Fr} {L2 : List Blk} (P : Pt r h0 h q F (L2 ++ L) x) : Pt r h0 h q F L x := P.sub (List.sublist_append_right _ _)
end
section
variable {α : Type} {r : Rep α} {h : Heap} {b : Option Addr} {l c : Nat} {els : List α}
theorem SlR.len (S : SlR r h b l c els) : els.length = l := S.1
theorem SlR.idx [Inhabited α] {i : Int} {F : Addr → Prop} (S : SlR r h b l c els) (hz : 0 < r.sz) (h1 : 0 ≤ i) (h2 : i < l) (H : ∀ a, RdP r h (a.add (i.toNat * r.sz)) els[i.toNat]! → F a) : IDXS b i l F := by
  obtain ⟨a, rfl, R⟩ := S.elem (i := i.toNat) (by omega) hz
  exact idxs h1 h2 (H a R)
theorem RdP.arr {n : Nat} {q : Addr} (R : RdP (rArr n r) h q els) (hn : n ≤ maxLen) : SlR r h (some q) n n els := by
  obtain ⟨vs, h1, h2, h3⟩ := R
  exact ⟨h2, Nat.le_refl _, hn, vs, fun i hi => ⟨q, rfl, by rw [h1 i _ (List.getElem?_eq_getElem hi), List.getElem?_eq_getElem hi]⟩, h3⟩
theorem RdP.elem [Inhabited α] {n i : Nat} {q : Addr} (R : RdP (rArr n r) h q els) (hi : i < n) : RdP r h (q.add (i * r.sz)) els[i]! := R.foc (Foc.arr r i hi)
theorem RdP.len {n : Nat} {q : Addr} (R : RdP (rArr n r) h q els) : els.length = n := by obtain ⟨vs, _, h2, _⟩ := R; exact h2
end
end Go.Sx
