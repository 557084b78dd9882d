/- Rules for reading data behind pointers, at whatever form their addresses have; slices read element by element; loops over them. -/
import Derived.Test.YtnhcoeogejgidacGreatDoorLp2
import Derived.Laws.Cover3
set_option linter.unusedVariables false
set_option linter.unusedSimpArgs false
namespace Go.Sx

section
variable {α β : Type} {r : Rep α} {h : Heap} {q : Addr} {x : α} {off g : Nat}
theorem add0 (q : Addr) : q.add 0 = q := by simp [Addr.add]
theorem add_g (g n : Nat) : (⟨g, 0, none⟩ : Addr).add n = ⟨g, n, none⟩ := by rw [add_none, Nat.zero_add]
theorem RdP.fst {p : Rep β} {get : α → β} {put : α → β → α} (R : RdP r h q x) (F : Foc r p 0 get put) : RdP p h q (get x) := by have := R.foc F; rwa [add0] at this
/-- The cell at the pointer itself. -/
theorem RdP.oI1 {k : IntKind} {get : α → Int} {put : α → Int → α} {K : Int → Prop} (R : RdP r h q x) [F : FocC r 0 (rI k) get put] (H : K (get x)) : Sx.oI k (Sx.cell h q) K := by have := RdP.oI (off := 0) R (F := F) H; rwa [add0] at this
theorem RdP.oS1 {get : α → ByteArray} {put : α → ByteArray → α} {K : ByteArray → Prop} (R : RdP r h q x) [F : FocC r 0 rS get put] (H : (get x).size ≤ maxLen → K (get x)) : Sx.oS (Sx.cell h q) K := by have := RdP.oS (off := 0) R (F := F) H; rwa [add0] at this
theorem RdP.oF1 {k : FloatKind} {get : α → Nat} {put : α → Nat → α} {K : Nat → Prop} (R : RdP r h q x) [F : FocC r 0 (rF k) get put] (H : ∀ y, FW k y (get x) → K y) : Sx.oF k (Sx.cell h q) K := by have := RdP.oF (off := 0) R (F := F) H; rwa [add0] at this
theorem RdP.lda1 {n : Nat} {K : Array Value → Prop} (R : RdP r h q x) (hn : r.sz = n) (H : ∀ cs : Array Value, r.rd h cs.toList x → K cs) : LDA n h q K := by have := R.lda (Foc.here r) hn H; rwa [add0] at this
/-- Cells of a block by its number. -/
theorem RdP.oI2 {k : IntKind} {get : α → Int} {put : α → Int → α} {K : Int → Prop} (R : RdP r h ⟨g, 0, none⟩ x) [F : FocC r off (rI k) get put] (H : K (get x)) : Sx.oI k (Sx.cell h ⟨g, off, none⟩) K := by have := RdP.oI (off := off) R (F := F) H; rwa [add_g] at this
theorem RdP.oS2 {get : α → ByteArray} {put : α → ByteArray → α} {K : ByteArray → Prop} (R : RdP r h ⟨g, 0, none⟩ x) [F : FocC r off rS get put] (H : (get x).size ≤ maxLen → K (get x)) : Sx.oS (Sx.cell h ⟨g, off, none⟩) K := by have := RdP.oS (off := off) R (F := F) H; rwa [add_g] at this
theorem RdP.oF2 {k : FloatKind} {get : α → Nat} {put : α → Nat → α} {K : Nat → Prop} (R : RdP r h ⟨g, 0, none⟩ x) [F : FocC r off (rF k) get put] (H : ∀ y, FW k y (get x) → K y) : Sx.oF k (Sx.cell h ⟨g, off, none⟩) K := by have := RdP.oF (off := off) R (F := F) H; rwa [add_g] at this
theorem RdP.oL2 {e : Nat} {s : Rep β} {get : α → List β} {put : α → List β → α} {K : Option Addr → Nat → Nat → Prop} (R : RdP r h ⟨g, 0, none⟩ x) [F : FocC r off (rSl e s) get put] (H : ∀ b l c, SlR s h b l c (get x) → K b l c) : Sx.oL (Sx.cell h ⟨g, off, none⟩) K := by have := RdP.oL (off := off) R (F := F) H; rwa [add_g] at this
theorem RdP.lda2 {p : Rep β} {n : Nat} {get : α → β} {put : α → β → α} {K : Array Value → Prop} (R : RdP r h ⟨g, 0, none⟩ x) (F : Foc r p off get put) (hn : p.sz = n) (H : ∀ cs : Array Value, p.rd h cs.toList (get x) → K cs) : LDA n h ⟨g, off, none⟩ K := by have := R.lda F hn H; rwa [add_g] at this
end
instance lf_I (k : IntKind) : FocC (rI k) 0 (rI k) (fun a => a) (fun _ b => b) := ⟨Foc.here _⟩
instance lf_F (k : FloatKind) : FocC (rF k) 0 (rF k) (fun a => a) (fun _ b => b) := ⟨Foc.here _⟩
instance lf_B : FocC rB 0 rB (fun a => a) (fun _ b => b) := ⟨Foc.here _⟩
instance lf_S : FocC rS 0 rS (fun a => a) (fun _ b => b) := ⟨Foc.here _⟩
instance lf_L {α : Type} (e : Nat) (r : Rep α) : FocC (rSl e r) 0 (rSl e r) (fun a => a) (fun _ b => b) := ⟨Foc.here _⟩
instance lf_2_0 : FocC (rArr 2 (rF .f32)) 0 (rF .f32) (fun l => l[0]!) (fun l b => l.set 0 b) := ⟨(Foc.arr (rF .f32) 0 (by decide)).at rfl⟩
instance lf_2_1 : FocC (rArr 2 (rF .f32)) 1 (rF .f32) (fun l => l[1]!) (fun l b => l.set 1 b) := ⟨(Foc.arr (rF .f32) 1 (by decide)).at rfl⟩
instance lf_3_0 : FocC (rArr 3 (rF .f32)) 0 (rF .f32) (fun l => l[0]!) (fun l b => l.set 0 b) := ⟨(Foc.arr (rF .f32) 0 (by decide)).at rfl⟩
instance lf_3_1 : FocC (rArr 3 (rF .f32)) 1 (rF .f32) (fun l => l[1]!) (fun l b => l.set 1 b) := ⟨(Foc.arr (rF .f32) 1 (by decide)).at rfl⟩
instance lf_3_2 : FocC (rArr 3 (rF .f32)) 2 (rF .f32) (fun l => l[2]!) (fun l b => l.set 2 b) := ⟨(Foc.arr (rF .f32) 2 (by decide)).at rfl⟩
instance lf_4_0 : FocC (rArr 4 (rF .f32)) 0 (rF .f32) (fun l => l[0]!) (fun l b => l.set 0 b) := ⟨(Foc.arr (rF .f32) 0 (by decide)).at rfl⟩
instance lf_4_1 : FocC (rArr 4 (rF .f32)) 1 (rF .f32) (fun l => l[1]!) (fun l b => l.set 1 b) := ⟨(Foc.arr (rF .f32) 1 (by decide)).at rfl⟩
instance lf_4_2 : FocC (rArr 4 (rF .f32)) 2 (rF .f32) (fun l => l[2]!) (fun l b => l.set 2 b) := ⟨(Foc.arr (rF .f32) 2 (by decide)).at rfl⟩
instance lf_4_3 : FocC (rArr 4 (rF .f32)) 3 (rF .f32) (fun l => l[3]!) (fun l b => l.set 3 b) := ⟨(Foc.arr (rF .f32) 3 (by decide)).at rfl⟩
section
variable {α β : Type} {r : Rep α} {h0 h h' : Heap} {q : Addr} {x : α} {off g n : Nat} {L : List Blk} {cs : Array Value}
/-- A value laid in a new block, to be read there. -/
theorem alcR {T : Nat} {F : Nat → Heap → Prop} (R : r.rd h cs.toList x) (H : ∀ g h', Ext h h' → RdP r h' ⟨g, 0, none⟩ x → F g h') : ALC cs T F h := by
  refine H _ _ (Ext.push _ _) ⟨cs.toList, fun i v e => ?_, r.ext (Ext.push _ _) R⟩
  rw [add_g]
  simpa [cell] using e
theorem Mem.rdp (M : Mem h0 h L) (l : Look L g cs) (R : r.rd h cs.toList x) : RdP r h ⟨g, 0, none⟩ x := by
  refine ⟨cs.toList, fun i v e => ?_, R⟩
  rw [add_g, M.cell l]; simpa using e
theorem RdP.pin {p : Prop} (R : RdP r h q x) (hn : r.sz = n) (X : Ext h h') (H : p) : PIN h q n h' p := by
  obtain ⟨vs, h1, h2⟩ := R
  have := r.rlen h2
  exact Sx.pin X (fun j hj => ⟨vs[j]'(by omega), h1 j _ (List.getElem?_eq_getElem (by omega))⟩) H
theorem pin_same {p : Prop} {a : Addr} (H : p) : PIN h a n h p := ⟨fun _ _ => rfl, H⟩
theorem Pt.join {F : Fr} {h'' : Heap} {L2 : List Blk} (P : Pt r h0 h q F L x) (M : Mem h h'' L2) : Pt r h0 h'' q F (L2 ++ L) x := by
  obtain ⟨e, mid, B, N, O⟩ := P
  refine ⟨e, mid, B, ?_, O⟩
  have := N.join M
  refine this.perm ?_
  refine List.perm_middle.trans (List.Perm.cons _ ?_)
  rw [← List.append_assoc, ← List.append_assoc]
  exact List.Perm.append_right _ List.perm_append_comm
theorem Pt.sub {F : Fr} {L2 : List Blk} (P : Pt r h0 h q F L x) (s : L2.Sublist L) : Pt r h0 h q F L2 x := by
  obtain ⟨e, mid, B, N, O⟩ := P
  exact ⟨e, mid, B, N.sub (List.Sublist.cons_cons _ ((List.Sublist.refl _).append s)), O⟩
theorem Pt.drop {F : Fr} {L2 : List Blk} (P : Pt r h0 h q F (L2 ++ L) x) : Pt r h0 h q F L x := P.sub (List.sublist_append_right _ _)
end
section
variable {α : Type} {r : Rep α} {h : Heap} {b : Option Addr} {l c : Nat} {els : List α}
theorem SlR.len (S : SlR r h b l c els) : els.length = l := S.1
theorem SlR.idx [Inhabited α] {i : Int} {F : Addr → Prop} (S : SlR r h b l c els) (hz : 0 < r.sz) (h1 : 0 ≤ i) (h2 : i < l) (H : ∀ a, RdP r h (a.add (i.toNat * r.sz)) els[i.toNat]! → F a) : IDXS b i l F := by
  obtain ⟨a, rfl, R⟩ := S.elem (i := i.toNat) (by omega) hz
  exact idxs h1 h2 (H a R)
theorem RdP.arr {n : Nat} {q : Addr} (R : RdP (rArr n r) h q els) (hn : n ≤ maxLen) : SlR r h (some q) n n els := by
  obtain ⟨vs, h1, h2, h3⟩ := R
  exact ⟨h2, Nat.le_refl _, hn, vs, fun i hi => ⟨q, rfl, by rw [h1 i _ (List.getElem?_eq_getElem hi), List.getElem?_eq_getElem hi]⟩, h3⟩
theorem slP_zero (a : Addr) (n sz : Nat) : slP a n 0 sz = a := by
  unfold slP; split
  · rfl
  · rw [Nat.zero_mul, add0]
theorem RdP.elem [Inhabited α] {n i : Nat} {q : Addr} (R : RdP (rArr n r) h q els) (hi : i < n) : RdP r h (q.add (i * r.sz)) els[i]! := R.foc (Foc.arr r i hi)
theorem RdP.len {n : Nat} {q : Addr} (R : RdP (rArr n r) h q els) : els.length = n := by obtain ⟨vs, _, h2, _⟩ := R; exact h2
end
/-- So far all held; the next one tells. -/
theorem all_false {f : Nat → Bool} {n i : Nat} (hi : i < n) (h : f i = false) : (List.range n).all f = false := by
  rw [List.all_eq_false]
  exact ⟨i, List.mem_range.2 hi, by simp [h]⟩
theorem all_true {f : Nat → Bool} {n : Nat} (h : ∀ i, i < n → f i = true) : (List.range n).all f = true := by
  rw [List.all_eq_true]; intro i hi; exact h i (List.mem_range.1 hi)
end Go.Sx
/- Own slices of data: copied, grown, compared with nil. -/
set_option linter.unusedVariables false
set_option linter.unusedSimpArgs false
namespace Go.Sx

theorem cmp_nil {P : Program} {t e : Nat} {xo yo : Operand} {b : Option Addr} {l c : Nat} {F : Bool → Heap → Prop} {h : Heap} (ht : P.underlying t = some (.slice e)) (H : F b.isNone h) : CMP P .eql t xo yo (.slice b l c) (.slice none 0 0) F h := by
  refine semv fun w hw => ⟨.bool b.isNone, w, ?_, Same.refl _, ?_⟩
  · simp only [Sem.run_bind, eqGuard_at_slice, Sem.run_pure, Result.andThen_ok]
    simp only [binOp]
    simp [run_equal_slice_nil w t e b l c ht]
  · rw [hw]; exact H
/-- Data without blocks of their own. -/
def Flat {α : Type} (r : Rep α) : Prop := ∀ h vs a, r.rd h vs a → r.ow [] vs a
theorem flat_one {α : Type} (f : α → Value) (hf : ∀ a, (f a).oneCell' = true) : Flat (rOne f hf) := fun h vs a e => ⟨rfl, e⟩
theorem flat_I (k : IntKind) : Flat (rI k) := flat_one _ _
theorem flat_S : Flat rS := fun h vs a e => ⟨rfl, e⟩
theorem flat_F (k : FloatKind) : Flat (rF k) := fun h vs a e => ⟨rfl, e⟩
theorem flat_seq {α β : Type} {r : Rep α} {s : Rep β} (hr : Flat r) (hs : Flat s) : Flat (r.seq s) := fun h vs a e => by
  obtain ⟨v1, v2, rfl, h1, h2⟩ := e
  exact ⟨[], [], v1, v2, rfl, rfl, hr _ _ _ h1, hs _ _ _ h2⟩
theorem flat_via {α β : Type} {r : Rep β} {f : α → β} (hr : Flat r) : Flat (r.via f) := fun h vs a e => hr _ _ _ e
theorem flat_rds {α : Type} {r : Rep α} (hr : Flat r) {h : Heap} : ∀ {xs : List α} {vs : List Value}, rds r h vs xs → ows r [] vs xs
  | [], vs, e => ⟨rfl, e⟩
  | a :: xs, vs, e => by
    obtain ⟨v1, v2, rfl, h1, h2⟩ := e
    exact ⟨[], [], v1, v2, rfl, rfl, hr _ _ _ h1, flat_rds hr h2⟩
section
variable {α : Type} {r : Rep α} {P : Program} {h0 h : Heap} {L : List Blk} {t e bytes : Nat} {b : Option Addr} {l c : Nat} {xs : List α} {K : Value → Heap → Prop} {ty : Nat}
theorem SlO.len {B : List Blk} (O : SlO e r B b l c xs) : xs.length = l := O.1
theorem SlO.nil : SlO e r [] none 0 0 [] := ⟨rfl, [], [], [], rfl, ⟨by simp, .inl ⟨rfl, rfl, rfl, rfl⟩⟩, rfl, rfl⟩
theorem SlO.empty (g : Nat) : SlO e r [(g, e, ⟨[]⟩)] (some ⟨g, 0, none⟩) 0 0 [] := ⟨rfl, [], [(g, e, ⟨[]⟩)], [], rfl, ⟨by simp, .inr ⟨g, ⟨[]⟩, rfl, rfl, Nat.le_refl _, Nat.zero_le _, by simp, by simp⟩⟩, rfl, rfl⟩
/-- Cells appended to an own slice. -/
theorem SlO.app {B Bn : List Blk} {a : Addr} {m mc : Nat} {news : List Value} {ys : List α} (E : ElemT P t e r.sz bytes) (O : SlO e r B b l c xs) (M : Mem h0 h (B ++ (Bn ++ L))) (hn : ys.length = m) (hys : ows r Bn news ys)
    (hr : ∀ j v, news[j]? = some v → cell h (a.add j) = some v) (hmax : l + m ≤ maxLen) (hbytes : (l + m) * bytes ≤ 140737488355328)
    (H : ∀ b' c' h' B', SlO e r B' b' (l + m) c' (xs ++ ys) → Mem h0 h' (B' ++ L) → K (.slice b' (l + m) c') h') :
    SEMV P (Builtin.append_ #[t, t] ty #[.slice b l c, .slice (some a) m mc]) K h := by
  obtain ⟨h1, ws, B1, B2, rfl, O1, O2⟩ := O
  have S : Sl h0 h (B2 ++ (Bn ++ L)) e r.sz b l c ws := O1.sl (by simpa using M)
  refine S.app E (by rw [hys.len, hn]) hr hys.one hmax hbytes fun b' c' h' S' => ?_
  obtain ⟨B3, O3, M3⟩ := S'.own
  exact H b' c' h' (B3 ++ (B2 ++ Bn)) ⟨by simp [h1, hn], _, B3, _, rfl, O3, O2.append hys⟩ (by simpa using M3)
/-- One element appended, which has been laid in a block. -/
theorem push_own {B Bn : List Blk} {cs : Array Value} {x : α} (E : ElemT P t e r.sz bytes) (O : SlO e r B b l c xs) (M : Mem h0 h (B ++ (Bn ++ L))) (Ox : r.ow Bn cs.toList x) (hmax : l + 1 ≤ maxLen) (hbytes : (l + 1) * bytes ≤ 140737488355328)
    (H : ∀ b' c' h' B', SlO e r B' b' (l + 1) c' (xs ++ [x]) → Mem h0 h' (B' ++ L) → K (.slice b' (l + 1) c') h') :
    ALC cs e (fun g h => SEMV P (Builtin.append_ #[t, t] ty #[.slice b l c, .slice (some ⟨g, 0, none⟩) 1 1]) K h) h := by
  refine M.alc fun g h1 x1 M1 => ?_
  have M2 : Mem h0 h1 (B ++ (Bn ++ ((g, e, cs) :: L))) := M1.perm (by
    refine List.Perm.symm ?_
    rw [← List.append_assoc, ← List.append_assoc]
    exact List.perm_middle)
  refine O.app (news := cs.toList) E M2 (ys := [x]) rfl ⟨Bn, [], cs.toList, [], by simp, by simp, Ox, rfl, rfl⟩ (fun j v hj => ?_) hmax hbytes fun b' c' h' B' O' M' => H b' c' h' B' O' (M'.sub (List.Sublist.append (List.Sublist.refl _) (List.sublist_cons_self _ _)))
  rw [add_none, Nat.zero_add, M1.cell .here, ← hj, Array.getElem?_toList]
/-- A slice copied to a new one that was empty. -/
theorem append_copy {g : Nat} (E : ElemT P t e r.sz bytes) (hz : 0 < r.sz) (hf : Flat r) (S : SlR r h b l c xs) (M : Mem h0 h ((g, e, ⟨[]⟩) :: L)) (hb : l * bytes ≤ 140737488355328)
    (H : ∀ b' c' h' B', SlO e r B' b' l c' xs → Mem h0 h' (B' ++ L) → K (.slice b' l c') h') : SEMV P (Builtin.append_ #[t, t] ty #[.slice (some ⟨g, 0, none⟩) 0 0, .slice b l c]) K h := by
  obtain ⟨h1, h2, h3, ws, C, R⟩ := S
  cases b with
  | some a =>
    refine (SlO.empty (r := r) g).app (Bn := []) E (by simpa using M) h1 (flat_rds hf R) (fun j v hj => C.get hj) (by omega) (by simpa using hb) fun b' c' h' B' O' M' => ?_
    rw [Nat.zero_add] at O' ⊢
    exact H b' c' h' B' (by simpa using O') M'
  | none =>
    have hw : ws = [] := by
      cases ws with
      | nil => rfl
      | cons w ws => obtain ⟨a, e, _⟩ := C 0 (by simp); cases e
    subst hw
    have hx : xs.length * r.sz = 0 := by rw [← R.len]; rfl
    have hl : l = 0 := by
      rcases Nat.mul_eq_zero.1 hx with h | h <;> omega
    subst hl
    obtain rfl : xs = [] := List.eq_nil_of_length_eq_zero h1
    obtain ⟨i, z, hi, hz', e1, e2, hzs⟩ := E.hi
    refine semv fun w hw => ⟨.slice (some ⟨g, 0, none⟩) 0 0, w, ?_, Same.refl _, by rw [hw]; exact H _ _ _ _ (SlO.empty g) (by simpa using M)⟩
    simp [Builtin.append_, run_underlying E.ht, sizeOf, typeInfo, hi, Builtin.lenOf, Builtin.firstCells, loadCells, loadCellsFrom, storeCells]
end
end Go.Sx
namespace Go.Sx
section
variable {α β : Type} {r : Rep α} {h0 h : Heap} {q : Addr} {F : Fr} {L : List Blk} {a : α} {off : Nat}
/-- A new value: its cells, in blocks of its own. -/
def NewR (r : Rep α) (h h' : Heap) (u : Value) (a : α) : Prop := ∃ cs B, u = .agg cs ∧ r.ow B cs.toList a ∧ Mem h h' B
theorem Pt.hdr {e : Nat} {s : Rep β} {get : α → List β} {put : α → List β → α} (P : Pt r h0 h q F L a) [Fc : FocC r off (rSl e s) get put] : ∃ b l c, cell h (q.add off) = some (.slice b l c) ∧ SlR s h b l c (get a) := by
  obtain ⟨v, e1, b, l, c, e2, S⟩ := P.rd.cell Fc.f rfl
  obtain rfl : v = .slice b l c := by simpa using e2
  exact ⟨b, l, c, e1, S⟩
theorem Pt.stF1 {k : FloatKind} {x n : Nat} {get : α → Nat} {put : α → Nat → α} {K : Heap → Prop} (P : Pt r h0 h q F L a) [Fc : FocC r 0 (rF k) get put] (hx : FW k x n) (H : ∀ h', Pt r h0 h' q F L (put a n) → K h') : ST1 h q (.float k x) K := by
  have := Pt.stF (off := 0) P (Fc := Fc) hx H
  rwa [add0] at this
theorem Pt.stI1 {k : IntKind} {n : Int} {get : α → Int} {put : α → Int → α} {K : Heap → Prop} (P : Pt r h0 h q F L a) [Fc : FocC r 0 (rI k) get put] (H : ∀ h', Pt r h0 h' q F L (put a n) → K h') : ST1 h q (.int k n) K := by
  have := Pt.stI (off := 0) (n := n) P (Fc := Fc) H
  rwa [add0] at this
end
end Go.Sx
