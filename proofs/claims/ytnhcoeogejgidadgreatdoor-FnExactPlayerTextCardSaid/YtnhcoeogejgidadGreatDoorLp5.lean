/- Rules for reading data behind pointers, at whatever form their addresses have; slices read element by element; loops over them. -/
import Derived.Test.YtnhcoeogejgidadGreatDoorLp2
import Derived.Laws.Cover3
set_option linter.unusedVariables false
set_option linter.unusedSimpArgs false
namespace Go.Sx

section
variable {α β : Type} {r : Rep α} {h : Heap} {q : Addr} {x : α} {off g : Nat}
theorem add0 (q : Addr) : q.add 0 = q := by simp [Addr.add]
theorem add_g (g n : Nat) : (⟨g, 0, none⟩ : Addr).add n = ⟨g, n, none⟩ := by rw [add_none, Nat.zero_add]
theorem RdP.foc0 {p : Rep β} {get : α → β} {put : α → β → α} (R : RdP r h ⟨g, 0, none⟩ x) (F : Foc r p off get put) : RdP p h ⟨g, off, none⟩ (get x) := by have := R.foc F; rwa [add_g] at this
theorem RdP.fst {p : Rep β} {get : α → β} {put : α → β → α} (R : RdP r h q x) (F : Foc r p 0 get put) : RdP p h q (get x) := by have := R.foc F; rwa [add0] at this
/-- The cell at the pointer itself. -/
theorem RdP.oI1 {k : IntKind} {get : α → Int} {put : α → Int → α} {K : Int → Prop} (R : RdP r h q x) [F : FocC r 0 (rI k) get put] (H : K (get x)) : Sx.oI k (Sx.cell h q) K := by have := RdP.oI (off := 0) R (F := F) H; rwa [add0] at this
theorem RdP.oS1 {get : α → ByteArray} {put : α → ByteArray → α} {K : ByteArray → Prop} (R : RdP r h q x) [F : FocC r 0 rS get put] (H : (get x).size ≤ maxLen → K (get x)) : Sx.oS (Sx.cell h q) K := by have := RdP.oS (off := 0) R (F := F) H; rwa [add0] at this
theorem RdP.oF1 {k : FloatKind} {get : α → Nat} {put : α → Nat → α} {K : Nat → Prop} (R : RdP r h q x) [F : FocC r 0 (rF k) get put] (H : ∀ y, FW k y (get x) → K y) : Sx.oF k (Sx.cell h q) K := by have := RdP.oF (off := 0) R (F := F) H; rwa [add0] at this
theorem RdP.oL1 {e : Nat} {s : Rep β} {get : α → List β} {put : α → List β → α} {K : Option Addr → Nat → Nat → Prop} (R : RdP r h q x) [F : FocC r 0 (rSl e s) get put] (H : ∀ b l c, SlR s h b l c (get x) → K b l c) : Sx.oL (Sx.cell h q) K := by have := RdP.oL (off := 0) R (F := F) H; rwa [add0] at this
theorem RdP.lda1 {n : Nat} {K : Array Value → Prop} (R : RdP r h q x) (hn : r.sz = n) (H : ∀ cs : Array Value, r.rd h cs.toList x → K cs) : LDA n h q K := by have := R.lda (Foc.here r) hn H; rwa [add0] at this
/-- Cells of a block by its number. -/
theorem RdP.oI2 {k : IntKind} {get : α → Int} {put : α → Int → α} {K : Int → Prop} (R : RdP r h ⟨g, 0, none⟩ x) [F : FocC r off (rI k) get put] (H : K (get x)) : Sx.oI k (Sx.cell h ⟨g, off, none⟩) K := by have := RdP.oI (off := off) R (F := F) H; rwa [add_g] at this
theorem RdP.oB2 {get : α → Bool} {put : α → Bool → α} {K : Bool → Prop} (R : RdP r h ⟨g, 0, none⟩ x) [F : FocC r off rB get put] (H : K (get x)) : Sx.oB (Sx.cell h ⟨g, off, none⟩) K := by have := RdP.oB (off := off) R (F := F) H; rwa [add_g] at this
theorem RdP.oS2 {get : α → ByteArray} {put : α → ByteArray → α} {K : ByteArray → Prop} (R : RdP r h ⟨g, 0, none⟩ x) [F : FocC r off rS get put] (H : (get x).size ≤ maxLen → K (get x)) : Sx.oS (Sx.cell h ⟨g, off, none⟩) K := by have := RdP.oS (off := off) R (F := F) H; rwa [add_g] at this
theorem RdP.oF2 {k : FloatKind} {get : α → Nat} {put : α → Nat → α} {K : Nat → Prop} (R : RdP r h ⟨g, 0, none⟩ x) [F : FocC r off (rF k) get put] (H : ∀ y, FW k y (get x) → K y) : Sx.oF k (Sx.cell h ⟨g, off, none⟩) K := by have := RdP.oF (off := off) R (F := F) H; rwa [add_g] at this
theorem RdP.oL2 {e : Nat} {s : Rep β} {get : α → List β} {put : α → List β → α} {K : Option Addr → Nat → Nat → Prop} (R : RdP r h ⟨g, 0, none⟩ x) [F : FocC r off (rSl e s) get put] (H : ∀ b l c, SlR s h b l c (get x) → K b l c) : Sx.oL (Sx.cell h ⟨g, off, none⟩) K := by have := RdP.oL (off := off) R (F := F) H; rwa [add_g] at this
theorem RdP.lda2 {p : Rep β} {n : Nat} {get : α → β} {put : α → β → α} {K : Array Value → Prop} (R : RdP r h ⟨g, 0, none⟩ x) (F : Foc r p off get put) (hn : p.sz = n) (H : ∀ cs : Array Value, p.rd h cs.toList (get x) → K cs) : LDA n h ⟨g, off, none⟩ K := by have := R.lda F hn H; rwa [add_g] at this
end
instance lf_I (k : IntKind) : FocC (rI k) 0 (rI k) (fun a => a) (fun _ b => b) := ⟨Foc.here _⟩
instance lf_F (k : FloatKind) : FocC (rF k) 0 (rF k) (fun a => a) (fun _ b => b) := ⟨Foc.here _⟩
instance lf_B : FocC rB 0 rB (fun a => a) (fun _ b => b) := ⟨Foc.here _⟩
instance lf_S : FocC rS 0 rS (fun a => a) (fun _ b => b) := ⟨Foc.here _⟩
instance lf_L {α : Type} (e : Nat) (r : Rep α) : FocC (rSl e r) 0 (rSl e r) (fun a => a) (fun _ b => b) := ⟨Foc.here _⟩
instance lf_2_0 : FocC (rArr 2 (rF .f32)) 0 (rF .f32) (fun l => l[0]!) (fun l b => l.set 0 b) := ⟨(Foc.arr (rF .f32) 0 (by decide)).at rfl⟩
instance lf_2_1 : FocC (rArr 2 (rF .f32)) 1 (rF .f32) (fun l => l[1]!) (fun l b => l.set 1 b) := ⟨(Foc.arr (rF .f32) 1 (by decide)).at rfl⟩
instance lf_3_0 : FocC (rArr 3 (rF .f32)) 0 (rF .f32) (fun l => l[0]!) (fun l b => l.set 0 b) := ⟨(Foc.arr (rF .f32) 0 (by decide)).at rfl⟩
instance lf_3_1 : FocC (rArr 3 (rF .f32)) 1 (rF .f32) (fun l => l[1]!) (fun l b => l.set 1 b) := ⟨(Foc.arr (rF .f32) 1 (by decide)).at rfl⟩
instance lf_3_2 : FocC (rArr 3 (rF .f32)) 2 (rF .f32) (fun l => l[2]!) (fun l b => l.set 2 b) := ⟨(Foc.arr (rF .f32) 2 (by decide)).at rfl⟩
instance lf_4_0 : FocC (rArr 4 (rF .f32)) 0 (rF .f32) (fun l => l[0]!) (fun l b => l.set 0 b) := ⟨(Foc.arr (rF .f32) 0 (by decide)).at rfl⟩
instance lf_4_1 : FocC (rArr 4 (rF .f32)) 1 (rF .f32) (fun l => l[1]!) (fun l b => l.set 1 b) := ⟨(Foc.arr (rF .f32) 1 (by decide)).at rfl⟩
instance lf_4_2 : FocC (rArr 4 (rF .f32)) 2 (rF .f32) (fun l => l[2]!) (fun l b => l.set 2 b) := ⟨(Foc.arr (rF .f32) 2 (by decide)).at rfl⟩
instance lf_4_3 : FocC (rArr 4 (rF .f32)) 3 (rF .f32) (fun l => l[3]!) (fun l b => l.set 3 b) := ⟨(Foc.arr (rF .f32) 3 (by decide)).at rfl⟩
section
variable {α β : Type} {r : Rep α} {h0 h h' : Heap} {q : Addr} {x : α} {off g n : Nat} {L : List Blk} {cs : Array Value}
/-- A value laid in a new block, to be read there. -/
theorem alcR {T : Nat} {F : Nat → Heap → Prop} (R : r.rd h cs.toList x) (H : ∀ g h', Ext h h' → RdP r h' ⟨g, 0, none⟩ x → F g h') : ALC cs T F h := by
  refine H _ _ (Ext.push _ _) ⟨cs.toList, fun i v e => ?_, r.ext (Ext.push _ _) R⟩
  rw [add_g]
  simpa [cell] using e
theorem Mem.rdp (M : Mem h0 h L) (l : Look L g cs) (R : r.rd h cs.toList x) : RdP r h ⟨g, 0, none⟩ x := by
  refine ⟨cs.toList, fun i v e => ?_, R⟩
  rw [add_g, M.cell l]; simpa using e
theorem RdP.pin {p : Prop} (R : RdP r h q x) (hn : r.sz = n) (X : Ext h h') (H : p) : PIN h q n h' p := by
  obtain ⟨vs, h1, h2⟩ := R
  have := r.rlen h2
  exact Sx.pin X (fun j hj => ⟨vs[j]'(by omega), h1 j _ (List.getElem?_eq_getElem (by omega))⟩) H
theorem pin_same {p : Prop} {a : Addr} (H : p) : PIN h a n h p := ⟨fun _ _ => rfl, H⟩
theorem Pt.join {F : Fr} {h'' : Heap} {L2 : List Blk} (P : Pt r h0 h q F L x) (M : Mem h h'' L2) : Pt r h0 h'' q F (L2 ++ L) x := by
  obtain ⟨e, mid, B, N, O⟩ := P
  refine ⟨e, mid, B, ?_, O⟩
  have := N.join M
  refine this.perm ?_
  refine List.perm_middle.trans (List.Perm.cons _ ?_)
  rw [← List.append_assoc, ← List.append_assoc]
  exact List.Perm.append_right _ List.perm_append_comm
theorem Pt.sub {F : Fr} {L2 : List Blk} (P : Pt r h0 h q F L x) (s : L2.Sublist L) : Pt r h0 h q F L2 x := by
  obtain ⟨e, mid, B, N, O⟩ := P
  exact ⟨e, mid, B, N.sub (List.Sublist.cons_cons _ ((List.Sublist.refl _).append s)), O⟩
theorem Pt.drop {F : Fr} {L2 : List Blk} (P : Pt r h0 h q F (L2 ++ L) x) : Pt r h0 h q F L x := P.sub (List.sublist_append_right _ _)
end
section
variable {α : Type} {r : Rep α} {h : Heap} {b : Option Addr} {l c : Nat} {els : List α}
theorem SlR.len (S : SlR r h b l c els) : els.length = l := S.1
theorem SlR.idx [Inhabited α] {i : Int} {F : Addr → Prop} (S : SlR r h b l c els) (hz : 0 < r.sz) (h1 : 0 ≤ i) (h2 : i < l) (H : ∀ a, RdP r h (a.add (i.toNat * r.sz)) els[i.toNat]! → F a) : IDXS b i l F := by
  obtain ⟨a, rfl, R⟩ := S.elem (i := i.toNat) (by omega) hz
  exact idxs h1 h2 (H a R)
theorem RdP.arr {n : Nat} {q : Addr} (R : RdP (rArr n r) h q els) (hn : n ≤ maxLen) : SlR r h (some q) n n els := by
  obtain ⟨vs, h1, h2, h3⟩ := R
  exact ⟨h2, Nat.le_refl _, hn, vs, fun i hi => ⟨q, rfl, by rw [h1 i _ (List.getElem?_eq_getElem hi), List.getElem?_eq_getElem hi]⟩, h3⟩
theorem slP_zero (a : Addr) (n sz : Nat) : slP a n 0 sz = a := by
  unfold slP; split
  · rfl
  · rw [Nat.zero_mul, add0]
theorem RdP.elem [Inhabited α] {n i : Nat} {q : Addr} (R : RdP (rArr n r) h q els) (hi : i < n) : RdP r h (q.add (i * r.sz)) els[i]! := R.foc (Foc.arr r i hi)
theorem RdP.len {n : Nat} {q : Addr} (R : RdP (rArr n r) h q els) : els.length = n := by obtain ⟨vs, _, h2, _⟩ := R; exact h2
end
/-- All elements of a list, told by their places. -/
theorem all_range {α : Type} [Inhabited α] (p : α → Bool) (l : List α) : l.all p = (List.range l.length).all fun i => p l[i]! := by
  rw [Bool.eq_iff_iff]
  simp only [List.all_eq_true, List.mem_range]
  constructor
  · intro h i hi; rw [getElem!_pos l i hi]; exact h _ (List.getElem_mem hi)
  · intro h x hx
    obtain ⟨i, hi, rfl⟩ := List.mem_iff_getElem.1 hx
    have := h i hi
    rwa [getElem!_pos l i hi] at this
/-- So far all held; the next one tells. -/
theorem all_false {f : Nat → Bool} {n i : Nat} (hi : i < n) (h : f i = false) : (List.range n).all f = false := by
  rw [List.all_eq_false]
  exact ⟨i, List.mem_range.2 hi, by simp [h]⟩
theorem all_true {f : Nat → Bool} {n : Nat} (h : ∀ i, i < n → f i = true) : (List.range n).all f = true := by
  rw [List.all_eq_true]; intro i hi; exact h i (List.mem_range.1 hi)
end Go.Sx
/- Own slices of data: copied, grown, compared with nil. -/
set_option linter.unusedVariables false
set_option linter.unusedSimpArgs false
namespace Go.Sx

/-- Data without blocks of their own. -/
def Flat {α : Type} (r : Rep α) : Prop := ∀ h vs a, r.rd h vs a → r.ow [] vs a
theorem flat_one {α : Type} (f : α → Value) (hf : ∀ a, (f a).oneCell' = true) : Flat (rOne f hf) := fun h vs a e => ⟨rfl, e⟩
theorem flat_I (k : IntKind) : Flat (rI k) := flat_one _ _
theorem flat_F (k : FloatKind) : Flat (rF k) := fun h vs a e => ⟨rfl, e⟩
theorem flat_seq {α β : Type} {r : Rep α} {s : Rep β} (hr : Flat r) (hs : Flat s) : Flat (r.seq s) := fun h vs a e => by
  obtain ⟨v1, v2, rfl, h1, h2⟩ := e
  exact ⟨[], [], v1, v2, rfl, rfl, hr _ _ _ h1, hs _ _ _ h2⟩
theorem flat_via {α β : Type} {r : Rep β} {f : α → β} (hr : Flat r) : Flat (r.via f) := fun h vs a e => hr _ _ _ e
section
variable {α : Type} {r : Rep α} {P : Program} {h0 h : Heap} {L : List Blk} {t e bytes : Nat} {b : Option Addr} {l c : Nat} {xs : List α} {K : Value → Heap → Prop} {ty : Nat}
theorem SlO.len {B : List Blk} (O : SlO e r B b l c xs) : xs.length = l := O.1
theorem SlO.nil : SlO e r [] none 0 0 [] := ⟨rfl, [], [], [], rfl, ⟨by simp, .inl ⟨rfl, rfl, rfl, rfl⟩⟩, rfl, rfl⟩
theorem SlO.empty (g : Nat) : SlO e r [(g, e, ⟨[]⟩)] (some ⟨g, 0, none⟩) 0 0 [] := ⟨rfl, [], [(g, e, ⟨[]⟩)], [], rfl, ⟨by simp, .inr ⟨g, ⟨[]⟩, rfl, rfl, Nat.le_refl _, Nat.zero_le _, by simp, by simp⟩⟩, rfl, rfl⟩
/-- Cells appended to an own slice. -/
theorem SlO.app {B Bn : List Blk} {a : Addr} {m mc : Nat} {news : List Value} {ys : List α} (E : ElemT P t e r.sz bytes) (O : SlO e r B b l c xs) (M : Mem h0 h (B ++ (Bn ++ L))) (hn : ys.length = m) (hys : ows r Bn news ys)
    (hr : ∀ j v, news[j]? = some v → cell h (a.add j) = some v) (hmax : l + m ≤ maxLen) (hbytes : (l + m) * bytes ≤ 140737488355328)
    (H : ∀ b' c' h' B', SlO e r B' b' (l + m) c' (xs ++ ys) → Mem h0 h' (B' ++ L) → K (.slice b' (l + m) c') h') :
    SEMV P (Builtin.append_ #[t, t] ty #[.slice b l c, .slice (some a) m mc]) K h := by
  obtain ⟨h1, ws, B1, B2, rfl, O1, O2⟩ := O
  have S : Sl h0 h (B2 ++ (Bn ++ L)) e r.sz b l c ws := O1.sl (by simpa using M)
  refine S.app E (by rw [hys.len, hn]) hr hys.one hmax hbytes fun b' c' h' S' => ?_
  obtain ⟨B3, O3, M3⟩ := S'.own
  exact H b' c' h' (B3 ++ (B2 ++ Bn)) ⟨by simp [h1, hn], _, B3, _, rfl, O3, O2.append hys⟩ (by simpa using M3)
/-- One element appended, which has been laid in a block. -/
theorem push_own {B Bn : List Blk} {cs : Array Value} {x : α} (E : ElemT P t e r.sz bytes) (O : SlO e r B b l c xs) (M : Mem h0 h (B ++ (Bn ++ L))) (Ox : r.ow Bn cs.toList x) (hmax : l + 1 ≤ maxLen) (hbytes : (l + 1) * bytes ≤ 140737488355328)
    (H : ∀ b' c' h' B', SlO e r B' b' (l + 1) c' (xs ++ [x]) → Mem h0 h' (B' ++ L) → K (.slice b' (l + 1) c') h') :
    ALC cs e (fun g h => SEMV P (Builtin.append_ #[t, t] ty #[.slice b l c, .slice (some ⟨g, 0, none⟩) 1 1]) K h) h := by
  refine M.alc fun g h1 x1 M1 => ?_
  have M2 : Mem h0 h1 (B ++ (Bn ++ ((g, e, cs) :: L))) := M1.perm (by
    refine List.Perm.symm ?_
    rw [← List.append_assoc, ← List.append_assoc]
    exact List.perm_middle)
  refine O.app (news := cs.toList) E M2 (ys := [x]) rfl ⟨Bn, [], cs.toList, [], by simp, by simp, Ox, rfl, rfl⟩ (fun j v hj => ?_) hmax hbytes fun b' c' h' B' O' M' => H b' c' h' B' O' (M'.sub (List.Sublist.append (List.Sublist.refl _) (List.sublist_cons_self _ _)))
  rw [add_none, Nat.zero_add, M1.cell .here, ← hj, Array.getElem?_toList]
end
end Go.Sx
namespace Go.Sx
section
variable {α β : Type} {r : Rep α} {h0 h : Heap} {q : Addr} {F : Fr} {L : List Blk} {a : α} {off : Nat}
/-- A new value: its cells, in blocks of its own. -/
def NewR (r : Rep α) (h h' : Heap) (u : Value) (a : α) : Prop := ∃ cs B, u = .agg cs ∧ r.ow B cs.toList a ∧ Mem h h' B
theorem Pt.hdr {e : Nat} {s : Rep β} {get : α → List β} {put : α → List β → α} (P : Pt r h0 h q F L a) [Fc : FocC r off (rSl e s) get put] : ∃ b l c, cell h (q.add off) = some (.slice b l c) ∧ SlR s h b l c (get a) := by
  obtain ⟨v, e1, b, l, c, e2, S⟩ := P.rd.cell Fc.f rfl
  obtain rfl : v = .slice b l c := by simpa using e2
  exact ⟨b, l, c, e1, S⟩
theorem Pt.hdr1 {e : Nat} {s : Rep β} {get : α → List β} {put : α → List β → α} (P : Pt r h0 h q F L a) [Fc : FocC r 0 (rSl e s) get put] : ∃ b l c, cell h q = some (.slice b l c) ∧ SlR s h b l c (get a) := by
  obtain ⟨b, l, c, e, S⟩ := P.hdr (off := 0) (Fc := Fc)
  exact ⟨b, l, c, by rwa [add0] at e, S⟩
theorem Pt.stF1 {k : FloatKind} {x n : Nat} {get : α → Nat} {put : α → Nat → α} {K : Heap → Prop} (P : Pt r h0 h q F L a) [Fc : FocC r 0 (rF k) get put] (hx : FW k x n) (H : ∀ h', Pt r h0 h' q F L (put a n) → K h') : ST1 h q (.float k x) K := by
  have := Pt.stF (off := 0) P (Fc := Fc) hx H
  rwa [add0] at this
end
end Go.Sx
/- Own blocks counted (their order does not matter); values put together out of parts; results of calls taken up. -/
set_option linter.unusedVariables false
set_option linter.unusedSimpArgs false
namespace Go.Sx
theorem maxLen_le : (maxLen : Nat) ≤ 9223372036854775807 := by decide
theorem nt {b : Bool} (h : (!b) = true) : b = false := by cases b <;> simp_all
theorem nf {b : Bool} (h : (!b) = false) : b = true := by cases b <;> simp_all
open Classical

noncomputable def cnt (p : Blk) (L : List Blk) : Nat := L.countP fun q => decide (q = p)
theorem cnt_nil (p : Blk) : cnt p [] = 0 := rfl
theorem cnt_cons (p q : Blk) (L : List Blk) : cnt p (q :: L) = (if q = p then 1 else 0) + cnt p L := by
  unfold cnt
  rw [List.countP_cons]
  by_cases h : q = p <;> simp [h]; omega
theorem cnt_app (p : Blk) (L M : List Blk) : cnt p (L ++ M) = cnt p L + cnt p M := by unfold cnt; exact List.countP_append
theorem cnt_pos {p : Blk} {L : List Blk} : 0 < cnt p L ↔ p ∈ L := by
  unfold cnt; rw [List.countP_pos_iff]; simp
theorem Mem.one {h0 h : Heap} {L : List Blk} (M : Mem h0 h L) (p : Blk) : cnt p L ≤ 1 := by
  have hne := M.ne
  clear M
  induction L with
  | nil => rw [cnt_nil]; omega
  | cons q L ih =>
    obtain ⟨h1, h2⟩ := List.pairwise_cons.1 hne
    have h3 := ih h2
    rw [cnt_cons]
    split
    · next e =>
      subst e
      have : cnt q L = 0 := by
        rcases Nat.eq_zero_or_pos (cnt q L) with h | h
        · exact h
        · exact absurd rfl (h1 q (cnt_pos.1 h))
      omega
    · omega
/-- Fewer blocks, in whatever order. -/
theorem Mem.cnt {h0 h : Heap} {L W : List Blk} (M : Mem h0 h L) (hc : ∀ p, Sx.cnt p W ≤ Sx.cnt p L) : Mem h0 h W := by
  have hm : ∀ p ∈ W, p ∈ L := fun p hp => cnt_pos.1 (Nat.lt_of_lt_of_le (cnt_pos.2 hp) (hc p))
  refine ⟨M.ext, fun p hp => M.at_ p (hm p hp), ?_⟩
  have h1 : ∀ p, Sx.cnt p W ≤ 1 := fun p => Nat.le_trans (hc p) (M.one p)
  have hu : ∀ p ∈ L, ∀ q ∈ L, p.1 = q.1 → p = q := by
    intro p hp q hq e
    have a := (M.at_ p hp).2
    have b := (M.at_ q hq).2
    rw [e] at a
    rw [a] at b
    obtain ⟨p1, p2, p3⟩ := p
    obtain ⟨q1, q2, q3⟩ := q
    simp only at e
    subst e
    simp only [Option.some.injEq, Obj.cells.injEq] at b
    rw [b.1, b.2.1]
  clear hc
  induction W with
  | nil => exact List.Pairwise.nil
  | cons q W ih =>
    refine List.pairwise_cons.2 ⟨fun p hp e => ?_, ih (fun p hp => hm p (.tail _ hp)) (fun p => ?_)⟩
    · have := hu q (hm q (.head _)) p (hm p (.tail _ hp)) e
      subst this
      have h2 := h1 q
      rw [cnt_cons, if_pos rfl] at h2
      have := cnt_pos.2 hp
      omega
    · have h2 := h1 p
      rw [cnt_cons] at h2
      omega
section
variable {α β : Type} {r : Rep α} {p : Rep β} {h0 h h' hb : Heap} {L : List Blk}
/-- Nothing but what lies within the data is looked at. -/
theorem RdP.pinO {q : Addr} {x : α} {off n : Nat} {P : Prop} (R : RdP r hb q x) (ho : off + n ≤ r.sz) (X : Ext hb h) (H : P) : PIN hb (q.add off) n h P := by
  obtain ⟨vs, h1, h2⟩ := R
  have := r.rlen h2
  exact Sx.pin X (fun j hj => ⟨vs[off + j]'(by omega), by rw [add_add']; exact h1 _ _ (List.getElem?_eq_getElem (by omega))⟩) H
theorem RdP.pin0 {q : Addr} {x : α} {n : Nat} {P : Prop} (R : RdP r hb q x) (ho : n ≤ r.sz) (X : Ext hb h) (H : P) : PIN hb q n h P := by
  have := RdP.pinO (off := 0) (n := n) R (by omega) X H
  rwa [add0] at this
theorem RdP.pin2 {g : Nat} {x : α} {off n : Nat} {P : Prop} (R : RdP r hb ⟨g, 0, none⟩ x) (ho : off + n ≤ r.sz) (X : Ext hb h) (H : P) : PIN hb ⟨g, off, none⟩ n h P := by
  have := RdP.pinO (off := off) (n := n) R ho X H
  rwa [add_g] at this
/-- A new value taken up beside what is there. -/
theorem NewR.go {P : Program} {f : FuncId} {args : Array Value} {a : α} {K : Value → Heap → Prop} (M : Mem hb h L) (c : CALL P f args (fun u h' => NewR r h h' u a) h) (H : ∀ h' cs B, Mem hb h' (B ++ L) → r.ow B cs.toList a → cs.size = r.sz → K (.agg cs) h') : CALL P f args K h :=
  c.mono fun u h' ⟨cs, B, e, O, N⟩ => by subst e; exact H h' cs B (M.join N) O (by simpa using r.olen O)
/-- A value answered, nothing else changed. -/
theorem goM {P : Program} {f : FuncId} {args : Array Value} {v : Value} {K : Value → Heap → Prop} (M : Mem hb h L) (c : CALL P f args (fun u h' => u = v ∧ Ext h h') h) (H : ∀ h', Mem hb h' L → K v h') : CALL P f args K h :=
  c.mono fun u h' ⟨e, x⟩ => by subst e; exact H h' (M.grow x)
theorem goX {P : Program} {f : FuncId} {args : Array Value} {v : Value} {K : Value → Heap → Prop} (c : CALL P f args (fun u h' => u = v ∧ Ext h h') h) (H : ∀ h', Ext h h' → K v h') : CALL P f args K h :=
  c.mono fun u h' ⟨e, x⟩ => by subst e; exact H h' x
end
end Go.Sx
namespace Go.Sx
section
variable {α : Type} {r : Rep α} {h0 h h' : Heap} {L : List Blk}
theorem rsz {n : Nat} {cs : Array Value} {a : α} (R : r.rd h cs.toList a) (hn : r.sz = n) : cs.size = n := by have := r.rlen R; rw [Array.length_toList] at this; omega
theorem osz {n : Nat} {cs : Array Value} {B : List Blk} {a : α} (R : r.ow B cs.toList a) (hn : r.sz = n) : cs.size = n := by have := r.olen R; rw [Array.length_toList] at this; omega
/-- A part put into a value that is read. -/
theorem rd_splice {β : Type} {p : Rep β} {cells : List Value} {cs : Array Value} {a : α} {b : β} {off n : Nat} {get : α → β} {put : α → β → α} (O : r.rd h cells a) (hi : ∀ {vs : List Value} {x : α}, r.rd h vs x → ∃ pre mid post, pre.length = off ∧ vs = pre ++ (mid ++ post) ∧ mid.length = n ∧ ∀ mid' b', p.rd h mid' b' → r.rd h (pre ++ (mid' ++ post)) (put x b'))
    (O' : p.rd h cs.toList b) : r.rd h (splice off n cs cells) (put a b) := by
  obtain ⟨pre, mid, post, e1, rfl, e2, k⟩ := hi O
  have e : splice off n cs (pre ++ (mid ++ post)) = pre ++ (cs.toList ++ post) := by
    unfold splice
    rw [← e1, List.take_left, ← List.drop_drop, List.drop_left, ← e2, List.drop_left]
  rw [e]
  exact k _ _ O'
theorem arr_put {n i : Nat} (hi : i < n) {vs : List Value} {xs : List α} (R : (rArr n r).rd h vs xs) : ∃ pre mid post, pre.length = i * r.sz ∧ vs = pre ++ (mid ++ post) ∧ mid.length = r.sz ∧ ∀ mid' b', r.rd h mid' b' → (rArr n r).rd h (pre ++ (mid' ++ post)) (xs.set i b') := by
  obtain ⟨e0, R⟩ := R
  obtain ⟨pre, mid, post, e1, e2, h1, h2, h3⟩ := R.at (i := i) (by omega)
  refine ⟨pre, mid, post, e1, e2, r.rlen h1, fun mid' b' hb => ⟨by simpa using e0, ?_⟩⟩
  have : xs.set i b' = xs.take i ++ (b' :: xs.drop (i + 1)) := by
    rw [List.set_eq_take_append_cons_drop, if_pos (by omega)]
  rw [this]
  exact rds.append h2 ⟨mid', post, rfl, hb, h3⟩
theorem rArr_slr {n : Nat} {cs : List Value} {xs : List α} (R : (rArr n r).rd h cs xs) {T : Nat} {F : Nat → Heap → Prop} (hn : n ≤ maxLen) (H : ∀ g h', Ext h h' → SlR r h' (some ⟨g, 0, none⟩) n n xs → F g h') : ALC ⟨cs⟩ T F h :=
  alcR (cs := ⟨cs⟩) R fun g h' x R' => H g h' x (R'.arr hn)
end
end Go.Sx
namespace Go.Sx
theorem siz {n m : Nat} {p : Prop} (e : n = m) (H : p) : SIZ n m p := ⟨e, H⟩
section
variable {α : Type} {r : Rep α} {h0 h : Heap} {q : Addr} {F : Fr} {L W : List Blk} {a : α}
theorem Pt.cnt (P : Pt r h0 h q F L a) (hc : ∀ p, Sx.cnt p W ≤ Sx.cnt p L) : Pt r h0 h q F W a := by
  obtain ⟨e, mid, B, M, O⟩ := P
  refine ⟨e, mid, B, M.cnt fun p => ?_, O⟩
  have := hc p
  simp only [cnt_cons, cnt_app]
  omega
/-- A result of a call put beside own data. -/
theorem NewR.pt {β : Type} {s : Rep β} {P : Program} {f : FuncId} {args : Array Value} {b : β} {K : Value → Heap → Prop} (Pa : Pt r h0 h q F L a) (c : CALL P f args (fun u h' => NewR s h h' u b) h) (H : ∀ h' cs B, Pt r h0 h' q F (B ++ L) a → s.ow B cs.toList b → cs.size = s.sz → K (.agg cs) h') : CALL P f args K h :=
  c.mono fun u h' ⟨cs, B, e, O, N⟩ => by subst e; exact H h' cs B (Pa.join N) O (by simpa using s.olen O)
end
end Go.Sx
namespace Go.Sx
theorem Pick.skip {B L L' : List Blk} {g T : Nat} {cs : Array Value} (k : Pick L g T cs L') : Pick (B ++ L) g T cs (B ++ L') := by
  induction B with
  | nil => exact k
  | cons p B ih => exact .there ih
theorem Look.skip {B L : List Blk} {g : Nat} {cs : Array Value} (k : Look L g cs) : Look (B ++ L) g cs := by
  induction B with
  | nil => exact k
  | cons p B ih => exact .there ih
end Go.Sx
namespace Go.Sx
section
variable {α : Type} {r : Rep α} {h0 h : Heap} {L : List Blk}
theorem Mem.st1M {g T j : Nat} {pre post : List Value} {u v : Value} {F : Heap → Prop} (M : Mem h0 h ((g, T, ⟨pre ++ ([u] ++ post)⟩) :: L)) (hj : pre.length = j)
    (H : ∀ h', Mem h0 h' ((g, T, ⟨pre ++ ([v] ++ post)⟩) :: L) → F h') : ST1 h ⟨g, j, none⟩ v F := by
  refine M.st1 .here (by simp; omega) .here fun h' M' => H h' ?_
  have : (⟨pre ++ ([u] ++ post)⟩ : Array Value).setIfInBounds j v = ⟨pre ++ ([v] ++ post)⟩ := by
    have := set_mid pre [u] post 0 v (by simp)
    rw [Nat.add_zero, hj] at this
    exact this
  rw [this] at M'
  exact M'
end
end Go.Sx
namespace Go.Sx
end Go.Sx
namespace Go.Sx
section
variable {α β : Type} {r : Rep α} {p : Rep β} {h0 h : Heap} {g : Nat} {F : Fr} {L : List Blk} {a : α} {off : Nat}
theorem Pt.stI2 {k : IntKind} {n : Int} {get : α → Int} {put : α → Int → α} {K : Heap → Prop} (P : Pt r h0 h ⟨g, 0, none⟩ F L a) [Fc : FocC r off (rI k) get put] (H : ∀ h', Pt r h0 h' ⟨g, 0, none⟩ F L (put a n) → K h') : ST1 h ⟨g, off, none⟩ (.int k n) K := by
  have := Pt.stI (off := off) (n := n) P (Fc := Fc) H
  rwa [add_g] at this
theorem Pt.stB2 {n : Bool} {get : α → Bool} {put : α → Bool → α} {K : Heap → Prop} (P : Pt r h0 h ⟨g, 0, none⟩ F L a) [Fc : FocC r off rB get put] (H : ∀ h', Pt r h0 h' ⟨g, 0, none⟩ F L (put a n) → K h') : ST1 h ⟨g, off, none⟩ (.bool n) K := by
  have := Pt.stB (off := off) (n := n) P (Fc := Fc) H
  rwa [add_g] at this
theorem Pt.stS2 {n : ByteArray} {get : α → ByteArray} {put : α → ByteArray → α} {K : Heap → Prop} (P : Pt r h0 h ⟨g, 0, none⟩ F L a) [Fc : FocC r off rS get put] (hn : n.size ≤ maxLen) (H : ∀ h', Pt r h0 h' ⟨g, 0, none⟩ F L (put a n) → K h') : ST1 h ⟨g, off, none⟩ (.string n) K := by
  have := Pt.stS (off := off) (n := n) P (Fc := Fc) hn H
  rwa [add_g] at this
theorem Pt.stFg {k : FloatKind} {x n : Nat} {get : α → Nat} {put : α → Nat → α} {K : Heap → Prop} (P : Pt r h0 h ⟨g, 0, none⟩ F L a) [Fc : FocC r off (rF k) get put] (hx : FW k x n) (H : ∀ h', Pt r h0 h' ⟨g, 0, none⟩ F L (put a n) → K h') : ST1 h ⟨g, off, none⟩ (.float k x) K := by
  have := Pt.stF (off := off) P (Fc := Fc) hx H
  rwa [add_g] at this
theorem Pt.stLg {B : List Blk} {e : Nat} {s : Rep β} {get : α → List β} {put : α → List β → α} {b : Option Addr} {l c : Nat} {xs : List β} {K : Heap → Prop} (P : Pt r h0 h ⟨g, 0, none⟩ F (B ++ L) a) [Fc : FocC r off (rSl e s) get put] (O : SlO e s B b l c xs)
    (H : ∀ h', Pt r h0 h' ⟨g, 0, none⟩ F L (put a xs) → K h') : ST1 h ⟨g, off, none⟩ (.slice b l c) K := by
  have := Pt.st P Fc.f rfl ⟨b, l, c, rfl, O⟩ H
  rwa [add_g] at this
theorem Pt.stsg {get : α → β} {put : α → β → α} {b : β} {n : Nat} {vs : Array Value} {B' : List Blk} {K : Heap → Prop} (P : Pt r h0 h ⟨g, 0, none⟩ F (B' ++ L) a) (Fc : Foc r p off get put) (hp : p.sz = n) (O : p.ow B' vs.toList b)
    (H : ∀ h', Pt r h0 h' ⟨g, 0, none⟩ F L (put a b) → K h') : STA n h ⟨g, off, none⟩ vs K := by
  have := Pt.sts P Fc hp O H
  rwa [add_g] at this
end
def nL {α : Type} (n : α → Nat) : List α → Nat
  | [] => 0
  | x :: xs => n x + nL n xs
section
variable {α : Type} {mk : α → Nat → α} {n : α → Nat}
theorem nL_app (xs ys : List α) : nL n (xs ++ ys) = nL n xs + nL n ys := by
  induction xs with
  | nil => simp [nL]
  | cons x xs ih => simp only [List.cons_append, nL, ih]; omega
theorem nL_take_le (xs : List α) (i : Nat) : nL n (xs.take i) ≤ nL n xs := by
  have := nL_app (n := n) (xs.take i) (xs.drop i)
  rw [List.take_append_drop] at this
  omega
theorem nL_snoc [Inhabited α] {xs : List α} {i : Nat} (hi : i < xs.length) : nL n (xs.take (i + 1)) = nL n (xs.take i) + n xs[i]! := by
  rw [List.take_succ_eq_append_getElem hi, nL_app, getElem!_pos xs i hi]
  simp [nL]
end
end Go.Sx
namespace Go.Sx
section
variable {α : Type} {r : Rep α}
theorem nL_mem [Inhabited α] {n : α → Nat} {xs : List α} {i : Nat} (hi : i < xs.length) : n xs[i]! ≤ nL n xs := by
  have h1 := nL_snoc (n := n) hi
  have h2 := nL_take_le (n := n) xs (i + 1)
  omega
theorem ows_rep {zc : List Value} {z : α} (O : r.ow [] zc z) : ∀ n : Nat, ows r [] (List.replicate n zc).flatten (List.replicate n z)
  | 0 => ⟨rfl, rfl⟩
  | n + 1 => ⟨[], [], zc, (List.replicate n zc).flatten, rfl, rfl, O, ows_rep O n⟩
theorem rep_get {zc : List Value} (hz : 0 < zc.length) : ∀ (n i : Nat), i < n * zc.length → (List.replicate n zc).flatten[i]? = zc[i % zc.length]?
  | 0, i, h => by omega
  | n + 1, i, h => by
    rw [List.replicate_succ, List.flatten_cons]
    by_cases h1 : i < zc.length
    · rw [List.getElem?_append_left h1, Nat.mod_eq_of_lt h1]
    · rw [List.getElem?_append_right (by omega), rep_get hz n _ (by rw [Nat.add_mul] at h; omega)]
      conv => rhs; rw [Nat.mod_eq_sub_mod (by omega)]
/-- make([]T, n, n). -/
theorem make_sl {i : TI} {e n : Nat} {zc : List Value} {z : α} {F : Nat → Heap → Prop} {h0 h : Heap} {L : List Blk} (O : r.ow [] zc z) (hs : i.size = r.sz) (hz : i.zero = zc) (hp : 0 < r.sz) (M : Mem h0 h L) (hb : i.bytes * n ≤ 2 ^ 48) (hn : n ≤ maxLen)
    (H : ∀ g h', Ext h h' → Mem h0 h' ((g, e, ⟨(List.replicate n zc).flatten⟩) :: L) → SlO e r [(g, e, ⟨(List.replicate n zc).flatten⟩)] (some ⟨g, 0, none⟩) n n (List.replicate n z) → F g h') : MKS i e (n : Int) (n : Int) F h := by
  have hzl : zc.length = r.sz := r.olen O
  have hne : i.zero ≠ [] := by rw [hz]; intro h; rw [h] at hzl; simp at hzl; omega
  have hm := maxLen_le
  refine ⟨⟨by omega, by omega, by exact_mod_cast hb, by omega, hne⟩, ?_⟩
  have hfl : (List.replicate n zc).flatten.length = n * r.sz := by rw [List.length_flatten]; simp [hzl]
  have e1 : ((Array.range ((n : Int).toNat * i.size)).map fun j => (⟨i.zero⟩ : Array Value)[j % (⟨i.zero⟩ : Array Value).size]!) = ⟨(List.replicate n zc).flatten⟩ := by
    apply Array.ext_getElem?
    intro k
    rw [Int.toNat_natCast, hs, hz]
    simp only [Array.getElem?_map, List.getElem?_toArray, List.size_toArray]
    by_cases hk : k < n * r.sz
    · rw [Array.getElem?_range, if_pos hk]
      simp only [Option.map_some]
      rw [rep_get (by omega) n k (by rw [hzl]; exact hk)]
      have hlt : k % zc.length < zc.length := Nat.mod_lt _ (by omega)
      rw [List.getElem?_eq_getElem hlt]
      congr 1
      rw [getElem!_pos _ _ (by simpa using hlt)]
      simp
    · rw [Array.getElem?_range, if_neg hk, List.getElem?_eq_none (by omega)]; rfl
  rw [e1]
  refine M.alc fun g h' x' M' => H g h' x' M' ⟨by simp, (List.replicate n zc).flatten, [_], [], rfl, ⟨hfl, .inr ⟨g, _, rfl, rfl, Nat.le_refl _, hn, by simpa using hfl, ?_⟩⟩, ows_rep O n⟩
  rw [List.take_of_length_le]
  show (List.replicate n zc).flatten.length ≤ n * r.sz
  omega
end
end Go.Sx
namespace Go.Sx
/-- An element of an own slice, whatever else there is. -/
theorem SlO.elem2 {β : Type} [Inhabited β] {e : Nat} {s : Rep β} {B : List Blk} {b : Option Addr} {l c i : Nat} {xs : List β} (S : SlO e s B b l c xs) (hi : i < l) :
    ∃ a0 F' C, b = some a0 ∧ (∀ h0 h L, Mem h0 h (B ++ L) → Pt s h0 h (a0.add (i * s.sz)) F' (C ++ L) xs[i]!) ∧ ∀ h0' h' L x, Pt s h0' h' (a0.add (i * s.sz)) F' (C ++ L) x → ∃ B', SlO e s B' b l c (xs.set i x) ∧ Mem h0' h' (B' ++ L) := by
  obtain ⟨h1, ws, B1, B2, rfl, O, h3⟩ := S
  rcases O.2 with ⟨_, _, h4, _⟩ | ⟨g, cs, rfl, rfl, h5, h6, h7, h8⟩
  · omega
  obtain ⟨pre, mid, post, C1, Cm, C2, e1, e2, rfl, O1, O2⟩ := h3.at (i := i) (by omega)
  have hc : cs = ⟨pre ++ (mid ++ (post ++ cs.toList.drop (l * s.sz)))⟩ := by
    have : cs.toList = ws ++ cs.toList.drop (l * s.sz) := by rw [← h8, List.take_append_drop]
    rw [e2] at this
    cases cs; simpa using this
  refine ⟨_, ⟨g, e, pre, post ++ cs.toList.drop (l * s.sz)⟩, C1 ++ C2, rfl, fun h0 h L M => ⟨?_, mid, Cm, ?_, by rw [getElem!_pos _ i (by omega)]; exact O1⟩, fun h0' h' L x P' => ?_⟩
  · rw [add_none]; simp [e1]
  · rw [← hc]
    exact M.cnt fun p => by simp only [cnt_app, cnt_cons, cnt_nil]; omega
  · obtain ⟨_, md', B', M', O'⟩ := P'
    have hm := s.olen O'
    have hm0 := s.olen O1
    have hws : ws.length = l * s.sz := O.1
    have hlen : (pre ++ (md' ++ post)).length = l * s.sz := by rw [← hws, e2]; simp [hm, hm0]
    refine ⟨(g, e, ⟨pre ++ (md' ++ (post ++ cs.toList.drop (l * s.sz)))⟩) :: (C1 ++ (B' ++ C2)), ⟨by simpa using h1, pre ++ (md' ++ post), [_], _, rfl, ⟨hlen, .inr ⟨g, _, rfl, rfl, h5, h6, ?_, ?_⟩⟩, O2 _ _ _ O'⟩, ?_⟩
    · have : cs.toList.length = c * s.sz := by simpa using h7
      have hle := Nat.mul_le_mul_right s.sz h5
      simp only [List.size_toArray]
      have : (pre ++ (md' ++ (post ++ cs.toList.drop (l * s.sz)))).length = (pre ++ (md' ++ post)).length + (cs.toList.drop (l * s.sz)).length := by simp; omega
      rw [this, hlen, List.length_drop]; omega
    · show List.take _ (pre ++ (md' ++ (post ++ _))) = _
      have e5 : pre ++ (md' ++ (post ++ cs.toList.drop (l * s.sz))) = (pre ++ (md' ++ post)) ++ cs.toList.drop (l * s.sz) := by simp
      rw [e5, ← hlen]
      exact List.take_left
    · exact M'.cnt fun p => by simp only [cnt_app, cnt_cons, cnt_nil]; omega
end Go.Sx
