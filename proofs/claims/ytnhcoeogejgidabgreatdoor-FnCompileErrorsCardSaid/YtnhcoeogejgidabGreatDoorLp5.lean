/- Rules for reading data behind pointers, at whatever form their addresses have; slices read element by element; loops over them. -/
import Derived.Test.YtnhcoeogejgidabGreatDoorLp2
import Derived.Laws.Cover3
set_option linter.unusedVariables false
set_option linter.unusedSimpArgs false
namespace Go.Sx

section
variable {α β : Type} {r : Rep α} {h : Heap} {q : Addr} {x : α} {off g : Nat}
theorem add0 (q : Addr) : q.add 0 = q := by simp [Addr.add]
theorem add_g (g n : Nat) : (⟨g, 0, none⟩ : Addr).add n = ⟨g, n, none⟩ := by rw [add_none, Nat.zero_add]
theorem RdP.fst {p : Rep β} {get : α → β} {put : α → β → α} (R : RdP r h q x) (F : Foc r p 0 get put) : RdP p h q (get x) := by have := R.foc F; rwa [add0] at this
/-- The cell at the pointer itself. -/
theorem RdP.oI1 {k : IntKind} {get : α → Int} {put : α → Int → α} {K : Int → Prop} (R : RdP r h q x) [F : FocC r 0 (rI k) get put] (H : K (get x)) : Sx.oI k (Sx.cell h q) K := by have := RdP.oI (off := 0) R (F := F) H; rwa [add0] at this
theorem RdP.oS1 {get : α → ByteArray} {put : α → ByteArray → α} {K : ByteArray → Prop} (R : RdP r h q x) [F : FocC r 0 rS get put] (H : (get x).size ≤ maxLen → K (get x)) : Sx.oS (Sx.cell h q) K := by have := RdP.oS (off := 0) R (F := F) H; rwa [add0] at this
theorem RdP.oF1 {k : FloatKind} {get : α → Nat} {put : α → Nat → α} {K : Nat → Prop} (R : RdP r h q x) [F : FocC r 0 (rF k) get put] (H : ∀ y, FW k y (get x) → K y) : Sx.oF k (Sx.cell h q) K := by have := RdP.oF (off := 0) R (F := F) H; rwa [add0] at this
theorem RdP.lda1 {n : Nat} {K : Array Value → Prop} (R : RdP r h q x) (hn : r.sz = n) (H : ∀ cs : Array Value, r.rd h cs.toList x → K cs) : LDA n h q K := by have := R.lda (Foc.here r) hn H; rwa [add0] at this
/-- Cells of a block by its number. -/
theorem RdP.oI2 {k : IntKind} {get : α → Int} {put : α → Int → α} {K : Int → Prop} (R : RdP r h ⟨g, 0, none⟩ x) [F : FocC r off (rI k) get put] (H : K (get x)) : Sx.oI k (Sx.cell h ⟨g, off, none⟩) K := by have := RdP.oI (off := off) R (F := F) H; rwa [add_g] at this
theorem RdP.oS2 {get : α → ByteArray} {put : α → ByteArray → α} {K : ByteArray → Prop} (R : RdP r h ⟨g, 0, none⟩ x) [F : FocC r off rS get put] (H : (get x).size ≤ maxLen → K (get x)) : Sx.oS (Sx.cell h ⟨g, off, none⟩) K := by have := RdP.oS (off := off) R (F := F) H; rwa [add_g] at this
theorem RdP.oF2 {k : FloatKind} {get : α → Nat} {put : α → Nat → α} {K : Nat → Prop} (R : RdP r h ⟨g, 0, none⟩ x) [F : FocC r off (rF k) get put] (H : ∀ y, FW k y (get x) → K y) : Sx.oF k (Sx.cell h ⟨g, off, none⟩) K := by have := RdP.oF (off := off) R (F := F) H; rwa [add_g] at this
end
instance lf_I (k : IntKind) : FocC (rI k) 0 (rI k) (fun a => a) (fun _ b => b) := ⟨Foc.here _⟩
instance lf_F (k : FloatKind) : FocC (rF k) 0 (rF k) (fun a => a) (fun _ b => b) := ⟨Foc.here _⟩
instance lf_B : FocC rB 0 rB (fun a => a) (fun _ b => b) := ⟨Foc.here _⟩
instance lf_S : FocC rS 0 rS (fun a => a) (fun _ b => b) := ⟨Foc.here _⟩
instance lf_L {α : Type} (e : Nat) (r : Rep α) : FocC (rSl e r) 0 (rSl e r) (fun a => a) (fun _ b => b) := ⟨Foc.here _⟩
instance lf_2_0 : FocC (rArr 2 (rF .f32)) 0 (rF .f32) (fun l => l[0]!) (fun l b => l.set 0 b) := ⟨(Foc.arr (rF .f32) 0 (by decide)).at rfl⟩
instance lf_2_1 : FocC (rArr 2 (rF .f32)) 1 (rF .f32) (fun l => l[1]!) (fun l b => l.set 1 b) := ⟨(Foc.arr (rF .f32) 1 (by decide)).at rfl⟩
instance lf_3_0 : FocC (rArr 3 (rF .f32)) 0 (rF .f32) (fun l => l[0]!) (fun l b => l.set 0 b) := ⟨(Foc.arr (rF .f32) 0 (by decide)).at rfl⟩
instance lf_3_1 : FocC (rArr 3 (rF .f32)) 1 (rF .f32) (fun l => l[1]!) (fun l b => l.set 1 b) := ⟨(Foc.arr (rF .f32) 1 (by decide)).at rfl⟩
instance lf_3_2 : FocC (rArr 3 (rF .f32)) 2 (rF .f32) (fun l => l[2]!) (fun l b => l.set 2 b) := ⟨(Foc.arr (rF .f32) 2 (by decide)).at rfl⟩
instance lf_4_0 : FocC (rArr 4 (rF .f32)) 0 (rF .f32) (fun l => l[0]!) (fun l b => l.set 0 b) := ⟨(Foc.arr (rF .f32) 0 (by decide)).at rfl⟩
instance lf_4_1 : FocC (rArr 4 (rF .f32)) 1 (rF .f32) (fun l => l[1]!) (fun l b => l.set 1 b) := ⟨(Foc.arr (rF .f32) 1 (by decide)).at rfl⟩
instance lf_4_2 : FocC (rArr 4 (rF .f32)) 2 (rF .f32) (fun l => l[2]!) (fun l b => l.set 2 b) := ⟨(Foc.arr (rF .f32) 2 (by decide)).at rfl⟩
instance lf_4_3 : FocC (rArr 4 (rF .f32)) 3 (rF .f32) (fun l => l[3]!) (fun l b => l.set 3 b) := ⟨(Foc.arr (rF .f32) 3 (by decide)).at rfl⟩
section
variable {α β : Type} {r : Rep α} {h0 h h' : Heap} {q : Addr} {x : α} {off g n : Nat} {L : List Blk} {cs : Array Value}
/-- A value laid in a new block, to be read there. -/
theorem alcR {T : Nat} {F : Nat → Heap → Prop} (R : r.rd h cs.toList x) (H : ∀ g h', Ext h h' → RdP r h' ⟨g, 0, none⟩ x → F g h') : ALC cs T F h := by
  refine H _ _ (Ext.push _ _) ⟨cs.toList, fun i v e => ?_, r.ext (Ext.push _ _) R⟩
  rw [add_g]
  simpa [cell] using e
theorem Mem.rdp (M : Mem h0 h L) (l : Look L g cs) (R : r.rd h cs.toList x) : RdP r h ⟨g, 0, none⟩ x := by
  refine ⟨cs.toList, fun i v e => ?_, R⟩
  rw [add_g, M.cell l]; simpa using e
theorem RdP.pin {p : Prop} (R : RdP r h q x) (hn : r.sz = n) (X : Ext h h') (H : p) : PIN h q n h' p := by
  obtain ⟨vs, h1, h2⟩ := R
  have := r.rlen h2
  exact Sx.pin X (fun j hj => ⟨vs[j]'(by omega), h1 j _ (List.getElem?_eq_getElem (by omega))⟩) H
theorem Pt.join {F : Fr} {h'' : Heap} {L2 : List Blk} (P : Pt r h0 h q F L x) (M : Mem h h'' L2) : Pt r h0 h'' q F (L2 ++ L) x := by
  obtain ⟨e, mid, B, N, O⟩ := P
  refine ⟨e, mid, B, ?_, O⟩
  have := N.join M
  refine this.perm ?_
  refine List.perm_middle.trans (List.Perm.cons _ ?_)
  rw [← List.append_assoc, ← List.append_assoc]
  exact List.Perm.append_right _ List.perm_append_comm
theorem Pt.sub {F : Fr} {L2 : List Blk} (P : Pt r h0 h q F L x) (s : L2.Sublist L) : Pt r h0 h q F L2 x := by
  obtain ⟨e, mid, B, N, O⟩ := P
  exact ⟨e, mid, B, N.sub (List.Sublist.cons_cons _ ((List.Sublist.refl _).append s)), O⟩
theorem Pt.drop {F : Fr} {L2 : List Blk} (P : Pt r h0 h q F (L2 ++ L) x) : Pt r h0 h q F L x := P.sub (List.sublist_append_right _ _)
end
section
variable {α : Type} {r : Rep α} {h : Heap} {b : Option Addr} {l c : Nat} {els : List α}
theorem SlR.len (S : SlR r h b l c els) : els.length = l := S.1
theorem SlR.idx [Inhabited α] {i : Int} {F : Addr → Prop} (S : SlR r h b l c els) (hz : 0 < r.sz) (h1 : 0 ≤ i) (h2 : i < l) (H : ∀ a, RdP r h (a.add (i.toNat * r.sz)) els[i.toNat]! → F a) : IDXS b i l F := by
  obtain ⟨a, rfl, R⟩ := S.elem (i := i.toNat) (by omega) hz
  exact idxs h1 h2 (H a R)
theorem RdP.arr {n : Nat} {q : Addr} (R : RdP (rArr n r) h q els) (hn : n ≤ maxLen) : SlR r h (some q) n n els := by
  obtain ⟨vs, h1, h2, h3⟩ := R
  exact ⟨h2, Nat.le_refl _, hn, vs, fun i hi => ⟨q, rfl, by rw [h1 i _ (List.getElem?_eq_getElem hi), List.getElem?_eq_getElem hi]⟩, h3⟩
theorem slP_zero (a : Addr) (n sz : Nat) : slP a n 0 sz = a := by
  unfold slP; split
  · rfl
  · rw [Nat.zero_mul, add0]
theorem RdP.elem [Inhabited α] {n i : Nat} {q : Addr} (R : RdP (rArr n r) h q els) (hi : i < n) : RdP r h (q.add (i * r.sz)) els[i]! := R.foc (Foc.arr r i hi)
theorem RdP.len {n : Nat} {q : Addr} (R : RdP (rArr n r) h q els) : els.length = n := by obtain ⟨vs, _, h2, _⟩ := R; exact h2
end
/-- So far all held; the next one tells. -/
theorem all_false {f : Nat → Bool} {n i : Nat} (hi : i < n) (h : f i = false) : (List.range n).all f = false := by
  rw [List.all_eq_false]
  exact ⟨i, List.mem_range.2 hi, by simp [h]⟩
end Go.Sx
/- Own slices of data: copied, grown, compared with nil. -/
set_option linter.unusedVariables false
set_option linter.unusedSimpArgs false
namespace Go.Sx

/-- Data without blocks of their own. -/
def Flat {α : Type} (r : Rep α) : Prop := ∀ h vs a, r.rd h vs a → r.ow [] vs a
theorem flat_one {α : Type} (f : α → Value) (hf : ∀ a, (f a).oneCell' = true) : Flat (rOne f hf) := fun h vs a e => ⟨rfl, e⟩
theorem flat_I (k : IntKind) : Flat (rI k) := flat_one _ _
theorem flat_F (k : FloatKind) : Flat (rF k) := fun h vs a e => ⟨rfl, e⟩
theorem flat_seq {α β : Type} {r : Rep α} {s : Rep β} (hr : Flat r) (hs : Flat s) : Flat (r.seq s) := fun h vs a e => by
  obtain ⟨v1, v2, rfl, h1, h2⟩ := e
  exact ⟨[], [], v1, v2, rfl, rfl, hr _ _ _ h1, hs _ _ _ h2⟩
theorem flat_via {α β : Type} {r : Rep β} {f : α → β} (hr : Flat r) : Flat (r.via f) := fun h vs a e => hr _ _ _ e
section
variable {α : Type} {r : Rep α} {P : Program} {h0 h : Heap} {L : List Blk} {t e bytes : Nat} {b : Option Addr} {l c : Nat} {xs : List α} {K : Value → Heap → Prop} {ty : Nat}
theorem SlO.len {B : List Blk} (O : SlO e r B b l c xs) : xs.length = l := O.1
theorem SlO.nil : SlO e r [] none 0 0 [] := ⟨rfl, [], [], [], rfl, ⟨by simp, .inl ⟨rfl, rfl, rfl, rfl⟩⟩, rfl, rfl⟩
theorem SlO.empty (g : Nat) : SlO e r [(g, e, ⟨[]⟩)] (some ⟨g, 0, none⟩) 0 0 [] := ⟨rfl, [], [(g, e, ⟨[]⟩)], [], rfl, ⟨by simp, .inr ⟨g, ⟨[]⟩, rfl, rfl, Nat.le_refl _, Nat.zero_le _, by simp, by simp⟩⟩, rfl, rfl⟩
/-- Cells appended to an own slice. -/
theorem SlO.app {B Bn : List Blk} {a : Addr} {m mc : Nat} {news : List Value} {ys : List α} (E : ElemT P t e r.sz bytes) (O : SlO e r B b l c xs) (M : Mem h0 h (B ++ (Bn ++ L))) (hn : ys.length = m) (hys : ows r Bn news ys)
    (hr : ∀ j v, news[j]? = some v → cell h (a.add j) = some v) (hmax : l + m ≤ maxLen) (hbytes : (l + m) * bytes ≤ 140737488355328)
    (H : ∀ b' c' h' B', SlO e r B' b' (l + m) c' (xs ++ ys) → Mem h0 h' (B' ++ L) → K (.slice b' (l + m) c') h') :
    SEMV P (Builtin.append_ #[t, t] ty #[.slice b l c, .slice (some a) m mc]) K h := by
  obtain ⟨h1, ws, B1, B2, rfl, O1, O2⟩ := O
  have S : Sl h0 h (B2 ++ (Bn ++ L)) e r.sz b l c ws := O1.sl (by simpa using M)
  refine S.app E (by rw [hys.len, hn]) hr hys.one hmax hbytes fun b' c' h' S' => ?_
  obtain ⟨B3, O3, M3⟩ := S'.own
  exact H b' c' h' (B3 ++ (B2 ++ Bn)) ⟨by simp [h1, hn], _, B3, _, rfl, O3, O2.append hys⟩ (by simpa using M3)
/-- One element appended, which has been laid in a block. -/
theorem push_own {B Bn : List Blk} {cs : Array Value} {x : α} (E : ElemT P t e r.sz bytes) (O : SlO e r B b l c xs) (M : Mem h0 h (B ++ (Bn ++ L))) (Ox : r.ow Bn cs.toList x) (hmax : l + 1 ≤ maxLen) (hbytes : (l + 1) * bytes ≤ 140737488355328)
    (H : ∀ b' c' h' B', SlO e r B' b' (l + 1) c' (xs ++ [x]) → Mem h0 h' (B' ++ L) → K (.slice b' (l + 1) c') h') :
    ALC cs e (fun g h => SEMV P (Builtin.append_ #[t, t] ty #[.slice b l c, .slice (some ⟨g, 0, none⟩) 1 1]) K h) h := by
  refine M.alc fun g h1 x1 M1 => ?_
  have M2 : Mem h0 h1 (B ++ (Bn ++ ((g, e, cs) :: L))) := M1.perm (by
    refine List.Perm.symm ?_
    rw [← List.append_assoc, ← List.append_assoc]
    exact List.perm_middle)
  refine O.app (news := cs.toList) E M2 (ys := [x]) rfl ⟨Bn, [], cs.toList, [], by simp, by simp, Ox, rfl, rfl⟩ (fun j v hj => ?_) hmax hbytes fun b' c' h' B' O' M' => H b' c' h' B' O' (M'.sub (List.Sublist.append (List.Sublist.refl _) (List.sublist_cons_self _ _)))
  rw [add_none, Nat.zero_add, M1.cell .here, ← hj, Array.getElem?_toList]
end
end Go.Sx
namespace Go.Sx
section
variable {α β : Type} {r : Rep α} {h0 h : Heap} {q : Addr} {F : Fr} {L : List Blk} {a : α} {off : Nat}
/-- A new value: its cells, in blocks of its own. -/
def NewR (r : Rep α) (h h' : Heap) (u : Value) (a : α) : Prop := ∃ cs B, u = .agg cs ∧ r.ow B cs.toList a ∧ Mem h h' B
theorem Pt.hdr {e : Nat} {s : Rep β} {get : α → List β} {put : α → List β → α} (P : Pt r h0 h q F L a) [Fc : FocC r off (rSl e s) get put] : ∃ b l c, cell h (q.add off) = some (.slice b l c) ∧ SlR s h b l c (get a) := by
  obtain ⟨v, e1, b, l, c, e2, S⟩ := P.rd.cell Fc.f rfl
  obtain rfl : v = .slice b l c := by simpa using e2
  exact ⟨b, l, c, e1, S⟩
theorem Pt.stF1 {k : FloatKind} {x n : Nat} {get : α → Nat} {put : α → Nat → α} {K : Heap → Prop} (P : Pt r h0 h q F L a) [Fc : FocC r 0 (rF k) get put] (hx : FW k x n) (H : ∀ h', Pt r h0 h' q F L (put a n) → K h') : ST1 h q (.float k x) K := by
  have := Pt.stF (off := 0) P (Fc := Fc) hx H
  rwa [add0] at this
end
end Go.Sx
/- Own blocks counted (their order does not matter); values put together out of parts; results of calls taken up. -/
set_option linter.unusedVariables false
set_option linter.unusedSimpArgs false
namespace Go.Sx
theorem nt {b : Bool} (h : (!b) = true) : b = false := by cases b <;> simp_all
theorem nf {b : Bool} (h : (!b) = false) : b = true := by cases b <;> simp_all
open Classical

noncomputable def cnt (p : Blk) (L : List Blk) : Nat := L.countP fun q => decide (q = p)
theorem cnt_nil (p : Blk) : cnt p [] = 0 := rfl
theorem cnt_cons (p q : Blk) (L : List Blk) : cnt p (q :: L) = (if q = p then 1 else 0) + cnt p L := by
  unfold cnt
  rw [List.countP_cons]
  by_cases h : q = p <;> simp [h]; omega
theorem cnt_app (p : Blk) (L M : List Blk) : cnt p (L ++ M) = cnt p L + cnt p M := by unfold cnt; exact List.countP_append
theorem cnt_pos {p : Blk} {L : List Blk} : 0 < cnt p L ↔ p ∈ L := by
  unfold cnt; rw [List.countP_pos_iff]; simp
theorem Mem.one {h0 h : Heap} {L : List Blk} (M : Mem h0 h L) (p : Blk) : cnt p L ≤ 1 := by
  have hne := M.ne
  clear M
  induction L with
  | nil => rw [cnt_nil]; omega
  | cons q L ih =>
    obtain ⟨h1, h2⟩ := List.pairwise_cons.1 hne
    have h3 := ih h2
    rw [cnt_cons]
    split
    · next e =>
      subst e
      have : cnt q L = 0 := by
        rcases Nat.eq_zero_or_pos (cnt q L) with h | h
        · exact h
        · exact absurd rfl (h1 q (cnt_pos.1 h))
      omega
    · omega
/-- Fewer blocks, in whatever order. -/
theorem Mem.cnt {h0 h : Heap} {L W : List Blk} (M : Mem h0 h L) (hc : ∀ p, Sx.cnt p W ≤ Sx.cnt p L) : Mem h0 h W := by
  have hm : ∀ p ∈ W, p ∈ L := fun p hp => cnt_pos.1 (Nat.lt_of_lt_of_le (cnt_pos.2 hp) (hc p))
  refine ⟨M.ext, fun p hp => M.at_ p (hm p hp), ?_⟩
  have h1 : ∀ p, Sx.cnt p W ≤ 1 := fun p => Nat.le_trans (hc p) (M.one p)
  have hu : ∀ p ∈ L, ∀ q ∈ L, p.1 = q.1 → p = q := by
    intro p hp q hq e
    have a := (M.at_ p hp).2
    have b := (M.at_ q hq).2
    rw [e] at a
    rw [a] at b
    obtain ⟨p1, p2, p3⟩ := p
    obtain ⟨q1, q2, q3⟩ := q
    simp only at e
    subst e
    simp only [Option.some.injEq, Obj.cells.injEq] at b
    rw [b.1, b.2.1]
  clear hc
  induction W with
  | nil => exact List.Pairwise.nil
  | cons q W ih =>
    refine List.pairwise_cons.2 ⟨fun p hp e => ?_, ih (fun p hp => hm p (.tail _ hp)) (fun p => ?_)⟩
    · have := hu q (hm q (.head _)) p (hm p (.tail _ hp)) e
      subst this
      have h2 := h1 q
      rw [cnt_cons, if_pos rfl] at h2
      have := cnt_pos.2 hp
      omega
    · have h2 := h1 p
      rw [cnt_cons] at h2
      omega
section
variable {α β : Type} {r : Rep α} {p : Rep β} {h0 h h' hb : Heap} {L : List Blk}
/-- A part put into a value. -/
theorem ow_splice {B B' : List Blk} {cells : List Value} {cs : Array Value} {a : α} {b : β} {off n : Nat} {get : α → β} {put : α → β → α} (O : r.ow B cells a) (F : Foc r p off get put) (hn : p.sz = n) (O' : p.ow B' cs.toList b) :
    ∃ B2, r.ow B2 (splice off n cs cells) (put a b) ∧ ∀ x, cnt x B2 ≤ cnt x B + cnt x B' := by
  obtain ⟨pre, mid, post, B1, Bm, B2, e1, rfl, rfl, h1, h2⟩ := F.fo O
  refine ⟨B1 ++ (B' ++ B2), ?_, fun x => by simp only [cnt_app]; omega⟩
  have hm := p.olen h1
  have e : splice off n cs (pre ++ (mid ++ post)) = pre ++ (cs.toList ++ post) := by
    unfold splice
    rw [← e1, List.take_left, ← List.drop_drop, List.drop_left, ← hn, ← hm, List.drop_left]
  rw [e]
  exact h2 _ _ _ O'
/-- Nothing but what lies within the data is looked at. -/
theorem RdP.pinO {q : Addr} {x : α} {off n : Nat} {P : Prop} (R : RdP r hb q x) (ho : off + n ≤ r.sz) (X : Ext hb h) (H : P) : PIN hb (q.add off) n h P := by
  obtain ⟨vs, h1, h2⟩ := R
  have := r.rlen h2
  exact Sx.pin X (fun j hj => ⟨vs[off + j]'(by omega), by rw [add_add']; exact h1 _ _ (List.getElem?_eq_getElem (by omega))⟩) H
theorem RdP.pin0 {q : Addr} {x : α} {n : Nat} {P : Prop} (R : RdP r hb q x) (ho : n ≤ r.sz) (X : Ext hb h) (H : P) : PIN hb q n h P := by
  have := RdP.pinO (off := 0) (n := n) R (by omega) X H
  rwa [add0] at this
/-- A new value taken up beside what is there. -/
theorem NewR.go {P : Program} {f : FuncId} {args : Array Value} {a : α} {K : Value → Heap → Prop} (M : Mem hb h L) (c : CALL P f args (fun u h' => NewR r h h' u a) h) (H : ∀ h' cs B, Mem hb h' (B ++ L) → r.ow B cs.toList a → cs.size = r.sz → K (.agg cs) h') : CALL P f args K h :=
  c.mono fun u h' ⟨cs, B, e, O, N⟩ => by subst e; exact H h' cs B (M.join N) O (by simpa using r.olen O)
/-- A value answered, nothing else changed. -/
theorem goM {P : Program} {f : FuncId} {args : Array Value} {v : Value} {K : Value → Heap → Prop} (M : Mem hb h L) (c : CALL P f args (fun u h' => u = v ∧ Ext h h') h) (H : ∀ h', Mem hb h' L → K v h') : CALL P f args K h :=
  c.mono fun u h' ⟨e, x⟩ => by subst e; exact H h' (M.grow x)
theorem goX {P : Program} {f : FuncId} {args : Array Value} {v : Value} {K : Value → Heap → Prop} (c : CALL P f args (fun u h' => u = v ∧ Ext h h') h) (H : ∀ h', Ext h h' → K v h') : CALL P f args K h :=
  c.mono fun u h' ⟨e, x⟩ => by subst e; exact H h' x
end
end Go.Sx
namespace Go.Sx
section
variable {α : Type} {r : Rep α} {h0 h h' : Heap} {L : List Blk}
theorem rsz {n : Nat} {cs : Array Value} {a : α} (R : r.rd h cs.toList a) (hn : r.sz = n) : cs.size = n := by have := r.rlen R; rw [Array.length_toList] at this; omega
theorem osz {n : Nat} {cs : Array Value} {B : List Blk} {a : α} (R : r.ow B cs.toList a) (hn : r.sz = n) : cs.size = n := by have := r.olen R; rw [Array.length_toList] at this; omega
theorem Mem.ldaM {g T j n : Nat} {pre mid post : List Value} {F : Array Value → Prop} (M : Mem h0 h ((g, T, ⟨pre ++ (mid ++ post)⟩) :: L)) (hj : pre.length = j) (hn : mid.length = n) (H : F ⟨mid⟩) : LDA n h ⟨g, j, none⟩ F := by
  refine M.lda .here (by simp; omega) ?_
  have : (⟨pre ++ (mid ++ post)⟩ : Array Value).extract j (j + n) = ⟨mid⟩ := by
    rw [List.extract_toArray]
    congr 1
    rw [List.extract_eq_take_drop, ← hj, List.drop_left, show pre.length + n - pre.length = mid.length by omega]
    exact List.take_left
  rw [this]; exact H
theorem splice_all {n : Nat} {cs : Array Value} {z : List Value} (hz : z.length = n) : splice 0 n cs z = cs.toList := by
  unfold splice
  rw [List.take_zero, List.nil_append, Nat.zero_add, List.drop_of_length_le (by omega), List.append_nil]
end
end Go.Sx
namespace Go.Sx
theorem siz {n m : Nat} {p : Prop} (e : n = m) (H : p) : SIZ n m p := ⟨e, H⟩
section
variable {α : Type} {r : Rep α} {h0 h : Heap} {q : Addr} {F : Fr} {L W : List Blk} {a : α}
theorem Pt.cnt (P : Pt r h0 h q F L a) (hc : ∀ p, Sx.cnt p W ≤ Sx.cnt p L) : Pt r h0 h q F W a := by
  obtain ⟨e, mid, B, M, O⟩ := P
  refine ⟨e, mid, B, M.cnt fun p => ?_, O⟩
  have := hc p
  simp only [cnt_cons, cnt_app]
  omega
/-- A result of a call put beside own data. -/
theorem NewR.pt {β : Type} {s : Rep β} {P : Program} {f : FuncId} {args : Array Value} {b : β} {K : Value → Heap → Prop} (Pa : Pt r h0 h q F L a) (c : CALL P f args (fun u h' => NewR s h h' u b) h) (H : ∀ h' cs B, Pt r h0 h' q F (B ++ L) a → s.ow B cs.toList b → cs.size = s.sz → K (.agg cs) h') : CALL P f args K h :=
  c.mono fun u h' ⟨cs, B, e, O, N⟩ => by subst e; exact H h' cs B (Pa.join N) O (by simpa using s.olen O)
end
end Go.Sx
namespace Go.Sx
theorem Pick.skip {B L L' : List Blk} {g T : Nat} {cs : Array Value} (k : Pick L g T cs L') : Pick (B ++ L) g T cs (B ++ L') := by
  induction B with
  | nil => exact k
  | cons p B ih => exact .there ih
theorem Look.skip {B L : List Blk} {g : Nat} {cs : Array Value} (k : Look L g cs) : Look (B ++ L) g cs := by
  induction B with
  | nil => exact k
  | cons p B ih => exact .there ih
end Go.Sx
namespace Go.Sx
section
variable {α : Type} {r : Rep α} {h0 h : Heap} {L : List Blk}
theorem Mem.st1M {g T j : Nat} {pre post : List Value} {u v : Value} {F : Heap → Prop} (M : Mem h0 h ((g, T, ⟨pre ++ ([u] ++ post)⟩) :: L)) (hj : pre.length = j)
    (H : ∀ h', Mem h0 h' ((g, T, ⟨pre ++ ([v] ++ post)⟩) :: L) → F h') : ST1 h ⟨g, j, none⟩ v F := by
  refine M.st1 .here (by simp; omega) .here fun h' M' => H h' ?_
  have : (⟨pre ++ ([u] ++ post)⟩ : Array Value).setIfInBounds j v = ⟨pre ++ ([v] ++ post)⟩ := by
    have := set_mid pre [u] post 0 v (by simp)
    rw [Nat.add_zero, hj] at this
    exact this
  rw [this] at M'
  exact M'
end
end Go.Sx
namespace Go.Sx
end Go.Sx
namespace Go.Sx
end Go.Sx
namespace Go.Sx
end Go.Sx
namespace Go.Sx
end Go.Sx
