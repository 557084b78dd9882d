/- Own blocks counted (their order does not matter); values put together out of parts; results of calls taken up. -/
import Derived.Test.YtnhcoeogejgidacGreatDoorLp5
import Derived.Test.YtnhcoeogejgidacGreatDoorLg
import Derived.Test.YtnhcoeogejgidacGreatDoorTabE
import Derived.Test.YtnhcoeogejgidacGreatDoorTab
set_option linter.unusedVariables false
set_option linter.unusedSimpArgs false
namespace Go.Sx
theorem maxLen_le : (maxLen : Nat) ≤ 9223372036854775807 := by decide
theorem nt {b : Bool} (h : (!b) = true) : b = false := by cases b <;> simp_all
theorem nf {b : Bool} (h : (!b) = false) : b = true := by cases b <;> simp_all
open Classical

noncomputable def cnt (p : Blk) (L : List Blk) : Nat := L.countP fun q => decide (q = p)
theorem cnt_nil (p : Blk) : cnt p [] = 0 := rfl
theorem cnt_cons (p q : Blk) (L : List Blk) : cnt p (q :: L) = (if q = p then 1 else 0) + cnt p L := by
  unfold cnt
  rw [List.countP_cons]
  by_cases h : q = p <;> simp [h]; omega
theorem cnt_app (p : Blk) (L M : List Blk) : cnt p (L ++ M) = cnt p L + cnt p M := by unfold cnt; exact List.countP_append
theorem cnt_pos {p : Blk} {L : List Blk} : 0 < cnt p L ↔ p ∈ L := by
  unfold cnt; rw [List.countP_pos_iff]; simp
theorem Mem.one {h0 h : Heap} {L : List Blk} (M : Mem h0 h L) (p : Blk) : cnt p L ≤ 1 := by
  have hne := M.ne
  clear M
  induction L with
  | nil => rw [cnt_nil]; omega
  | cons q L ih =>
    obtain ⟨h1, h2⟩ := List.pairwise_cons.1 hne
    have h3 := ih h2
    rw [cnt_cons]
    split
    · next e =>
      subst e
      have : cnt q L = 0 := by
        rcases Nat.eq_zero_or_pos (cnt q L) with h | h
        · exact h
        · exact absurd rfl (h1 q (cnt_pos.1 h))
      omega
    · omega
/-- Fewer blocks, in whatever order. -/
theorem Mem.cnt {h0 h : Heap} {L W : List Blk} (M : Mem h0 h L) (hc : ∀ p, Sx.cnt p W ≤ Sx.cnt p L) : Mem h0 h W := by
  have hm : ∀ p ∈ W, p ∈ L := fun p hp => cnt_pos.1 (Nat.lt_of_lt_of_le (cnt_pos.2 hp) (hc p))
  refine ⟨M.ext, fun p hp => M.at_ p (hm p hp), ?_⟩
  have h1 : ∀ p, Sx.cnt p W ≤ 1 := fun p => Nat.le_trans (hc p) (M.one p)
  have hu : ∀ p ∈ L, ∀ q ∈ L, p.1 = q.1 → p = q := by
    intro p hp q hq e
    have a := (M.at_ p hp).2
    have b := (M.at_ q hq).2
    rw [e] at a
    rw [a] at b
    obtain ⟨p1, p2, p3⟩ := p
    obtain ⟨q1, q2, q3⟩ := q
    simp only at e
    subst e
    simp only [Option.some.injEq, Obj.cells.injEq] at b
    rw [b.1, b.2.1]
  clear hc
  induction W with
  | nil => exact List.Pairwise.nil
  | cons q W ih =>
    refine List.pairwise_cons.2 ⟨fun p hp e => ?_, ih (fun p hp => hm p (.tail _ hp)) (fun p => ?_)⟩
    · have := hu q (hm q (.head _)) p (hm p (.tail _ hp)) e
      subst this
      have h2 := h1 q
      rw [cnt_cons, if_pos rfl] at h2
      have := cnt_pos.2 hp
      omega
    · have h2 := h1 p
      rw [cnt_cons] at h2
      omega
section
variable {α β : Type} {r : Rep α} {p : Rep β} {h0 h h' hb : Heap} {L : List Blk}
/-- Nothing but what lies within the data is looked at. -/
theorem RdP.pinO {q : Addr} {x : α} {off n : Nat} {P : Prop} (R : RdP r hb q x) (ho : off + n ≤ r.sz) (X : Ext hb h) (H : P) : PIN hb (q.add off) n h P := by
  obtain ⟨vs, h1, h2⟩ := R
  have := r.rlen h2
  exact Sx.pin X (fun j hj => ⟨vs[off + j]'(by omega), by rw [add_add']; exact h1 _ _ (List.getElem?_eq_getElem (by omega))⟩) H
theorem RdP.pin0 {q : Addr} {x : α} {n : Nat} {P : Prop} (R : RdP r hb q x) (ho : n ≤ r.sz) (X : Ext hb h) (H : P) : PIN hb q n h P := by
  have := RdP.pinO (off := 0) (n := n) R (by omega) X H
  rwa [add0] at this
theorem RdP.pin2 {g : Nat} {x : α} {off n : Nat} {P : Prop} (R : RdP r hb ⟨g, 0, none⟩ x) (ho : off + n ≤ r.sz) (X : Ext hb h) (H : P) : PIN hb ⟨g, off, none⟩ n h P := by
  have := RdP.pinO (off := off) (n := n) R ho X H
  rwa [add_g] at this
/-- A new value taken up beside what is there. -/
theorem NewR.go {P : Program} {f : FuncId} {args : Array Value} {a : α} {K : Value → Heap → Prop} (M : Mem hb h L) (c : CALL P f args (fun u h' => NewR r h h' u a) h) (H : ∀ h' cs B, Mem hb h' (B ++ L) → r.ow B cs.toList a → cs.size = r.sz → K (.agg cs) h') : CALL P f args K h :=
  c.mono fun u h' ⟨cs, B, e, O, N⟩ => by subst e; exact H h' cs B (M.join N) O (by simpa using r.olen O)
/-- A value answered, nothing else changed. -/
theorem goM {P : Program} {f : FuncId} {args : Array Value} {v : Value} {K : Value → Heap → Prop} (M : Mem hb h L) (c : CALL P f args (fun u h' => u = v ∧ Ext h h') h) (H : ∀ h', Mem hb h' L → K v h') : CALL P f args K h :=
  c.mono fun u h' ⟨e, x⟩ => by subst e; exact H h' (M.grow x)
theorem goX {P : Program} {f : FuncId} {args : Array Value} {v : Value} {K : Value → Heap → Prop} (c : CALL P f args (fun u h' => u = v ∧ Ext h h') h) (H : ∀ h', Ext h h' → K v h') : CALL P f args K h :=
  c.mono fun u h' ⟨e, x⟩ => by subst e; exact H h' x
end
end Go.Sx
namespace Go.Sx
section
variable {α : Type} {r : Rep α} {h0 h h' : Heap} {L : List Blk}
theorem rsz {n : Nat} {cs : Array Value} {a : α} (R : r.rd h cs.toList a) (hn : r.sz = n) : cs.size = n := by have := r.rlen R; rw [Array.length_toList] at this; omega
theorem osz {n : Nat} {cs : Array Value} {B : List Blk} {a : α} (R : r.ow B cs.toList a) (hn : r.sz = n) : cs.size = n := by have := r.olen R; rw [Array.length_toList] at this; omega
theorem splice_all {n : Nat} {cs : Array Value} {z : List Value} (hz : z.length = n) : splice 0 n cs z = cs.toList := by
  unfold splice
  rw [List.take_zero, List.nil_append, Nat.zero_add, List.drop_of_length_le (by omega), List.append_nil]
end
end Go.Sx
namespace Go.Sx
theorem siz {n m : Nat} {p : Prop} (e : n = m) (H : p) : SIZ n m p := ⟨e, H⟩
section
variable {α : Type} {r : Rep α} {h0 h : Heap} {q : Addr} {F : Fr} {L W : List Blk} {a : α}
theorem Pt.cnt (P : Pt r h0 h q F L a) (hc : ∀ p, Sx.cnt p W ≤ Sx.cnt p L) : Pt r h0 h q F W a := by
  obtain ⟨e, mid, B, M, O⟩ := P
  refine ⟨e, mid, B, M.cnt fun p => ?_, O⟩
  have := hc p
  simp only [cnt_cons, cnt_app]
  omega
/-- A result of a call put beside own data. -/
theorem NewR.pt {β : Type} {s : Rep β} {P : Program} {f : FuncId} {args : Array Value} {b : β} {K : Value → Heap → Prop} (Pa : Pt r h0 h q F L a) (c : CALL P f args (fun u h' => NewR s h h' u b) h) (H : ∀ h' cs B, Pt r h0 h' q F (B ++ L) a → s.ow B cs.toList b → cs.size = s.sz → K (.agg cs) h') : CALL P f args K h :=
  c.mono fun u h' ⟨cs, B, e, O, N⟩ => by subst e; exact H h' cs B (Pa.join N) O (by simpa using s.olen O)
end
end Go.Sx
namespace Go.Sx
theorem Pick.skip {B L L' : List Blk} {g T : Nat} {cs : Array Value} (k : Pick L g T cs L') : Pick (B ++ L) g T cs (B ++ L') := by
  induction B with
  | nil => exact k
  | cons p B ih => exact .there ih
theorem Look.skip {B L : List Blk} {g : Nat} {cs : Array Value} (k : Look L g cs) : Look (B ++ L) g cs := by
  induction B with
  | nil => exact k
  | cons p B ih => exact .there ih
end Go.Sx
namespace Go.Sx
section
variable {α : Type} {r : Rep α} {h0 h : Heap} {L : List Blk}
theorem Mem.st1M {g T j : Nat} {pre post : List Value} {u v : Value} {F : Heap → Prop} (M : Mem h0 h ((g, T, ⟨pre ++ ([u] ++ post)⟩) :: L)) (hj : pre.length = j)
    (H : ∀ h', Mem h0 h' ((g, T, ⟨pre ++ ([v] ++ post)⟩) :: L) → F h') : ST1 h ⟨g, j, none⟩ v F := by
  refine M.st1 .here (by simp; omega) .here fun h' M' => H h' ?_
  have : (⟨pre ++ ([u] ++ post)⟩ : Array Value).setIfInBounds j v = ⟨pre ++ ([v] ++ post)⟩ := by
    have := set_mid pre [u] post 0 v (by simp)
    rw [Nat.add_zero, hj] at this
    exact this
  rw [this] at M'
  exact M'
end
end Go.Sx
namespace Go.Sx
end Go.Sx
namespace Go.Sx
section
variable {α β : Type} {r : Rep α} {p : Rep β} {h0 h : Heap} {g : Nat} {F : Fr} {L : List Blk} {a : α} {off : Nat}
/-- A part of a value taken out with its blocks; another one in the same cells may be put back. -/
theorem ow_upd {B : List Blk} {vs : List Value} {get : α → β} {put : α → β → α} (O : r.ow B vs a) (Fc : Foc r p off get put) : ∃ Bm Br, (∀ x, cnt x B = cnt x Bm + cnt x Br) ∧ p.ow Bm ((vs.drop off).take p.sz) (get a) ∧
    ∀ B' b', p.ow B' ((vs.drop off).take p.sz) b' → ∃ B2, r.ow B2 vs (put a b') ∧ ∀ x, cnt x B2 = cnt x B' + cnt x Br := by
  obtain ⟨pre, mid, post, B1, Bm, B2, e1, rfl, rfl, h1, h2⟩ := Fc.fo O
  have e : ((pre ++ (mid ++ post)).drop off).take p.sz = mid := by rw [← e1, List.drop_left, ← p.olen h1, List.take_left]
  rw [e]
  refine ⟨Bm, B1 ++ B2, fun x => by simp only [cnt_app]; omega, h1, fun B' b' o => ⟨_, h2 B' mid b' o, fun x => by simp only [cnt_app]; omega⟩⟩
theorem cell_part {cs : Array Value} {v : Value} (e : (cs.toList.drop off).take 1 = [v]) : cs[off]? = some v := by
  have h1 : ((cs.toList.drop off).take 1)[0]? = some v := by rw [e]; rfl
  rw [List.getElem?_take_of_lt (by omega), List.getElem?_drop, Nat.add_zero, Array.getElem?_toList] at h1
  exact h1
theorem ext_part {cs : Array Value} {n : Nat} : (cs.extract off (off + n)).toList = (cs.toList.drop off).take n := by
  rw [Array.toList_extract, List.extract_eq_take_drop, Nat.add_sub_cancel_left]
theorem Pt.stI2 {k : IntKind} {n : Int} {get : α → Int} {put : α → Int → α} {K : Heap → Prop} (P : Pt r h0 h ⟨g, 0, none⟩ F L a) [Fc : FocC r off (rI k) get put] (H : ∀ h', Pt r h0 h' ⟨g, 0, none⟩ F L (put a n) → K h') : ST1 h ⟨g, off, none⟩ (.int k n) K := by
  have := Pt.stI (off := off) (n := n) P (Fc := Fc) H
  rwa [add_g] at this
theorem Pt.stS2 {n : ByteArray} {get : α → ByteArray} {put : α → ByteArray → α} {K : Heap → Prop} (P : Pt r h0 h ⟨g, 0, none⟩ F L a) [Fc : FocC r off rS get put] (hn : n.size ≤ maxLen) (H : ∀ h', Pt r h0 h' ⟨g, 0, none⟩ F L (put a n) → K h') : ST1 h ⟨g, off, none⟩ (.string n) K := by
  have := Pt.stS (off := off) (n := n) P (Fc := Fc) hn H
  rwa [add_g] at this
theorem Pt.stFg {k : FloatKind} {x n : Nat} {get : α → Nat} {put : α → Nat → α} {K : Heap → Prop} (P : Pt r h0 h ⟨g, 0, none⟩ F L a) [Fc : FocC r off (rF k) get put] (hx : FW k x n) (H : ∀ h', Pt r h0 h' ⟨g, 0, none⟩ F L (put a n) → K h') : ST1 h ⟨g, off, none⟩ (.float k x) K := by
  have := Pt.stF (off := off) P (Fc := Fc) hx H
  rwa [add_g] at this
theorem Pt.stLg {B : List Blk} {e : Nat} {s : Rep β} {get : α → List β} {put : α → List β → α} {b : Option Addr} {l c : Nat} {xs : List β} {K : Heap → Prop} (P : Pt r h0 h ⟨g, 0, none⟩ F (B ++ L) a) [Fc : FocC r off (rSl e s) get put] (O : SlO e s B b l c xs)
    (H : ∀ h', Pt r h0 h' ⟨g, 0, none⟩ F L (put a xs) → K h') : ST1 h ⟨g, off, none⟩ (.slice b l c) K := by
  have := Pt.st P Fc.f rfl ⟨b, l, c, rfl, O⟩ H
  rwa [add_g] at this
theorem Pt.stsg {get : α → β} {put : α → β → α} {b : β} {n : Nat} {vs : Array Value} {B' : List Blk} {K : Heap → Prop} (P : Pt r h0 h ⟨g, 0, none⟩ F (B' ++ L) a) (Fc : Foc r p off get put) (hp : p.sz = n) (O : p.ow B' vs.toList b)
    (H : ∀ h', Pt r h0 h' ⟨g, 0, none⟩ F L (put a b) → K h') : STA n h ⟨g, off, none⟩ vs K := by
  have := Pt.sts P Fc hp O H
  rwa [add_g] at this
end
/-- A list whose elements are changed one by one, a number going along. -/
def mkL {α : Type} (mk : α → Nat → α) (n : α → Nat) : List α → Nat → List α
  | [], _ => []
  | x :: xs, k => mk x k :: mkL mk n xs (k + n x)
def nL {α : Type} (n : α → Nat) : List α → Nat
  | [] => 0
  | x :: xs => n x + nL n xs
section
variable {α : Type} {mk : α → Nat → α} {n : α → Nat}
theorem nL_app (xs ys : List α) : nL n (xs ++ ys) = nL n xs + nL n ys := by
  induction xs with
  | nil => simp [nL]
  | cons x xs ih => simp only [List.cons_append, nL, ih]; omega
theorem mkL_app (xs ys : List α) (k : Nat) : mkL mk n (xs ++ ys) k = mkL mk n xs k ++ mkL mk n ys (k + nL n xs) := by
  induction xs generalizing k with
  | nil => simp [mkL, nL]
  | cons x xs ih => simp only [List.cons_append, mkL, nL, ih]; rw [Nat.add_assoc]
theorem mkL_len (xs : List α) (k : Nat) : (mkL mk n xs k).length = xs.length := by
  induction xs generalizing k with
  | nil => rfl
  | cons x xs ih => simp only [mkL, List.length_cons, ih]
theorem mkL_get [Inhabited α] {xs : List α} {i k : Nat} (hi : i < xs.length) : (mkL mk n xs k)[i]! = mk xs[i]! (k + nL n (xs.take i)) := by
  induction xs generalizing k i with
  | nil => simp at hi
  | cons x xs ih =>
    cases i with
    | zero => simp [mkL, nL]
    | succ i =>
      have := ih (k := k + n x) (i := i) (by simpa using hi)
      simp only [mkL, List.getElem!_cons_succ, List.take_succ_cons, nL]
      rw [this, Nat.add_assoc]
theorem nL_take_le (xs : List α) (i : Nat) : nL n (xs.take i) ≤ nL n xs := by
  have := nL_app (n := n) (xs.take i) (xs.drop i)
  rw [List.take_append_drop] at this
  omega
theorem nL_snoc [Inhabited α] {xs : List α} {i : Nat} (hi : i < xs.length) : nL n (xs.take (i + 1)) = nL n (xs.take i) + n xs[i]! := by
  rw [List.take_succ_eq_append_getElem hi, nL_app, getElem!_pos xs i hi]
  simp [nL]
/-- The first so many are changed. -/
theorem mkL_step [Inhabited α] {xs : List α} {i k : Nat} (hi : i < xs.length) : (mkL mk n (xs.take i) k ++ xs.drop i).set i (mk xs[i]! (k + nL n (xs.take i))) = mkL mk n (xs.take (i + 1)) k ++ xs.drop (i + 1) := by
  have h1 : (mkL mk n (xs.take i) k).length = i := by rw [mkL_len, List.length_take]; omega
  rw [List.set_append_right _ _ (by omega), h1, Nat.sub_self, List.drop_eq_getElem_cons hi, List.set_cons_zero, List.take_succ_eq_append_getElem hi, mkL_app, getElem!_pos xs i hi]
  simp [mkL]
theorem mkL_at [Inhabited α] {xs : List α} {i k : Nat} (hi : i < xs.length) : (mkL mk n (xs.take i) k ++ xs.drop i)[i]! = xs[i]! := by
  have h1 : (mkL mk n (xs.take i) k).length = i := by rw [mkL_len, List.length_take]; omega
  rw [getElem!_pos _ i (by simp [mkL_len]; omega), List.getElem_append_right (by omega), getElem!_pos xs i hi]
  simp [h1]
end
end Go.Sx
namespace Go.Sx
section
variable {α : Type} {r : Rep α}
theorem nL_mem [Inhabited α] {n : α → Nat} {xs : List α} {i : Nat} (hi : i < xs.length) : n xs[i]! ≤ nL n xs := by
  have h1 := nL_snoc (n := n) hi
  have h2 := nL_take_le (n := n) xs (i + 1)
  omega
theorem ows_rep {zc : List Value} {z : α} (O : r.ow [] zc z) : ∀ n : Nat, ows r [] (List.replicate n zc).flatten (List.replicate n z)
  | 0 => ⟨rfl, rfl⟩
  | n + 1 => ⟨[], [], zc, (List.replicate n zc).flatten, rfl, rfl, O, ows_rep O n⟩
theorem rep_get {zc : List Value} (hz : 0 < zc.length) : ∀ (n i : Nat), i < n * zc.length → (List.replicate n zc).flatten[i]? = zc[i % zc.length]?
  | 0, i, h => by omega
  | n + 1, i, h => by
    rw [List.replicate_succ, List.flatten_cons]
    by_cases h1 : i < zc.length
    · rw [List.getElem?_append_left h1, Nat.mod_eq_of_lt h1]
    · rw [List.getElem?_append_right (by omega), rep_get hz n _ (by rw [Nat.add_mul] at h; omega)]
      conv => rhs; rw [Nat.mod_eq_sub_mod (by omega)]
/-- make([]T, n, n). -/
theorem make_sl {i : TI} {e n : Nat} {zc : List Value} {z : α} {F : Nat → Heap → Prop} {h0 h : Heap} {L : List Blk} (O : r.ow [] zc z) (hs : i.size = r.sz) (hz : i.zero = zc) (hp : 0 < r.sz) (M : Mem h0 h L) (hb : i.bytes * n ≤ 2 ^ 48) (hn : n ≤ maxLen)
    (H : ∀ g h', Ext h h' → Mem h0 h' ((g, e, ⟨(List.replicate n zc).flatten⟩) :: L) → SlO e r [(g, e, ⟨(List.replicate n zc).flatten⟩)] (some ⟨g, 0, none⟩) n n (List.replicate n z) → F g h') : MKS i e (n : Int) (n : Int) F h := by
  have hzl : zc.length = r.sz := r.olen O
  have hne : i.zero ≠ [] := by rw [hz]; intro h; rw [h] at hzl; simp at hzl; omega
  have hm := maxLen_le
  refine ⟨⟨by omega, by omega, by exact_mod_cast hb, by omega, hne⟩, ?_⟩
  have hfl : (List.replicate n zc).flatten.length = n * r.sz := by rw [List.length_flatten]; simp [hzl]
  have e1 : ((Array.range ((n : Int).toNat * i.size)).map fun j => (⟨i.zero⟩ : Array Value)[j % (⟨i.zero⟩ : Array Value).size]!) = ⟨(List.replicate n zc).flatten⟩ := by
    apply Array.ext_getElem?
    intro k
    rw [Int.toNat_natCast, hs, hz]
    simp only [Array.getElem?_map, List.getElem?_toArray, List.size_toArray]
    by_cases hk : k < n * r.sz
    · rw [Array.getElem?_range, if_pos hk]
      simp only [Option.map_some]
      rw [rep_get (by omega) n k (by rw [hzl]; exact hk)]
      have hlt : k % zc.length < zc.length := Nat.mod_lt _ (by omega)
      rw [List.getElem?_eq_getElem hlt]
      congr 1
      rw [getElem!_pos _ _ (by simpa using hlt)]
      simp
    · rw [Array.getElem?_range, if_neg hk, List.getElem?_eq_none (by omega)]; rfl
  rw [e1]
  refine M.alc fun g h' x' M' => H g h' x' M' ⟨by simp, (List.replicate n zc).flatten, [_], [], rfl, ⟨hfl, .inr ⟨g, _, rfl, rfl, Nat.le_refl _, hn, by simpa using hfl, ?_⟩⟩, ows_rep O n⟩
  rw [List.take_of_length_le]
  show (List.replicate n zc).flatten.length ≤ n * r.sz
  omega
end
end Go.Sx
namespace Go.Sx
/-- An element of an own slice, whatever else there is. -/
theorem SlO.elem2 {β : Type} [Inhabited β] {e : Nat} {s : Rep β} {B : List Blk} {b : Option Addr} {l c i : Nat} {xs : List β} (S : SlO e s B b l c xs) (hi : i < l) :
    ∃ a0 F' C, b = some a0 ∧ (∀ h0 h L, Mem h0 h (B ++ L) → Pt s h0 h (a0.add (i * s.sz)) F' (C ++ L) xs[i]!) ∧ ∀ h0' h' L x, Pt s h0' h' (a0.add (i * s.sz)) F' (C ++ L) x → ∃ B', SlO e s B' b l c (xs.set i x) ∧ Mem h0' h' (B' ++ L) := by
  obtain ⟨h1, ws, B1, B2, rfl, O, h3⟩ := S
  rcases O.2 with ⟨_, _, h4, _⟩ | ⟨g, cs, rfl, rfl, h5, h6, h7, h8⟩
  · omega
  obtain ⟨pre, mid, post, C1, Cm, C2, e1, e2, rfl, O1, O2⟩ := h3.at (i := i) (by omega)
  have hc : cs = ⟨pre ++ (mid ++ (post ++ cs.toList.drop (l * s.sz)))⟩ := by
    have : cs.toList = ws ++ cs.toList.drop (l * s.sz) := by rw [← h8, List.take_append_drop]
    rw [e2] at this
    cases cs; simpa using this
  refine ⟨_, ⟨g, e, pre, post ++ cs.toList.drop (l * s.sz)⟩, C1 ++ C2, rfl, fun h0 h L M => ⟨?_, mid, Cm, ?_, by rw [getElem!_pos _ i (by omega)]; exact O1⟩, fun h0' h' L x P' => ?_⟩
  · rw [add_none]; simp [e1]
  · rw [← hc]
    exact M.cnt fun p => by simp only [cnt_app, cnt_cons, cnt_nil]; omega
  · obtain ⟨_, md', B', M', O'⟩ := P'
    have hm := s.olen O'
    have hm0 := s.olen O1
    have hws : ws.length = l * s.sz := O.1
    have hlen : (pre ++ (md' ++ post)).length = l * s.sz := by rw [← hws, e2]; simp [hm, hm0]
    refine ⟨(g, e, ⟨pre ++ (md' ++ (post ++ cs.toList.drop (l * s.sz)))⟩) :: (C1 ++ (B' ++ C2)), ⟨by simpa using h1, pre ++ (md' ++ post), [_], _, rfl, ⟨hlen, .inr ⟨g, _, rfl, rfl, h5, h6, ?_, ?_⟩⟩, O2 _ _ _ O'⟩, ?_⟩
    · have : cs.toList.length = c * s.sz := by simpa using h7
      have hle := Nat.mul_le_mul_right s.sz h5
      simp only [List.size_toArray]
      have : (pre ++ (md' ++ (post ++ cs.toList.drop (l * s.sz)))).length = (pre ++ (md' ++ post)).length + (cs.toList.drop (l * s.sz)).length := by simp; omega
      rw [this, hlen, List.length_drop]; omega
    · show List.take _ (pre ++ (md' ++ (post ++ _))) = _
      have e5 : pre ++ (md' ++ (post ++ cs.toList.drop (l * s.sz))) = (pre ++ (md' ++ post)) ++ cs.toList.drop (l * s.sz) := by simp
      rw [e5, ← hlen]
      exact List.take_left
    · exact M'.cnt fun p => by simp only [cnt_app, cnt_cons, cnt_nil]; omega
end Go.Sx
/- How Ring, Filter lie in cells; their parts; given ones opened. -/
set_option linter.unusedVariables false
set_option linter.unusedSimpArgs false
namespace Go.Sx
open Go.Proofs
def z_Ring : GRing := ⟨[], 0⟩
def rFilter : Rep GFilter := (Rep.seq (rI .i64) (Rep.seq (rArr 3 (rF .f32)) ((rArr 2 (rF .f32))))).via fun a => (a.Kind, a.C, a.S)
theorem foc_Filter_Kind : Foc rFilter (rI .i64) 0 (fun a => a.Kind) (fun a b => { a with Kind := b }) := (Foc.via (f := fun a : GFilter => (a.Kind, a.C, a.S)) (get' := fun a => a.Kind) (put' := fun a b => { a with Kind := b }) (Foc.fst (Foc.here (rI .i64))) (fun _ => rfl) (fun _ _ => rfl)).at rfl
theorem foc_Filter_C : Foc rFilter (rArr 3 (rF .f32)) 1 (fun a => a.C) (fun a b => { a with C := b }) := (Foc.via (f := fun a : GFilter => (a.Kind, a.C, a.S)) (get' := fun a => a.C) (put' := fun a b => { a with C := b }) (Foc.snd (Foc.fst (Foc.here (rArr 3 (rF .f32))))) (fun _ => rfl) (fun _ _ => rfl)).at rfl
theorem foc_Filter_S : Foc rFilter (rArr 2 (rF .f32)) 4 (fun a => a.S) (fun a b => { a with S := b }) := (Foc.via (f := fun a : GFilter => (a.Kind, a.C, a.S)) (get' := fun a => a.S) (put' := fun a b => { a with S := b }) (Foc.snd (Foc.snd (Foc.here (rArr 2 (rF .f32))))) (fun _ => rfl) (fun _ _ => rfl)).at rfl
def z_Filter : GFilter := ⟨0, [0, 0, 0], [0, 0]⟩
instance lf_Filter_0 : FocC rFilter 0 (rI .i64) (fun a => a.Kind) (fun a b => { a with Kind := b }) := ⟨Foc.at foc_Filter_Kind rfl⟩
instance lf_Filter_1 : FocC rFilter 1 (rF .f32) (fun a => a.C[0]!) (fun a b => { a with C := a.C.set 0 b }) := ⟨Foc.at (foc_Filter_C.trans (Foc.arr (rF .f32) 0 (by decide))) rfl⟩
instance lf_Filter_2 : FocC rFilter 2 (rF .f32) (fun a => a.C[1]!) (fun a b => { a with C := a.C.set 1 b }) := ⟨Foc.at (foc_Filter_C.trans (Foc.arr (rF .f32) 1 (by decide))) rfl⟩
instance lf_Filter_3 : FocC rFilter 3 (rF .f32) (fun a => a.C[2]!) (fun a b => { a with C := a.C.set 2 b }) := ⟨Foc.at (foc_Filter_C.trans (Foc.arr (rF .f32) 2 (by decide))) rfl⟩
instance lf_Filter_4 : FocC rFilter 4 (rF .f32) (fun a => a.S[0]!) (fun a b => { a with S := a.S.set 0 b }) := ⟨Foc.at (foc_Filter_S.trans (Foc.arr (rF .f32) 0 (by decide))) rfl⟩
instance lf_Filter_5 : FocC rFilter 5 (rF .f32) (fun a => a.S[1]!) (fun a b => { a with S := a.S.set 1 b }) := ⟨Foc.at (foc_Filter_S.trans (Foc.arr (rF .f32) 1 (by decide))) rfl⟩
end Go.Sx
/- What functions of this seat's program compute, told in words (a predicate over heaps for each), and the proofs that the words are no more than the code's own weakest precondition. -/
namespace Go.Sx
open Go.Proofs
set_option linter.unusedVariables false
set_option maxRecDepth 100000

def slices_Clone_sl_float32_float32.S (s_0b : Option Addr) (s_0l s_0c : Nat) (Post : Value → Heap → Prop) (h : Heap) : Prop :=
    CMP prg .eql T_sl_float32 (.tmp 3) (.const (.slice none 0 0)) (.slice s_0b s_0l s_0c) (.slice none 0 0) (fun b1 h2 =>
    BIF b1 (
    Post (.slice none 0 0) h2) (
    ALC ⟨[]⟩ T_float32 (fun g3 h4 =>
    SEMV prg (Builtin.append_ #[T_sl_float32, T_sl_float32] T_sl_float32 #[.slice (some ⟨g3, 0, none⟩) 0 0, .slice s_0b s_0l s_0c]) (fun q5 h6 =>
    asL q5 fun l7b l7l l7c =>
    Post (.slice l7b l7l l7c) h6) h4) h2)) h
noncomputable def slices_Clone_sl_float32_float32.code : Code := (Tryz.f105.body).getD .skip
theorem slices_Clone_sl_float32_float32.call {s_0b : Option Addr} {s_0l s_0c : Nat} {Post : Value → Heap → Prop} {h : Heap} (H : slices_Clone_sl_float32_float32.S s_0b s_0l s_0c Post h) : CALL prg f_slices_Clone_sl_float32_float32 #[.slice s_0b s_0l s_0c] Post h :=
  fn_call tau_ok mixed (c := slices_Clone_sl_float32_float32.code) (Λ := lookL []) Tryz.func105 (by kernel_rfl) (by kernel_rfl)
    (Rq.free (by kernel_rfl))
    (Eq.mp (by kernel_rfl) H)

end Go.Sx
/- Rings and filters in the program: what the functions compute. -/
set_option linter.unusedVariables false
set_option linter.unusedSimpArgs false
namespace Go.Sx
open Go.Proofs
set_option maxRecDepth 100000

theorem maxLen_lt : (maxLen : Nat) < 9223372036854775808 := by decide
/-- Where the first element is of which p holds; -1: nowhere. -/
def firstAt {α : Type} (p : α → Bool) (l : List α) : Int := if l.any p then (l.findIdx p : Nat) else -1
theorem firstAt_none {α : Type} [Inhabited α] {p : α → Bool} {l : List α} (h : ∀ i, i < l.length → p l[i]! = false) : firstAt p l = -1 := by
  unfold firstAt
  rw [if_neg]
  rw [Bool.not_eq_true, List.any_eq_false]
  intro x hx
  obtain ⟨i, hi, rfl⟩ := List.mem_iff_getElem.1 hx
  have := h i hi
  rw [getElem!_pos l i hi] at this
  rw [this]; decide
theorem firstAt_some {α : Type} [Inhabited α] {p : α → Bool} {l : List α} {n : Nat} (hn : n < l.length) (h : ∀ i, i < n → p l[i]! = false) (hp : p l[n]! = true) : firstAt p l = n := by
  unfold firstAt
  rw [getElem!_pos l n hn] at hp
  rw [if_pos (List.any_eq_true.2 ⟨_, List.getElem_mem hn, hp⟩)]
  congr 1
  rw [List.findIdx_eq hn]
  refine ⟨hp, fun j hj => ?_⟩
  have := h j hj
  rw [getElem!_pos l j (by omega)] at this
  simpa using this
theorem firstAt_any {α : Type} (p : α → Bool) (l : List α) : decide (0 ≤ firstAt p l) = l.any p := by
  unfold firstAt
  split
  · next h => rw [h]; exact decide_eq_true (by omega)
  · next h => rw [Bool.not_eq_true] at h; rw [h]; rfl
theorem CALLD.mono {P : Program} {f : Value} {args : Array Value} {K K' : Value → Heap → Prop} {h : Heap} (hk : ∀ v h, K v h → K' v h) (H : CALLD P f args K h) : CALLD P f args K' h := by
  unfold CALLD at H ⊢
  split at H
  · exact CALL.mono hk H
  · exact SEMN.mono hk H
end Go.Sx
