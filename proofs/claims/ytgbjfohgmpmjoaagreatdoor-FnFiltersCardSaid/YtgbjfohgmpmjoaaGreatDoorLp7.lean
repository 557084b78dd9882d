/- Own blocks counted (their order does not matter); values put together out of parts; results of calls taken up. -/
import Derived.Test.YtgbjfohgmpmjoaaGreatDoorLp4
set_option linter.unusedVariables false
set_option linter.unusedSimpArgs false
namespace Go.Sx
theorem nt {b : Bool} (h : (!b) = true) : b = false := by cases b <;> simp_all
theorem nf {b : Bool} (h : (!b) = false) : b = true := by cases b <;> simp_all
open Classical

noncomputable def cnt (p : Blk) (L : List Blk) : Nat := L.countP fun q => decide (q = p)
theorem cnt_nil (p : Blk) : cnt p [] = 0 := rfl
theorem cnt_cons (p q : Blk) (L : List Blk) : cnt p (q :: L) = (if q = p then 1 else 0) + cnt p L := by
  unfold cnt
  rw [List.countP_cons]
  by_cases h : q = p <;> simp [h]; omega
theorem cnt_app (p : Blk) (L M : List Blk) : cnt p (L ++ M) = cnt p L + cnt p M := by unfold cnt; exact List.countP_append
theorem cnt_pos {p : Blk} {L : List Blk} : 0 < cnt p L ↔ p ∈ L := by
  unfold cnt; rw [List.countP_pos_iff]; simp
theorem Mem.one {h0 h : Heap} {L : List Blk} (M : Mem h0 h L) (p : Blk) : cnt p L ≤ 1 := by
  have hne := M.ne
  clear M
  induction L with
  | nil => rw [cnt_nil]; omega
  | cons q L ih =>
    obtain ⟨h1, h2⟩ := List.pairwise_cons.1 hne
    have h3 := ih h2
    rw [cnt_cons]
    split
    · next e =>
      subst e
      have : cnt q L = 0 := by
        rcases Nat.eq_zero_or_pos (cnt q L) with h | h
        · exact h
        · exact absurd rfl (h1 q (cnt_pos.1 h))
      omega
    · omega
/-- Fewer blocks, in whatever order. -/
theorem Mem.cnt {h0 h : Heap} {L W : List Blk} (M : Mem h0 h L) (hc : ∀ p, Sx.cnt p W ≤ Sx.cnt p L) : Mem h0 h W := by
  have hm : ∀ p ∈ W, p ∈ L := fun p hp => cnt_pos.1 (Nat.lt_of_lt_of_le (cnt_pos.2 hp) (hc p))
  refine ⟨M.ext, fun p hp => M.at_ p (hm p hp), ?_⟩
  have h1 : ∀ p, Sx.cnt p W ≤ 1 := fun p => Nat.le_trans (hc p) (M.one p)
  have hu : ∀ p ∈ L, ∀ q ∈ L, p.1 = q.1 → p = q := by
    intro p hp q hq e
    have a := (M.at_ p hp).2
    have b := (M.at_ q hq).2
    rw [e] at a
    rw [a] at b
    obtain ⟨p1, p2, p3⟩ := p
    obtain ⟨q1, q2, q3⟩ := q
    simp only at e
    subst e
    simp only [Option.some.injEq, Obj.cells.injEq] at b
    rw [b.1, b.2.1]
  clear hc
  induction W with
  | nil => exact List.Pairwise.nil
  | cons q W ih =>
    refine List.pairwise_cons.2 ⟨fun p hp e => ?_, ih (fun p hp => hm p (.tail _ hp)) (fun p => ?_)⟩
    · have := hu q (hm q (.head _)) p (hm p (.tail _ hp)) e
      subst this
      have h2 := h1 q
      rw [cnt_cons, if_pos rfl] at h2
      have := cnt_pos.2 hp
      omega
    · have h2 := h1 p
      rw [cnt_cons] at h2
      omega
section
variable {α β : Type} {r : Rep α} {p : Rep β} {h0 h h' hb : Heap} {L : List Blk}
/-- Nothing but what lies within the data is looked at. -/
theorem RdP.pinO {q : Addr} {x : α} {off n : Nat} {P : Prop} (R : RdP r hb q x) (ho : off + n ≤ r.sz) (X : Ext hb h) (H : P) : PIN hb (q.add off) n h P := by
  obtain ⟨vs, h1, h2⟩ := R
  have := r.rlen h2
  exact Sx.pin X (fun j hj => ⟨vs[off + j]'(by omega), by rw [add_add']; exact h1 _ _ (List.getElem?_eq_getElem (by omega))⟩) H
theorem RdP.pin2 {g : Nat} {x : α} {off n : Nat} {P : Prop} (R : RdP r hb ⟨g, 0, none⟩ x) (ho : off + n ≤ r.sz) (X : Ext hb h) (H : P) : PIN hb ⟨g, off, none⟩ n h P := by
  have := RdP.pinO (off := off) (n := n) R ho X H
  rwa [add_g] at this
/-- A new value taken up beside what is there. -/
theorem NewR.go {P : Program} {f : FuncId} {args : Array Value} {a : α} {K : Value → Heap → Prop} (M : Mem hb h L) (c : CALL P f args (fun u h' => NewR r h h' u a) h) (H : ∀ h' cs B, Mem hb h' (B ++ L) → r.ow B cs.toList a → cs.size = r.sz → K (.agg cs) h') : CALL P f args K h :=
  c.mono fun u h' ⟨cs, B, e, O, N⟩ => by subst e; exact H h' cs B (M.join N) O (by simpa using r.olen O)
/-- A value answered, nothing else changed. -/
theorem goM {P : Program} {f : FuncId} {args : Array Value} {v : Value} {K : Value → Heap → Prop} (M : Mem hb h L) (c : CALL P f args (fun u h' => u = v ∧ Ext h h') h) (H : ∀ h', Mem hb h' L → K v h') : CALL P f args K h :=
  c.mono fun u h' ⟨e, x⟩ => by subst e; exact H h' (M.grow x)
theorem goX {P : Program} {f : FuncId} {args : Array Value} {v : Value} {K : Value → Heap → Prop} (c : CALL P f args (fun u h' => u = v ∧ Ext h h') h) (H : ∀ h', Ext h h' → K v h') : CALL P f args K h :=
  c.mono fun u h' ⟨e, x⟩ => by subst e; exact H h' x
end
end Go.Sx
namespace Go.Sx
section
variable {α : Type} {r : Rep α} {h0 h h' : Heap} {L : List Blk}
theorem rsz {n : Nat} {cs : Array Value} {a : α} (R : r.rd h cs.toList a) (hn : r.sz = n) : cs.size = n := by have := r.rlen R; rw [Array.length_toList] at this; omega
theorem osz {n : Nat} {cs : Array Value} {B : List Blk} {a : α} (R : r.ow B cs.toList a) (hn : r.sz = n) : cs.size = n := by have := r.olen R; rw [Array.length_toList] at this; omega
end
end Go.Sx
namespace Go.Sx
theorem siz {n m : Nat} {p : Prop} (e : n = m) (H : p) : SIZ n m p := ⟨e, H⟩
section
variable {α : Type} {r : Rep α} {h0 h : Heap} {q : Addr} {F : Fr} {L W : List Blk} {a : α}
theorem Pt.cnt (P : Pt r h0 h q F L a) (hc : ∀ p, Sx.cnt p W ≤ Sx.cnt p L) : Pt r h0 h q F W a := by
  obtain ⟨e, mid, B, M, O⟩ := P
  refine ⟨e, mid, B, M.cnt fun p => ?_, O⟩
  have := hc p
  simp only [cnt_cons, cnt_app]
  omega
/-- A result of a call put beside own data. -/
theorem NewR.pt {β : Type} {s : Rep β} {P : Program} {f : FuncId} {args : Array Value} {b : β} {K : Value → Heap → Prop} (Pa : Pt r h0 h q F L a) (c : CALL P f args (fun u h' => NewR s h h' u b) h) (H : ∀ h' cs B, Pt r h0 h' q F (B ++ L) a → s.ow B cs.toList b → cs.size = s.sz → K (.agg cs) h') : CALL P f args K h :=
  c.mono fun u h' ⟨cs, B, e, O, N⟩ => by subst e; exact H h' cs B (Pa.join N) O (by simpa using s.olen O)
end
end Go.Sx
namespace Go.Sx
theorem Pick.skip {B L L' : List Blk} {g T : Nat} {cs : Array Value} (k : Pick L g T cs L') : Pick (B ++ L) g T cs (B ++ L') := by
  induction B with
  | nil => exact k
  | cons p B ih => exact .there ih
theorem Look.skip {B L : List Blk} {g : Nat} {cs : Array Value} (k : Look L g cs) : Look (B ++ L) g cs := by
  induction B with
  | nil => exact k
  | cons p B ih => exact .there ih
end Go.Sx
namespace Go.Sx
section
variable {α : Type} {r : Rep α} {h0 h : Heap} {L : List Blk}
theorem Mem.st1M {g T j : Nat} {pre post : List Value} {u v : Value} {F : Heap → Prop} (M : Mem h0 h ((g, T, ⟨pre ++ ([u] ++ post)⟩) :: L)) (hj : pre.length = j)
    (H : ∀ h', Mem h0 h' ((g, T, ⟨pre ++ ([v] ++ post)⟩) :: L) → F h') : ST1 h ⟨g, j, none⟩ v F := by
  refine M.st1 .here (by simp; omega) .here fun h' M' => H h' ?_
  have : (⟨pre ++ ([u] ++ post)⟩ : Array Value).setIfInBounds j v = ⟨pre ++ ([v] ++ post)⟩ := by
    have := set_mid pre [u] post 0 v (by simp)
    rw [Nat.add_zero, hj] at this
    exact this
  rw [this] at M'
  exact M'
end
end Go.Sx
namespace Go.Sx
end Go.Sx
namespace Go.Sx
end Go.Sx
namespace Go.Sx
end Go.Sx
namespace Go.Sx
/-- An element of an own slice, whatever else there is. -/
theorem SlO.elem2 {β : Type} [Inhabited β] {e : Nat} {s : Rep β} {B : List Blk} {b : Option Addr} {l c i : Nat} {xs : List β} (S : SlO e s B b l c xs) (hi : i < l) :
    ∃ a0 F' C, b = some a0 ∧ (∀ h0 h L, Mem h0 h (B ++ L) → Pt s h0 h (a0.add (i * s.sz)) F' (C ++ L) xs[i]!) ∧ ∀ h0' h' L x, Pt s h0' h' (a0.add (i * s.sz)) F' (C ++ L) x → ∃ B', SlO e s B' b l c (xs.set i x) ∧ Mem h0' h' (B' ++ L) := by
  obtain ⟨h1, ws, B1, B2, rfl, O, h3⟩ := S
  rcases O.2 with ⟨_, _, h4, _⟩ | ⟨g, cs, rfl, rfl, h5, h6, h7, h8⟩
  · omega
  obtain ⟨pre, mid, post, C1, Cm, C2, e1, e2, rfl, O1, O2⟩ := h3.at (i := i) (by omega)
  have hc : cs = ⟨pre ++ (mid ++ (post ++ cs.toList.drop (l * s.sz)))⟩ := by
    have : cs.toList = ws ++ cs.toList.drop (l * s.sz) := by rw [← h8, List.take_append_drop]
    rw [e2] at this
    cases cs; simpa using this
  refine ⟨_, ⟨g, e, pre, post ++ cs.toList.drop (l * s.sz)⟩, C1 ++ C2, rfl, fun h0 h L M => ⟨?_, mid, Cm, ?_, by rw [getElem!_pos _ i (by omega)]; exact O1⟩, fun h0' h' L x P' => ?_⟩
  · rw [add_none]; simp [e1]
  · rw [← hc]
    exact M.cnt fun p => by simp only [cnt_app, cnt_cons, cnt_nil]; omega
  · obtain ⟨_, md', B', M', O'⟩ := P'
    have hm := s.olen O'
    have hm0 := s.olen O1
    have hws : ws.length = l * s.sz := O.1
    have hlen : (pre ++ (md' ++ post)).length = l * s.sz := by rw [← hws, e2]; simp [hm, hm0]
    refine ⟨(g, e, ⟨pre ++ (md' ++ (post ++ cs.toList.drop (l * s.sz)))⟩) :: (C1 ++ (B' ++ C2)), ⟨by simpa using h1, pre ++ (md' ++ post), [_], _, rfl, ⟨hlen, .inr ⟨g, _, rfl, rfl, h5, h6, ?_, ?_⟩⟩, O2 _ _ _ O'⟩, ?_⟩
    · have : cs.toList.length = c * s.sz := by simpa using h7
      have hle := Nat.mul_le_mul_right s.sz h5
      simp only [List.size_toArray]
      have : (pre ++ (md' ++ (post ++ cs.toList.drop (l * s.sz)))).length = (pre ++ (md' ++ post)).length + (cs.toList.drop (l * s.sz)).length := by simp; omega
      rw [this, hlen, List.length_drop]; omega
    · show List.take _ (pre ++ (md' ++ (post ++ _))) = _
      have e5 : pre ++ (md' ++ (post ++ cs.toList.drop (l * s.sz))) = (pre ++ (md' ++ post)) ++ cs.toList.drop (l * s.sz) := by simp
      rw [e5, ← hlen]
      exact List.take_left
    · exact M'.cnt fun p => by simp only [cnt_app, cnt_cons, cnt_nil]; omega
end Go.Sx
