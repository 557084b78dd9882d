/- Own data behind a pointer: read, written, taken part by part, element by element. -/
import Derived.Test.YtnhcoeogejgidabGreatDoorLp1
import Derived.Test.YtnhcoeogejgidabGreatDoorLg
import Derived.Test.YtnhcoeogejgidabGreatDoorLx2
set_option linter.unusedVariables false
set_option linter.unusedSimpArgs false
namespace Go.Sx

/-- Where in which block data lie: what stands before and behind them. -/
structure Fr where
  g : Nat
  T : Nat
  pre : List Value
  post : List Value
def Pt {α : Type} (r : Rep α) (h0 h : Heap) (q : Addr) (F : Fr) (L : List Blk) (a : α) : Prop :=
  q = ⟨F.g, F.pre.length, none⟩ ∧ ∃ mid B, Mem h0 h ((F.g, F.T, ⟨F.pre ++ (mid ++ F.post)⟩) :: (B ++ L)) ∧ r.ow B mid a
theorem perm_out (p : Blk) (B1 Bm B2 L : List Blk) : (p :: ((B1 ++ (Bm ++ B2)) ++ L)).Perm (p :: (Bm ++ (B1 ++ (B2 ++ L)))) := by
  refine List.Perm.cons _ ?_
  simp only [List.append_assoc]
  rw [← List.append_assoc B1, ← List.append_assoc Bm]
  exact List.Perm.append_right _ List.perm_append_comm
section
variable {α β : Type} {r : Rep α} {h0 h : Heap} {q : Addr} {F : Fr} {L : List Blk} {a : α} {off : Nat}
theorem Pt.mem (P : Pt r h0 h q F L a) : Mem h0 h L := by
  obtain ⟨_, mid, B, M, _⟩ := P
  exact M.sub ((List.sublist_append_right _ _).trans (List.sublist_cons_self _ _))
theorem Pt.ext (P : Pt r h0 h q F L a) : Ext h0 h := P.mem.ext
theorem Pt.grow {h' : Heap} (P : Pt r h0 h q F L a) (x : Ext h h') : Pt r h0 h' q F L a := by
  obtain ⟨e, mid, B, M, O⟩ := P
  exact ⟨e, mid, B, M.grow x, O⟩
theorem Pt.new {cs : Array Value} {B : List Blk} {g T : Nat} (O : r.ow B cs.toList a) (M : Mem h0 h ((g, T, cs) :: (B ++ L))) : Pt r h0 h ⟨g, 0, none⟩ ⟨g, T, [], []⟩ L a :=
  ⟨rfl, cs.toList, B, by simpa using M, O⟩
theorem Pt.out {g T : Nat} (P : Pt r h0 h ⟨g, 0, none⟩ ⟨g, T, [], []⟩ L a) : ∃ cs B, Mem h0 h ((g, T, cs) :: (B ++ L)) ∧ r.ow B cs.toList a := by
  obtain ⟨_, mid, B, M, O⟩ := P
  exact ⟨⟨mid⟩, B, by simpa using M, O⟩
theorem Pt.rd (P : Pt r h0 h q F L a) : RdP r h q a := by
  obtain ⟨rfl, mid, B, M, O⟩ := P
  refine ⟨mid, fun i v e => ?_, r.look O M ((List.sublist_append_left _ _).trans (List.sublist_cons_self _ _))⟩
  rw [add_none, M.cell .here]
  rw [List.getElem?_toArray]
  rw [List.getElem?_append_right (Nat.le_add_right _ _), Nat.add_sub_cancel_left, List.getElem?_append_left (List.getElem?_eq_some_iff.1 e).1, e]
theorem Pt.froz (P : Pt r h0 h q F L a) (j : Nat) : Sx.froz h (q.add j) = false := by
  obtain ⟨rfl, mid, B, M, O⟩ := P
  rw [add_none]; exact M.froz .here _
theorem Pt.foc {p : Rep β} {get : α → β} {put : α → β → α} (P : Pt r h0 h q F L a) (Fc : Foc r p off get put) : ∃ F' L', Pt p h0 h (q.add off) F' L' (get a) ∧ L.Sublist L' ∧ ∀ h0' h' b', Pt p h0' h' (q.add off) F' L' b' → Pt r h0' h' q F L (put a b') := by
  obtain ⟨rfl, mid, B, M, O⟩ := P
  obtain ⟨pre, md, post, B1, Bm, B2, e1, rfl, rfl, O1, O2⟩ := Fc.fo O
  refine ⟨⟨F.g, F.T, F.pre ++ pre, post ++ F.post⟩, B1 ++ (B2 ++ L), ⟨?_, md, Bm, ?_, O1⟩, ?_, fun h0' h' b' P' => ?_⟩
  · rw [add_none]; simp [e1]
  · have := M.perm (perm_out _ _ _ _ _)
    simpa using this
  · exact (List.sublist_append_right _ _).trans (List.sublist_append_right _ _)
  · obtain ⟨_, md', B', M', O'⟩ := P'
    refine ⟨rfl, pre ++ (md' ++ post), B1 ++ (B' ++ B2), ?_, O2 B' md' b' O'⟩
    have := M'.perm (perm_out _ _ _ _ _).symm
    simpa using this
theorem set_mid (pre mid post : List Value) (i : Nat) (v : Value) (hi : i < mid.length) : (⟨pre ++ (mid ++ post)⟩ : Array Value).setIfInBounds (pre.length + i) v = ⟨pre ++ (mid.set i v ++ post)⟩ := by
  rw [List.setIfInBounds_toArray]
  congr 1
  rw [List.set_append_right _ _ (by omega), Nat.add_sub_cancel_left, List.set_append_left _ _ hi]
/-- One cell written; the blocks B' of what is written are taken out of the frame. -/
theorem Pt.st {p : Rep β} {get : α → β} {put : α → β → α} {b : β} {v : Value} {B' : List Blk} {K : Heap → Prop} (P : Pt r h0 h q F (B' ++ L) a) (Fc : Foc r p off get put) (hp : p.sz = 1) (O : p.ow B' [v] b)
    (H : ∀ h', Pt r h0 h' q F L (put a b) → K h') : ST1 h (q.add off) v K := by
  obtain ⟨rfl, mid, B, M, O0⟩ := P
  obtain ⟨pre, md, post, B1, Bm, B2, e1, rfl, rfl, O1, O2⟩ := Fc.fo O0
  have hl := p.olen O1
  rw [hp] at hl
  obtain ⟨u, rfl⟩ := List.length_eq_one_iff.1 hl
  rw [add_none]
  refine M.st1 .here (by simp; omega) .here fun h' M' => H h' ⟨rfl, pre ++ ([v] ++ post), B1 ++ (B' ++ B2), ?_, O2 _ _ _ O⟩
  rw [set_mid _ _ _ _ _ (by simp; omega), show (pre ++ ([u] ++ post)).set off v = pre ++ ([v] ++ post) by rw [List.set_append_right _ _ (by omega), e1, Nat.sub_self]; rfl] at M'
  have s : ((B1 ++ (B' ++ B2)) ++ L).Sublist (B1 ++ (B' ++ B2) ++ L) := List.Sublist.refl _
  have key : ((B1 ++ (Bm ++ B2)) ++ (B' ++ L)).Perm (Bm ++ ((B1 ++ (B' ++ B2)) ++ L)) := by
    simp only [List.append_assoc]
    refine (List.perm_append_comm_assoc _ _ _).trans (List.Perm.append_left _ (List.Perm.append_left _ (List.perm_append_comm_assoc _ _ _)))
  exact (M'.perm (List.Perm.cons _ key)).sub (List.Sublist.cons_cons _ (List.sublist_append_right _ _))
/-- Several cells written. -/
theorem Pt.sts {p : Rep β} {get : α → β} {put : α → β → α} {b : β} {n : Nat} {vs : Array Value} {B' : List Blk} {K : Heap → Prop} (P : Pt r h0 h q F (B' ++ L) a) (Fc : Foc r p off get put) (hp : p.sz = n) (O : p.ow B' vs.toList b)
    (H : ∀ h', Pt r h0 h' q F L (put a b) → K h') : STA n h (q.add off) vs K := by
  obtain ⟨rfl, mid, B, M, O0⟩ := P
  obtain ⟨pre, md, post, B1, Bm, B2, e1, rfl, rfl, O1, O2⟩ := Fc.fo O0
  have hl := p.olen O1
  have hv := p.olen O
  rw [hp] at hl hv
  rw [add_none]
  refine M.sta .here (by simpa using hv) (p.oone O) (by simp; omega) .here fun h' M' => H h' ⟨rfl, pre ++ (vs.toList ++ post), B1 ++ (B' ++ B2), ?_, O2 _ _ _ O⟩
  have e2 : putAt ⟨F.pre ++ ((pre ++ (md ++ post)) ++ F.post)⟩ (F.pre.length + off) vs.toList = ⟨F.pre ++ ((pre ++ (vs.toList ++ post)) ++ F.post)⟩ := by
    apply Array.ext_getElem?
    intro i
    rw [putAt_get]
    simp only [List.getElem?_toArray, List.size_toArray, List.length_append]
    have e3 : F.pre ++ ((pre ++ (md ++ post)) ++ F.post) = (F.pre ++ pre) ++ (md ++ (post ++ F.post)) := by simp
    have e4 : F.pre ++ ((pre ++ (vs.toList ++ post)) ++ F.post) = (F.pre ++ pre) ++ (vs.toList ++ (post ++ F.post)) := by simp
    have e5 : (F.pre ++ pre).length = F.pre.length + off := by simp [e1]
    rw [e3, e4]
    by_cases h1 : i < F.pre.length + off
    · rw [if_neg (by omega), List.getElem?_append_left (l₁ := F.pre ++ pre) (by rw [e5]; omega), List.getElem?_append_left (l₁ := F.pre ++ pre) (by rw [e5]; omega)]
    · rw [List.getElem?_append_right (l₁ := F.pre ++ pre) (by rw [e5]; omega), List.getElem?_append_right (l₁ := F.pre ++ pre) (by rw [e5]; omega), e5]
      by_cases h2 : i - (F.pre.length + off) < n
      · rw [if_pos (by omega), List.getElem?_append_left (l₁ := vs.toList) (by omega)]
      · rw [if_neg (by omega), List.getElem?_append_right (l₁ := vs.toList) (by omega), List.getElem?_append_right (l₁ := md) (by omega), hl, hv]
  rw [e2] at M'
  have key : ((B1 ++ (Bm ++ B2)) ++ (B' ++ L)).Perm (Bm ++ ((B1 ++ (B' ++ B2)) ++ L)) := by
    simp only [List.append_assoc]
    refine (List.perm_append_comm_assoc _ _ _).trans (List.Perm.append_left _ (List.Perm.append_left _ (List.perm_append_comm_assoc _ _ _)))
  exact (M'.perm (List.Perm.cons _ key)).sub (List.Sublist.cons_cons _ (List.sublist_append_right _ _))
theorem Pt.stI {k : IntKind} {n : Int} {get : α → Int} {put : α → Int → α} {K : Heap → Prop} (P : Pt r h0 h q F L a) [Fc : FocC r off (rI k) get put] (H : ∀ h', Pt r h0 h' q F L (put a n) → K h') : ST1 h (q.add off) (.int k n) K :=
  Pt.st (B' := []) P Fc.f rfl ⟨rfl, rfl⟩ H
theorem Pt.stF {k : FloatKind} {x n : Nat} {get : α → Nat} {put : α → Nat → α} {K : Heap → Prop} (P : Pt r h0 h q F L a) [Fc : FocC r off (rF k) get put] (hx : FW k x n) (H : ∀ h', Pt r h0 h' q F L (put a n) → K h') : ST1 h (q.add off) (.float k x) K :=
  Pt.st (B' := []) P Fc.f rfl ⟨rfl, x, rfl, hx⟩ H
end
/-- An element of an own slice whose header lies in own data. -/
theorem SlO.elem {β : Type} [Inhabited β] {e : Nat} {s : Rep β} {B L : List Blk} {b : Option Addr} {l c i : Nat} {els : List β} {h0 h : Heap} (S : SlO e s B b l c els) (M : Mem h0 h (B ++ L)) (hi : i < l) :
    ∃ a0 F' L', b = some a0 ∧ Pt s h0 h (a0.add (i * s.sz)) F' L' els[i]! ∧ L.Sublist L' ∧ ∀ h0' h' x, Pt s h0' h' (a0.add (i * s.sz)) F' L' x → ∃ B', SlO e s B' b l c (els.set i x) ∧ Mem h0' h' (B' ++ L) := by
  obtain ⟨h1, ws, B1, B2, rfl, O, h3⟩ := S
  rcases O.2 with ⟨_, _, h4, _⟩ | ⟨g, cs, rfl, rfl, h5, h6, h7, h8⟩
  · omega
  obtain ⟨pre, mid, post, C1, Cm, C2, e1, e2, rfl, O1, O2⟩ := h3.at (i := i) (by omega)
  have hc : cs = ⟨pre ++ (mid ++ (post ++ cs.toList.drop (l * s.sz)))⟩ := by
    have : cs.toList = ws ++ cs.toList.drop (l * s.sz) := by rw [← h8, List.take_append_drop]
    rw [e2] at this
    cases cs; simpa using this
  refine ⟨_, ⟨g, e, pre, post ++ cs.toList.drop (l * s.sz)⟩, C1 ++ (C2 ++ L), rfl, ⟨?_, mid, Cm, ?_, by rw [getElem!_pos _ i (by omega)]; exact O1⟩, (List.sublist_append_right _ _).trans (List.sublist_append_right _ _), fun h0' h' x P' => ?_⟩
  · rw [add_none]; simp [e1]
  · rw [← hc]
    have : Mem h0 h ((g, e, cs) :: ((C1 ++ (Cm ++ C2)) ++ L)) := by simpa using M
    exact this.perm (perm_out _ _ _ _ _)
  · obtain ⟨_, md', B', M', O'⟩ := P'
    have hm := s.olen O'
    have hm0 := s.olen O1
    have hws : ws.length = l * s.sz := O.1
    have hlen : (pre ++ (md' ++ post)).length = l * s.sz := by rw [← hws, e2]; simp [hm, hm0]
    refine ⟨(g, e, ⟨pre ++ (md' ++ (post ++ cs.toList.drop (l * s.sz)))⟩) :: (C1 ++ (B' ++ C2)), ⟨by simpa using h1, pre ++ (md' ++ post), [_], _, rfl, ⟨hlen, .inr ⟨g, _, rfl, rfl, h5, h6, ?_, ?_⟩⟩, O2 _ _ _ O'⟩, ?_⟩
    · have : cs.toList.length = c * s.sz := by simpa using h7
      have hle := Nat.mul_le_mul_right s.sz h5
      simp only [List.size_toArray]
      have : (pre ++ (md' ++ (post ++ cs.toList.drop (l * s.sz)))).length = (pre ++ (md' ++ post)).length + (cs.toList.drop (l * s.sz)).length := by simp; omega
      rw [this, hlen, List.length_drop]; omega
    · show List.take _ (pre ++ (md' ++ (post ++ _))) = _
      have e5 : pre ++ (md' ++ (post ++ cs.toList.drop (l * s.sz))) = (pre ++ (md' ++ post)) ++ cs.toList.drop (l * s.sz) := by simp
      rw [e5, ← hlen]
      exact List.take_left
    · have := M'.perm (perm_out _ _ _ _ _).symm
      simpa using this
theorem Pt.elem {β : Type} [Inhabited β] {α : Type} {r : Rep α} {e : Nat} {s : Rep β} {get : α → List β} {put : α → List β → α} {h0 h : Heap} {q : Addr} {F : Fr} {L : List Blk} {a : α} {off i l c : Nat} {b : Option Addr}
    (P : Pt r h0 h q F L a) [Fc : FocC r off (rSl e s) get put] (hb : cell h (q.add off) = some (.slice b l c)) (hi : i < l) :
    ∃ a0 F' L', b = some a0 ∧ Pt s h0 h (a0.add (i * s.sz)) F' L' (get a)[i]! ∧ L.Sublist L' ∧ ∀ h0' h' x, Pt s h0' h' (a0.add (i * s.sz)) F' L' x → Pt r h0' h' q F L (put a ((get a).set i x)) ∧ cell h' (q.add off) = some (.slice b l c) := by
  obtain ⟨F1, L1, P1, hs, close⟩ := P.foc Fc.f
  obtain ⟨eq, mid, B, M, b', l', c', rfl, S⟩ := P1
  have e0 : cell h (q.add off) = some (.slice b' l' c') := by
    rw [eq, M.cell .here]; simp
  rw [hb] at e0
  cases e0
  have M1 : Mem h0 h (B ++ ((F1.g, F1.T, ⟨F1.pre ++ ([.slice b l c] ++ F1.post)⟩) :: L1)) := M.perm List.perm_middle.symm
  obtain ⟨a0, F2, L2, rfl, P2, hs2, close2⟩ := S.elem M1 hi
  refine ⟨a0, F2, L2, rfl, P2, (hs.trans (List.sublist_cons_self _ _)).trans hs2, fun h0' h' x P' => ?_⟩
  obtain ⟨B', S', M'⟩ := close2 h0' h' x P'
  have M2 := M'.perm List.perm_middle
  refine ⟨close h0' h' _ ⟨eq, [.slice (some a0) l c], B', M2, _, _, _, rfl, S'⟩, ?_⟩
  rw [eq, M2.cell .here]; simp
end Go.Sx
/- A float32 as a 16 bit number: times 32768 in float32 or in float64 comes to the same. -/
namespace Go.Sx
open Ieee
set_option linter.unusedVariables false
set_option linter.unusedSimpArgs false

theorem f32_consts : FloatKind.f32.format.fractionBits = 23 ∧ FloatKind.f32.format.leastPlace = -149 ∧ FloatKind.f32.format.binade = 2 ^ 23 ∧ FloatKind.f32.format.infRung = 255 * 2 ^ 23 := by decide +kernel
theorem zero32 (s : Bool) : FloatKind.f32.format.read (FloatKind.f32.format.word s 0) = .number s 0 (-149) := by cases s <;> decide +kernel
theorem nearest_zero (f : Format) (s : Bool) (p : Int) : f.nearest s 0 p = f.word s 0 := by unfold Format.nearest; rw [if_pos rfl]
theorem order_number (s t : Bool) (m n : Nat) (i j : Int) : (Datum.number s m i).order (.number t n j) = some (compare (signed s m (i - min i j).toNat) (signed t n (j - min i j).toNat)) := rfl
theorem signed_f (m u : Nat) : signed false m u = ((m * 2 ^ u : Nat) : Int) := by unfold signed; rw [Nat.shiftLeft_eq]; rfl
theorem signed_t (m u : Nat) : signed true m u = -((m * 2 ^ u : Nat) : Int) := by unfold signed; rw [Nat.shiftLeft_eq]; rfl
theorem compare_gt {a b : Int} (h : b < a) : compare a b = .gt := by
  show compareOfLessAndEq a b = _
  unfold compareOfLessAndEq
  rw [if_neg (by omega), if_neg (by omega)]
theorem compare_lt {a b : Int} (h : a < b) : compare a b = .lt := by
  show compareOfLessAndEq a b = _
  unfold compareOfLessAndEq
  rw [if_pos h]
theorem order_read {f : Format} {x y : Nat} {d e : Datum} (h1 : f.read x = d) (h2 : f.read y = e) : f.order x y = d.order e := by unfold Format.order; rw [h1, h2]
end Go.Sx
/- Floats cut to whole numbers within bounds; math.RoundToEven. -/
namespace Go.Sx
open Ieee
set_option linter.unusedVariables false
set_option linter.unusedSimpArgs false

theorem compare_ne_gt {a b : Int} (h : compare a b ≠ .gt) : a ≤ b := by
  rcases Int.lt_or_le b a with h1 | h1
  · exact absurd (compare_gt h1) h
  · exact h1
theorem compare_ne_lt {a b : Int} (h : compare a b ≠ .lt) : b ≤ a := by
  rcases Int.lt_or_le a b with h1 | h1
  · exact absurd (compare_lt h1) h
  · exact h1
end Go.Sx
/- Floats up to which NaN they are: operations, comparisons, conversions. -/
set_option linter.unusedVariables false
set_option linter.unusedSimpArgs false
namespace Go.Sx
open Ieee

section
variable {k : FloatKind} {x y a b r : Nat}
theorem FW.nan (h : FW k x a) : Sx.nan k x = Sx.nan k a := by rw [← h.1, nan_canon]
theorem FW.self (h : FW k x a) : cn k a = a := by rw [← h.1, canon_canon]
theorem FW.eq (h : FW k x a) (hn : Sx.nan k a = false) : x = a := by
  have := h.nan
  rw [hn] at this
  rw [← h.1]; unfold cn; rw [this]; rfl
theorem qn_lt (k : FloatKind) : qn k < 2 ^ k.format.width := by cases k <;> decide +kernel
theorem FW.lt (h : FW k x a) : a < 2 ^ k.format.width := by
  rw [← h.1]; unfold cn; split
  · exact qn_lt k
  · exact h.2
theorem op_cong {op : Nat → Nat → Option Nat} (hl : ∀ x y, Sx.nan k x = true → op x y = none) (hr : ∀ x y, Sx.nan k y = true → op x y = none) (hx : FW k x a) (hy : FW k y b) : op x y = op a b := by
  have h1 := hx.nan
  have h2 := hy.nan
  cases e1 : Sx.nan k a with
  | true => rw [hl a b e1, hl x y (by rw [h1, e1])]
  | false =>
    cases e2 : Sx.nan k b with
    | true => rw [hr a b e2, hr x y (by rw [h2, e2])]
    | false => rw [hx.eq e1, hy.eq e2]
theorem isnan_read {k : FloatKind} {x : Nat} (h : Sx.nan k x = true) : ∃ s t, k.format.read x = .nan s t := by
  unfold Sx.nan at h
  cases e : k.format.read x <;> rw [e] at h <;> first | (cases h; done) | exact ⟨_, _, rfl⟩
theorem sub_nl (x y : Nat) (h : Sx.nan k x = true) : k.format.sub x y = none := by obtain ⟨s, t, e⟩ := isnan_read h; unfold Format.sub; rw [e]; rfl
theorem sub_nr (x y : Nat) (h : Sx.nan k y = true) : k.format.sub x y = none := by obtain ⟨s, t, e⟩ := isnan_read h; unfold Format.sub; rw [e]; cases k.format.read x <;> rfl
theorem mul_nl (x y : Nat) (h : Sx.nan k x = true) : k.format.mul x y = none := by obtain ⟨s, t, e⟩ := isnan_read h; unfold Format.mul; rw [e]; rfl
theorem mul_nr (x y : Nat) (h : Sx.nan k y = true) : k.format.mul x y = none := by obtain ⟨s, t, e⟩ := isnan_read h; unfold Format.mul; rw [e]; cases k.format.read x <;> rfl
theorem div_nl (x y : Nat) (h : Sx.nan k x = true) : k.format.div x y = none := by obtain ⟨s, t, e⟩ := isnan_read h; unfold Format.div; rw [e]; rfl
theorem div_nr (x y : Nat) (h : Sx.nan k y = true) : k.format.div x y = none := by obtain ⟨s, t, e⟩ := isnan_read h; unfold Format.div; rw [e]; cases k.format.read x <;> rfl
def fadd (k : FloatKind) (a b : Nat) : Nat := cn k ((k.format.add a b).getD (qn k))
def fsub (k : FloatKind) (a b : Nat) : Nat := cn k ((k.format.sub a b).getD (qn k))
def fmul (k : FloatKind) (a b : Nat) : Nat := cn k ((k.format.mul a b).getD (qn k))
def fdiv (k : FloatKind) (a b : Nat) : Nat := cn k ((k.format.div a b).getD (qn k))
theorem isF_lt {k : FloatKind} {o : Option Nat} {r : Nat} (h : IsF k o r) (ho : ∀ v, o = some v → v < 2 ^ k.format.width) : r < 2 ^ k.format.width := by
  cases o with
  | some v => rw [show r = v from h]; exact ho v rfl
  | none =>
    cases k with
    | f32 =>
      obtain ⟨t, rfl⟩ := (h : isNaNW .f32 r)
      show _ < 2 ^ 32
      have hs : t % 2 = 0 ∨ t % 2 = 1 := by omega
      have hu : t / 2 % (2 ^ 23 - 1) < 2 ^ 23 - 1 := Nat.mod_lt _ (by decide)
      generalize t / 2 % (2 ^ 23 - 1) = u at hu ⊢
      rcases hs with hs | hs <;> rw [hs] <;> omega
    | f64 =>
      obtain ⟨t, rfl⟩ := (h : isNaNW .f64 r)
      show _ < 2 ^ 64
      have hs : t % 2 = 0 ∨ t % 2 = 1 := by omega
      have hu : t / 2 % (2 ^ 52 - 1) < 2 ^ 52 - 1 := Nat.mod_lt _ (by decide)
      generalize t / 2 % (2 ^ 52 - 1) = u at hu ⊢
      rcases hs with hs | hs <;> rw [hs] <;> omega
theorem fw_sub (hx : FW k x a) (hy : FW k y b) (h : IsF k (k.format.sub x y) r) : FW k r (fsub k a b) :=
  ⟨by rw [canon_of_isF h, op_cong sub_nl sub_nr hx hy]; rfl, isF_lt h fun v e => k.format.sub_lt e⟩
theorem fw_mul (hx : FW k x a) (hy : FW k y b) (h : IsF k (k.format.mul x y) r) : FW k r (fmul k a b) :=
  ⟨by rw [canon_of_isF h, op_cong mul_nl mul_nr hx hy]; rfl, isF_lt h fun v e => k.format.mul_lt e⟩
theorem fw_div (hx : FW k x a) (hy : FW k y b) (h : IsF k (k.format.div x y) r) : FW k r (fdiv k a b) :=
  ⟨by rw [canon_of_isF h, op_cong div_nl div_nr hx hy]; rfl, isF_lt h fun v e => k.format.div_lt e⟩
theorem fS {F : Nat → Prop} (hx : FW k x a) (hy : FW k y b) (H : ∀ r, FW k r (fsub k a b) → F r) : FOP k (k.format.sub x y) F := fun r h => H r (fw_sub hx hy h)
theorem fM {F : Nat → Prop} (hx : FW k x a) (hy : FW k y b) (H : ∀ r, FW k r (fmul k a b) → F r) : FOP k (k.format.mul x y) F := fun r h => H r (fw_mul hx hy h)
theorem fD {F : Nat → Prop} (hx : FW k x a) (hy : FW k y b) (H : ∀ r, FW k r (fdiv k a b) → F r) : FOP k (k.format.div x y) F := fun r h => H r (fw_div hx hy h)
theorem ord_eq (hx : FW k x a) (hy : FW k y b) : k.format.order x y = k.format.order a b := by
  have h1 := hx.nan
  have h2 := hy.nan
  cases e1 : Sx.nan k a with
  | true => rw [order_nan_left e1, order_nan_left (by rw [h1, e1])]
  | false =>
    cases e2 : Sx.nan k b with
    | true => rw [order_nan_right e2, order_nan_right (by rw [h2, e2])]
    | false => rw [hx.eq e1, hy.eq e2]
theorem nan32 (c : Nat) : Sx.nan .f32 c = decide (2139095040 < c % 2147483648) := by
  unfold Sx.nan
  have e1 : FloatKind.f32.format.signWeight = 2147483648 := rfl
  have e2 : FloatKind.f32.format.infRung = 2139095040 := by decide +kernel
  have e3 : FloatKind.f32.format.binade = 8388608 := rfl
  rw [read_isNaN, e1, e2, e3, decide_eq_decide]
  omega
theorem fw_c32 {c : Nat} (h : c % 2147483648 ≤ 2139095040) (h2 : c < 4294967296) : FW .f32 c c :=
  ⟨by unfold cn; rw [nan32, if_neg (by simpa using h)], h2⟩
theorem fw_nearest (k : FloatKind) (n : Int) : FW k (k.nearest n) (k.nearest n) :=
  ⟨by unfold cn; rw [nearest_not_nan]; rfl, by show k.format.nearest _ _ _ < _; exact k.format.nearest_lt _ _ _⟩
def fneg (k : FloatKind) (a : Nat) : Nat := cn k (Op.negFloat k a)
theorem nan_mod {x y : Nat} (h : x % k.format.signWeight = y % k.format.signWeight) : Sx.nan k x = Sx.nan k y := by
  unfold Sx.nan
  rw [read_isNaN, read_isNaN, h]
theorem neg_mod (x : Nat) : Op.negFloat k x % k.format.signWeight = x % k.format.signWeight := by
  unfold Op.negFloat Format.signWeight
  rw [Nat.xor_mod_two_pow, Nat.mod_self, Nat.xor_zero]
theorem fw_neg (hx : FW k x a) : FW k (Op.negFloat k x) (fneg k a) := by
  refine ⟨?_, ?_⟩
  · have h1 : Sx.nan k (Op.negFloat k x) = Sx.nan k x := nan_mod (neg_mod x)
    have h2 : Sx.nan k (Op.negFloat k a) = Sx.nan k a := nan_mod (neg_mod a)
    unfold fneg cn
    rw [h1, h2, hx.nan]
    split
    · rfl
    · next h => rw [hx.eq (by simpa using h)]
  · unfold Op.negFloat
    refine Nat.xor_lt_two_pow hx.2 ?_
    exact Nat.pow_lt_pow_right (by decide) (by unfold Format.width; omega)
/-- A float32 as a float64, and back where it fits. -/
def wid (a : Nat) : Nat := cn .f64 (wide a)
def nar (a : Nat) : Nat := cn .f32 (if nan .f64 a then qn .f32 else FloatKind.f32.encode (FloatKind.f64.decode a))
def fits (a : Nat) : Bool := match FloatKind.f64.decode a with | .number n m e => !(FloatKind.f32.decode (FloatKind.f32.encode (.number n m e))).isInfinity | _ => true
end
end Go.Sx
/- Given arguments as data: what the row's reading says, put together to data. -/
set_option linter.unusedVariables false
set_option linter.unusedSimpArgs false
namespace Go.Sx
open Go.ChangeShapes Go.WideShapes Go.ChangeAt Go.RowKit

section
variable {α β : Type} {P : Program}
theorem All2.split {H : Type} {enc : TypeId × Value → H} {w : World} {base : Nat} {spare : Nat → Bool} {held : Bool} : ∀ {l1 l2 : List TypeId} {vs : List Value}, All2 enc P w base spare held (l1 ++ l2) vs →
    ∃ v1 v2, vs = v1 ++ v2 ∧ All2 enc P w base spare held l1 v1 ∧ All2 enc P w base spare held l2 v2
  | [], l2, vs, h => ⟨[], vs, rfl, trivial, h⟩
  | t :: l1, l2, [], h => h.elim
  | t :: l1, l2, v :: vs, h => by
    obtain ⟨v1, v2, rfl, h1, h2⟩ := All2.split h.2
    exact ⟨v :: v1, v2, rfl, ⟨h.1, h1⟩, h2⟩
theorem All2.one {H : Type} {enc : TypeId × Value → H} {w : World} {base : Nat} {spare : Nat → Bool} {held : Bool} {t : TypeId} : ∀ {vs : List Value}, All2 enc P w base spare held [t] vs → ∃ v, vs = [v] ∧ Leaf enc P w base spare held t v
  | [], h => h.elim
  | [v], h => ⟨v, rfl, h.1⟩
  | _ :: _ :: _, h => h.2.elim
end
end Go.Sx
