/- Own data behind a pointer: read, written, taken part by part, element by element. -/
import Derived.Test.YtgbjfohgmpmjoaaGreatDoorLp1
import Derived.Test.YtgbjfohgmpmjoaaGreatDoorLfl
set_option linter.unusedVariables false
set_option linter.unusedSimpArgs false
namespace Go.Sx

/-- Where in which block data lie: what stands before and behind them. -/
structure Fr where
  g : Nat
  T : Nat
  pre : List Value
  post : List Value
def Pt {α : Type} (r : Rep α) (h0 h : Heap) (q : Addr) (F : Fr) (L : List Blk) (a : α) : Prop :=
  q = ⟨F.g, F.pre.length, none⟩ ∧ ∃ mid B, Mem h0 h ((F.g, F.T, ⟨F.pre ++ (mid ++ F.post)⟩) :: (B ++ L)) ∧ r.ow B mid a
theorem perm_out (p : Blk) (B1 Bm B2 L : List Blk) : (p :: ((B1 ++ (Bm ++ B2)) ++ L)).Perm (p :: (Bm ++ (B1 ++ (B2 ++ L)))) := by
  refine List.Perm.cons _ ?_
  simp only [List.append_assoc]
  rw [← List.append_assoc B1, ← List.append_assoc Bm]
  exact List.Perm.append_right _ List.perm_append_comm
section
variable {α β : Type} {r : Rep α} {h0 h : Heap} {q : Addr} {F : Fr} {L : List Blk} {a : α} {off : Nat}
theorem Pt.mem (P : Pt r h0 h q F L a) : Mem h0 h L := by
  obtain ⟨_, mid, B, M, _⟩ := P
  exact M.sub ((List.sublist_append_right _ _).trans (List.sublist_cons_self _ _))
theorem Pt.ext (P : Pt r h0 h q F L a) : Ext h0 h := P.mem.ext
theorem Pt.grow {h' : Heap} (P : Pt r h0 h q F L a) (x : Ext h h') : Pt r h0 h' q F L a := by
  obtain ⟨e, mid, B, M, O⟩ := P
  exact ⟨e, mid, B, M.grow x, O⟩
theorem Pt.new {cs : Array Value} {B : List Blk} {g T : Nat} (O : r.ow B cs.toList a) (M : Mem h0 h ((g, T, cs) :: (B ++ L))) : Pt r h0 h ⟨g, 0, none⟩ ⟨g, T, [], []⟩ L a :=
  ⟨rfl, cs.toList, B, by simpa using M, O⟩
theorem Pt.out {g T : Nat} (P : Pt r h0 h ⟨g, 0, none⟩ ⟨g, T, [], []⟩ L a) : ∃ cs B, Mem h0 h ((g, T, cs) :: (B ++ L)) ∧ r.ow B cs.toList a := by
  obtain ⟨_, mid, B, M, O⟩ := P
  exact ⟨⟨mid⟩, B, by simpa using M, O⟩
theorem Pt.rd (P : Pt r h0 h q F L a) : RdP r h q a := by
  obtain ⟨rfl, mid, B, M, O⟩ := P
  refine ⟨mid, fun i v e => ?_, r.look O M ((List.sublist_append_left _ _).trans (List.sublist_cons_self _ _))⟩
  rw [add_none, M.cell .here]
  rw [List.getElem?_toArray]
  rw [List.getElem?_append_right (Nat.le_add_right _ _), Nat.add_sub_cancel_left, List.getElem?_append_left (List.getElem?_eq_some_iff.1 e).1, e]
theorem Pt.froz (P : Pt r h0 h q F L a) (j : Nat) : Sx.froz h (q.add j) = false := by
  obtain ⟨rfl, mid, B, M, O⟩ := P
  rw [add_none]; exact M.froz .here _
theorem Pt.foc {p : Rep β} {get : α → β} {put : α → β → α} (P : Pt r h0 h q F L a) (Fc : Foc r p off get put) : ∃ F' L', Pt p h0 h (q.add off) F' L' (get a) ∧ L.Sublist L' ∧ ∀ h0' h' b', Pt p h0' h' (q.add off) F' L' b' → Pt r h0' h' q F L (put a b') := by
  obtain ⟨rfl, mid, B, M, O⟩ := P
  obtain ⟨pre, md, post, B1, Bm, B2, e1, rfl, rfl, O1, O2⟩ := Fc.fo O
  refine ⟨⟨F.g, F.T, F.pre ++ pre, post ++ F.post⟩, B1 ++ (B2 ++ L), ⟨?_, md, Bm, ?_, O1⟩, ?_, fun h0' h' b' P' => ?_⟩
  · rw [add_none]; simp [e1]
  · have := M.perm (perm_out _ _ _ _ _)
    simpa using this
  · exact (List.sublist_append_right _ _).trans (List.sublist_append_right _ _)
  · obtain ⟨_, md', B', M', O'⟩ := P'
    refine ⟨rfl, pre ++ (md' ++ post), B1 ++ (B' ++ B2), ?_, O2 B' md' b' O'⟩
    have := M'.perm (perm_out _ _ _ _ _).symm
    simpa using this
theorem set_mid (pre mid post : List Value) (i : Nat) (v : Value) (hi : i < mid.length) : (⟨pre ++ (mid ++ post)⟩ : Array Value).setIfInBounds (pre.length + i) v = ⟨pre ++ (mid.set i v ++ post)⟩ := by
  rw [List.setIfInBounds_toArray]
  congr 1
  rw [List.set_append_right _ _ (by omega), Nat.add_sub_cancel_left, List.set_append_left _ _ hi]
/-- One cell written; the blocks B' of what is written are taken out of the frame. -/
theorem Pt.st {p : Rep β} {get : α → β} {put : α → β → α} {b : β} {v : Value} {B' : List Blk} {K : Heap → Prop} (P : Pt r h0 h q F (B' ++ L) a) (Fc : Foc r p off get put) (hp : p.sz = 1) (O : p.ow B' [v] b)
    (H : ∀ h', Pt r h0 h' q F L (put a b) → K h') : ST1 h (q.add off) v K := by
  obtain ⟨rfl, mid, B, M, O0⟩ := P
  obtain ⟨pre, md, post, B1, Bm, B2, e1, rfl, rfl, O1, O2⟩ := Fc.fo O0
  have hl := p.olen O1
  rw [hp] at hl
  obtain ⟨u, rfl⟩ := List.length_eq_one_iff.1 hl
  rw [add_none]
  refine M.st1 .here (by simp; omega) .here fun h' M' => H h' ⟨rfl, pre ++ ([v] ++ post), B1 ++ (B' ++ B2), ?_, O2 _ _ _ O⟩
  rw [set_mid _ _ _ _ _ (by simp; omega), show (pre ++ ([u] ++ post)).set off v = pre ++ ([v] ++ post) by rw [List.set_append_right _ _ (by omega), e1, Nat.sub_self]; rfl] at M'
  have s : ((B1 ++ (B' ++ B2)) ++ L).Sublist (B1 ++ (B' ++ B2) ++ L) := List.Sublist.refl _
  have key : ((B1 ++ (Bm ++ B2)) ++ (B' ++ L)).Perm (Bm ++ ((B1 ++ (B' ++ B2)) ++ L)) := by
    simp only [List.append_assoc]
    refine (List.perm_append_comm_assoc _ _ _).trans (List.Perm.append_left _ (List.Perm.append_left _ (List.perm_append_comm_assoc _ _ _)))
  exact (M'.perm (List.Perm.cons _ key)).sub (List.Sublist.cons_cons _ (List.sublist_append_right _ _))
/-- Several cells written. -/
theorem Pt.sts {p : Rep β} {get : α → β} {put : α → β → α} {b : β} {n : Nat} {vs : Array Value} {B' : List Blk} {K : Heap → Prop} (P : Pt r h0 h q F (B' ++ L) a) (Fc : Foc r p off get put) (hp : p.sz = n) (O : p.ow B' vs.toList b)
    (H : ∀ h', Pt r h0 h' q F L (put a b) → K h') : STA n h (q.add off) vs K := by
  obtain ⟨rfl, mid, B, M, O0⟩ := P
  obtain ⟨pre, md, post, B1, Bm, B2, e1, rfl, rfl, O1, O2⟩ := Fc.fo O0
  have hl := p.olen O1
  have hv := p.olen O
  rw [hp] at hl hv
  rw [add_none]
  refine M.sta .here (by simpa using hv) (p.oone O) (by simp; omega) .here fun h' M' => H h' ⟨rfl, pre ++ (vs.toList ++ post), B1 ++ (B' ++ B2), ?_, O2 _ _ _ O⟩
  have e2 : putAt ⟨F.pre ++ ((pre ++ (md ++ post)) ++ F.post)⟩ (F.pre.length + off) vs.toList = ⟨F.pre ++ ((pre ++ (vs.toList ++ post)) ++ F.post)⟩ := by
    apply Array.ext_getElem?
    intro i
    rw [putAt_get]
    simp only [List.getElem?_toArray, List.size_toArray, List.length_append]
    have e3 : F.pre ++ ((pre ++ (md ++ post)) ++ F.post) = (F.pre ++ pre) ++ (md ++ (post ++ F.post)) := by simp
    have e4 : F.pre ++ ((pre ++ (vs.toList ++ post)) ++ F.post) = (F.pre ++ pre) ++ (vs.toList ++ (post ++ F.post)) := by simp
    have e5 : (F.pre ++ pre).length = F.pre.length + off := by simp [e1]
    rw [e3, e4]
    by_cases h1 : i < F.pre.length + off
    · rw [if_neg (by omega), List.getElem?_append_left (l₁ := F.pre ++ pre) (by rw [e5]; omega), List.getElem?_append_left (l₁ := F.pre ++ pre) (by rw [e5]; omega)]
    · rw [List.getElem?_append_right (l₁ := F.pre ++ pre) (by rw [e5]; omega), List.getElem?_append_right (l₁ := F.pre ++ pre) (by rw [e5]; omega), e5]
      by_cases h2 : i - (F.pre.length + off) < n
      · rw [if_pos (by omega), List.getElem?_append_left (l₁ := vs.toList) (by omega)]
      · rw [if_neg (by omega), List.getElem?_append_right (l₁ := vs.toList) (by omega), List.getElem?_append_right (l₁ := md) (by omega), hl, hv]
  rw [e2] at M'
  have key : ((B1 ++ (Bm ++ B2)) ++ (B' ++ L)).Perm (Bm ++ ((B1 ++ (B' ++ B2)) ++ L)) := by
    simp only [List.append_assoc]
    refine (List.perm_append_comm_assoc _ _ _).trans (List.Perm.append_left _ (List.Perm.append_left _ (List.perm_append_comm_assoc _ _ _)))
  exact (M'.perm (List.Perm.cons _ key)).sub (List.Sublist.cons_cons _ (List.sublist_append_right _ _))
theorem Pt.stI {k : IntKind} {n : Int} {get : α → Int} {put : α → Int → α} {K : Heap → Prop} (P : Pt r h0 h q F L a) [Fc : FocC r off (rI k) get put] (H : ∀ h', Pt r h0 h' q F L (put a n) → K h') : ST1 h (q.add off) (.int k n) K :=
  Pt.st (B' := []) P Fc.f rfl ⟨rfl, rfl⟩ H
theorem Pt.stF {k : FloatKind} {x n : Nat} {get : α → Nat} {put : α → Nat → α} {K : Heap → Prop} (P : Pt r h0 h q F L a) [Fc : FocC r off (rF k) get put] (hx : FW k x n) (H : ∀ h', Pt r h0 h' q F L (put a n) → K h') : ST1 h (q.add off) (.float k x) K :=
  Pt.st (B' := []) P Fc.f rfl ⟨rfl, x, rfl, hx⟩ H
end
/-- An element of an own slice whose header lies in own data. -/
theorem SlO.elem {β : Type} [Inhabited β] {e : Nat} {s : Rep β} {B L : List Blk} {b : Option Addr} {l c i : Nat} {els : List β} {h0 h : Heap} (S : SlO e s B b l c els) (M : Mem h0 h (B ++ L)) (hi : i < l) :
    ∃ a0 F' L', b = some a0 ∧ Pt s h0 h (a0.add (i * s.sz)) F' L' els[i]! ∧ L.Sublist L' ∧ ∀ h0' h' x, Pt s h0' h' (a0.add (i * s.sz)) F' L' x → ∃ B', SlO e s B' b l c (els.set i x) ∧ Mem h0' h' (B' ++ L) := by
  obtain ⟨h1, ws, B1, B2, rfl, O, h3⟩ := S
  rcases O.2 with ⟨_, _, h4, _⟩ | ⟨g, cs, rfl, rfl, h5, h6, h7, h8⟩
  · omega
  obtain ⟨pre, mid, post, C1, Cm, C2, e1, e2, rfl, O1, O2⟩ := h3.at (i := i) (by omega)
  have hc : cs = ⟨pre ++ (mid ++ (post ++ cs.toList.drop (l * s.sz)))⟩ := by
    have : cs.toList = ws ++ cs.toList.drop (l * s.sz) := by rw [← h8, List.take_append_drop]
    rw [e2] at this
    cases cs; simpa using this
  refine ⟨_, ⟨g, e, pre, post ++ cs.toList.drop (l * s.sz)⟩, C1 ++ (C2 ++ L), rfl, ⟨?_, mid, Cm, ?_, by rw [getElem!_pos _ i (by omega)]; exact O1⟩, (List.sublist_append_right _ _).trans (List.sublist_append_right _ _), fun h0' h' x P' => ?_⟩
  · rw [add_none]; simp [e1]
  · rw [← hc]
    have : Mem h0 h ((g, e, cs) :: ((C1 ++ (Cm ++ C2)) ++ L)) := by simpa using M
    exact this.perm (perm_out _ _ _ _ _)
  · obtain ⟨_, md', B', M', O'⟩ := P'
    have hm := s.olen O'
    have hm0 := s.olen O1
    have hws : ws.length = l * s.sz := O.1
    have hlen : (pre ++ (md' ++ post)).length = l * s.sz := by rw [← hws, e2]; simp [hm, hm0]
    refine ⟨(g, e, ⟨pre ++ (md' ++ (post ++ cs.toList.drop (l * s.sz)))⟩) :: (C1 ++ (B' ++ C2)), ⟨by simpa using h1, pre ++ (md' ++ post), [_], _, rfl, ⟨hlen, .inr ⟨g, _, rfl, rfl, h5, h6, ?_, ?_⟩⟩, O2 _ _ _ O'⟩, ?_⟩
    · have : cs.toList.length = c * s.sz := by simpa using h7
      have hle := Nat.mul_le_mul_right s.sz h5
      simp only [List.size_toArray]
      have : (pre ++ (md' ++ (post ++ cs.toList.drop (l * s.sz)))).length = (pre ++ (md' ++ post)).length + (cs.toList.drop (l * s.sz)).length := by simp; omega
      rw [this, hlen, List.length_drop]; omega
    · show List.take _ (pre ++ (md' ++ (post ++ _))) = _
      have e5 : pre ++ (md' ++ (post ++ cs.toList.drop (l * s.sz))) = (pre ++ (md' ++ post)) ++ cs.toList.drop (l * s.sz) := by simp
      rw [e5, ← hlen]
      exact List.take_left
    · have := M'.perm (perm_out _ _ _ _ _).symm
      simpa using this
theorem Pt.elem {β : Type} [Inhabited β] {α : Type} {r : Rep α} {e : Nat} {s : Rep β} {get : α → List β} {put : α → List β → α} {h0 h : Heap} {q : Addr} {F : Fr} {L : List Blk} {a : α} {off i l c : Nat} {b : Option Addr}
    (P : Pt r h0 h q F L a) [Fc : FocC r off (rSl e s) get put] (hb : cell h (q.add off) = some (.slice b l c)) (hi : i < l) :
    ∃ a0 F' L', b = some a0 ∧ Pt s h0 h (a0.add (i * s.sz)) F' L' (get a)[i]! ∧ L.Sublist L' ∧ ∀ h0' h' x, Pt s h0' h' (a0.add (i * s.sz)) F' L' x → Pt r h0' h' q F L (put a ((get a).set i x)) ∧ cell h' (q.add off) = some (.slice b l c) := by
  obtain ⟨F1, L1, P1, hs, close⟩ := P.foc Fc.f
  obtain ⟨eq, mid, B, M, b', l', c', rfl, S⟩ := P1
  have e0 : cell h (q.add off) = some (.slice b' l' c') := by
    rw [eq, M.cell .here]; simp
  rw [hb] at e0
  cases e0
  have M1 : Mem h0 h (B ++ ((F1.g, F1.T, ⟨F1.pre ++ ([.slice b l c] ++ F1.post)⟩) :: L1)) := M.perm List.perm_middle.symm
  obtain ⟨a0, F2, L2, rfl, P2, hs2, close2⟩ := S.elem M1 hi
  refine ⟨a0, F2, L2, rfl, P2, (hs.trans (List.sublist_cons_self _ _)).trans hs2, fun h0' h' x P' => ?_⟩
  obtain ⟨B', S', M'⟩ := close2 h0' h' x P'
  have M2 := M'.perm List.perm_middle
  refine ⟨close h0' h' _ ⟨eq, [.slice (some a0) l c], B', M2, _, _, _, rfl, S'⟩, ?_⟩
  rw [eq, M2.cell .here]; simp
end Go.Sx
/- Floats: a number's word does not depend on how it is written; exact words read back; a float32 as a 16 bit number in two ways. -/
namespace Go.Sx
open Ieee
set_option linter.unusedVariables false
set_option linter.unusedSimpArgs false

theorem log2_mul_pow {m : Nat} (h : m ≠ 0) (k : Nat) : (m * 2 ^ k).log2 = m.log2 + k := by
  have h1 : m * 2 ^ k ≠ 0 := Nat.mul_ne_zero h (Nat.ne_of_gt (Nat.two_pow_pos k))
  have a1 : m < 2 ^ (m.log2 + 1) := Nat.lt_log2_self
  have a2 : 2 ^ m.log2 ≤ m := Nat.log2_self_le h
  have b1 : m * 2 ^ k < 2 ^ (m.log2 + k + 1) := by
    rw [show m.log2 + k + 1 = m.log2 + 1 + k by omega, Nat.pow_add]
    exact Nat.mul_lt_mul_of_pos_right a1 (Nat.two_pow_pos k)
  have b2 : 2 ^ (m.log2 + k) ≤ m * 2 ^ k := by
    rw [Nat.pow_add]
    exact Nat.mul_le_mul_right _ a2
  have c1 := (Nat.log2_lt h1 (k := m.log2 + k + 1)).2 b1
  have c2 : ¬ (m * 2 ^ k).log2 < m.log2 + k := fun h2 => by
    have := (Nat.log2_lt h1).1 h2
    omega
  omega
theorem cut_scale (way : Toward) (s : Bool) {n : Nat} (h : n ≠ 0) (d k : Nat) : way.cut s (n * 2 ^ k) (d + k) = way.cut s n d := by
  unfold Toward.cut
  dsimp only
  have hg : 1 <<< min (d + k) ((n * 2 ^ k).log2 + 2) = (1 <<< min d (n.log2 + 2)) * 2 ^ k := by
    rw [log2_mul_pow h, show min (d + k) (n.log2 + k + 2) = min d (n.log2 + 2) + k by omega, Nat.shiftLeft_eq, Nat.shiftLeft_eq, Nat.pow_add, Nat.one_mul, Nat.one_mul]
  rw [hg, Nat.mul_div_mul_right _ _ (Nat.two_pow_pos k), Nat.mul_mod_mul_right]
  generalize 1 <<< min d (n.log2 + 2) = gap
  generalize n % gap = rest
  have hp := Nat.two_pow_pos k
  generalize 2 ^ k = q at hp
  congr 2
  have e1 : (rest * q != 0) = (rest != 0) := by
    by_cases h0 : rest = 0
    · simp [h0]
    · have : rest * q ≠ 0 := Nat.mul_ne_zero h0 (by omega)
      rw [show (rest * q != 0) = true from bne_iff_ne.2 this, show (rest != 0) = true from bne_iff_ne.2 h0]
  cases way
  · have e2 : decide (gap * q < 2 * (rest * q)) = decide (gap < 2 * rest) := by
      rw [decide_eq_decide, ← Nat.mul_assoc]
      exact Nat.mul_lt_mul_right hp
    have e3 : (gap * q == 2 * (rest * q)) = (gap == 2 * rest) := by
      rw [← Nat.mul_assoc]
      by_cases h3 : gap = 2 * rest
      · simp [h3]
      · have : gap * q ≠ 2 * rest * q := fun e => h3 (Nat.eq_of_mul_eq_mul_right hp e)
        rw [beq_false_of_ne this, beq_false_of_ne h3]
    show (decide (gap * q < 2 * (rest * q)) || gap * q == 2 * (rest * q) && n / gap % 2 == 1) = (decide (gap < 2 * rest) || gap == 2 * rest && n / gap % 2 == 1)
    rw [e2, e3]
  · show (s && rest * q != 0) = (s && rest != 0)
    rw [e1]
  · show (!s && rest * q != 0) = (!s && rest != 0)
    rw [e1]
  · rfl
theorem cut_zero (way : Toward) (s : Bool) (n : Nat) : way.cut s n 0 = n := by
  unfold Toward.cut
  simp only [Nat.zero_le, Nat.min_eq_left, Nat.shiftLeft_zero, Nat.div_one, Nat.mod_one, Nat.mul_zero]
  cases way
  · rfl
  · cases s <;> rfl
  · cases s <;> rfl
  · rfl
theorem cut_exact (way : Toward) (s : Bool) {n : Nat} (h : n ≠ 0) (k : Nat) : way.cut s (n * 2 ^ k) k = n := by
  have := cut_scale way s h 0 k
  rw [Nat.zero_add, cut_zero] at this
  exact this
theorem nearest_scale (f : Format) (s : Bool) (m : Nat) (p : Int) (k : Nat) : f.nearest s (m * 2 ^ k) (p - k) = f.nearest s m p := by
  unfold Format.nearest
  by_cases h : m = 0
  · subst h; simp
  have h1 : m * 2 ^ k ≠ 0 := Nat.mul_ne_zero h (Nat.ne_of_gt (Nat.two_pow_pos k))
  rw [if_neg h, if_neg h1, log2_mul_pow h]
  dsimp only
  have hl : max (p - (k : Int) + ((m.log2 + k : Nat) : Int) - f.fractionBits) f.leastPlace = max (p + m.log2 - f.fractionBits) f.leastPlace := by
    rw [show p - (k : Int) + ((m.log2 + k : Nat) : Int) - f.fractionBits = p + m.log2 - f.fractionBits by omega]
  rw [hl]
  generalize max (p + (m.log2 : Int) - f.fractionBits) f.leastPlace = last
  have key : Toward.even.cut s ((m * 2 ^ k) <<< (p - k - last).toNat) (last - (p - k)).toNat = Toward.even.cut s (m <<< (p - last).toNat) (last - p).toNat := by
    rcases Int.le_total last p with h2 | h2
    · rw [show (last - p).toNat = 0 by omega, cut_zero]
      rcases Int.le_total last (p - k) with h3 | h3
      · rw [show (last - (p - k)).toNat = 0 by omega, cut_zero, Nat.shiftLeft_eq, Nat.shiftLeft_eq, show (p - last).toNat = k + (p - k - last).toNat by omega, Nat.pow_add, Nat.mul_assoc]
      · rw [show (p - k - last).toNat = 0 by omega, Nat.shiftLeft_zero]
        have : m * 2 ^ k = (m * 2 ^ (p - last).toNat) * 2 ^ (last - (p - k)).toNat := by
          rw [Nat.mul_assoc, ← Nat.pow_add]; congr 2; omega
        rw [this, cut_exact _ _ (Nat.mul_ne_zero h (Nat.ne_of_gt (Nat.two_pow_pos _))), Nat.shiftLeft_eq]
    · rw [show (p - k - last).toNat = 0 by omega, show (p - last).toNat = 0 by omega, Nat.shiftLeft_zero, Nat.shiftLeft_zero, show (last - (p - k)).toNat = (last - p).toNat + k by omega, cut_scale _ _ h]
  rw [key]
/-- A number that the format has reads back. -/
theorem read_nearest (f : Format) (s : Bool) {m : Nat} {p : Int} (h : m ≠ 0) (hm : m < 2 ^ (f.fractionBits + 1)) (hp : f.leastPlace ≤ p) {last : Int} (hlast : last = max (p + m.log2 - f.fractionBits) f.leastPlace)
    (ho : (last - f.leastPlace).toNat * f.binade + m * 2 ^ (p - last).toNat < f.infRung) :
    f.read (f.nearest s m p) = .number s (m * 2 ^ (p - last).toNat) last ∧ last ≤ p := by
  have hl2 : m.log2 ≤ f.fractionBits := by
    have := (Nat.log2_lt h (k := f.fractionBits + 1)).2 hm
    omega
  have hle : last ≤ p := by omega
  refine ⟨?_, hle⟩
  have a1 : m < 2 ^ (m.log2 + 1) := Nat.lt_log2_self
  have a2 : 2 ^ m.log2 ≤ m := Nat.log2_self_le h
  have e1 : f.nearest s m p = f.word s ((last - f.leastPlace).toNat * f.binade + m * 2 ^ (p - last).toNat) := by
    unfold Format.nearest
    rw [if_neg h]
    dsimp only
    rw [← hlast, show (last - p).toNat = 0 by omega, cut_zero, Nat.shiftLeft_eq, Nat.min_eq_left (Nat.le_of_lt ho)]
  have hb : f.binade = 2 ^ f.fractionBits := rfl
  have hbp : 0 < f.binade := Nat.two_pow_pos _
  have hk : m * 2 ^ (p - last).toNat < 2 * f.binade := by
    have : m * 2 ^ (p - last).toNat < 2 ^ (m.log2 + 1 + (p - last).toNat) := by
      rw [Nat.pow_add]; exact Nat.mul_lt_mul_of_pos_right a1 (Nat.two_pow_pos _)
    have h2 : 2 ^ (m.log2 + 1 + (p - last).toNat) ≤ 2 ^ (f.fractionBits + 1) := Nat.pow_le_pow_right (by decide) (by omega)
    rw [hb, ← Nat.pow_succ']
    omega
  have hk2 : last = f.leastPlace ∨ f.binade ≤ m * 2 ^ (p - last).toNat := by
    rcases Int.le_total (p + m.log2 - f.fractionBits) f.leastPlace with h3 | h3
    · exact .inl (by omega)
    · refine .inr ?_
      have : 2 ^ (m.log2 + (p - last).toNat) ≤ m * 2 ^ (p - last).toNat := by
        rw [Nat.pow_add]; exact Nat.mul_le_mul_right _ a2
      rw [show m.log2 + (p - last).toNat = f.fractionBits by omega] at this
      exact this
  rw [e1]
  have hinf := f.infRung_lt
  generalize m * 2 ^ (p - last).toNat = kept at *
  have hw : (f.word s ((last - f.leastPlace).toNat * f.binade + kept)) % f.signWeight = (last - f.leastPlace).toNat * f.binade + kept := by
    unfold Format.word
    split
    · rw [Nat.add_mod_left, Nat.mod_eq_of_lt (by omega)]
    · rw [Nat.mod_eq_of_lt (by omega)]
  have hn : (f.word s ((last - f.leastPlace).toNat * f.binade + kept) / f.signWeight % 2 == 1) = s := by
    have hsw : 0 < f.signWeight := Nat.two_pow_pos _
    unfold Format.word
    cases s
    · simp only [Bool.false_eq_true, if_false]
      rw [Nat.div_eq_of_lt (by omega)]; rfl
    · simp only [if_true]
      rw [Nat.add_div_left _ hsw, Nat.div_eq_of_lt (by omega)]; rfl
  unfold Format.read
  dsimp only
  rw [hw, hn]
  rcases hk2 with h3 | h3
  · rw [h3, Int.sub_self]
    simp only [Int.toNat_zero, Nat.zero_mul, Nat.zero_add]
    by_cases h4 : kept < f.binade
    · rw [if_pos h4]
    · rw [if_neg h4, if_pos (by rw [h3, Int.sub_self] at ho; simpa using ho)]
      have h5 : kept / f.binade = 1 := by
        rw [Nat.div_eq_iff hbp]; omega
      have h6 : kept % f.binade = kept - f.binade := by
        have := Nat.div_add_mod kept f.binade
        rw [h5] at this; omega
      rw [h5, h6]
      simp only [Nat.sub_self]
      rw [show f.binade + (kept - f.binade) = kept by omega]
      simp
  · have h4 : ¬ ((last - f.leastPlace).toNat * f.binade + kept < f.binade) := by omega
    rw [if_neg h4, if_pos ho]
    have h5 : ((last - f.leastPlace).toNat * f.binade + kept) / f.binade = (last - f.leastPlace).toNat + 1 := by
      rw [Nat.mul_comm, Nat.mul_add_div hbp]
      have : kept / f.binade = 1 := by rw [Nat.div_eq_iff hbp]; omega
      omega
    have h6 : ((last - f.leastPlace).toNat * f.binade + kept) % f.binade = kept - f.binade := by
      rw [Nat.mul_comm, Nat.mul_add_mod]
      have h7 : kept / f.binade = 1 := by rw [Nat.div_eq_iff hbp]; omega
      have := Nat.div_add_mod kept f.binade
      rw [h7] at this; omega
    rw [h5, h6]
    rw [show f.binade + (kept - f.binade) = kept by omega]
    congr 1
    omega
end Go.Sx
/- A float32 as a 16 bit number: times 32768 in float32 or in float64 comes to the same. -/
namespace Go.Sx
open Ieee
set_option linter.unusedVariables false
set_option linter.unusedSimpArgs false

theorem enc_not_nan (k : FloatKind) {d : Datum} (h : d.isNaN = false) : nan k (k.encode d) = false := by
  cases d with
  | number s m p =>
    show nan k (k.format.nearest s m p) = false
    unfold Format.nearest
    split
    · exact word_not_nan (Nat.zero_le _)
    · exact word_not_nan (Nat.min_le_right _ _)
  | infinity s => exact word_not_nan (Nat.le_refl _)
  | nan s t => cases h
theorem wide_not_nan {a : Nat} (h : nan .f32 a = false) : nan .f64 (wide a) = false := enc_not_nan .f64 h
theorem f32_consts : FloatKind.f32.format.fractionBits = 23 ∧ FloatKind.f32.format.leastPlace = -149 ∧ FloatKind.f32.format.binade = 2 ^ 23 ∧ FloatKind.f32.format.infRung = 255 * 2 ^ 23 := by decide +kernel
theorem f64_consts : FloatKind.f64.format.fractionBits = 52 ∧ FloatKind.f64.format.leastPlace = -1074 ∧ FloatKind.f64.format.binade = 2 ^ 52 ∧ FloatKind.f64.format.infRung = 2047 * 2 ^ 52 := by decide +kernel
/-- A number of at most 24 digits in a float64. -/
theorem read64 (s : Bool) {m : Nat} {p : Int} (h : m ≠ 0) (hm : m < 2 ^ 24) (h1 : -149 ≤ p) (h2 : p ≤ 200) :
    FloatKind.f64.format.read (FloatKind.f64.format.nearest s m p) = .number s (m * 2 ^ (52 - m.log2)) (p + m.log2 - 52) := by
  obtain ⟨e1, e2, e3, e4⟩ := f64_consts
  have hl : m.log2 ≤ 23 := by
    have := (Nat.log2_lt h (k := 24)).2 hm
    omega
  have hlast : p + m.log2 - 52 = max (p + m.log2 - FloatKind.f64.format.fractionBits) FloatKind.f64.format.leastPlace := by rw [e1, e2]; omega
  have ht : (p - (p + m.log2 - 52)).toNat = 52 - m.log2 := by omega
  have hk : m * 2 ^ (52 - m.log2) < 2 ^ 53 := by
    have b2 : 2 ^ 53 = 2 ^ (m.log2 + 1) * 2 ^ (52 - m.log2) := by rw [← Nat.pow_add]; congr 1; omega
    rw [b2]
    exact Nat.mul_lt_mul_of_pos_right Nat.lt_log2_self (Nat.two_pow_pos _)
  have := (read_nearest FloatKind.f64.format s h (by rw [e1]; omega) (by rw [e2]; omega) hlast (by
    rw [e2, e3, e4, ht]
    generalize m * 2 ^ (52 - m.log2) = q at hk
    have h4 : (p + (m.log2 : Int) - 52 - -1074).toNat ≤ 1300 := by omega
    generalize (p + (m.log2 : Int) - 52 - -1074).toNat = z at h4
    omega)).1
  rw [ht] at this
  exact this
theorem inf64 (s : Bool) : FloatKind.f64.format.read (FloatKind.f64.format.word s FloatKind.f64.format.infRung) = .infinity s := by cases s <;> decide +kernel
theorem zero32 (s : Bool) : FloatKind.f32.format.read (FloatKind.f32.format.word s 0) = .number s 0 (-149) := by cases s <;> decide +kernel
theorem zero64 (s : Bool) : FloatKind.f64.format.read (FloatKind.f64.format.word s 0) = .number s 0 (-1074) := by cases s <;> decide +kernel
theorem nearest_zero (f : Format) (s : Bool) (p : Int) : f.nearest s 0 p = f.word s 0 := by unfold Format.nearest; rw [if_pos rfl]
theorem order_number (s t : Bool) (m n : Nat) (i j : Int) : (Datum.number s m i).order (.number t n j) = some (compare (signed s m (i - min i j).toNat) (signed t n (j - min i j).toNat)) := rfl
theorem signed_f (m u : Nat) : signed false m u = ((m * 2 ^ u : Nat) : Int) := by unfold signed; rw [Nat.shiftLeft_eq]; rfl
theorem signed_t (m u : Nat) : signed true m u = -((m * 2 ^ u : Nat) : Int) := by unfold signed; rw [Nat.shiftLeft_eq]; rfl
theorem compare_gt {a b : Int} (h : b < a) : compare a b = .gt := by
  show compareOfLessAndEq a b = _
  unfold compareOfLessAndEq
  rw [if_neg (by omega), if_neg (by omega)]
theorem compare_lt {a b : Int} (h : a < b) : compare a b = .lt := by
  show compareOfLessAndEq a b = _
  unfold compareOfLessAndEq
  rw [if_pos h]
theorem order_read {f : Format} {x y : Nat} {d e : Datum} (h1 : f.read x = d) (h2 : f.read y = e) : f.order x y = d.order e := by unfold Format.order; rw [h1, h2]
end Go.Sx
/- Floats cut to whole numbers within bounds; math.RoundToEven. -/
namespace Go.Sx
open Ieee
set_option linter.unusedVariables false
set_option linter.unusedSimpArgs false

theorem toInt_number (s : Bool) (m : Nat) (e : Int) : (Datum.number s m e).toInt .zero = some (signed s (Toward.zero.cut s (m <<< e.toNat) (-e).toNat) 0) := rfl
theorem compare_ne_gt {a b : Int} (h : compare a b ≠ .gt) : a ≤ b := by
  rcases Int.lt_or_le b a with h1 | h1
  · exact absurd (compare_gt h1) h
  · exact h1
theorem compare_ne_lt {a b : Int} (h : compare a b ≠ .lt) : b ≤ a := by
  rcases Int.lt_or_le a b with h1 | h1
  · exact absurd (compare_lt h1) h
  · exact h1
end Go.Sx
