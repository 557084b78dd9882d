/- Own data behind a pointer: read, written, taken part by part, element by element. -/
import Derived.Test.YtgbjfohgmpmjoaaGreatDoorLp1
set_option linter.unusedVariables false
set_option linter.unusedSimpArgs false
namespace Go.Sx

/-- Where in which block data lie: what stands before and behind them. -/
structure Fr where
  g : Nat
  T : Nat
  pre : List Value
  post : List Value
def Pt {α : Type} (r : Rep α) (h0 h : Heap) (q : Addr) (F : Fr) (L : List Blk) (a : α) : Prop :=
  q = ⟨F.g, F.pre.length, none⟩ ∧ ∃ mid B, Mem h0 h ((F.g, F.T, ⟨F.pre ++ (mid ++ F.post)⟩) :: (B ++ L)) ∧ r.ow B mid a
theorem perm_out (p : Blk) (B1 Bm B2 L : List Blk) : (p :: ((B1 ++ (Bm ++ B2)) ++ L)).Perm (p :: (Bm ++ (B1 ++ (B2 ++ L)))) := by
  refine List.Perm.cons _ ?_
  simp only [List.append_assoc]
  rw [← List.append_assoc B1, ← List.append_assoc Bm]
  exact List.Perm.append_right _ List.perm_append_comm
section
variable {α β : Type} {r : Rep α} {h0 h : Heap} {q : Addr} {F : Fr} {L : List Blk} {a : α} {off : Nat}
theorem Pt.mem (P : Pt r h0 h q F L a) : Mem h0 h L := by
  obtain ⟨_, mid, B, M, _⟩ := P
  exact M.sub ((List.sublist_append_right _ _).trans (List.sublist_cons_self _ _))
theorem Pt.ext (P : Pt r h0 h q F L a) : Ext h0 h := P.mem.ext
theorem Pt.grow {h' : Heap} (P : Pt r h0 h q F L a) (x : Ext h h') : Pt r h0 h' q F L a := by
  obtain ⟨e, mid, B, M, O⟩ := P
  exact ⟨e, mid, B, M.grow x, O⟩
theorem Pt.new {cs : Array Value} {B : List Blk} {g T : Nat} (O : r.ow B cs.toList a) (M : Mem h0 h ((g, T, cs) :: (B ++ L))) : Pt r h0 h ⟨g, 0, none⟩ ⟨g, T, [], []⟩ L a :=
  ⟨rfl, cs.toList, B, by simpa using M, O⟩
theorem Pt.out {g T : Nat} (P : Pt r h0 h ⟨g, 0, none⟩ ⟨g, T, [], []⟩ L a) : ∃ cs B, Mem h0 h ((g, T, cs) :: (B ++ L)) ∧ r.ow B cs.toList a := by
  obtain ⟨_, mid, B, M, O⟩ := P
  exact ⟨⟨mid⟩, B, by simpa using M, O⟩
theorem Pt.rd (P : Pt r h0 h q F L a) : RdP r h q a := by
  obtain ⟨rfl, mid, B, M, O⟩ := P
  refine ⟨mid, fun i v e => ?_, r.look O M ((List.sublist_append_left _ _).trans (List.sublist_cons_self _ _))⟩
  rw [add_none, M.cell .here]
  rw [List.getElem?_toArray]
  rw [List.getElem?_append_right (Nat.le_add_right _ _), Nat.add_sub_cancel_left, List.getElem?_append_left (List.getElem?_eq_some_iff.1 e).1, e]
theorem Pt.froz (P : Pt r h0 h q F L a) (j : Nat) : Sx.froz h (q.add j) = false := by
  obtain ⟨rfl, mid, B, M, O⟩ := P
  rw [add_none]; exact M.froz .here _
theorem Pt.foc {p : Rep β} {get : α → β} {put : α → β → α} (P : Pt r h0 h q F L a) (Fc : Foc r p off get put) : ∃ F' L', Pt p h0 h (q.add off) F' L' (get a) ∧ L.Sublist L' ∧ ∀ h0' h' b', Pt p h0' h' (q.add off) F' L' b' → Pt r h0' h' q F L (put a b') := by
  obtain ⟨rfl, mid, B, M, O⟩ := P
  obtain ⟨pre, md, post, B1, Bm, B2, e1, rfl, rfl, O1, O2⟩ := Fc.fo O
  refine ⟨⟨F.g, F.T, F.pre ++ pre, post ++ F.post⟩, B1 ++ (B2 ++ L), ⟨?_, md, Bm, ?_, O1⟩, ?_, fun h0' h' b' P' => ?_⟩
  · rw [add_none]; simp [e1]
  · have := M.perm (perm_out _ _ _ _ _)
    simpa using this
  · exact (List.sublist_append_right _ _).trans (List.sublist_append_right _ _)
  · obtain ⟨_, md', B', M', O'⟩ := P'
    refine ⟨rfl, pre ++ (md' ++ post), B1 ++ (B' ++ B2), ?_, O2 B' md' b' O'⟩
    have := M'.perm (perm_out _ _ _ _ _).symm
    simpa using this
theorem set_mid (pre mid post : List Value) (i : Nat) (v : Value) (hi : i < mid.length) : (⟨pre ++ (mid ++ post)⟩ : Array Value).setIfInBounds (pre.length + i) v = ⟨pre ++ (mid.set i v ++ post)⟩ := by
  rw [List.setIfInBounds_toArray]
  congr 1
  rw [List.set_append_right _ _ (by omega), Nat.add_sub_cancel_left, List.set_append_left _ _ hi]
/-- One cell written; the blocks B' of what is written are taken out of the frame. -/
theorem Pt.st {p : Rep β} {get : α → β} {put : α → β → α} {b : β} {v : Value} {B' : List Blk} {K : Heap → Prop} (P : Pt r h0 h q F (B' ++ L) a) (Fc : Foc r p off get put) (hp : p.sz = 1) (O : p.ow B' [v] b)
    (H : ∀ h', Pt r h0 h' q F L (put a b) → K h') : ST1 h (q.add off) v K := by
  obtain ⟨rfl, mid, B, M, O0⟩ := P
  obtain ⟨pre, md, post, B1, Bm, B2, e1, rfl, rfl, O1, O2⟩ := Fc.fo O0
  have hl := p.olen O1
  rw [hp] at hl
  obtain ⟨u, rfl⟩ := List.length_eq_one_iff.1 hl
  rw [add_none]
  refine M.st1 .here (by simp; omega) .here fun h' M' => H h' ⟨rfl, pre ++ ([v] ++ post), B1 ++ (B' ++ B2), ?_, O2 _ _ _ O⟩
  rw [set_mid _ _ _ _ _ (by simp; omega), show (pre ++ ([u] ++ post)).set off v = pre ++ ([v] ++ post) by rw [List.set_append_right _ _ (by omega), e1, Nat.sub_self]; rfl] at M'
  have s : ((B1 ++ (B' ++ B2)) ++ L).Sublist (B1 ++ (B' ++ B2) ++ L) := List.Sublist.refl _
  have key : ((B1 ++ (Bm ++ B2)) ++ (B' ++ L)).Perm (Bm ++ ((B1 ++ (B' ++ B2)) ++ L)) := by
    simp only [List.append_assoc]
    refine (List.perm_append_comm_assoc _ _ _).trans (List.Perm.append_left _ (List.Perm.append_left _ (List.perm_append_comm_assoc _ _ _)))
  exact (M'.perm (List.Perm.cons _ key)).sub (List.Sublist.cons_cons _ (List.sublist_append_right _ _))
/-- Several cells written. -/
theorem Pt.sts {p : Rep β} {get : α → β} {put : α → β → α} {b : β} {n : Nat} {vs : Array Value} {B' : List Blk} {K : Heap → Prop} (P : Pt r h0 h q F (B' ++ L) a) (Fc : Foc r p off get put) (hp : p.sz = n) (O : p.ow B' vs.toList b)
    (H : ∀ h', Pt r h0 h' q F L (put a b) → K h') : STA n h (q.add off) vs K := by
  obtain ⟨rfl, mid, B, M, O0⟩ := P
  obtain ⟨pre, md, post, B1, Bm, B2, e1, rfl, rfl, O1, O2⟩ := Fc.fo O0
  have hl := p.olen O1
  have hv := p.olen O
  rw [hp] at hl hv
  rw [add_none]
  refine M.sta .here (by simpa using hv) (p.oone O) (by simp; omega) .here fun h' M' => H h' ⟨rfl, pre ++ (vs.toList ++ post), B1 ++ (B' ++ B2), ?_, O2 _ _ _ O⟩
  have e2 : putAt ⟨F.pre ++ ((pre ++ (md ++ post)) ++ F.post)⟩ (F.pre.length + off) vs.toList = ⟨F.pre ++ ((pre ++ (vs.toList ++ post)) ++ F.post)⟩ := by
    apply Array.ext_getElem?
    intro i
    rw [putAt_get]
    simp only [List.getElem?_toArray, List.size_toArray, List.length_append]
    have e3 : F.pre ++ ((pre ++ (md ++ post)) ++ F.post) = (F.pre ++ pre) ++ (md ++ (post ++ F.post)) := by simp
    have e4 : F.pre ++ ((pre ++ (vs.toList ++ post)) ++ F.post) = (F.pre ++ pre) ++ (vs.toList ++ (post ++ F.post)) := by simp
    have e5 : (F.pre ++ pre).length = F.pre.length + off := by simp [e1]
    rw [e3, e4]
    by_cases h1 : i < F.pre.length + off
    · rw [if_neg (by omega), List.getElem?_append_left (l₁ := F.pre ++ pre) (by rw [e5]; omega), List.getElem?_append_left (l₁ := F.pre ++ pre) (by rw [e5]; omega)]
    · rw [List.getElem?_append_right (l₁ := F.pre ++ pre) (by rw [e5]; omega), List.getElem?_append_right (l₁ := F.pre ++ pre) (by rw [e5]; omega), e5]
      by_cases h2 : i - (F.pre.length + off) < n
      · rw [if_pos (by omega), List.getElem?_append_left (l₁ := vs.toList) (by omega)]
      · rw [if_neg (by omega), List.getElem?_append_right (l₁ := vs.toList) (by omega), List.getElem?_append_right (l₁ := md) (by omega), hl, hv]
  rw [e2] at M'
  have key : ((B1 ++ (Bm ++ B2)) ++ (B' ++ L)).Perm (Bm ++ ((B1 ++ (B' ++ B2)) ++ L)) := by
    simp only [List.append_assoc]
    refine (List.perm_append_comm_assoc _ _ _).trans (List.Perm.append_left _ (List.Perm.append_left _ (List.perm_append_comm_assoc _ _ _)))
  exact (M'.perm (List.Perm.cons _ key)).sub (List.Sublist.cons_cons _ (List.sublist_append_right _ _))
theorem Pt.stF {k : FloatKind} {x n : Nat} {get : α → Nat} {put : α → Nat → α} {K : Heap → Prop} (P : Pt r h0 h q F L a) [Fc : FocC r off (rF k) get put] (hx : FW k x n) (H : ∀ h', Pt r h0 h' q F L (put a n) → K h') : ST1 h (q.add off) (.float k x) K :=
  Pt.st (B' := []) P Fc.f rfl ⟨rfl, x, rfl, hx⟩ H
end
/-- An element of an own slice whose header lies in own data. -/
theorem SlO.elem {β : Type} [Inhabited β] {e : Nat} {s : Rep β} {B L : List Blk} {b : Option Addr} {l c i : Nat} {els : List β} {h0 h : Heap} (S : SlO e s B b l c els) (M : Mem h0 h (B ++ L)) (hi : i < l) :
    ∃ a0 F' L', b = some a0 ∧ Pt s h0 h (a0.add (i * s.sz)) F' L' els[i]! ∧ L.Sublist L' ∧ ∀ h0' h' x, Pt s h0' h' (a0.add (i * s.sz)) F' L' x → ∃ B', SlO e s B' b l c (els.set i x) ∧ Mem h0' h' (B' ++ L) := by
  obtain ⟨h1, ws, B1, B2, rfl, O, h3⟩ := S
  rcases O.2 with ⟨_, _, h4, _⟩ | ⟨g, cs, rfl, rfl, h5, h6, h7, h8⟩
  · omega
  obtain ⟨pre, mid, post, C1, Cm, C2, e1, e2, rfl, O1, O2⟩ := h3.at (i := i) (by omega)
  have hc : cs = ⟨pre ++ (mid ++ (post ++ cs.toList.drop (l * s.sz)))⟩ := by
    have : cs.toList = ws ++ cs.toList.drop (l * s.sz) := by rw [← h8, List.take_append_drop]
    rw [e2] at this
    cases cs; simpa using this
  refine ⟨_, ⟨g, e, pre, post ++ cs.toList.drop (l * s.sz)⟩, C1 ++ (C2 ++ L), rfl, ⟨?_, mid, Cm, ?_, by rw [getElem!_pos _ i (by omega)]; exact O1⟩, (List.sublist_append_right _ _).trans (List.sublist_append_right _ _), fun h0' h' x P' => ?_⟩
  · rw [add_none]; simp [e1]
  · rw [← hc]
    have : Mem h0 h ((g, e, cs) :: ((C1 ++ (Cm ++ C2)) ++ L)) := by simpa using M
    exact this.perm (perm_out _ _ _ _ _)
  · obtain ⟨_, md', B', M', O'⟩ := P'
    have hm := s.olen O'
    have hm0 := s.olen O1
    have hws : ws.length = l * s.sz := O.1
    have hlen : (pre ++ (md' ++ post)).length = l * s.sz := by rw [← hws, e2]; simp [hm, hm0]
    refine ⟨(g, e, ⟨pre ++ (md' ++ (post ++ cs.toList.drop (l * s.sz)))⟩) :: (C1 ++ (B' ++ C2)), ⟨by simpa using h1, pre ++ (md' ++ post), [_], _, rfl, ⟨hlen, .inr ⟨g, _, rfl, rfl, h5, h6, ?_, ?_⟩⟩, O2 _ _ _ O'⟩, ?_⟩
    · have : cs.toList.length = c * s.sz := by simpa using h7
      have hle := Nat.mul_le_mul_right s.sz h5
      simp only [List.size_toArray]
      have : (pre ++ (md' ++ (post ++ cs.toList.drop (l * s.sz)))).length = (pre ++ (md' ++ post)).length + (cs.toList.drop (l * s.sz)).length := by simp; omega
      rw [this, hlen, List.length_drop]; omega
    · show List.take _ (pre ++ (md' ++ (post ++ _))) = _
      have e5 : pre ++ (md' ++ (post ++ cs.toList.drop (l * s.sz))) = (pre ++ (md' ++ post)) ++ cs.toList.drop (l * s.sz) := by simp
      rw [e5, ← hlen]
      exact List.take_left
    · have := M'.perm (perm_out _ _ _ _ _).symm
      simpa using this
theorem Pt.elem {β : Type} [Inhabited β] {α : Type} {r : Rep α} {e : Nat} {s : Rep β} {get : α → List β} {put : α → List β → α} {h0 h : Heap} {q : Addr} {F : Fr} {L : List Blk} {a : α} {off i l c : Nat} {b : Option Addr}
    (P : Pt r h0 h q F L a) [Fc : FocC r off (rSl e s) get put] (hb : cell h (q.add off) = some (.slice b l c)) (hi : i < l) :
    ∃ a0 F' L', b = some a0 ∧ Pt s h0 h (a0.add (i * s.sz)) F' L' (get a)[i]! ∧ L.Sublist L' ∧ ∀ h0' h' x, Pt s h0' h' (a0.add (i * s.sz)) F' L' x → Pt r h0' h' q F L (put a ((get a).set i x)) ∧ cell h' (q.add off) = some (.slice b l c) := by
  obtain ⟨F1, L1, P1, hs, close⟩ := P.foc Fc.f
  obtain ⟨eq, mid, B, M, b', l', c', rfl, S⟩ := P1
  have e0 : cell h (q.add off) = some (.slice b' l' c') := by
    rw [eq, M.cell .here]; simp
  rw [hb] at e0
  cases e0
  have M1 : Mem h0 h (B ++ ((F1.g, F1.T, ⟨F1.pre ++ ([.slice b l c] ++ F1.post)⟩) :: L1)) := M.perm List.perm_middle.symm
  obtain ⟨a0, F2, L2, rfl, P2, hs2, close2⟩ := S.elem M1 hi
  refine ⟨a0, F2, L2, rfl, P2, (hs.trans (List.sublist_cons_self _ _)).trans hs2, fun h0' h' x P' => ?_⟩
  obtain ⟨B', S', M'⟩ := close2 h0' h' x P'
  have M2 := M'.perm List.perm_middle
  refine ⟨close h0' h' _ ⟨eq, [.slice (some a0) l c], B', M2, _, _, _, rfl, S'⟩, ?_⟩
  rw [eq, M2.cell .here]; simp
end Go.Sx
