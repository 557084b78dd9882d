/- Rules for the words: heaps that grow, the blocks that a function lays for itself, loads and stores there, what the words ask of plain values. -/
import Derived.Test.YtnhcoeogejgidabGreatDoorSx10
import Derived.KernelRfl
namespace Go.Sx

set_option linter.unusedVariables false

structure Ext (h h' : Heap) : Prop where
  le : h.size ≤ h'.size
  eq : ∀ i, i < h.size → h'[i]? = h[i]?
theorem Ext.refl (h : Heap) : Ext h h := ⟨Nat.le_refl _, fun _ _ => rfl⟩
theorem Ext.trans {a b c : Heap} (x : Ext a b) (y : Ext b c) : Ext a c :=
  ⟨Nat.le_trans x.le y.le, fun i hi => (y.eq i (Nat.lt_of_lt_of_le hi x.le)).trans (x.eq i hi)⟩
theorem Ext.push (h : Heap) (o : Obj) : Ext h (h.push o) := ⟨by simp, fun i hi => by simp [Array.getElem?_push, Nat.ne_of_lt hi]⟩
theorem cell_lt {h : Heap} {a : Addr} {v : Value} (e : cell h a = some v) : a.block < h.size := by
  unfold cell at e
  split at e
  · next hb => exact (Array.getElem?_eq_some_iff.1 hb).1
  · cases e
theorem Ext.cell_lt {h h' : Heap} (x : Ext h h') {a : Addr} (ha : a.block < h.size) : cell h' a = cell h a := by
  unfold cell; rw [x.eq _ ha]
theorem Ext.cell {h h' : Heap} (x : Ext h h') {a : Addr} {v : Value} (e : cell h a = some v) : cell h' a = some v := by
  rw [x.cell_lt (Sx.cell_lt e)]; exact e

/-- Its number, the type of its elements, its cells. -/
abbrev Blk := Nat × Nat × Array Value
structure Mem (h0 h : Heap) (L : List Blk) : Prop where
  ext : Ext h0 h
  at_ : ∀ p ∈ L, h0.size ≤ p.1 ∧ h[p.1]? = some (.cells p.2.2 p.2.1)
  ne : L.Pairwise fun p q => p.1 ≠ q.1
theorem Mem.start (h : Heap) : Mem h h [] := ⟨Ext.refl h, (fun p hp => nomatch hp), List.Pairwise.nil⟩
theorem Mem.lt {h0 h : Heap} {L : List Blk} (M : Mem h0 h L) {p : Blk} (hp : p ∈ L) : p.1 < h.size := by
  obtain ⟨_, e⟩ := M.at_ p hp
  exact (Array.getElem?_eq_some_iff.1 e).1
theorem Mem.grow {h0 h h' : Heap} {L : List Blk} (M : Mem h0 h L) (x : Ext h h') : Mem h0 h' L :=
  ⟨M.ext.trans x, fun p hp => ⟨(M.at_ p hp).1, by rw [x.eq _ (M.lt hp)]; exact (M.at_ p hp).2⟩, M.ne⟩
theorem Mem.drop {h0 h : Heap} {p : Blk} {L : List Blk} (M : Mem h0 h (p :: L)) : Mem h0 h L :=
  ⟨M.ext, fun q hq => M.at_ q (.tail _ hq), (List.pairwise_cons.1 M.ne).2⟩
theorem Mem.push {h0 h : Heap} {L : List Blk} (M : Mem h0 h L) (cs : Array Value) (T : TypeId) : Mem h0 (h.push (.cells cs T)) ((h.size, T, cs) :: L) := by
  refine ⟨M.ext.trans (Ext.push _ _), fun p hp => ?_, List.pairwise_cons.2 ⟨fun q hq => ?_, M.ne⟩⟩
  · cases hp with
    | head => exact ⟨M.ext.le, by simp⟩
    | tail _ hp => exact ⟨(M.at_ p hp).1, by rw [(Ext.push _ _).eq _ (M.lt hp)]; exact (M.at_ p hp).2⟩
  · exact (Nat.ne_of_lt (M.lt hq)).symm
theorem Mem.alc {h0 h : Heap} {L : List Blk} (M : Mem h0 h L) {cs : Array Value} {T : Nat} {F : Nat → Heap → Prop}
    (H : ∀ g h', Ext h h' → Mem h0 h' ((g, T, cs) :: L) → F g h') : ALC cs T F h := H _ _ (Ext.push _ _) (M.push cs T)

inductive Look : List Blk → Nat → Array Value → Prop
  | here {g T : Nat} {cs : Array Value} {L : List Blk} : Look ((g, T, cs) :: L) g cs
  | there {p : Blk} {L : List Blk} {g : Nat} {cs : Array Value} : Look L g cs → Look (p :: L) g cs
inductive Upd : List Blk → Nat → Array Value → List Blk → Prop
  | here {g T : Nat} {cs cs' : Array Value} {L : List Blk} : Upd ((g, T, cs) :: L) g cs' ((g, T, cs') :: L)
  | there {p : Blk} {L L' : List Blk} {g : Nat} {cs' : Array Value} : Upd L g cs' L' → Upd (p :: L) g cs' (p :: L')
/-- A block taken out of the list. -/
inductive Pick : List Blk → Nat → Nat → Array Value → List Blk → Prop
  | here {g T : Nat} {cs : Array Value} {L : List Blk} : Pick ((g, T, cs) :: L) g T cs L
  | there {p : Blk} {L L' : List Blk} {g T : Nat} {cs : Array Value} : Pick L g T cs L' → Pick (p :: L) g T cs (p :: L')
theorem Look.mem {L : List Blk} {g : Nat} {cs : Array Value} (l : Look L g cs) : ∃ T, (g, T, cs) ∈ L := by
  induction l with
  | here => exact ⟨_, .head _⟩
  | there _ ih => obtain ⟨T, h⟩ := ih; exact ⟨T, .tail _ h⟩
theorem Look.at_ {h0 h : Heap} {L : List Blk} (M : Mem h0 h L) {g : Nat} {cs : Array Value} (l : Look L g cs) : h0.size ≤ g ∧ ∃ T, h[g]? = some (.cells cs T) := by
  obtain ⟨T, hm⟩ := l.mem
  exact ⟨(M.at_ _ hm).1, T, (M.at_ _ hm).2⟩
theorem Pick.perm {L L' : List Blk} {g T : Nat} {cs : Array Value} (l : Pick L g T cs L') : L.Perm ((g, T, cs) :: L') := by
  induction l with
  | here => exact .refl _
  | there _ ih => exact (ih.cons _).trans (.swap _ _ _)
theorem Mem.perm {h0 h : Heap} {L L' : List Blk} (M : Mem h0 h L) (p : L.Perm L') : Mem h0 h L' :=
  ⟨M.ext, fun q hq => M.at_ q (p.mem_iff.2 hq), (p.pairwise_iff (fun h => Ne.symm h)).1 M.ne⟩
theorem Mem.pick {h0 h : Heap} {L L' : List Blk} (M : Mem h0 h L) {g T : Nat} {cs : Array Value} (l : Pick L g T cs L') : Mem h0 h ((g, T, cs) :: L') := M.perm l.perm

theorem Mem.cell {h0 h : Heap} {L : List Blk} (M : Mem h0 h L) {g : Nat} {cs : Array Value} (l : Look L g cs) (j : Nat) : cell h ⟨g, j, none⟩ = cs[j]? := by
  obtain ⟨_, T, e⟩ := l.at_ M
  simp only [Sx.cell]
  rw [e]; rfl
theorem Mem.froz {h0 h : Heap} {L : List Blk} (M : Mem h0 h L) {g : Nat} {cs : Array Value} (l : Look L g cs) (j : Nat) : froz h ⟨g, j, none⟩ = false := by
  obtain ⟨_, T, e⟩ := l.at_ M
  simp only [Sx.froz]
  rw [e]; simp
theorem setc_at {h : Heap} {g : Nat} {cs : Array Value} {T : TypeId} (e : h[g]? = some (.cells cs T)) (j : Nat) (v : Value) :
    (setc h ⟨g, j, none⟩ v)[g]? = some (.cells (cs.setIfInBounds j v) T) := by
  simp [setc, Array.getElem?_modify, e]
theorem setc_off {h : Heap} {g i : Nat} (hi : g ≠ i) (j : Nat) (v : Value) : (setc h ⟨g, j, none⟩ v)[i]? = h[i]? := by
  simp [setc, Array.getElem?_modify, hi]
theorem setc_size (h : Heap) (a : Addr) (v : Value) : (setc h a v).size = h.size := by simp [setc]
theorem Upd.old {L L' : List Blk} {g : Nat} {cs' : Array Value} (u : Upd L g cs' L') : ∃ T cs, (g, T, cs) ∈ L := by
  induction u with
  | here => exact ⟨_, _, .head _⟩
  | there _ ih => obtain ⟨T, cs, h⟩ := ih; exact ⟨T, cs, .tail _ h⟩
theorem Upd.out {L L' : List Blk} {g : Nat} {cs' : Array Value} (u : Upd L g cs' L') (ne : L.Pairwise fun p q => p.1 ≠ q.1) :
    L'.map (·.1) = L.map (·.1) ∧ (∀ q ∈ L', (∃ T cs, q = (g, T, cs') ∧ (g, T, cs) ∈ L) ∨ (q ∈ L ∧ q.1 ≠ g)) := by
  induction u with
  | @here g T cs cs' L =>
    refine ⟨rfl, fun q hq => ?_⟩
    cases hq with
    | head => exact .inl ⟨T, cs, rfl, .head _⟩
    | tail _ hq => exact .inr ⟨.tail _ hq, ((List.pairwise_cons.1 ne).1 _ hq).symm⟩
  | @there p L L' g cs' u ih =>
    obtain ⟨h1, h2⟩ := ih (List.pairwise_cons.1 ne).2
    obtain ⟨T, cs, hm⟩ := u.old
    refine ⟨by simp [h1], fun q hq => ?_⟩
    cases hq with
    | head => exact .inr ⟨.head _, (List.pairwise_cons.1 ne).1 _ hm⟩
    | tail _ hq =>
      rcases h2 q hq with ⟨T, cs, h3, h4⟩ | h
      · exact .inl ⟨T, cs, h3, .tail _ h4⟩
      · exact .inr ⟨.tail _ h.1, h.2⟩
theorem Mem.mod {h0 h h' : Heap} {L L' : List Blk} (M : Mem h0 h L) {g : Nat} {cs cs' : Array Value} (l : Look L g cs) (hs : h.size ≤ h'.size)
    (ho : ∀ i, i < h.size → g ≠ i → h'[i]? = h[i]?) (hg' : ∀ T cs, h[g]? = some (.cells cs T) → h'[g]? = some (.cells cs' T)) (u : Upd L g cs' L') : Mem h0 h' L' := by
  obtain ⟨hg, T, e⟩ := l.at_ M
  obtain ⟨h1, h2⟩ := u.out M.ne
  refine ⟨⟨Nat.le_trans M.ext.le hs, fun i hi => ?_⟩, fun p hp => ?_, ?_⟩
  · rw [ho _ (Nat.lt_of_lt_of_le hi M.ext.le) (Nat.ne_of_gt (Nat.lt_of_lt_of_le hi hg))]; exact M.ext.eq i hi
  · rcases h2 p hp with ⟨T, cs, rfl, hm⟩ | ⟨hm, hn⟩
    · exact ⟨hg, hg' _ _ (M.at_ _ hm).2⟩
    · rw [ho _ (M.lt hm) (Ne.symm hn)]; exact M.at_ p hm
  · have h3 := M.ne
    rw [← List.pairwise_map (f := fun p : Blk => p.1) (R := fun a b => a ≠ b)] at h3 ⊢
    rw [h1]; exact h3
theorem Mem.set {h0 h : Heap} {L L' : List Blk} (M : Mem h0 h L) {g j : Nat} {cs : Array Value} {v : Value} (l : Look L g cs)
    (u : Upd L g (cs.setIfInBounds j v) L') : Mem h0 (setc h ⟨g, j, none⟩ v) L' := by
  obtain ⟨hg, T, e⟩ := l.at_ M
  exact M.mod l (Nat.le_of_eq (setc_size _ _ _).symm) (fun i _ hi => setc_off hi j v) (fun T' cs' e' => by rw [e] at e'; cases e'; exact setc_at e j v) u
theorem Mem.st1 {h0 h : Heap} {L L' : List Blk} (M : Mem h0 h L) {g j : Nat} {cs : Array Value} {v : Value} {F : Heap → Prop} (l : Look L g cs)
    (hj : j < cs.size) (u : Upd L g (cs.setIfInBounds j v) L') (H : ∀ h', Mem h0 h' L' → F h') : ST1 h ⟨g, j, none⟩ v F := by
  refine ⟨?_, M.froz l j, H _ (M.set l u)⟩
  rw [M.cell l j]; simp [hj]
/-- cs with the cells of vs from place j on. -/
def putAt (cs : Array Value) (j : Nat) : List Value → Array Value
  | [] => cs
  | v :: r => putAt (cs.setIfInBounds j v) (j + 1) r
theorem putAt_get (cs : Array Value) (j : Nat) (vs : List Value) (i : Nat) : (putAt cs j vs)[i]? = if j ≤ i ∧ i < j + vs.length ∧ i < cs.size then vs[i - j]? else cs[i]? := by
  induction vs generalizing cs j with
  | nil => simp [putAt]; intros; omega
  | cons v r ih =>
    simp only [putAt, ih, Array.size_setIfInBounds, List.length_cons, Array.getElem?_setIfInBounds]
    by_cases h1 : j = i
    · subst h1
      simp only [show ¬ (j + 1 ≤ j ∧ j < j + 1 + r.length ∧ j < cs.size) by omega, if_false, if_true, Nat.sub_self, List.getElem?_cons_zero]
      by_cases h2 : j < cs.size
      · simp [h2]
      · simp [h2]
    · rw [if_neg h1]
      by_cases h2 : j + 1 ≤ i ∧ i < j + 1 + r.length ∧ i < cs.size
      · rw [if_pos h2, if_pos (by omega), show i - j = (i - (j + 1)) + 1 by omega, List.getElem?_cons_succ]
      · rw [if_neg h2, if_neg (by omega)]
/-- The whole block anew. -/
theorem putAt_all {cs : Array Value} {vs : List Value} (h : vs.length = cs.size) : putAt cs 0 vs = ⟨vs⟩ := by
  apply Array.ext_getElem?
  intro i
  rw [putAt_get]
  simp only [List.getElem?_toArray, Nat.zero_le, true_and, Nat.zero_add, Nat.sub_zero]
  by_cases h2 : i < cs.size
  · rw [if_pos ⟨by omega, h2⟩]
  · rw [if_neg (by omega)]
    have e1 : cs[i]? = none := Array.getElem?_eq_none (by omega)
    rw [e1, List.getElem?_eq_none (by omega)]
theorem add_none (g j n : Nat) : (⟨g, j, none⟩ : Addr).add n = ⟨g, j + n, none⟩ := by
  unfold Addr.add
  split
  · next h => subst h; rfl
  · rfl
theorem Mem.oI {h0 h : Heap} {L : List Blk} (M : Mem h0 h L) {g j : Nat} {cs : Array Value} {k : IntKind} {n : Int} {F : Int → Prop} (l : Look L g cs) (e : cs[j]? = some (.int k n)) (H : F n) : oI k (Sx.cell h ⟨g, j, none⟩) F := by
  rw [M.cell l j, e]; simpa [Sx.oI, asI] using H
theorem Mem.oF {h0 h : Heap} {L : List Blk} (M : Mem h0 h L) {g j : Nat} {cs : Array Value} {k : FloatKind} {n : Nat} {F : Nat → Prop} (l : Look L g cs) (e : cs[j]? = some (.float k n)) (H : F n) : oF k (Sx.cell h ⟨g, j, none⟩) F := by
  rw [M.cell l j, e]; simpa [Sx.oF, asF] using H
theorem Mem.oB {h0 h : Heap} {L : List Blk} (M : Mem h0 h L) {g j : Nat} {cs : Array Value} {n : Bool} {F : Bool → Prop} (l : Look L g cs) (e : cs[j]? = some (.bool n)) (H : F n) : oB (Sx.cell h ⟨g, j, none⟩) F := by
  rw [M.cell l j, e]; exact H
theorem Mem.oS {h0 h : Heap} {L : List Blk} (M : Mem h0 h L) {g j : Nat} {cs : Array Value} {n : ByteArray} {F : ByteArray → Prop} (l : Look L g cs) (e : cs[j]? = some (.string n)) (H : F n) : oS (Sx.cell h ⟨g, j, none⟩) F := by
  rw [M.cell l j, e]; exact H
theorem Mem.oL {h0 h : Heap} {L : List Blk} (M : Mem h0 h L) {g j : Nat} {cs : Array Value} {b : Option Addr} {n c : Nat} {F : Option Addr → Nat → Nat → Prop} (l : Look L g cs) (e : cs[j]? = some (.slice b n c)) (H : F b n c) : oL (Sx.cell h ⟨g, j, none⟩) F := by
  rw [M.cell l j, e]; exact H
theorem Mem.oV {h0 h : Heap} {L : List Blk} (M : Mem h0 h L) {g j : Nat} {cs : Array Value} {v : Value} {F : Value → Prop} (l : Look L g cs) (e : cs[j]? = some v) (H : F v) : oV (Sx.cell h ⟨g, j, none⟩) F := by
  rw [M.cell l j, e]; exact H
theorem Mem.lda {h0 h : Heap} {L : List Blk} (M : Mem h0 h L) {g j n : Nat} {cs : Array Value} {F : Array Value → Prop} (l : Look L g cs) (hn : j + n ≤ cs.size) (H : F (cs.extract j (j + n))) : LDA n h ⟨g, j, none⟩ F := by
  refine ⟨_, by simp; omega, fun i hi => ?_, H⟩
  rw [add_none, M.cell l, Array.getElem?_extract]
  simp; omega
theorem Mem.lda0 {h0 h : Heap} {L : List Blk} (M : Mem h0 h L) {g n : Nat} {cs : Array Value} {F : Array Value → Prop} (l : Look L g cs) (hn : cs.size = n) (H : F cs) : LDA n h ⟨g, 0, none⟩ F := by
  subst hn
  exact M.lda l (by simp) (by simpa using H)
theorem setcs_size (vs : List Value) : ∀ (h : Heap) (a : Addr) (i : Nat), (setcs h a vs i).size = h.size := by
  induction vs with
  | nil => intros; rfl
  | cons v r ih => intro h a i; simp [setcs, ih, setc_size]
theorem setcs_off {g k : Nat} (hi : g ≠ k) (vs : List Value) : ∀ (h : Heap) (j i : Nat), (setcs h ⟨g, j, none⟩ vs i)[k]? = h[k]? := by
  induction vs with
  | nil => intros; rfl
  | cons v r ih => intro h j i; simp only [setcs, add_none, ih, setc_off hi]
theorem setcs_at {g : Nat} {T : TypeId} (vs : List Value) : ∀ {h : Heap} {cs : Array Value} (e : h[g]? = some (.cells cs T)) (j i : Nat),
    (setcs h ⟨g, j, none⟩ vs i)[g]? = some (.cells (putAt cs (j + i) vs) T) := by
  induction vs with
  | nil => intro h cs e j i; exact e
  | cons v r ih =>
    intro h cs e j i
    simp only [setcs, add_none, putAt]
    exact ih (setc_at e (j + i) v) j (i + 1)
theorem Mem.sta {h0 h : Heap} {L L' : List Blk} (M : Mem h0 h L) {g j n : Nat} {cs vs : Array Value} {F : Heap → Prop} (l : Look L g cs)
    (hn : vs.size = n) (h1 : ∀ v ∈ vs.toList, v.oneCell' = true) (hj : j + n ≤ cs.size) (u : Upd L g (putAt cs j vs.toList) L') (H : ∀ h', Mem h0 h' L' → F h') : STA n h ⟨g, j, none⟩ vs F := by
  obtain ⟨hg, T, e⟩ := l.at_ M
  refine ⟨hn, h1, fun i hi => ?_, H _ (M.mod l (Nat.le_of_eq (setcs_size _ _ _ _).symm) (fun k _ hk => setcs_off hk _ _ _ _) (fun T' cs' e' => by rw [e] at e'; cases e'; simpa using setcs_at vs.toList e j 0) u)⟩
  rw [add_none, M.cell l, M.froz l]
  exact ⟨by simp; omega, rfl⟩
theorem Mem.sta0 {h0 h : Heap} {L L' : List Blk} (M : Mem h0 h L) {g n : Nat} {cs vs : Array Value} {F : Heap → Prop} (l : Look L g cs)
    (hn : vs.size = n) (h1 : ∀ v ∈ vs.toList, v.oneCell' = true) (hj : cs.size = n) (u : Upd L g vs L') (H : ∀ h', Mem h0 h' L' → F h') : STA n h ⟨g, 0, none⟩ vs F :=
  M.sta l hn h1 (by omega) (by rw [putAt_all (by simp; omega)]; exact u) H
theorem br {b : Bool} {p q : Prop} (ht : b = true → p) (hf : b = false → q) : BIF b p q := by cases b; exact hf rfl; exact ht rfl
theorem br_t {b : Bool} {p q : Prop} (h : b = true) (ht : p) : BIF b p q := by subst h; exact ht
theorem br_f {b : Bool} {p q : Prop} (h : b = false) (ht : q) : BIF b p q := by subst h; exact ht
theorem idx {i : Int} {n : Nat} {p : Prop} (h1 : 0 ≤ i) (h2 : i < n) (H : p) : IDX i n p := ⟨⟨h1, h2⟩, H⟩
theorem as_i {k : IntKind} {n : Int} {F : Int → Prop} (H : F n) : asI k (.int k n) F := by simpa [asI] using H
theorem as_f {k : FloatKind} {n : Nat} {F : Nat → Prop} (H : F n) : asF k (.float k n) F := by simpa [asF] using H
theorem as_b {n : Bool} {F : Bool → Prop} (H : F n) : asB (.bool n) F := H
theorem as_s {n : ByteArray} {F : ByteArray → Prop} (H : F n) : asS (.string n) F := H
theorem as_p {n : Addr} {F : Addr → Prop} (H : F n) : asP (.pointer (some n)) F := H
theorem as_l {b : Option Addr} {l c : Nat} {F : Option Addr → Nat → Nat → Prop} (H : F b l c) : asL (.slice b l c) F := H
theorem as_a {cs : Array Value} {F : Array Value → Prop} (H : F cs) : asA (.agg cs) F := H
theorem tup2 {a b : Value} {F : Value → Value → Prop} (H : F a b) : TUP2 (.tuple ⟨[a, b]⟩) F := H
theorem tup3 {a b c : Value} {F : Value → Value → Value → Prop} (H : F a b c) : TUP3 (.tuple ⟨[a, b, c]⟩) F := H
theorem o_i {c : Option Value} {k : IntKind} {n : Int} {F : Int → Prop} (e : c = some (.int k n)) (H : F n) : oI k c F := by subst e; simpa [oI, asI] using H
theorem o_f {c : Option Value} {k : FloatKind} {n : Nat} {F : Nat → Prop} (e : c = some (.float k n)) (H : F n) : oF k c F := by subst e; simpa [oF, asF] using H
theorem o_b {c : Option Value} {n : Bool} {F : Bool → Prop} (e : c = some (.bool n)) (H : F n) : oB c F := by subst e; exact H
theorem o_s {c : Option Value} {n : ByteArray} {F : ByteArray → Prop} (e : c = some (.string n)) (H : F n) : oS c F := by subst e; exact H
theorem o_l {c : Option Value} {b : Option Addr} {l m : Nat} {F : Option Addr → Nat → Nat → Prop} (e : c = some (.slice b l m)) (H : F b l m) : oL c F := by subst e; exact H
/-- A loop that counts its index up to a bound. -/
theorem loop {X : Type} {B : (X → Heap → Prop) → X → Heap → Prop} {x : X} {h : Heap} (I : X → Heap → Prop) (m : X → Nat) (h0 : I x h)
    (hb : ∀ x h, I x h → B (fun x' h' => I x' h' ∧ m x' < m x) x h) : LOOP B x h := ⟨I, fun x _ => m x, h0, hb⟩
theorem all_one {l : List Value} (h : l.all Value.oneCell' = true) : ∀ v ∈ l, v.oneCell' = true := by simpa using h
/-- The call answers v and leaves what stood as it stood. -/
abbrev Ret (P : Program) (f : FuncId) (args : Array Value) (v : Value) : Prop := ∀ h, CALL P f args (fun u h' => u = v ∧ Ext h h') h
theorem Ret.go {P : Program} {f : FuncId} {args : Array Value} {v : Value} (r : Ret P f args v) {h : Heap} {K : Value → Heap → Prop} (H : ∀ h', Ext h h' → K v h') : CALL P f args K h :=
  (r h).mono fun u h' ⟨e, x⟩ => by subst e; exact H h' x
theorem Ret.mem {P : Program} {f : FuncId} {args : Array Value} {v : Value} (r : Ret P f args v) {h0 h : Heap} {L : List Blk} (M : Mem h0 h L) {K : Value → Heap → Prop} (H : ∀ h', Mem h0 h' L → K v h') : CALL P f args K h :=
  (r h).mono fun u h' ⟨e, x⟩ => by subst e; exact H h' (M.grow x)
end Go.Sx
