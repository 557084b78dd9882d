/- Own blocks counted (their order does not matter); values put together out of parts; results of calls taken up. -/
import Derived.Test.YthgnpepchedpbaaGreatLp4
set_option linter.unusedVariables false
set_option linter.unusedSimpArgs false
namespace Go.Sx
theorem maxLen_le : (maxLen : Nat) ≤ 9223372036854775807 := by decide
theorem nt {b : Bool} (h : (!b) = true) : b = false := by cases b <;> simp_all
theorem nf {b : Bool} (h : (!b) = false) : b = true := by cases b <;> simp_all
open Classical

noncomputable def cnt (p : Blk) (L : List Blk) : Nat := L.countP fun q => decide (q = p)
theorem cnt_nil (p : Blk) : cnt p [] = 0 := rfl
theorem cnt_cons (p q : Blk) (L : List Blk) : cnt p (q :: L) = (if q = p then 1 else 0) + cnt p L := by
  unfold cnt
  rw [List.countP_cons]
  by_cases h : q = p <;> simp [h]; omega
theorem cnt_app (p : Blk) (L M : List Blk) : cnt p (L ++ M) = cnt p L + cnt p M := by unfold cnt; exact List.countP_append
theorem cnt_pos {p : Blk} {L : List Blk} : 0 < cnt p L ↔ p ∈ L := by
  unfold cnt; rw [List.countP_pos_iff]; simp
theorem Mem.one {h0 h : Heap} {L : List Blk} (M : Mem h0 h L) (p : Blk) : cnt p L ≤ 1 := by
  have hne := M.ne
  clear M
  induction L with
  | nil => rw [cnt_nil]; omega
  | cons q L ih =>
    obtain ⟨h1, h2⟩ := List.pairwise_cons.1 hne
    have h3 := ih h2
    rw [cnt_cons]
    split
    · next e =>
      subst e
      have : cnt q L = 0 := by
        rcases Nat.eq_zero_or_pos (cnt q L) with h | h
        · exact h
        · exact absurd rfl (h1 q (cnt_pos.1 h))
      omega
    · omega
/-- Fewer blocks, in whatever order. -/
theorem Mem.cnt {h0 h : Heap} {L W : List Blk} (M : Mem h0 h L) (hc : ∀ p, Sx.cnt p W ≤ Sx.cnt p L) : Mem h0 h W := by
  have hm : ∀ p ∈ W, p ∈ L := fun p hp => cnt_pos.1 (Nat.lt_of_lt_of_le (cnt_pos.2 hp) (hc p))
  refine ⟨M.ext, fun p hp => M.at_ p (hm p hp), ?_⟩
  have h1 : ∀ p, Sx.cnt p W ≤ 1 := fun p => Nat.le_trans (hc p) (M.one p)
  have hu : ∀ p ∈ L, ∀ q ∈ L, p.1 = q.1 → p = q := by
    intro p hp q hq e
    have a := (M.at_ p hp).2
    have b := (M.at_ q hq).2
    rw [e] at a
    rw [a] at b
    obtain ⟨p1, p2, p3⟩ := p
    obtain ⟨q1, q2, q3⟩ := q
    simp only at e
    subst e
    simp only [Option.some.injEq, Obj.cells.injEq] at b
    rw [b.1, b.2.1]
  clear hc
  induction W with
  | nil => exact List.Pairwise.nil
  | cons q W ih =>
    refine List.pairwise_cons.2 ⟨fun p hp e => ?_, ih (fun p hp => hm p (.tail _ hp)) (fun p => ?_)⟩
    · have := hu q (hm q (.head _)) p (hm p (.tail _ hp)) e
      subst this
      have h2 := h1 q
      rw [cnt_cons, if_pos rfl] at h2
      have := cnt_pos.2 hp
      omega
    · have h2 := h1 p
      rw [cnt_cons] at h2
      omega
section
variable {α β : Type} {r : Rep α} {p : Rep β} {h0 h h' hb : Heap} {L : List Blk}
/-- A part put into a value. -/
theorem ow_splice {B B' : List Blk} {cells : List Value} {cs : Array Value} {a : α} {b : β} {off n : Nat} {get : α → β} {put : α → β → α} (O : r.ow B cells a) (F : Foc r p off get put) (hn : p.sz = n) (O' : p.ow B' cs.toList b) :
    ∃ B2, r.ow B2 (splice off n cs cells) (put a b) ∧ ∀ x, cnt x B2 ≤ cnt x B + cnt x B' := by
  obtain ⟨pre, mid, post, B1, Bm, B2, e1, rfl, rfl, h1, h2⟩ := F.fo O
  refine ⟨B1 ++ (B' ++ B2), ?_, fun x => by simp only [cnt_app]; omega⟩
  have hm := p.olen h1
  have e : splice off n cs (pre ++ (mid ++ post)) = pre ++ (cs.toList ++ post) := by
    unfold splice
    rw [← e1, List.take_left, ← List.drop_drop, List.drop_left, ← hn, ← hm, List.drop_left]
  rw [e]
  exact h2 _ _ _ O'
theorem ow_set {B B' : List Blk} {cells : List Value} {v : Value} {a : α} {b : β} {off : Nat} {get : α → β} {put : α → β → α} (O : r.ow B cells a) (F : Foc r p off get put) (hn : p.sz = 1) (O' : p.ow B' [v] b) :
    ∃ B2, r.ow B2 (List.set cells off v) (put a b) ∧ ∀ x, cnt x B2 ≤ cnt x B + cnt x B' := by
  obtain ⟨pre, mid, post, B1, Bm, B2, e1, rfl, rfl, h1, h2⟩ := F.fo O
  refine ⟨B1 ++ (B' ++ B2), ?_, fun x => by simp only [cnt_app]; omega⟩
  have hm := p.olen h1
  rw [hn] at hm
  obtain ⟨u, rfl⟩ := List.length_eq_one_iff.1 hm
  have e : List.set (pre ++ ([u] ++ post)) off v = pre ++ ([v] ++ post) := by
    rw [List.set_append_right _ _ (by omega), e1, Nat.sub_self]; rfl
  rw [e]
  exact h2 _ _ _ O'
/-- Nothing but what lies within the data is looked at. -/
theorem RdP.pinO {q : Addr} {x : α} {off n : Nat} {P : Prop} (R : RdP r hb q x) (ho : off + n ≤ r.sz) (X : Ext hb h) (H : P) : PIN hb (q.add off) n h P := by
  obtain ⟨vs, h1, h2⟩ := R
  have := r.rlen h2
  exact Sx.pin X (fun j hj => ⟨vs[off + j]'(by omega), by rw [add_add']; exact h1 _ _ (List.getElem?_eq_getElem (by omega))⟩) H
theorem RdP.pin0 {q : Addr} {x : α} {n : Nat} {P : Prop} (R : RdP r hb q x) (ho : n ≤ r.sz) (X : Ext hb h) (H : P) : PIN hb q n h P := by
  have := RdP.pinO (off := 0) (n := n) R (by omega) X H
  rwa [add0] at this
theorem RdP.pin2 {g : Nat} {x : α} {off n : Nat} {P : Prop} (R : RdP r hb ⟨g, 0, none⟩ x) (ho : off + n ≤ r.sz) (X : Ext hb h) (H : P) : PIN hb ⟨g, off, none⟩ n h P := by
  have := RdP.pinO (off := off) (n := n) R ho X H
  rwa [add_g] at this
/-- A new value taken up beside what is there. -/
theorem NewR.go {P : Program} {f : FuncId} {args : Array Value} {a : α} {K : Value → Heap → Prop} (M : Mem hb h L) (c : CALL P f args (fun u h' => NewR r h h' u a) h) (H : ∀ h' cs B, Mem hb h' (B ++ L) → r.ow B cs.toList a → cs.size = r.sz → K (.agg cs) h') : CALL P f args K h :=
  c.mono fun u h' ⟨cs, B, e, O, N⟩ => by subst e; exact H h' cs B (M.join N) O (by simpa using r.olen O)
/-- A value answered, nothing else changed. -/
theorem goM {P : Program} {f : FuncId} {args : Array Value} {v : Value} {K : Value → Heap → Prop} (M : Mem hb h L) (c : CALL P f args (fun u h' => u = v ∧ Ext h h') h) (H : ∀ h', Mem hb h' L → K v h') : CALL P f args K h :=
  c.mono fun u h' ⟨e, x⟩ => by subst e; exact H h' (M.grow x)
theorem goX {P : Program} {f : FuncId} {args : Array Value} {v : Value} {K : Value → Heap → Prop} (c : CALL P f args (fun u h' => u = v ∧ Ext h h') h) (H : ∀ h', Ext h h' → K v h') : CALL P f args K h :=
  c.mono fun u h' ⟨e, x⟩ => by subst e; exact H h' x
theorem append_copyM {P : Program} {xs : List α} {t e bytes ty g l c : Nat} {b : Option Addr} {K : Value → Heap → Prop} (E : ElemT P t e r.sz bytes) (hz : 0 < r.sz) (hf : Flat r) (S : SlR r hb b l c xs) (M : Mem hb h L) {L' : List Blk} (k : Pick L g e ⟨[]⟩ L') (hl : l * bytes ≤ 140737488355328)
    (H : ∀ b' c' h' B', SlO e r B' b' l c' xs → Mem hb h' (B' ++ L') → K (.slice b' l c') h') : SEMV P (Builtin.append_ #[t, t] ty #[.slice (some ⟨g, 0, none⟩) 0 0, .slice b l c]) K h :=
  append_copy E hz hf (S.ext M.ext) (M.pick k) hl H
end
end Go.Sx
namespace Go.Sx
section
variable {α : Type} {r : Rep α} {h0 h h' : Heap} {L : List Blk}
theorem rsz {n : Nat} {cs : Array Value} {a : α} (R : r.rd h cs.toList a) (hn : r.sz = n) : cs.size = n := by have := r.rlen R; rw [Array.length_toList] at this; omega
theorem osz {n : Nat} {cs : Array Value} {B : List Blk} {a : α} (R : r.ow B cs.toList a) (hn : r.sz = n) : cs.size = n := by have := r.olen R; rw [Array.length_toList] at this; omega
theorem Mem.ldaM {g T j n : Nat} {pre mid post : List Value} {F : Array Value → Prop} (M : Mem h0 h ((g, T, ⟨pre ++ (mid ++ post)⟩) :: L)) (hj : pre.length = j) (hn : mid.length = n) (H : F ⟨mid⟩) : LDA n h ⟨g, j, none⟩ F := by
  refine M.lda .here (by simp; omega) ?_
  have : (⟨pre ++ (mid ++ post)⟩ : Array Value).extract j (j + n) = ⟨mid⟩ := by
    rw [List.extract_toArray]
    congr 1
    rw [List.extract_eq_take_drop, ← hj, List.drop_left, show pre.length + n - pre.length = mid.length by omega]
    exact List.take_left
  rw [this]; exact H
theorem Mem.staM {g T j n : Nat} {pre mid post : List Value} {vs : Array Value} {F : Heap → Prop} (M : Mem h0 h ((g, T, ⟨pre ++ (mid ++ post)⟩) :: L)) (hj : pre.length = j) (hn : mid.length = n) (hv : vs.size = n) (ho : ∀ v ∈ vs.toList, v.oneCell' = true)
    (H : ∀ h', Mem h0 h' ((g, T, ⟨pre ++ (vs.toList ++ post)⟩) :: L) → F h') : STA n h ⟨g, j, none⟩ vs F := by
  refine M.sta .here hv ho (by simp; omega) .here fun h' M' => H h' ?_
  have e2 : putAt ⟨pre ++ (mid ++ post)⟩ j vs.toList = ⟨pre ++ (vs.toList ++ post)⟩ := by
    have hvl : vs.toList.length = n := by simpa using hv
    apply Array.ext_getElem?
    intro i
    rw [putAt_get]
    simp only [List.getElem?_toArray, List.size_toArray, List.length_append]
    by_cases h1 : i < pre.length
    · rw [if_neg (by omega), List.getElem?_append_left h1, List.getElem?_append_left h1]
    · rw [List.getElem?_append_right (l₁ := pre) (by omega), List.getElem?_append_right (l₁ := pre) (by omega)]
      by_cases h2 : i - pre.length < n
      · rw [if_pos (by omega), List.getElem?_append_left (l₁ := vs.toList) (by omega), hj]
      · rw [if_neg (by omega), List.getElem?_append_right (l₁ := vs.toList) (by omega), List.getElem?_append_right (l₁ := mid) (by omega), hn, hvl]
  rw [e2] at M'
  exact M'
theorem splice_all {n : Nat} {cs : Array Value} {z : List Value} (hz : z.length = n) : splice 0 n cs z = cs.toList := by
  unfold splice
  rw [List.take_zero, List.nil_append, Nat.zero_add, List.drop_of_length_le (by omega), List.append_nil]
/-- One value laid in a block, as a slice of one. -/
theorem alc_one {n T : Nat} {cs : Array Value} {z : List Value} {a : α} {F : Nat → Heap → Prop} (R : r.rd h cs.toList a) (hz : z.length = n) (H : ∀ g h', Ext h h' → SlR r h' (some ⟨g, 0, none⟩) 1 1 [a] → F g h') : ALC ⟨splice 0 n cs z⟩ T F h := by
  rw [splice_all hz]
  refine H _ _ (Ext.push _ _) ⟨rfl, Nat.le_refl _, by decide, cs.toList, fun i hi => ⟨_, rfl, ?_⟩, cs.toList, [], by simp, r.ext (Ext.push _ _) R, rfl⟩
  rw [add_g]
  simp [cell]
/-- A part put into a value that is read. -/
theorem rd_splice {β : Type} {p : Rep β} {cells : List Value} {cs : Array Value} {a : α} {b : β} {off n : Nat} {get : α → β} {put : α → β → α} (O : r.rd h cells a) (hi : ∀ {vs : List Value} {x : α}, r.rd h vs x → ∃ pre mid post, pre.length = off ∧ vs = pre ++ (mid ++ post) ∧ mid.length = n ∧ ∀ mid' b', p.rd h mid' b' → r.rd h (pre ++ (mid' ++ post)) (put x b'))
    (O' : p.rd h cs.toList b) : r.rd h (splice off n cs cells) (put a b) := by
  obtain ⟨pre, mid, post, e1, rfl, e2, k⟩ := hi O
  have e : splice off n cs (pre ++ (mid ++ post)) = pre ++ (cs.toList ++ post) := by
    unfold splice
    rw [← e1, List.take_left, ← List.drop_drop, List.drop_left, ← e2, List.drop_left]
  rw [e]
  exact k _ _ O'
theorem arr_put {n i : Nat} (hi : i < n) {vs : List Value} {xs : List α} (R : (rArr n r).rd h vs xs) : ∃ pre mid post, pre.length = i * r.sz ∧ vs = pre ++ (mid ++ post) ∧ mid.length = r.sz ∧ ∀ mid' b', r.rd h mid' b' → (rArr n r).rd h (pre ++ (mid' ++ post)) (xs.set i b') := by
  obtain ⟨e0, R⟩ := R
  obtain ⟨pre, mid, post, e1, e2, h1, h2, h3⟩ := R.at (i := i) (by omega)
  refine ⟨pre, mid, post, e1, e2, r.rlen h1, fun mid' b' hb => ⟨by simpa using e0, ?_⟩⟩
  have : xs.set i b' = xs.take i ++ (b' :: xs.drop (i + 1)) := by
    rw [List.set_eq_take_append_cons_drop, if_pos (by omega)]
  rw [this]
  exact rds.append h2 ⟨mid', post, rfl, hb, h3⟩
theorem rArr_slr {n : Nat} {cs : List Value} {xs : List α} (R : (rArr n r).rd h cs xs) {T : Nat} {F : Nat → Heap → Prop} (hn : n ≤ maxLen) (H : ∀ g h', Ext h h' → SlR r h' (some ⟨g, 0, none⟩) n n xs → F g h') : ALC ⟨cs⟩ T F h :=
  alcR (cs := ⟨cs⟩) R fun g h' x R' => H g h' x (R'.arr hn)
end
end Go.Sx
namespace Go.Sx
theorem siz {n m : Nat} {p : Prop} (e : n = m) (H : p) : SIZ n m p := ⟨e, H⟩
section
variable {α : Type} {r : Rep α} {h0 h : Heap} {q : Addr} {F : Fr} {L W : List Blk} {a : α}
theorem Pt.cnt (P : Pt r h0 h q F L a) (hc : ∀ p, Sx.cnt p W ≤ Sx.cnt p L) : Pt r h0 h q F W a := by
  obtain ⟨e, mid, B, M, O⟩ := P
  refine ⟨e, mid, B, M.cnt fun p => ?_, O⟩
  have := hc p
  simp only [cnt_cons, cnt_app]
  omega
/-- A result of a call put beside own data. -/
theorem NewR.pt {β : Type} {s : Rep β} {P : Program} {f : FuncId} {args : Array Value} {b : β} {K : Value → Heap → Prop} (Pa : Pt r h0 h q F L a) (c : CALL P f args (fun u h' => NewR s h h' u b) h) (H : ∀ h' cs B, Pt r h0 h' q F (B ++ L) a → s.ow B cs.toList b → cs.size = s.sz → K (.agg cs) h') : CALL P f args K h :=
  c.mono fun u h' ⟨cs, B, e, O, N⟩ => by subst e; exact H h' cs B (Pa.join N) O (by simpa using s.olen O)
end
end Go.Sx
namespace Go.Sx
theorem Pick.skip {B L L' : List Blk} {g T : Nat} {cs : Array Value} (k : Pick L g T cs L') : Pick (B ++ L) g T cs (B ++ L') := by
  induction B with
  | nil => exact k
  | cons p B ih => exact .there ih
theorem Look.skip {B L : List Blk} {g : Nat} {cs : Array Value} (k : Look L g cs) : Look (B ++ L) g cs := by
  induction B with
  | nil => exact k
  | cons p B ih => exact .there ih
end Go.Sx
namespace Go.Sx
section
variable {α : Type} {r : Rep α} {h0 h : Heap} {L : List Blk}
theorem Mem.st1M {g T j : Nat} {pre post : List Value} {u v : Value} {F : Heap → Prop} (M : Mem h0 h ((g, T, ⟨pre ++ ([u] ++ post)⟩) :: L)) (hj : pre.length = j)
    (H : ∀ h', Mem h0 h' ((g, T, ⟨pre ++ ([v] ++ post)⟩) :: L) → F h') : ST1 h ⟨g, j, none⟩ v F := by
  refine M.st1 .here (by simp; omega) .here fun h' M' => H h' ?_
  have : (⟨pre ++ ([u] ++ post)⟩ : Array Value).setIfInBounds j v = ⟨pre ++ ([v] ++ post)⟩ := by
    have := set_mid pre [u] post 0 v (by simp)
    rw [Nat.add_zero, hj] at this
    exact this
  rw [this] at M'
  exact M'
theorem Mem.cellM {g T j : Nat} {pre post : List Value} {u : Value} (M : Mem h0 h ((g, T, ⟨pre ++ ([u] ++ post)⟩) :: L)) (hj : pre.length = j) : Sx.cell h ⟨g, j, none⟩ = some u := by
  rw [M.cell .here, ← hj]
  simp
theorem sizeL {n : Nat} {cs : Array Value} (h : cs.size = n) : cs.toList.length = n := by simpa using h
end
end Go.Sx
namespace Go.Sx
/-- The first block told in other words, the rest counted. -/
theorem Mem.cnt' {h0 h : Heap} {g T : Nat} {v w : List Value} {L W : List Blk} (M : Mem h0 h ((g, T, ⟨v⟩) :: L)) (e : v = w) (hc : ∀ p, Sx.cnt p W ≤ Sx.cnt p L) : Mem h0 h ((g, T, ⟨w⟩) :: W) := by
  subst e
  exact M.cnt fun p => by have := hc p; simp only [cnt_cons]; omega
end Go.Sx
namespace Go.Sx
section
variable {α β : Type} {r : Rep α} {p : Rep β} {h0 h : Heap} {g : Nat} {F : Fr} {L : List Blk} {a : α} {off : Nat}
theorem Pt.stLg {B : List Blk} {e : Nat} {s : Rep β} {get : α → List β} {put : α → List β → α} {b : Option Addr} {l c : Nat} {xs : List β} {K : Heap → Prop} (P : Pt r h0 h ⟨g, 0, none⟩ F (B ++ L) a) [Fc : FocC r off (rSl e s) get put] (O : SlO e s B b l c xs)
    (H : ∀ h', Pt r h0 h' ⟨g, 0, none⟩ F L (put a xs) → K h') : ST1 h ⟨g, off, none⟩ (.slice b l c) K := by
  have := Pt.st P Fc.f rfl ⟨b, l, c, rfl, O⟩ H
  rwa [add_g] at this
theorem Pt.stsg {get : α → β} {put : α → β → α} {b : β} {n : Nat} {vs : Array Value} {B' : List Blk} {K : Heap → Prop} (P : Pt r h0 h ⟨g, 0, none⟩ F (B' ++ L) a) (Fc : Foc r p off get put) (hp : p.sz = n) (O : p.ow B' vs.toList b)
    (H : ∀ h', Pt r h0 h' ⟨g, 0, none⟩ F L (put a b) → K h') : STA n h ⟨g, off, none⟩ vs K := by
  have := Pt.sts P Fc hp O H
  rwa [add_g] at this
end
end Go.Sx
namespace Go.Sx
section
variable {α : Type} {r : Rep α}
theorem ows_rep {zc : List Value} {z : α} (O : r.ow [] zc z) : ∀ n : Nat, ows r [] (List.replicate n zc).flatten (List.replicate n z)
  | 0 => ⟨rfl, rfl⟩
  | n + 1 => ⟨[], [], zc, (List.replicate n zc).flatten, rfl, rfl, O, ows_rep O n⟩
theorem rep_get {zc : List Value} (hz : 0 < zc.length) : ∀ (n i : Nat), i < n * zc.length → (List.replicate n zc).flatten[i]? = zc[i % zc.length]?
  | 0, i, h => by omega
  | n + 1, i, h => by
    rw [List.replicate_succ, List.flatten_cons]
    by_cases h1 : i < zc.length
    · rw [List.getElem?_append_left h1, Nat.mod_eq_of_lt h1]
    · rw [List.getElem?_append_right (by omega), rep_get hz n _ (by rw [Nat.add_mul] at h; omega)]
      conv => rhs; rw [Nat.mod_eq_sub_mod (by omega)]
/-- make([]T, n, n). -/
theorem make_sl {i : TI} {e n : Nat} {zc : List Value} {z : α} {F : Nat → Heap → Prop} {h0 h : Heap} {L : List Blk} (O : r.ow [] zc z) (hs : i.size = r.sz) (hz : i.zero = zc) (hp : 0 < r.sz) (M : Mem h0 h L) (hb : i.bytes * n ≤ 2 ^ 48) (hn : n ≤ maxLen)
    (H : ∀ g h', Ext h h' → Mem h0 h' ((g, e, ⟨(List.replicate n zc).flatten⟩) :: L) → SlO e r [(g, e, ⟨(List.replicate n zc).flatten⟩)] (some ⟨g, 0, none⟩) n n (List.replicate n z) → F g h') : MKS i e (n : Int) (n : Int) F h := by
  have hzl : zc.length = r.sz := r.olen O
  have hne : i.zero ≠ [] := by rw [hz]; intro h; rw [h] at hzl; simp at hzl; omega
  have hm := maxLen_le
  refine ⟨⟨by omega, by omega, by exact_mod_cast hb, by omega, hne⟩, ?_⟩
  have hfl : (List.replicate n zc).flatten.length = n * r.sz := by rw [List.length_flatten]; simp [hzl]
  have e1 : ((Array.range ((n : Int).toNat * i.size)).map fun j => (⟨i.zero⟩ : Array Value)[j % (⟨i.zero⟩ : Array Value).size]!) = ⟨(List.replicate n zc).flatten⟩ := by
    apply Array.ext_getElem?
    intro k
    rw [Int.toNat_natCast, hs, hz]
    simp only [Array.getElem?_map, List.getElem?_toArray, List.size_toArray]
    by_cases hk : k < n * r.sz
    · rw [Array.getElem?_range, if_pos hk]
      simp only [Option.map_some]
      rw [rep_get (by omega) n k (by rw [hzl]; exact hk)]
      have hlt : k % zc.length < zc.length := Nat.mod_lt _ (by omega)
      rw [List.getElem?_eq_getElem hlt]
      congr 1
      rw [getElem!_pos _ _ (by simpa using hlt)]
      simp
    · rw [Array.getElem?_range, if_neg hk, List.getElem?_eq_none (by omega)]; rfl
  rw [e1]
  refine M.alc fun g h' x' M' => H g h' x' M' ⟨by simp, (List.replicate n zc).flatten, [_], [], rfl, ⟨hfl, .inr ⟨g, _, rfl, rfl, Nat.le_refl _, hn, by simpa using hfl, ?_⟩⟩, ows_rep O n⟩
  rw [List.take_of_length_le]
  show (List.replicate n zc).flatten.length ≤ n * r.sz
  omega
end
end Go.Sx
namespace Go.Sx
end Go.Sx
