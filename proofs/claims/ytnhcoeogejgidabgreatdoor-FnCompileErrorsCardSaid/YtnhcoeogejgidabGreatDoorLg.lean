/- The program's struct types as Lean structures; a float is a word up to which NaN it is. -/
import Derived.Test.YtnhcoeogejgidabGreatDoorLx2
import Derived.Laws.AppendOwn
import Derived.Laws.BytesArg
import Derived.Lib.SlBytesConst
import Derived.Laws.FloatBits
set_option linter.unusedVariables false
set_option linter.unusedSimpArgs false
namespace Go.Sx
structure GRing where
  Samples : List Nat
  At : Int
deriving Inhabited
structure GFilter where
  Kind : Int
  C : List Nat
  S : List Nat
deriving Inhabited
structure GComb where
  Ring : GRing
  Gain : Nat
deriving Inhabited
structure GTap where
  Back : Int
  Gain : Nat
deriving Inhabited
structure GRoom where
  Early : GRing
  Taps : List GTap
  Combs : List GComb
  Loops : List GRing
  Damps : List GFilter
  Gains : List Nat
  Dry : Nat
  Wet : Nat
deriving Inhabited
structure GString where
  Loop : GRing
  Tune : GFilter
  Damp : GFilter
  Loss : Nat
deriving Inhabited
structure GPipe where
  Right : List GRing
  Left : List GRing
  Scatter : List Nat
  End : GFilter
  Open : Bool
  Loss : Nat
  Rest : Nat
  Slope : Nat
deriving Inhabited
structure GBow where
  Neck : GRing
  Bridge : GRing
  Damp : GFilter
  Slope : Nat
  Loss : Nat
deriving Inhabited
structure GJet where
  Throat : GRing
  Bore : GRing
  Low : GFilter
  Dc : GFilter
  Near : Nat
  Far : Nat
deriving Inhabited
structure GTuning where
  Base : Nat
  Octave : Nat
  Degrees : List Nat
deriving Inhabited
structure GInstrument where
  Name : ByteArray
  Kind : Int
  A : Nat
  B : Nat
  C : Nat
deriving Inhabited
structure GEvent where
  At : Int
  Kind : Int
  Note : Int
  Instrument : Int
  Key : Int
  Force : Nat
deriving Inhabited
structure GScore where
  Rate : Nat
  Tuning : GTuning
  Instruments : List GInstrument
  Events : List GEvent
deriving Inhabited
structure GVoice where
  Note : Int
  Instrument : Int
  Born : Int
  Gone : Bool
  Drive : Nat
  String : GString
  Pipe : GPipe
  Bow : GBow
deriving Inhabited
structure GPlayer where
  Score : GScore
  Voices : List GVoice
  Now : Int
  Next : Int
  Skipped : Int
deriving Inhabited
end Go.Sx
/- Slices: the cells that one reads, slices of one's own that are made and grown. -/
namespace Go.Sx
set_option linter.unusedVariables false

def Cells (h : Heap) (b : Option Addr) (vs : List Value) : Prop := ∀ i, i < vs.length → ∃ a, b = some a ∧ cell h (a.add i) = vs[i]?
theorem Cells.ext {h h' : Heap} {b : Option Addr} {vs : List Value} (C : Cells h b vs) (x : Ext h h') : Cells h' b vs := fun i hi => by
  obtain ⟨a, e, e2⟩ := C i hi
  rw [List.getElem?_eq_getElem hi] at e2 ⊢
  exact ⟨a, e, x.cell e2⟩
theorem Cells.base {h : Heap} {b : Option Addr} {vs : List Value} (C : Cells h b vs) (hp : 0 < vs.length) : ∃ a, b = some a := (C 0 hp).imp fun _ h => h.1
theorem Cells.get {h : Heap} {a : Addr} {vs : List Value} {i : Nat} {v : Value} (C : Cells h (some a) vs) (e : vs[i]? = some v) : cell h (a.add i) = some v := by
  obtain ⟨a', e1, e2⟩ := C i (List.getElem?_eq_some_iff.1 e).1
  cases e1; rw [e2, e]
theorem Cells.nil (h : Heap) (b : Option Addr) : Cells h b [] := fun i hi => absurd hi (Nat.not_lt_zero _)
theorem add_add' (a : Addr) (i j : Nat) : (a.add i).add j = a.add (i + j) := by
  unfold Addr.add
  by_cases h1 : i = 0
  · subst h1; simp
  · by_cases h2 : j = 0
    · subst h2; simp
    · simp [h1, h2, Nat.add_assoc]
theorem Cells.sub {h : Heap} {b : Option Addr} {vs : List Value} {cap lo sz : Nat} (C : Cells h b vs) (hc : vs.length ≤ cap * sz) : Cells h (slA b cap lo sz) (vs.drop (lo * sz)) := by
  intro i hi
  simp only [List.length_drop] at hi
  obtain ⟨a, e1, e2⟩ := C (lo * sz + i) (by omega)
  unfold slA
  split
  · next e => subst e; omega
  · subst e1
    exact ⟨_, rfl, by rw [add_add', e2, List.getElem?_drop]⟩
theorem Cells.take {h : Heap} {b : Option Addr} {vs : List Value} {n : Nat} (C : Cells h b vs) : Cells h b (vs.take n) := by
  intro i hi
  simp only [List.length_take] at hi
  obtain ⟨a, e1, e2⟩ := C i (by omega)
  exact ⟨a, e1, by rw [e2, List.getElem?_take_of_lt (by omega)]⟩
theorem idxs {a : Addr} {i : Int} {n : Nat} {F : Addr → Prop} (h1 : 0 ≤ i) (h2 : i < n) (H : F a) : IDXS (some a) i n F := ⟨⟨h1, h2⟩, H⟩
theorem slb {lo hi cap : Int} {p : Prop} (h1 : 0 ≤ lo) (h2 : lo ≤ hi) (h3 : hi ≤ cap) (H : p) : SLB lo hi cap p := ⟨⟨h1, h2, h3⟩, H⟩
theorem nn {b : Int} {p : Prop} (h : 0 ≤ b) (H : p) : NN b p := ⟨h, H⟩
theorem nz {b : Int} {p : Prop} (h : b ≠ 0) (H : p) : NZ b p := ⟨h, H⟩
theorem pin {h h' : Heap} {a : Addr} {n : Nat} {p : Prop} (x : Ext h h') (hl : ∀ j, j < n → ∃ v, cell h (a.add j) = some v) (H : p) : PIN h a n h' p := by
  refine ⟨fun j hj => ?_, H⟩
  obtain ⟨v, e⟩ := hl j hj
  rw [x.cell e, e]
structure ElemT (P : Program) (t e sz bytes : Nat) : Prop where
  ht : P.underlying t = some (.slice e)
  hi : ∃ i z, P.info? e = some i ∧ i.zero = some z ∧ i.size = sz ∧ i.bytes = bytes ∧ z.cells.size = sz
def Sl (h0 h : Heap) (L : List Blk) (e sz : Nat) (b : Option Addr) (l c : Nat) (vs : List Value) : Prop :=
  vs.length = l * sz ∧ ((b = none ∧ l = 0 ∧ c = 0 ∧ Mem h0 h L) ∨
    ∃ g cs, b = some ⟨g, 0, none⟩ ∧ l ≤ c ∧ c ≤ maxLen ∧ cs.size = c * sz ∧ cs.toList.take (l * sz) = vs ∧ Mem h0 h ((g, e, cs) :: L))
theorem Sl.mem {h0 h : Heap} {L : List Blk} {e sz : Nat} {b : Option Addr} {l c : Nat} {vs : List Value} (S : Sl h0 h L e sz b l c vs) : Mem h0 h L := by
  rcases S.2 with ⟨_, _, _, M⟩ | ⟨g, cs, _, _, _, _, _, M⟩
  · exact M
  · exact M.drop
theorem Sl.grow {h0 h h' : Heap} {L : List Blk} {e sz : Nat} {b : Option Addr} {l c : Nat} {vs : List Value} (S : Sl h0 h L e sz b l c vs) (x : Ext h h') : Sl h0 h' L e sz b l c vs := by
  refine ⟨S.1, ?_⟩
  rcases S.2 with ⟨h1, h2, h3, M⟩ | ⟨g, cs, h1, h2, h3, h4, h5, M⟩
  · exact .inl ⟨h1, h2, h3, M.grow x⟩
  · exact .inr ⟨g, cs, h1, h2, h3, h4, h5, M.grow x⟩
theorem Sl.nil {h0 h : Heap} {L : List Blk} {e sz : Nat} (M : Mem h0 h L) : Sl h0 h L e sz none 0 0 [] := ⟨by simp, .inl ⟨rfl, rfl, rfl, M⟩⟩
theorem Sl.made {h0 h : Heap} {L : List Blk} {e sz g l c : Nat} {cs : Array Value} (M : Mem h0 h ((g, e, cs) :: L)) (h1 : l ≤ c) (h2 : c ≤ maxLen) (h3 : cs.size = c * sz) : Sl h0 h L e sz (some ⟨g, 0, none⟩) l c (cs.toList.take (l * sz)) := by
  refine ⟨?_, .inr ⟨g, cs, rfl, h1, h2, h3, rfl, M⟩⟩
  have := Nat.mul_le_mul_right sz h1
  simp; omega
theorem Sl.alc {h0 h : Heap} {L : List Blk} {e sz : Nat} {b : Option Addr} {l c : Nat} {vs : List Value} (S : Sl h0 h L e sz b l c vs) {cs : Array Value} {T : Nat} {F : Nat → Heap → Prop}
    (H : ∀ g h', Ext h h' → Sl h0 h' ((g, T, cs) :: L) e sz b l c vs → F g h') : ALC cs T F h := by
  refine H _ _ (Ext.push _ _) ⟨S.1, ?_⟩
  rcases S.2 with ⟨h1, h2, h3, M⟩ | ⟨g, cs, h1, h2, h3, h4, h5, M⟩
  · exact .inl ⟨h1, h2, h3, M.push _ _⟩
  · exact .inr ⟨g, cs, h1, h2, h3, h4, h5, (M.push _ _).perm (.swap _ _ _)⟩
theorem Sl.drop {h0 h : Heap} {p : Blk} {L : List Blk} {e sz : Nat} {b : Option Addr} {l c : Nat} {vs : List Value} (S : Sl h0 h (p :: L) e sz b l c vs) : Sl h0 h L e sz b l c vs := by
  refine ⟨S.1, ?_⟩
  rcases S.2 with ⟨h1, h2, h3, M⟩ | ⟨g, cs, h1, h2, h3, h4, h5, M⟩
  · exact .inl ⟨h1, h2, h3, M.drop⟩
  · exact .inr ⟨g, cs, h1, h2, h3, h4, h5, (M.perm (.swap _ _ _)).drop⟩
theorem Sl.cells {h0 h : Heap} {L : List Blk} {e sz : Nat} {b : Option Addr} {l c : Nat} {vs : List Value} (S : Sl h0 h L e sz b l c vs) : Cells h b vs := by
  rcases S.2 with ⟨h1, h2, h3, M⟩ | ⟨g, cs, h1, h2, h3, h4, h5, M⟩
  · have := S.1; rw [h2, Nat.zero_mul] at this
    rw [List.eq_nil_of_length_eq_zero this]; exact Cells.nil _ _
  · subst h1
    intro i hi
    refine ⟨_, rfl, ?_⟩
    have hl := S.1
    rw [add_none, Nat.zero_add, M.cell .here, ← h5, List.getElem?_take_of_lt (by omega), Array.getElem?_toList]
theorem Sl.app {P : Program} {h0 h : Heap} {L : List Blk} {t e sz bytes : Nat} {b : Option Addr} {l c : Nat} {vs : List Value} {K : Value → Heap → Prop} {ty m mc : Nat} {a : Addr} {news : List Value}
    (E : ElemT P t e sz bytes) (S : Sl h0 h L e sz b l c vs) (hn : news.length = m * sz) (hr : ∀ j v, news[j]? = some v → cell h (a.add j) = some v) (h1 : ∀ v ∈ news, v.oneCell' = true)
    (hmax : l + m ≤ maxLen) (hbytes : (l + m) * bytes ≤ 140737488355328) (H : ∀ b' c' h', Sl h0 h' L e sz b' (l + m) c' (vs ++ news) → K (.slice b' (l + m) c') h') :
    SEMV P (Builtin.append_ #[t, t] ty #[.slice b l c, .slice (some a) m mc]) K h := by
  obtain ⟨i, z, hi, hz, rfl, rfl, hzs⟩ := E.hi
  have hsmall : l + m ≤ 9223372036854775807 := by simp only [maxLen] at hmax; omega
  have hlen : (vs ++ news).length = (l + m) * i.size := by rw [List.length_append, S.1, hn, Nat.add_mul]
  intro w hw
  have hnews : ∀ j u, news[j]? = some u → w.cell? (a.add j) = some u := fun j u hu => by rw [cell_eq, hw]; exact hr j u hu
  have fin : ∀ v' w', (Builtin.append_ #[t, t] ty #[.slice b l c, .slice (some a) m mc]).run P w = .ok v' w' → Same w w' → K v' w'.heap →
      UponN P ((do pure (Next.value (← Builtin.append_ #[t, t] ty #[.slice b l c, .slice (some a) m mc]))).run P w) fun v w' => Same w w' ∧ K v w'.heap := by
    intro v' w' hrun hs hk
    have : ((do pure (Next.value (← Builtin.append_ #[t, t] ty #[.slice b l c, .slice (some a) m mc]))) : Sem Next).run P w = .ok (.value v') w' := by
      simp only [Sem.run_bind, hrun, Result.andThen_ok, Sem.run_pure]
    rw [this]
    exact ⟨hs, hk⟩
  have grown : ∀ (old : Nat), old < l + m → Mem h0 h L → Sl h0 (w.drew.alloc (.cells (vs.toArray ++ news.toArray ++ Builtin.zeroCells z.cells (grownCap w (l + m) old e - (l + m))) e)).heap L e i.size (some ⟨w.heap.size, 0, none⟩) (l + m) (grownCap w (l + m) old e) (vs ++ news) := by
    intro old ho M
    have hge := grownCap_ge w (l + m) old e
    have hcm : grownCap w (l + m) old e ≤ maxLen := grownCap_le_maxLen w (l + m) old e hmax
    refine ⟨hlen, .inr ⟨w.heap.size, vs.toArray ++ news.toArray ++ Builtin.zeroCells z.cells (grownCap w (l + m) old e - (l + m)), rfl, hge, hcm, ?_, ?_, ?_⟩⟩
    · simp only [Array.size_append, List.size_toArray, size_zeroCells, hzs, S.1, hn, ← Nat.add_mul]
      congr 1
      omega
    · simp only [Array.toList_append, List.append_assoc]
      rw [← List.append_assoc, ← hlen]
      exact List.take_left
    · rw [hw]
      show Mem h0 (w.heap.push _) _
      rw [hw]
      exact M.push _ _
  rcases S.2 with ⟨rfl, rfl, rfl, M⟩ | ⟨g, cs, rfl, hlc, hcm, hcs, htake, M⟩
  · have hx : vs = [] := List.eq_nil_of_length_eq_zero (by simpa using S.1)
    subst hx
    by_cases hm : m = 0
    · subst hm
      have hn0 : news = [] := List.eq_nil_of_length_eq_zero (by simpa using hn)
      subst hn0
      refine fin (.slice none 0 0) w ?_ (Same.refl _) (H none 0 _ (by rw [hw]; exact Sl.nil M))
      simp [Builtin.append_, run_underlying E.ht, sizeOf, typeInfo, hi, Builtin.lenOf, Builtin.firstCells, loadCells, loadCellsFrom]
    · have hr2 := run_append_nil (P := P) w t ty e i z E.ht hi hz a m mc news hn hnews (by omega) (by omega) (by have hb := hbytes; simp only [Nat.zero_add] at hb; omega)
      have hgr := grown 0 (by omega) M
      simp only [Nat.zero_add, List.nil_append, Array.empty_append] at hgr ⊢ hr2
      refine fin _ _ hr2 ⟨rfl, rfl, rfl, fun e => by cases e⟩ ?_
      have := H _ _ _ (by simpa using hgr)
      simpa using this
  · have hg : w.heap[g]? = some (.cells cs e (0, 0)) := by rw [hw]; exact (M.at_ _ (.head _)).2
    by_cases hroom : l + m ≤ c
    · have hfit : l * i.size + news.length ≤ cs.size := by rw [hn, hcs, ← Nat.add_mul]; exact Nat.mul_le_mul_right _ hroom
      have hr2 := run_append_room (P := P) w t ty e i E.ht hi g l c cs hg a m mc news hn hnews h1 hroom hfit
      refine fin _ _ hr2 ⟨rfl, rfl, rfl, fun e => by cases e⟩ (H _ _ _ ⟨hlen, .inr ⟨g, (cs.toList.take (l * i.size) ++ news ++ cs.toList.drop (l * i.size + news.length)).toArray, rfl, hroom, hcm, ?_, ?_, ?_⟩⟩)
      · simp only [List.size_toArray, List.length_append, List.length_take, List.length_drop, Array.length_toList]
        omega
      · rw [htake, ← hlen]
        exact List.take_left
      · refine M.mod (g := g) .here ?_ (fun k _ hk => ?_) (fun T cs' e' => ?_) .here
        · simp [World.setRow, hw]
        · rw [setRow_other w g k _ (Ne.symm hk), hw]
        · rw [← hw] at e'; exact setRow_heap w g cs' _ T _ e'
    · have holds : ∀ j u, vs[j]? = some u → w.cell? ((⟨g, 0, none⟩ : Addr).add j) = some u := fun j u hu => by
        rw [cell_eq, hw]; exact Cells.get S.cells hu
      have hr2 := run_append_grow (P := P) w t ty e i z E.ht hi hz ⟨g, 0, none⟩ l c vs S.1 holds a m mc news hn hnews (by omega) (by omega) (growslice_fits (by omega) hbytes)
      exact fin _ _ hr2 ⟨rfl, rfl, rfl, fun e => by cases e⟩ (H _ _ _ (grown c (by omega) M.drop))
theorem Mem.join {h0 h h' : Heap} {L L2 : List Blk} (M : Mem h0 h L) (N : Mem h h' L2) : Mem h0 h' (L2 ++ L) := by
  refine ⟨M.ext.trans N.ext, fun p hp => ?_, List.pairwise_append.2 ⟨N.ne, M.ne, fun p hp q hq => ?_⟩⟩
  · rcases List.mem_append.1 hp with hp | hp
    · exact ⟨Nat.le_trans M.ext.le (N.at_ p hp).1, (N.at_ p hp).2⟩
    · exact ⟨(M.at_ p hp).1, by rw [N.ext.eq _ (M.lt hp)]; exact (M.at_ p hp).2⟩
  · exact (Nat.ne_of_lt (Nat.lt_of_lt_of_le (M.lt hq) (N.at_ p hp).1)).symm
theorem Sl.join {h0 h h' : Heap} {L L2 : List Blk} {e sz : Nat} {b : Option Addr} {l c : Nat} {vs : List Value} (M : Mem h0 h L) (S : Sl h h' L2 e sz b l c vs) : Sl h0 h' (L2 ++ L) e sz b l c vs := by
  refine ⟨S.1, ?_⟩
  rcases S.2 with ⟨h1, h2, h3, N⟩ | ⟨g, cs, h1, h2, h3, h4, h5, N⟩
  · exact .inl ⟨h1, h2, h3, M.join N⟩
  · exact .inr ⟨g, cs, h1, h2, h3, h4, h5, M.join N⟩
theorem semv {P : Program} {s : Sem Value} {K : Value → Heap → Prop} {h : Heap} (H : ∀ w : World, w.heap = h → ∃ v w', s.run P w = .ok v w' ∧ Same w w' ∧ K v w'.heap) : SEMV P s K h := by
  intro w hw
  obtain ⟨v, w', h1, h2, h3⟩ := H w hw
  have : ((do pure (Next.value (← s))) : Sem Next).run P w = .ok (.value v) w' := by
    simp only [Sem.run_bind, h1, Result.andThen_ok, Sem.run_pure]
  rw [this]
  exact ⟨h2, h3⟩
def iv (k : IntKind) (xs : List Int) : List Value := xs.map (.int k)
def fv (k : FloatKind) (xs : List Nat) : List Value := xs.map (.float k)
theorem iv_get {k : IntKind} {xs : List Int} {i : Nat} (h : i < xs.length) : (iv k xs)[i]? = some (.int k xs[i]) := by simp [iv, h]
theorem iv_len (k : IntKind) (xs : List Int) : (iv k xs).length = xs.length := by simp [iv]
/-- The blocks (none or one) of a slice of one's own. -/
def Own (B : List Blk) (e sz : Nat) (b : Option Addr) (l c : Nat) (vs : List Value) : Prop :=
  vs.length = l * sz ∧ ((B = [] ∧ b = none ∧ l = 0 ∧ c = 0) ∨ ∃ g cs, B = [(g, e, cs)] ∧ b = some ⟨g, 0, none⟩ ∧ l ≤ c ∧ c ≤ maxLen ∧ cs.size = c * sz ∧ cs.toList.take (l * sz) = vs)
theorem Sl.own {h0 h : Heap} {L : List Blk} {e sz : Nat} {b : Option Addr} {l c : Nat} {vs : List Value} (S : Sl h0 h L e sz b l c vs) : ∃ B, Own B e sz b l c vs ∧ Mem h0 h (B ++ L) := by
  rcases S.2 with ⟨h1, h2, h3, M⟩ | ⟨g, cs, h1, h2, h3, h4, h5, M⟩
  · exact ⟨[], ⟨S.1, .inl ⟨rfl, h1, h2, h3⟩⟩, M⟩
  · exact ⟨[(g, e, cs)], ⟨S.1, .inr ⟨g, cs, rfl, h1, h2, h3, h4, h5⟩⟩, M⟩
theorem Own.sl {h0 h : Heap} {B L : List Blk} {e sz : Nat} {b : Option Addr} {l c : Nat} {vs : List Value} (O : Own B e sz b l c vs) (M : Mem h0 h (B ++ L)) : Sl h0 h L e sz b l c vs := by
  rcases O.2 with ⟨rfl, h1, h2, h3⟩ | ⟨g, cs, rfl, h1, h2, h3, h4, h5⟩
  · exact ⟨O.1, .inl ⟨h1, h2, h3, M⟩⟩
  · exact ⟨O.1, .inr ⟨g, cs, h1, h2, h3, h4, h5, M⟩⟩
theorem Own.one {g e sz l c : Nat} {cs : Array Value} (h1 : l ≤ c) (h2 : c ≤ maxLen) (h3 : cs.size = c * sz) : Own [(g, e, cs)] e sz (some ⟨g, 0, none⟩) l c (cs.toList.take (l * sz)) := by
  refine ⟨?_, .inr ⟨g, cs, rfl, rfl, h1, h2, h3, rfl⟩⟩
  have := Nat.mul_le_mul_right sz h1
  simp; omega
theorem Mem.sub {h0 h : Heap} {L L' : List Blk} (M : Mem h0 h L) (s : L'.Sublist L) : Mem h0 h L' := ⟨M.ext, fun p hp => M.at_ p (s.subset hp), M.ne.sublist s⟩
theorem Own.cells {h0 h : Heap} {B L : List Blk} {e sz : Nat} {b : Option Addr} {l c : Nat} {vs : List Value} (O : Own B e sz b l c vs) (M : Mem h0 h L) (s : B.Sublist L) : Cells h b vs := by
  have M' : Mem h0 h (B ++ []) := by rw [List.append_nil]; exact M.sub s
  exact (O.sl M').cells
theorem Own.le {B : List Blk} {e sz : Nat} {b : Option Addr} {l c : Nat} {vs : List Value} (O : Own B e sz b l c vs) : l ≤ c := by
  rcases O.2 with ⟨_, _, h2, h3⟩ | ⟨g, cs, _, _, h2, _⟩ <;> omega
theorem Own.base {B : List Blk} {e sz : Nat} {b : Option Addr} {l c : Nat} {vs : List Value} (O : Own B e sz b l c vs) (hl : 0 < l) : ∃ g, b = some ⟨g, 0, none⟩ := by
  rcases O.2 with ⟨_, _, h2, h3⟩ | ⟨g, cs, _, h1, h2, _⟩
  · omega
  · exact ⟨g, h1⟩
theorem Own.st1 {h0 h : Heap} {B L : List Blk} {e g : Nat} {l c i : Nat} {vs : List Value} {v : Value} {F : Heap → Prop} (O : Own B e 1 (some ⟨g, 0, none⟩) l c vs) (M : Mem h0 h (B ++ L)) (hi : i < l)
    (H : ∀ B' h', Own B' e 1 (some ⟨g, 0, none⟩) l c (vs.set i v) → Mem h0 h' (B' ++ L) → F h') : ST1 h ⟨g, i, none⟩ v F := by
  rcases O.2 with ⟨_, h1, _⟩ | ⟨g', cs, rfl, h1, h2, h3, h4, h5⟩
  · cases h1
  · cases h1
    refine M.st1 .here (by omega) .here fun h' M' => H [(g, e, cs.setIfInBounds i v)] h' ⟨by simpa using O.1, .inr ⟨g, _, rfl, rfl, h2, h3, by simpa using h4, ?_⟩⟩ M'
    rw [← h5]
    simp [List.take_set]
end Go.Sx
/- Floats: words up to which NaN they are. -/
namespace Go.Sx
open Ieee
set_option linter.unusedVariables false
set_option linter.unusedSimpArgs false

def nan (k : FloatKind) (x : Nat) : Bool := (k.format.read x).isNaN
def qn : FloatKind → Nat | .f32 => 2143289344 | .f64 => 9221120237041090561
/-- The word, or one NaN for all. -/
def cn (k : FloatKind) (x : Nat) : Nat := if nan k x then qn k else x
theorem order_nan_left {k : FloatKind} {x : Nat} (h : nan k x = true) (y : Nat) : k.format.order x y = none := by
  unfold Format.order
  unfold nan at h
  cases e : k.format.read x <;> simp_all [Datum.isNaN, Datum.order]
theorem order_nan_right {k : FloatKind} {x : Nat} (h : nan k x = true) (y : Nat) : k.format.order y x = none := by
  unfold Format.order
  unfold nan at h
  cases e : k.format.read x <;> simp_all [Datum.isNaN]
  cases k.format.read y <;> rfl
theorem nan_qn (k : FloatKind) : nan k (qn k) = true := by cases k <;> decide +kernel
theorem canon_canon (k : FloatKind) (x : Nat) : cn k (cn k x) = cn k x := by
  unfold cn
  split
  · rw [nan_qn]; rfl
  · next h => simp [h]
theorem nan_canon (k : FloatKind) (x : Nat) : nan k (cn k x) = nan k x := by
  unfold cn
  split
  · next h => rw [nan_qn, h]
  · rfl
theorem read_isNaN (f : Format) (x : Nat) : (f.read x).isNaN = decide (f.infRung < x % f.signWeight ∧ f.binade ≤ x % f.signWeight) := by
  unfold Format.read
  dsimp only
  split
  · next h => simp [Datum.isNaN]; omega
  · split
    · next h => simp [Datum.isNaN]; omega
    · split
      · next h => simp [Datum.isNaN]; omega
      · simp [Datum.isNaN]; omega
theorem nan_of_isNaNW {k : FloatKind} {r : Nat} (h : isNaNW k r) : nan k r = true := by
  unfold nan
  rw [read_isNaN]
  cases k with
  | f32 =>
    obtain ⟨t, rfl⟩ := h
    have e1 : FloatKind.f32.format.signWeight = 2 ^ 31 := rfl
    have e2 : FloatKind.f32.format.infRung = 0x7f800000 := by decide +kernel
    have e3 : FloatKind.f32.format.binade = 2 ^ 23 := rfl
    rw [e1, e2, e3]
    simp only [decide_eq_true_eq]
    have hs : t % 2 = 0 ∨ t % 2 = 1 := by omega
    have hu : t / 2 % (2 ^ 23 - 1) < 2 ^ 23 - 1 := Nat.mod_lt _ (by decide)
    generalize t / 2 % (2 ^ 23 - 1) = u at hu ⊢
    rcases hs with hs | hs <;> rw [hs] <;> omega
  | f64 =>
    obtain ⟨t, rfl⟩ := h
    have e1 : FloatKind.f64.format.signWeight = 2 ^ 63 := rfl
    have e2 : FloatKind.f64.format.infRung = 0x7ff0000000000000 := by decide +kernel
    have e3 : FloatKind.f64.format.binade = 2 ^ 52 := rfl
    rw [e1, e2, e3]
    simp only [decide_eq_true_eq]
    have hs : t % 2 = 0 ∨ t % 2 = 1 := by omega
    have hu : t / 2 % (2 ^ 52 - 1) < 2 ^ 52 - 1 := Nat.mod_lt _ (by decide)
    generalize t / 2 % (2 ^ 52 - 1) = u at hu ⊢
    rcases hs with hs | hs <;> rw [hs] <;> omega
theorem canon_of_isF {k : FloatKind} {o : Option Nat} {r : Nat} (h : IsF k o r) : cn k r = cn k (o.getD (qn k)) := by
  cases o with
  | some v => rw [show r = v from h]; rfl
  | none =>
    have := nan_of_isNaNW (k := k) (r := r) h
    unfold cn
    rw [this, show (none : Option Nat).getD (qn k) = qn k from rfl, nan_qn]
    simp
/-- A float32 as a float64. -/
def wide (x : Nat) : Nat := FloatKind.f64.encode (FloatKind.f32.decode x)
theorem read_single (x : Nat) {s : Bool} {m : Nat} {e : Int} (h : FloatKind.f32.decode x = .number s m e) : m < 2 ^ 24 ∧ -149 ≤ e ∧ e ≤ 104 := by
  have e1 : FloatKind.f32.format.signWeight = 2 ^ 31 := rfl
  have e2 : FloatKind.f32.format.infRung = 0x7f800000 := by decide +kernel
  have e3 : FloatKind.f32.format.binade = 2 ^ 23 := rfl
  have e4 : FloatKind.f32.format.leastPlace = -149 := by decide +kernel
  unfold FloatKind.decode Format.read at h
  dsimp only at h
  rw [e1, e2, e3, e4] at h
  split at h
  · simp only [Datum.number.injEq] at h
    omega
  · split at h
    · simp only [Datum.number.injEq] at h
      omega
    · split at h <;> cases h
theorem word_not_nan {k : FloatKind} {s : Bool} {r : Nat} (h : r ≤ k.format.infRung) : nan k (k.format.word s r) = false := by
  unfold nan
  rw [read_isNaN, decide_eq_false_iff_not]
  have h1 := k.format.infRung_lt
  unfold Format.word
  intro h2
  have h3 : (if s = true then k.format.signWeight + r else r) % k.format.signWeight = r := by
    split
    · rw [Nat.add_mod_left, Nat.mod_eq_of_lt (by omega)]
    · rw [Nat.mod_eq_of_lt (by omega)]
  rw [h3] at h2
  omega
theorem nearest_not_nan (k : FloatKind) (n : Int) : nan k (k.nearest n) = false := by
  show nan k (k.format.nearest _ _ _) = false
  unfold Format.nearest
  split
  · exact word_not_nan (Nat.zero_le _)
  · exact word_not_nan (Nat.min_le_right _ _)
end Go.Sx
