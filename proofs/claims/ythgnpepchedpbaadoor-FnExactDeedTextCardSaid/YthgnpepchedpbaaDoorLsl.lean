/- Slices: the cells that one reads, slices of one's own that are made and grown. -/
import Derived.Test.YthgnpepchedpbaaDoorLx2
import Derived.Laws.AppendOwn
import Derived.Laws.BytesArg
import Derived.Lib.SlBytesConst
namespace Go.Sx
set_option linter.unusedVariables false

def Cells (h : Heap) (b : Option Addr) (vs : List Value) : Prop := ∀ i, i < vs.length → ∃ a, b = some a ∧ cell h (a.add i) = vs[i]?
theorem Cells.ext {h h' : Heap} {b : Option Addr} {vs : List Value} (C : Cells h b vs) (x : Ext h h') : Cells h' b vs := fun i hi => by
  obtain ⟨a, e, e2⟩ := C i hi
  rw [List.getElem?_eq_getElem hi] at e2 ⊢
  exact ⟨a, e, x.cell e2⟩
theorem Cells.base {h : Heap} {b : Option Addr} {vs : List Value} (C : Cells h b vs) (hp : 0 < vs.length) : ∃ a, b = some a := (C 0 hp).imp fun _ h => h.1
theorem Cells.get {h : Heap} {a : Addr} {vs : List Value} {i : Nat} {v : Value} (C : Cells h (some a) vs) (e : vs[i]? = some v) : cell h (a.add i) = some v := by
  obtain ⟨a', e1, e2⟩ := C i (List.getElem?_eq_some_iff.1 e).1
  cases e1; rw [e2, e]
theorem Cells.nil (h : Heap) (b : Option Addr) : Cells h b [] := fun i hi => absurd hi (Nat.not_lt_zero _)
theorem add_add' (a : Addr) (i j : Nat) : (a.add i).add j = a.add (i + j) := by
  unfold Addr.add
  by_cases h1 : i = 0
  · subst h1; simp
  · by_cases h2 : j = 0
    · subst h2; simp
    · simp [h1, h2, Nat.add_assoc]
theorem Cells.sub {h : Heap} {b : Option Addr} {vs : List Value} {cap lo sz : Nat} (C : Cells h b vs) (hc : vs.length ≤ cap * sz) : Cells h (slA b cap lo sz) (vs.drop (lo * sz)) := by
  intro i hi
  simp only [List.length_drop] at hi
  obtain ⟨a, e1, e2⟩ := C (lo * sz + i) (by omega)
  unfold slA
  split
  · next e => subst e; omega
  · subst e1
    exact ⟨_, rfl, by rw [add_add', e2, List.getElem?_drop]⟩
theorem Cells.take {h : Heap} {b : Option Addr} {vs : List Value} {n : Nat} (C : Cells h b vs) : Cells h b (vs.take n) := by
  intro i hi
  simp only [List.length_take] at hi
  obtain ⟨a, e1, e2⟩ := C i (by omega)
  exact ⟨a, e1, by rw [e2, List.getElem?_take_of_lt (by omega)]⟩
theorem idxs {a : Addr} {i : Int} {n : Nat} {F : Addr → Prop} (h1 : 0 ≤ i) (h2 : i < n) (H : F a) : IDXS (some a) i n F := ⟨⟨h1, h2⟩, H⟩
theorem slb {lo hi cap : Int} {p : Prop} (h1 : 0 ≤ lo) (h2 : lo ≤ hi) (h3 : hi ≤ cap) (H : p) : SLB lo hi cap p := ⟨⟨h1, h2, h3⟩, H⟩
theorem nz {b : Int} {p : Prop} (h : b ≠ 0) (H : p) : NZ b p := ⟨h, H⟩
theorem pin {h h' : Heap} {a : Addr} {n : Nat} {p : Prop} (x : Ext h h') (hl : ∀ j, j < n → ∃ v, cell h (a.add j) = some v) (H : p) : PIN h a n h' p := by
  refine ⟨fun j hj => ?_, H⟩
  obtain ⟨v, e⟩ := hl j hj
  rw [x.cell e, e]
def Sl (h0 h : Heap) (L : List Blk) (e sz : Nat) (b : Option Addr) (l c : Nat) (vs : List Value) : Prop :=
  vs.length = l * sz ∧ ((b = none ∧ l = 0 ∧ c = 0 ∧ Mem h0 h L) ∨
    ∃ g cs, b = some ⟨g, 0, none⟩ ∧ l ≤ c ∧ c ≤ maxLen ∧ cs.size = c * sz ∧ cs.toList.take (l * sz) = vs ∧ Mem h0 h ((g, e, cs) :: L))
theorem Sl.mem {h0 h : Heap} {L : List Blk} {e sz : Nat} {b : Option Addr} {l c : Nat} {vs : List Value} (S : Sl h0 h L e sz b l c vs) : Mem h0 h L := by
  rcases S.2 with ⟨_, _, _, M⟩ | ⟨g, cs, _, _, _, _, _, M⟩
  · exact M
  · exact M.drop
theorem Sl.grow {h0 h h' : Heap} {L : List Blk} {e sz : Nat} {b : Option Addr} {l c : Nat} {vs : List Value} (S : Sl h0 h L e sz b l c vs) (x : Ext h h') : Sl h0 h' L e sz b l c vs := by
  refine ⟨S.1, ?_⟩
  rcases S.2 with ⟨h1, h2, h3, M⟩ | ⟨g, cs, h1, h2, h3, h4, h5, M⟩
  · exact .inl ⟨h1, h2, h3, M.grow x⟩
  · exact .inr ⟨g, cs, h1, h2, h3, h4, h5, M.grow x⟩
theorem Sl.nil {h0 h : Heap} {L : List Blk} {e sz : Nat} (M : Mem h0 h L) : Sl h0 h L e sz none 0 0 [] := ⟨by simp, .inl ⟨rfl, rfl, rfl, M⟩⟩
theorem Sl.made {h0 h : Heap} {L : List Blk} {e sz g l c : Nat} {cs : Array Value} (M : Mem h0 h ((g, e, cs) :: L)) (h1 : l ≤ c) (h2 : c ≤ maxLen) (h3 : cs.size = c * sz) : Sl h0 h L e sz (some ⟨g, 0, none⟩) l c (cs.toList.take (l * sz)) := by
  refine ⟨?_, .inr ⟨g, cs, rfl, h1, h2, h3, rfl, M⟩⟩
  have := Nat.mul_le_mul_right sz h1
  simp; omega
theorem Sl.alc {h0 h : Heap} {L : List Blk} {e sz : Nat} {b : Option Addr} {l c : Nat} {vs : List Value} (S : Sl h0 h L e sz b l c vs) {cs : Array Value} {T : Nat} {F : Nat → Heap → Prop}
    (H : ∀ g h', Ext h h' → Sl h0 h' ((g, T, cs) :: L) e sz b l c vs → F g h') : ALC cs T F h := by
  refine H _ _ (Ext.push _ _) ⟨S.1, ?_⟩
  rcases S.2 with ⟨h1, h2, h3, M⟩ | ⟨g, cs, h1, h2, h3, h4, h5, M⟩
  · exact .inl ⟨h1, h2, h3, M.push _ _⟩
  · exact .inr ⟨g, cs, h1, h2, h3, h4, h5, (M.push _ _).perm (.swap _ _ _)⟩
theorem Sl.drop {h0 h : Heap} {p : Blk} {L : List Blk} {e sz : Nat} {b : Option Addr} {l c : Nat} {vs : List Value} (S : Sl h0 h (p :: L) e sz b l c vs) : Sl h0 h L e sz b l c vs := by
  refine ⟨S.1, ?_⟩
  rcases S.2 with ⟨h1, h2, h3, M⟩ | ⟨g, cs, h1, h2, h3, h4, h5, M⟩
  · exact .inl ⟨h1, h2, h3, M.drop⟩
  · exact .inr ⟨g, cs, h1, h2, h3, h4, h5, (M.perm (.swap _ _ _)).drop⟩
theorem Sl.cells {h0 h : Heap} {L : List Blk} {e sz : Nat} {b : Option Addr} {l c : Nat} {vs : List Value} (S : Sl h0 h L e sz b l c vs) : Cells h b vs := by
  rcases S.2 with ⟨h1, h2, h3, M⟩ | ⟨g, cs, h1, h2, h3, h4, h5, M⟩
  · have := S.1; rw [h2, Nat.zero_mul] at this
    rw [List.eq_nil_of_length_eq_zero this]; exact Cells.nil _ _
  · subst h1
    intro i hi
    refine ⟨_, rfl, ?_⟩
    have hl := S.1
    rw [add_none, Nat.zero_add, M.cell .here, ← h5, List.getElem?_take_of_lt (by omega), Array.getElem?_toList]
theorem Mem.join {h0 h h' : Heap} {L L2 : List Blk} (M : Mem h0 h L) (N : Mem h h' L2) : Mem h0 h' (L2 ++ L) := by
  refine ⟨M.ext.trans N.ext, fun p hp => ?_, List.pairwise_append.2 ⟨N.ne, M.ne, fun p hp q hq => ?_⟩⟩
  · rcases List.mem_append.1 hp with hp | hp
    · exact ⟨Nat.le_trans M.ext.le (N.at_ p hp).1, (N.at_ p hp).2⟩
    · exact ⟨(M.at_ p hp).1, by rw [N.ext.eq _ (M.lt hp)]; exact (M.at_ p hp).2⟩
  · exact (Nat.ne_of_lt (Nat.lt_of_lt_of_le (M.lt hq) (N.at_ p hp).1)).symm
theorem Sl.join {h0 h h' : Heap} {L L2 : List Blk} {e sz : Nat} {b : Option Addr} {l c : Nat} {vs : List Value} (M : Mem h0 h L) (S : Sl h h' L2 e sz b l c vs) : Sl h0 h' (L2 ++ L) e sz b l c vs := by
  refine ⟨S.1, ?_⟩
  rcases S.2 with ⟨h1, h2, h3, N⟩ | ⟨g, cs, h1, h2, h3, h4, h5, N⟩
  · exact .inl ⟨h1, h2, h3, M.join N⟩
  · exact .inr ⟨g, cs, h1, h2, h3, h4, h5, M.join N⟩
theorem semv {P : Program} {s : Sem Value} {K : Value → Heap → Prop} {h : Heap} (H : ∀ w : World, w.heap = h → ∃ v w', s.run P w = .ok v w' ∧ Same w w' ∧ K v w'.heap) : SEMV P s K h := by
  intro w hw
  obtain ⟨v, w', h1, h2, h3⟩ := H w hw
  have : ((do pure (Next.value (← s))) : Sem Next).run P w = .ok (.value v) w' := by
    simp only [Sem.run_bind, h1, Result.andThen_ok, Sem.run_pure]
  rw [this]
  exact ⟨h2, h3⟩
/-- The blocks (none or one) of a slice of one's own. -/
def Own (B : List Blk) (e sz : Nat) (b : Option Addr) (l c : Nat) (vs : List Value) : Prop :=
  vs.length = l * sz ∧ ((B = [] ∧ b = none ∧ l = 0 ∧ c = 0) ∨ ∃ g cs, B = [(g, e, cs)] ∧ b = some ⟨g, 0, none⟩ ∧ l ≤ c ∧ c ≤ maxLen ∧ cs.size = c * sz ∧ cs.toList.take (l * sz) = vs)
theorem Sl.own {h0 h : Heap} {L : List Blk} {e sz : Nat} {b : Option Addr} {l c : Nat} {vs : List Value} (S : Sl h0 h L e sz b l c vs) : ∃ B, Own B e sz b l c vs ∧ Mem h0 h (B ++ L) := by
  rcases S.2 with ⟨h1, h2, h3, M⟩ | ⟨g, cs, h1, h2, h3, h4, h5, M⟩
  · exact ⟨[], ⟨S.1, .inl ⟨rfl, h1, h2, h3⟩⟩, M⟩
  · exact ⟨[(g, e, cs)], ⟨S.1, .inr ⟨g, cs, rfl, h1, h2, h3, h4, h5⟩⟩, M⟩
theorem Own.sl {h0 h : Heap} {B L : List Blk} {e sz : Nat} {b : Option Addr} {l c : Nat} {vs : List Value} (O : Own B e sz b l c vs) (M : Mem h0 h (B ++ L)) : Sl h0 h L e sz b l c vs := by
  rcases O.2 with ⟨rfl, h1, h2, h3⟩ | ⟨g, cs, rfl, h1, h2, h3, h4, h5⟩
  · exact ⟨O.1, .inl ⟨h1, h2, h3, M⟩⟩
  · exact ⟨O.1, .inr ⟨g, cs, h1, h2, h3, h4, h5, M⟩⟩
theorem Own.one {g e sz l c : Nat} {cs : Array Value} (h1 : l ≤ c) (h2 : c ≤ maxLen) (h3 : cs.size = c * sz) : Own [(g, e, cs)] e sz (some ⟨g, 0, none⟩) l c (cs.toList.take (l * sz)) := by
  refine ⟨?_, .inr ⟨g, cs, rfl, rfl, h1, h2, h3, rfl⟩⟩
  have := Nat.mul_le_mul_right sz h1
  simp; omega
theorem Mem.sub {h0 h : Heap} {L L' : List Blk} (M : Mem h0 h L) (s : L'.Sublist L) : Mem h0 h L' := ⟨M.ext, fun p hp => M.at_ p (s.subset hp), M.ne.sublist s⟩
theorem Own.cells {h0 h : Heap} {B L : List Blk} {e sz : Nat} {b : Option Addr} {l c : Nat} {vs : List Value} (O : Own B e sz b l c vs) (M : Mem h0 h L) (s : B.Sublist L) : Cells h b vs := by
  have M' : Mem h0 h (B ++ []) := by rw [List.append_nil]; exact M.sub s
  exact (O.sl M').cells
theorem Own.le {B : List Blk} {e sz : Nat} {b : Option Addr} {l c : Nat} {vs : List Value} (O : Own B e sz b l c vs) : l ≤ c := by
  rcases O.2 with ⟨_, _, h2, h3⟩ | ⟨g, cs, _, _, h2, _⟩ <;> omega
theorem Own.base {B : List Blk} {e sz : Nat} {b : Option Addr} {l c : Nat} {vs : List Value} (O : Own B e sz b l c vs) (hl : 0 < l) : ∃ g, b = some ⟨g, 0, none⟩ := by
  rcases O.2 with ⟨_, _, h2, h3⟩ | ⟨g, cs, _, h1, h2, _⟩
  · omega
  · exact ⟨g, h1⟩
theorem Own.st1 {h0 h : Heap} {B L : List Blk} {e g : Nat} {l c i : Nat} {vs : List Value} {v : Value} {F : Heap → Prop} (O : Own B e 1 (some ⟨g, 0, none⟩) l c vs) (M : Mem h0 h (B ++ L)) (hi : i < l)
    (H : ∀ B' h', Own B' e 1 (some ⟨g, 0, none⟩) l c (vs.set i v) → Mem h0 h' (B' ++ L) → F h') : ST1 h ⟨g, i, none⟩ v F := by
  rcases O.2 with ⟨_, h1, _⟩ | ⟨g', cs, rfl, h1, h2, h3, h4, h5⟩
  · cases h1
  · cases h1
    refine M.st1 .here (by omega) .here fun h' M' => H [(g, e, cs.setIfInBounds i v)] h' ⟨by simpa using O.1, .inr ⟨g, _, rfl, rfl, h2, h3, by simpa using h4, ?_⟩⟩ M'
    rw [← h5]
    simp [List.take_set]
end Go.Sx
