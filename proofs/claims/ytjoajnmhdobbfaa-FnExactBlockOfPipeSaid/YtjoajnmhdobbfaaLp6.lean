/- Own slices of data: copied, grown, compared with nil. -/
import Derived.Test.YtjoajnmhdobbfaaLp4
import Derived.Test.YtjoajnmhdobbfaaLp2
import Derived.Laws.Cover3
set_option linter.unusedVariables false
set_option linter.unusedSimpArgs false
namespace Go.Sx

theorem cmp_nil {P : Program} {t e : Nat} {xo yo : Operand} {b : Option Addr} {l c : Nat} {F : Bool → Heap → Prop} {h : Heap} (ht : P.underlying t = some (.slice e)) (H : F b.isNone h) : CMP P .eql t xo yo (.slice b l c) (.slice none 0 0) F h := by
  refine semv fun w hw => ⟨.bool b.isNone, w, ?_, Same.refl _, ?_⟩
  · simp only [Sem.run_bind, eqGuard_at_slice, Sem.run_pure, Result.andThen_ok]
    simp only [binOp]
    simp [run_equal_slice_nil w t e b l c ht]
  · rw [hw]; exact H
/-- Data without blocks of their own. -/
def Flat {α : Type} (r : Rep α) : Prop := ∀ h vs a, r.rd h vs a → r.ow [] vs a
theorem flat_one {α : Type} (f : α → Value) (hf : ∀ a, (f a).oneCell' = true) : Flat (rOne f hf) := fun h vs a e => ⟨rfl, e⟩
theorem flat_I (k : IntKind) : Flat (rI k) := flat_one _ _
theorem flat_B : Flat rB := flat_one _ _
theorem flat_F (k : FloatKind) : Flat (rF k) := fun h vs a e => ⟨rfl, e⟩
theorem flat_seq {α β : Type} {r : Rep α} {s : Rep β} (hr : Flat r) (hs : Flat s) : Flat (r.seq s) := fun h vs a e => by
  obtain ⟨v1, v2, rfl, h1, h2⟩ := e
  exact ⟨[], [], v1, v2, rfl, rfl, hr _ _ _ h1, hs _ _ _ h2⟩
theorem flat_via {α β : Type} {r : Rep β} {f : α → β} (hr : Flat r) : Flat (r.via f) := fun h vs a e => hr _ _ _ e
theorem flat_rds {α : Type} {r : Rep α} (hr : Flat r) {h : Heap} : ∀ {xs : List α} {vs : List Value}, rds r h vs xs → ows r [] vs xs
  | [], vs, e => ⟨rfl, e⟩
  | a :: xs, vs, e => by
    obtain ⟨v1, v2, rfl, h1, h2⟩ := e
    exact ⟨[], [], v1, v2, rfl, rfl, hr _ _ _ h1, flat_rds hr h2⟩
theorem flat_arr {α : Type} {r : Rep α} (n : Nat) (hr : Flat r) : Flat (rArr n r) := fun h vs a e => ⟨e.1, flat_rds hr e.2⟩
section
variable {α : Type} {r : Rep α} {P : Program} {h0 h : Heap} {L : List Blk} {t e bytes : Nat} {b : Option Addr} {l c : Nat} {xs : List α} {K : Value → Heap → Prop} {ty : Nat}
theorem SlO.len {B : List Blk} (O : SlO e r B b l c xs) : xs.length = l := O.1
theorem SlO.nil : SlO e r [] none 0 0 [] := ⟨rfl, [], [], [], rfl, ⟨by simp, .inl ⟨rfl, rfl, rfl, rfl⟩⟩, rfl, rfl⟩
theorem SlO.empty (g : Nat) : SlO e r [(g, e, ⟨[]⟩)] (some ⟨g, 0, none⟩) 0 0 [] := ⟨rfl, [], [(g, e, ⟨[]⟩)], [], rfl, ⟨by simp, .inr ⟨g, ⟨[]⟩, rfl, rfl, Nat.le_refl _, Nat.zero_le _, by simp, by simp⟩⟩, rfl, rfl⟩
/-- Cells appended to an own slice. -/
theorem SlO.app {B Bn : List Blk} {a : Addr} {m mc : Nat} {news : List Value} {ys : List α} (E : ElemT P t e r.sz bytes) (O : SlO e r B b l c xs) (M : Mem h0 h (B ++ (Bn ++ L))) (hn : ys.length = m) (hys : ows r Bn news ys)
    (hr : ∀ j v, news[j]? = some v → cell h (a.add j) = some v) (hmax : l + m ≤ maxLen) (hbytes : (l + m) * bytes ≤ 140737488355328)
    (H : ∀ b' c' h' B', SlO e r B' b' (l + m) c' (xs ++ ys) → Mem h0 h' (B' ++ L) → K (.slice b' (l + m) c') h') :
    SEMV P (Builtin.append_ #[t, t] ty #[.slice b l c, .slice (some a) m mc]) K h := by
  obtain ⟨h1, ws, B1, B2, rfl, O1, O2⟩ := O
  have S : Sl h0 h (B2 ++ (Bn ++ L)) e r.sz b l c ws := O1.sl (by simpa using M)
  refine S.app E (by rw [hys.len, hn]) hr hys.one hmax hbytes fun b' c' h' S' => ?_
  obtain ⟨B3, O3, M3⟩ := S'.own
  exact H b' c' h' (B3 ++ (B2 ++ Bn)) ⟨by simp [h1, hn], _, B3, _, rfl, O3, O2.append hys⟩ (by simpa using M3)
/-- One element appended, which has been laid in a block. -/
theorem push_own {B Bn : List Blk} {cs : Array Value} {x : α} (E : ElemT P t e r.sz bytes) (O : SlO e r B b l c xs) (M : Mem h0 h (B ++ (Bn ++ L))) (Ox : r.ow Bn cs.toList x) (hmax : l + 1 ≤ maxLen) (hbytes : (l + 1) * bytes ≤ 140737488355328)
    (H : ∀ b' c' h' B', SlO e r B' b' (l + 1) c' (xs ++ [x]) → Mem h0 h' (B' ++ L) → K (.slice b' (l + 1) c') h') :
    ALC cs e (fun g h => SEMV P (Builtin.append_ #[t, t] ty #[.slice b l c, .slice (some ⟨g, 0, none⟩) 1 1]) K h) h := by
  refine M.alc fun g h1 x1 M1 => ?_
  have M2 : Mem h0 h1 (B ++ (Bn ++ ((g, e, cs) :: L))) := M1.perm (by
    refine List.Perm.symm ?_
    rw [← List.append_assoc, ← List.append_assoc]
    exact List.perm_middle)
  refine O.app (news := cs.toList) E M2 (ys := [x]) rfl ⟨Bn, [], cs.toList, [], by simp, by simp, Ox, rfl, rfl⟩ (fun j v hj => ?_) hmax hbytes fun b' c' h' B' O' M' => H b' c' h' B' O' (M'.sub (List.Sublist.append (List.Sublist.refl _) (List.sublist_cons_self _ _)))
  rw [add_none, Nat.zero_add, M1.cell .here, ← hj, Array.getElem?_toList]
/-- A slice copied to a new one that was empty. -/
theorem append_copy {g : Nat} (E : ElemT P t e r.sz bytes) (hz : 0 < r.sz) (hf : Flat r) (S : SlR r h b l c xs) (M : Mem h0 h ((g, e, ⟨[]⟩) :: L)) (hb : l * bytes ≤ 140737488355328)
    (H : ∀ b' c' h' B', SlO e r B' b' l c' xs → Mem h0 h' (B' ++ L) → K (.slice b' l c') h') : SEMV P (Builtin.append_ #[t, t] ty #[.slice (some ⟨g, 0, none⟩) 0 0, .slice b l c]) K h := by
  obtain ⟨h1, h2, h3, ws, C, R⟩ := S
  cases b with
  | some a =>
    refine (SlO.empty (r := r) g).app (Bn := []) E (by simpa using M) h1 (flat_rds hf R) (fun j v hj => C.get hj) (by omega) (by simpa using hb) fun b' c' h' B' O' M' => ?_
    rw [Nat.zero_add] at O' ⊢
    exact H b' c' h' B' (by simpa using O') M'
  | none =>
    have hw : ws = [] := by
      cases ws with
      | nil => rfl
      | cons w ws => obtain ⟨a, e, _⟩ := C 0 (by simp); cases e
    subst hw
    have hx : xs.length * r.sz = 0 := by rw [← R.len]; rfl
    have hl : l = 0 := by
      rcases Nat.mul_eq_zero.1 hx with h | h <;> omega
    subst hl
    obtain rfl : xs = [] := List.eq_nil_of_length_eq_zero h1
    obtain ⟨i, z, hi, hz', e1, e2, hzs⟩ := E.hi
    refine semv fun w hw => ⟨.slice (some ⟨g, 0, none⟩) 0 0, w, ?_, Same.refl _, by rw [hw]; exact H _ _ _ _ (SlO.empty g) (by simpa using M)⟩
    simp [Builtin.append_, run_underlying E.ht, sizeOf, typeInfo, hi, Builtin.lenOf, Builtin.firstCells, loadCells, loadCellsFrom, storeCells]
end
end Go.Sx
namespace Go.Sx
section
variable {α β : Type} {r : Rep α} {h0 h : Heap} {q : Addr} {F : Fr} {L : List Blk} {a : α} {off : Nat}
/-- A new value: its cells, in blocks of its own. -/
def NewR (r : Rep α) (h h' : Heap) (u : Value) (a : α) : Prop := ∃ cs B, u = .agg cs ∧ r.ow B cs.toList a ∧ Mem h h' B
theorem Pt.hdr {e : Nat} {s : Rep β} {get : α → List β} {put : α → List β → α} (P : Pt r h0 h q F L a) [Fc : FocC r off (rSl e s) get put] : ∃ b l c, cell h (q.add off) = some (.slice b l c) ∧ SlR s h b l c (get a) := by
  obtain ⟨v, e1, b, l, c, e2, S⟩ := P.rd.cell Fc.f rfl
  obtain rfl : v = .slice b l c := by simpa using e2
  exact ⟨b, l, c, e1, S⟩
theorem Pt.hdr1 {e : Nat} {s : Rep β} {get : α → List β} {put : α → List β → α} (P : Pt r h0 h q F L a) [Fc : FocC r 0 (rSl e s) get put] : ∃ b l c, cell h q = some (.slice b l c) ∧ SlR s h b l c (get a) := by
  obtain ⟨b, l, c, e, S⟩ := P.hdr (off := 0) (Fc := Fc)
  exact ⟨b, l, c, by rwa [add0] at e, S⟩
theorem Pt.elem1 [Inhabited β] {e : Nat} {s : Rep β} {get : α → List β} {put : α → List β → α} {i l c : Nat} {b : Option Addr} (P : Pt r h0 h q F L a) [Fc : FocC r 0 (rSl e s) get put] (hb : cell h q = some (.slice b l c)) (hi : i < l) :
    ∃ a0 F' L', b = some a0 ∧ Pt s h0 h (a0.add (i * s.sz)) F' L' (get a)[i]! ∧ L.Sublist L' ∧ ∀ h0' h' x, Pt s h0' h' (a0.add (i * s.sz)) F' L' x → Pt r h0' h' q F L (put a ((get a).set i x)) ∧ cell h' q = some (.slice b l c) := by
  have := P.elem (off := 0) (Fc := Fc) (i := i) (l := l) (c := c) (b := b) (by rwa [add0]) hi
  simpa only [add0] using this
theorem Pt.stF1 {k : FloatKind} {x n : Nat} {get : α → Nat} {put : α → Nat → α} {K : Heap → Prop} (P : Pt r h0 h q F L a) [Fc : FocC r 0 (rF k) get put] (hx : FW k x n) (H : ∀ h', Pt r h0 h' q F L (put a n) → K h') : ST1 h q (.float k x) K := by
  have := Pt.stF (off := 0) P (Fc := Fc) hx H
  rwa [add0] at this
end
end Go.Sx
