/- Own slices of data: copied, grown, compared with nil. -/
import Derived.Test.YthgnpepchedpbaaDoorLp5
import Derived.Test.YthgnpepchedpbaaDoorLp2
import Derived.Laws.Cover3
set_option linter.unusedVariables false
set_option linter.unusedSimpArgs false
namespace Go.Sx

section
variable {α : Type} {r : Rep α} {P : Program} {h0 h : Heap} {L : List Blk} {t e bytes : Nat} {b : Option Addr} {l c : Nat} {xs : List α} {K : Value → Heap → Prop} {ty : Nat}
theorem SlO.len {B : List Blk} (O : SlO e r B b l c xs) : xs.length = l := O.1
theorem SlO.nil : SlO e r [] none 0 0 [] := ⟨rfl, [], [], [], rfl, ⟨by simp, .inl ⟨rfl, rfl, rfl, rfl⟩⟩, rfl, rfl⟩
theorem SlO.empty (g : Nat) : SlO e r [(g, e, ⟨[]⟩)] (some ⟨g, 0, none⟩) 0 0 [] := ⟨rfl, [], [(g, e, ⟨[]⟩)], [], rfl, ⟨by simp, .inr ⟨g, ⟨[]⟩, rfl, rfl, Nat.le_refl _, Nat.zero_le _, by simp, by simp⟩⟩, rfl, rfl⟩
/-- Cells appended to an own slice. -/
theorem SlO.app {B Bn : List Blk} {a : Addr} {m mc : Nat} {news : List Value} {ys : List α} (E : ElemT P t e r.sz bytes) (O : SlO e r B b l c xs) (M : Mem h0 h (B ++ (Bn ++ L))) (hn : ys.length = m) (hys : ows r Bn news ys)
    (hr : ∀ j v, news[j]? = some v → cell h (a.add j) = some v) (hmax : l + m ≤ maxLen) (hbytes : (l + m) * bytes ≤ 140737488355328)
    (H : ∀ b' c' h' B', SlO e r B' b' (l + m) c' (xs ++ ys) → Mem h0 h' (B' ++ L) → K (.slice b' (l + m) c') h') :
    SEMV P (Builtin.append_ #[t, t] ty #[.slice b l c, .slice (some a) m mc]) K h := by
  obtain ⟨h1, ws, B1, B2, rfl, O1, O2⟩ := O
  have S : Sl h0 h (B2 ++ (Bn ++ L)) e r.sz b l c ws := O1.sl (by simpa using M)
  refine S.app E (by rw [hys.len, hn]) hr hys.one hmax hbytes fun b' c' h' S' => ?_
  obtain ⟨B3, O3, M3⟩ := S'.own
  exact H b' c' h' (B3 ++ (B2 ++ Bn)) ⟨by simp [h1, hn], _, B3, _, rfl, O3, O2.append hys⟩ (by simpa using M3)
/-- One element appended, which has been laid in a block. -/
theorem push_own {B Bn : List Blk} {cs : Array Value} {x : α} (E : ElemT P t e r.sz bytes) (O : SlO e r B b l c xs) (M : Mem h0 h (B ++ (Bn ++ L))) (Ox : r.ow Bn cs.toList x) (hmax : l + 1 ≤ maxLen) (hbytes : (l + 1) * bytes ≤ 140737488355328)
    (H : ∀ b' c' h' B', SlO e r B' b' (l + 1) c' (xs ++ [x]) → Mem h0 h' (B' ++ L) → K (.slice b' (l + 1) c') h') :
    ALC cs e (fun g h => SEMV P (Builtin.append_ #[t, t] ty #[.slice b l c, .slice (some ⟨g, 0, none⟩) 1 1]) K h) h := by
  refine M.alc fun g h1 x1 M1 => ?_
  have M2 : Mem h0 h1 (B ++ (Bn ++ ((g, e, cs) :: L))) := M1.perm (by
    refine List.Perm.symm ?_
    rw [← List.append_assoc, ← List.append_assoc]
    exact List.perm_middle)
  refine O.app (news := cs.toList) E M2 (ys := [x]) rfl ⟨Bn, [], cs.toList, [], by simp, by simp, Ox, rfl, rfl⟩ (fun j v hj => ?_) hmax hbytes fun b' c' h' B' O' M' => H b' c' h' B' O' (M'.sub (List.Sublist.append (List.Sublist.refl _) (List.sublist_cons_self _ _)))
  rw [add_none, Nat.zero_add, M1.cell .here, ← hj, Array.getElem?_toList]
end
end Go.Sx
namespace Go.Sx
section
variable {α β : Type} {r : Rep α} {h0 h : Heap} {q : Addr} {F : Fr} {L : List Blk} {a : α} {off : Nat}
/-- A new value: its cells, in blocks of its own. -/
def NewR (r : Rep α) (h h' : Heap) (u : Value) (a : α) : Prop := ∃ cs B, u = .agg cs ∧ r.ow B cs.toList a ∧ Mem h h' B
theorem Pt.hdr {e : Nat} {s : Rep β} {get : α → List β} {put : α → List β → α} (P : Pt r h0 h q F L a) [Fc : FocC r off (rSl e s) get put] : ∃ b l c, cell h (q.add off) = some (.slice b l c) ∧ SlR s h b l c (get a) := by
  obtain ⟨v, e1, b, l, c, e2, S⟩ := P.rd.cell Fc.f rfl
  obtain rfl : v = .slice b l c := by simpa using e2
  exact ⟨b, l, c, e1, S⟩
end
end Go.Sx
