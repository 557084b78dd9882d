/- Own data as elements of an own slice: written whole, the blocks of what is written taken out of the frame. -/
import Derived.Test.YtnhcoeogejgidabGreatDoorTabE
import Derived.Test.YtnhcoeogejgidabGreatDoorLp5
set_option linter.unusedVariables false
set_option linter.unusedSimpArgs false
namespace Go.Sx

section
variable {α β : Type} {r : Rep α} {h0 h : Heap} {q : Addr} {F : Fr} {L : List Blk} {a : α} {off : Nat}
/-- A part, whatever frame it has. -/
theorem Pt.focX {p : Rep β} {get : α → β} {put : α → β → α} (P : Pt r h0 h q F L a) (Fc : Foc r p off get put) : ∃ F' C, Pt p h0 h (q.add off) F' (C ++ L) (get a) ∧ ∀ h0' h' L' b', Pt p h0' h' (q.add off) F' (C ++ L') b' → Pt r h0' h' q F L' (put a b') ∧ ∀ k, (k < off ∨ off + p.sz ≤ k) → cell h' (q.add k) = cell h (q.add k) := by
  obtain ⟨rfl, mid, B, M, O⟩ := P
  obtain ⟨pre, md, post, B1, Bm, B2, e1, rfl, rfl, O1, O2⟩ := Fc.fo O
  refine ⟨⟨F.g, F.T, F.pre ++ pre, post ++ F.post⟩, B1 ++ B2, ⟨?_, md, Bm, ?_, O1⟩, fun h0' h' L' b' P' => ?_⟩
  · rw [add_none]; simp [e1]
  · have := M.perm (perm_out _ _ _ _ _)
    simpa using this
  · obtain ⟨_, md', B', M', O'⟩ := P'
    have M'' : Mem h0' h' ((F.g, F.T, ⟨(F.pre ++ pre) ++ (md' ++ (post ++ F.post))⟩) :: (B' ++ (B1 ++ (B2 ++ L')))) := by simpa using M'
    have M2 := M''.perm (perm_out _ _ _ _ _).symm
    refine ⟨⟨rfl, pre ++ (md' ++ post), B1 ++ (B' ++ B2), by simpa using M2, O2 B' md' b' O'⟩, fun k hk => ?_⟩
    have l1 := p.olen O1
    have l2 := p.olen O'
    rw [add_none, M.cell .here, M2.cell .here]
    simp only [List.getElem?_toArray, List.append_assoc]
    rw [List.getElem?_append_right (Nat.le_add_right _ _), List.getElem?_append_right (Nat.le_add_right _ _)]
    rw [Nat.add_sub_cancel_left]
    rcases hk with hk | hk
    · rw [List.getElem?_append_left (by omega), List.getElem?_append_left (by omega)]
    · rw [List.getElem?_append_right (l₁ := pre) (by omega), List.getElem?_append_right (l₁ := pre) (by omega), List.getElem?_append_right (l₁ := md') (by omega), List.getElem?_append_right (l₁ := md) (by omega), l1, l2]
/-- An element, whatever frame its slice has. -/
theorem SlO.elemX [Inhabited β] {e : Nat} {s : Rep β} {B : List Blk} {b : Option Addr} {l c i : Nat} {els : List β} (S : SlO e s B b l c els) (hi : i < l) :
    ∃ a0 F' C, b = some a0 ∧ (∀ h0 h L, Mem h0 h (B ++ L) → Pt s h0 h (a0.add (i * s.sz)) F' (C ++ L) els[i]!) ∧ ∀ h0' h' L' x, Pt s h0' h' (a0.add (i * s.sz)) F' (C ++ L') x → ∃ B', SlO e s B' b l c (els.set i x) ∧ Mem h0' h' (B' ++ L') := by
  obtain ⟨h1, ws, B1, B2, rfl, O, h3⟩ := S
  rcases O.2 with ⟨_, _, h4, _⟩ | ⟨g, cs, rfl, rfl, h5, h6, h7, h8⟩
  · omega
  obtain ⟨pre, mid, post, C1, Cm, C2, e1, e2, rfl, O1, O2⟩ := h3.at (i := i) (by omega)
  have hc : cs = ⟨pre ++ (mid ++ (post ++ cs.toList.drop (l * s.sz)))⟩ := by
    have : cs.toList = ws ++ cs.toList.drop (l * s.sz) := by rw [← h8, List.take_append_drop]
    rw [e2] at this
    cases cs; simpa using this
  refine ⟨_, ⟨g, e, pre, post ++ cs.toList.drop (l * s.sz)⟩, C1 ++ C2, rfl, fun h0 h L M => ⟨?_, mid, Cm, ?_, by rw [getElem!_pos _ i (by omega)]; exact O1⟩, fun h0' h' L' x P' => ?_⟩
  · rw [add_none]; simp [e1]
  · rw [← hc]
    have : Mem h0 h ((g, e, cs) :: ((C1 ++ (Cm ++ C2)) ++ L)) := by simpa using M
    have := this.perm (perm_out _ _ _ _ _)
    simpa using this
  · obtain ⟨_, md', B', M', O'⟩ := P'
    have hm := s.olen O'
    have hm0 := s.olen O1
    have hws : ws.length = l * s.sz := O.1
    have hlen : (pre ++ (md' ++ post)).length = l * s.sz := by rw [← hws, e2]; simp [hm, hm0]
    refine ⟨(g, e, ⟨pre ++ (md' ++ (post ++ cs.toList.drop (l * s.sz)))⟩) :: (C1 ++ (B' ++ C2)), ⟨by simpa using h1, pre ++ (md' ++ post), [_], _, rfl, ⟨hlen, .inr ⟨g, _, rfl, rfl, h5, h6, ?_, ?_⟩⟩, O2 _ _ _ O'⟩, ?_⟩
    · have : cs.toList.length = c * s.sz := by simpa using h7
      have hle := Nat.mul_le_mul_right s.sz h5
      simp only [List.size_toArray]
      have : (pre ++ (md' ++ (post ++ cs.toList.drop (l * s.sz)))).length = (pre ++ (md' ++ post)).length + (cs.toList.drop (l * s.sz)).length := by simp; omega
      rw [this, hlen, List.length_drop]; omega
    · show List.take _ (pre ++ (md' ++ (post ++ _))) = _
      have e5 : pre ++ (md' ++ (post ++ cs.toList.drop (l * s.sz))) = (pre ++ (md' ++ post)) ++ cs.toList.drop (l * s.sz) := by simp
      rw [e5, ← hlen]
      exact List.take_left
    · have M'' : Mem h0' h' ((g, e, ⟨pre ++ (md' ++ (post ++ cs.toList.drop (l * s.sz)))⟩) :: (B' ++ (C1 ++ (C2 ++ L')))) := by simpa using M'
      have := M''.perm (perm_out _ _ _ _ _).symm
      simpa using this
theorem Pt.elemX [Inhabited β] {e : Nat} {s : Rep β} {get : α → List β} {put : α → List β → α} {i l c : Nat} {b : Option Addr} (P : Pt r h0 h q F L a) [Fc : FocC r off (rSl e s) get put] (hb : cell h (q.add off) = some (.slice b l c)) (hi : i < l) :
    ∃ a0 F' C, b = some a0 ∧ Pt s h0 h (a0.add (i * s.sz)) F' (C ++ L) (get a)[i]! ∧ ∀ h0' h' L' x, Pt s h0' h' (a0.add (i * s.sz)) F' (C ++ L') x → Pt r h0' h' q F L' (put a ((get a).set i x)) ∧ ∀ k, cell h' (q.add k) = cell h (q.add k) := by
  obtain ⟨F1, C1, P1, close⟩ := P.focX Fc.f
  obtain ⟨eq, mid, B, M, b', l', c', rfl, S⟩ := P1
  have e0 : cell h (q.add off) = some (.slice b' l' c') := by
    rw [eq, M.cell .here]; simp
  rw [hb] at e0
  cases e0
  obtain ⟨a0, F2, C2, rfl, P2, close2⟩ := S.elemX hi
  refine ⟨a0, F2, C2 ++ ((F1.g, F1.T, ⟨F1.pre ++ ([.slice (some a0) l c] ++ F1.post)⟩) :: C1), rfl, ?_, fun h0' h' L' x P' => ?_⟩
  · have := P2 h0 h ((F1.g, F1.T, ⟨F1.pre ++ ([.slice (some a0) l c] ++ F1.post)⟩) :: (C1 ++ L)) (M.perm List.perm_middle.symm)
    simpa using this
  · have P'' : Pt s h0' h' (a0.add (i * s.sz)) F2 (C2 ++ ((F1.g, F1.T, ⟨F1.pre ++ ([.slice (some a0) l c] ++ F1.post)⟩) :: (C1 ++ L'))) x := by simpa using P'
    obtain ⟨B', S', M'⟩ := close2 h0' h' _ x P''
    have M2 := M'.perm List.perm_middle
    obtain ⟨P3, hk⟩ := close h0' h' _ _ ⟨eq, [.slice (some a0) l c], B', M2, _, _, _, rfl, S'⟩
    refine ⟨P3, fun k => ?_⟩
    by_cases h1 : k < off ∨ off + (rSl e s).sz ≤ k
    · exact hk k h1
    · obtain rfl : k = off := by
        have : (rSl e s).sz = 1 := rfl
        omega
      rw [hb, eq, M2.cell .here]; simp
/-- An element written whole. -/
theorem Pt.stE [Inhabited β] {e : Nat} {s : Rep β} {get : α → List β} {put : α → List β → α} {i l c n : Nat} {b : Option Addr} {vs : Array Value} {B' : List Blk} {x : β} {K : Heap → Prop} (P : Pt r h0 h q F (B' ++ L) a) [Fc : FocC r off (rSl e s) get put] (hb : cell h (q.add off) = some (.slice b l c)) (hi : i < l) (hn : s.sz = n) (O : s.ow B' vs.toList x)
    (H : ∀ h', Pt r h0 h' q F L (put a ((get a).set i x)) → (∀ k, cell h' (q.add k) = cell h (q.add k)) → K h') : ∃ a0, b = some a0 ∧ STA n h (a0.add (i * n)) vs K := by
  subst hn
  obtain ⟨a0, F', C, rfl, P1, close⟩ := P.elemX hb hi
  refine ⟨a0, rfl, ?_⟩
  have P2 : Pt s h0 h (a0.add (i * s.sz)) F' (B' ++ (C ++ L)) (get a)[i]! := P1.cnt fun p => by simp only [cnt_app]; omega
  refine P2.sts0 (Foc.here s) rfl O fun h' P3 => ?_
  obtain ⟨P4, e4⟩ := close _ _ _ _ P3
  exact H h' P4 e4
end
end Go.Sx
/- One element appended to an own slice beside own data. -/
set_option linter.unusedVariables false
set_option linter.unusedSimpArgs false
namespace Go.Sx
open Go.Proofs
set_option maxRecDepth 100000
set_option maxHeartbeats 1000000

section
variable {α β : Type} {r : Rep α} {s : Rep β} {P : Program} {h0 h : Heap} {q : Addr} {F : Fr} {B L : List Blk} {d : α} {t e bytes ty : Nat} {b : Option Addr} {l c : Nat} {xs : List β} {K : Value → Heap → Prop}
/-- One element appended to an own slice beside own data. -/
theorem Pt.push {cs : Array Value} {x : β} (Pa : Pt r h0 h q F (B ++ L) d) (E : ElemT P t e s.sz bytes) (O : SlO e s B b l c xs) (Ox : s.ow [] cs.toList x) (hmax : l + 1 ≤ maxLen) (hbytes : (l + 1) * bytes ≤ 140737488355328)
    (H : ∀ b' c' h' B', SlO e s B' b' (l + 1) c' (xs ++ [x]) → Pt r h0 h' q F (B' ++ L) d → K (.slice b' (l + 1) c') h') :
    ALC cs e (fun g h => SEMV P (Builtin.append_ #[t, t] ty #[.slice b l c, .slice (some ⟨g, 0, none⟩) 1 1]) K h) h := by
  obtain ⟨e1, mid, BR, M, OR⟩ := Pa
  refine push_own (Bn := []) (L := (F.g, F.T, ⟨F.pre ++ (mid ++ F.post)⟩) :: (BR ++ L)) E O (M.cnt fun p => by simp only [cnt_app, cnt_cons, cnt_nil]; omega) Ox hmax hbytes fun b' c' h' B' O' M' => H b' c' h' B' O' ⟨e1, mid, BR, M'.cnt fun p => ?_, OR⟩
  simp only [cnt_app, cnt_cons, cnt_nil]; omega
end
end Go.Sx
/- Cells that stay; blocks changed behind others. -/
set_option linter.unusedVariables false
set_option linter.unusedSimpArgs false
namespace Go.Sx
section
variable {h : Heap}
theorem Upd.skip {B L L' : List Blk} {g : Nat} {cs : Array Value} (k : Upd L g cs L') : Upd (B ++ L) g cs (B ++ L') := by
  induction B with
  | nil => exact k
  | cons p B ih => exact .there ih
end
end Go.Sx
/- Two more small functions over floats. -/
set_option linter.unusedVariables false
set_option linter.unusedSimpArgs false
namespace Go.Sx
open Go.Proofs Ieee
set_option maxRecDepth 100000
section
variable {x y a b : Nat}
def inside (a l r : Nat) : Bool := fge .f32 a l && fle .f32 a r
theorem inside_c {z c : Nat} (hx : FW .f32 x a) (hy : FW .f32 y b) (hz : FW .f32 z c) : Ret prg f_impl_inside #[.float .f32 x, .float .f32 y, .float .f32 z] (.bool (inside a b c)) := fun h => by
  refine impl_inside.call ?_
  rw [impl_inside.S, ord_eq hx hy, ord_eq hx hz]
  exact br (fun hb => ⟨by rw [inside, fge, hb]; rfl, Ext.refl _⟩) fun hb => ⟨by rw [inside, fge, hb]; rfl, Ext.refl _⟩
end
end Go.Sx
