/- Floats in the program: what the small functions compute. -/
import Derived.Test.YtnhcoeogejgidabGreatDoorTabE
import Derived.Test.YtnhcoeogejgidabGreatDoorLx1
import Derived.Test.YtnhcoeogejgidabGreatDoorTab
import Derived.Test.YtnhcoeogejgidabGreatDoorLp5
set_option linter.unusedVariables false
set_option linter.unusedSimpArgs false
namespace Go.Sx
open Go.Proofs Ieee
set_option maxRecDepth 100000

/-- The call answers a float. -/
abbrev Fl (P : Program) (f : FuncId) (args : Array Value) (k : FloatKind) (a : Nat) : Prop := ∀ h, CALL P f args (fun u h' => (∃ y, u = .float k y ∧ FW k y a) ∧ Ext h h') h
theorem Fl.go {P : Program} {f : FuncId} {args : Array Value} {k : FloatKind} {a : Nat} (c : Fl P f args k a) {h : Heap} {K : Value → Heap → Prop} (H : ∀ h' y, Ext h h' → FW k y a → K (.float k y) h') : CALL P f args K h :=
  (c h).mono fun u h' ⟨⟨y, e, hy⟩, x⟩ => by subst e; exact H h' y x hy
theorem Fl.mem {P : Program} {f : FuncId} {args : Array Value} {k : FloatKind} {a : Nat} (c : Fl P f args k a) {h0 h : Heap} {L : List Blk} (M : Mem h0 h L) {K : Value → Heap → Prop} (H : ∀ h' y, Mem h0 h' L → FW k y a → K (.float k y) h') : CALL P f args K h :=
  c.go fun h' y x hy => H h' y (M.grow x) hy

theorem l00In_c (n l r : Int) : Ret prg f_spec_l00In #[.int .i64 n, .int .i64 l, .int .i64 r] (.bool (inR n l r)) := fun h => by
  refine spec_l00In.call (br (fun hb => ?_) fun hb => ?_) <;> exact ⟨by simp [inR, hb], Ext.refl _⟩
theorem within_c (n l r : Int) : Ret prg f_impl_within #[.int .i64 n, .int .i64 l, .int .i64 r] (.bool (inR n l r)) := fun h => by
  refine impl_within.call (br (fun hb => ?_) fun hb => ?_) <;> exact ⟨by simp [inR, hb], Ext.refl _⟩
theorem fw0 : FW .f32 0 0 := fw_c32 (by decide) (by decide)
section
variable {x y a b : Nat}
theorem l01Finite_c (hx : FW .f32 x a) : Ret prg f_spec_l01Finite #[.float .f32 x] (.bool (fin a)) := fun h =>
  spec_l01Finite.call (fS hx hx fun r hr => ⟨by rw [ord_eq hr fw0]; rfl, Ext.refl _⟩)
theorem isFinite_c (hx : FW .f32 x a) : Ret prg f_impl_isFinite #[.float .f32 x] (.bool (fin a)) := fun h =>
  impl_isFinite.call (fS hx hx fun r hr => ⟨by rw [ord_eq hr fw0]; rfl, Ext.refl _⟩)
def clamp (a l : Nat) : Nat := if fgt .f32 a l then l else if flt .f32 a (fneg .f32 l) then fneg .f32 l else a
end
end Go.Sx
/- Rings and filters in the program: what the functions compute. -/
set_option linter.unusedVariables false
set_option linter.unusedSimpArgs false
namespace Go.Sx
open Go.Proofs
set_option maxRecDepth 100000

theorem maxLen_lt : (maxLen : Nat) < 9223372036854775808 := by decide
/-- Where the first element is of which p holds; -1: nowhere. -/
def firstAt {α : Type} (p : α → Bool) (l : List α) : Int := if l.any p then (l.findIdx p : Nat) else -1
theorem firstAt_none {α : Type} [Inhabited α] {p : α → Bool} {l : List α} (h : ∀ i, i < l.length → p l[i]! = false) : firstAt p l = -1 := by
  unfold firstAt
  rw [if_neg]
  rw [Bool.not_eq_true, List.any_eq_false]
  intro x hx
  obtain ⟨i, hi, rfl⟩ := List.mem_iff_getElem.1 hx
  have := h i hi
  rw [getElem!_pos l i hi] at this
  rw [this]; decide
theorem firstAt_some {α : Type} [Inhabited α] {p : α → Bool} {l : List α} {n : Nat} (hn : n < l.length) (h : ∀ i, i < n → p l[i]! = false) (hp : p l[n]! = true) : firstAt p l = n := by
  unfold firstAt
  rw [getElem!_pos l n hn] at hp
  rw [if_pos (List.any_eq_true.2 ⟨_, List.getElem_mem hn, hp⟩)]
  congr 1
  rw [List.findIdx_eq hn]
  refine ⟨hp, fun j hj => ?_⟩
  have := h j hj
  rw [getElem!_pos l j (by omega)] at this
  simpa using this
theorem firstAt_any {α : Type} (p : α → Bool) (l : List α) : decide (0 ≤ firstAt p l) = l.any p := by
  unfold firstAt
  split
  · next h => rw [h]; exact decide_eq_true (by omega)
  · next h => rw [Bool.not_eq_true] at h; rw [h]; rfl
theorem CALLD.mono {P : Program} {f : Value} {args : Array Value} {K K' : Value → Heap → Prop} {h : Heap} (hk : ∀ v h, K v h → K' v h) (H : CALLD P f args K h) : CALLD P f args K' h := by
  unfold CALLD at H ⊢
  split at H
  · exact CALL.mono hk H
  · exact SEMN.mono hk H
end Go.Sx
/- Filters moved on; blocks made by a function of their places. -/
set_option linter.unusedVariables false
set_option linter.unusedSimpArgs false
namespace Go.Sx
open Go.Proofs
set_option maxRecDepth 100000

/-- What a step of a filter leaves. -/
def FStep (h0 h' : Heap) (q : Addr) (F : Fr) (L : List Blk) (f : GFilter) (a : Nat) (u : Value) : Prop := (∃ y, u = .float .f32 y ∧ FW .f32 y (f.step a).2) ∧ Pt rFilter h0 h' q F L (f.step a).1
section
variable {h0 h : Heap} {q : Addr} {F : Fr} {L : List Blk} {f : GFilter} {x a : Nat}
theorem FStep.of {f' : GFilter} {b y : Nat} (e : f.step a = (f', b)) (hy : FW .f32 y b) (P : Pt rFilter h0 h q F L f') : FStep h0 h q F L f a (.float .f32 y) := by
  unfold FStep
  rw [e]
  exact ⟨⟨y, rfl, hy⟩, P⟩
set_option maxHeartbeats 2000000 in
end
end Go.Sx
/- A slice that lies in own data taken out with its blocks, and put back changed. -/
set_option linter.unusedVariables false
set_option linter.unusedSimpArgs false
namespace Go.Sx
section
variable {α β : Type} {r : Rep α} {h0 h : Heap} {q : Addr} {F : Fr} {L : List Blk} {a : α} {off e : Nat} {s : Rep β} {get : α → List β} {put : α → List β → α}
/-- A slice whose header's cell is known. -/
theorem Pt.slr {l c : Nat} {b : Option Addr} (P : Pt r h0 h q F L a) [Fc : FocC r off (rSl e s) get put] (hb : cell h (q.add off) = some (.slice b l c)) : SlR s h b l c (get a) := by
  obtain ⟨v, e1, b', l', c', e2, S⟩ := P.rd.cell Fc.f rfl
  obtain rfl : v = .slice b' l' c' := by simpa using e2
  rw [hb] at e1
  cases e1
  exact S
end
end Go.Sx
/- What several structs' contracts have in common: slices of floats made, pairs answered, lists changed place by place. -/
set_option linter.unusedVariables false
set_option linter.unusedSimpArgs false
namespace Go.Sx
open Go.Proofs
set_option maxRecDepth 100000

section
variable {h : Heap} {q : Addr}
theorem take_snoc {α : Type} [Inhabited α] {l : List α} {n : Nat} (h : n < l.length) : l.take (n + 1) = l.take n ++ [l[n]!] := by
  rw [List.take_succ_eq_append_getElem h, getElem!_pos l n h]
end
/-- A pair of a value and a code, told by a call. -/
def PairR {α : Type} (r : Rep α) (h h' : Heap) (u : Value) (a : α) (code : Int) : Prop := ∃ cs B, u = .tuple ⟨[.agg cs, .int .i64 code]⟩ ∧ r.ow B cs.toList a ∧ Mem h h' B
section
variable {α β : Type} {r : Rep α} {h0 h : Heap} {q : Addr} {F : Fr} {L : List Blk} {a : α} {off : Nat}
theorem Pt.sts0 {p : Rep β} {get : α → β} {put : α → β → α} {b : β} {n : Nat} {vs : Array Value} {B' : List Blk} {K : Heap → Prop} (P : Pt r h0 h q F (B' ++ L) a) (Fc : Foc r p 0 get put) (hp : p.sz = n) (O : p.ow B' vs.toList b)
    (H : ∀ h', Pt r h0 h' q F L (put a b) → K h') : STA n h q vs K := by
  have := P.sts Fc hp O H
  rwa [add0] at this
end
theorem mem_get {α : Type} [Inhabited α] {l : List α} {i : Nat} (h : i < l.length) : l[i]! ∈ l := by rw [getElem!_pos l i h]; exact List.getElem_mem h
end Go.Sx
/- Own data as elements of an own slice: written whole, the blocks of what is written taken out of the frame. -/
set_option linter.unusedVariables false
set_option linter.unusedSimpArgs false
namespace Go.Sx

section
variable {α β : Type} {r : Rep α} {h0 h : Heap} {q : Addr} {F : Fr} {L : List Blk} {a : α} {off : Nat}
/-- A part, whatever frame it has. -/
theorem Pt.focX {p : Rep β} {get : α → β} {put : α → β → α} (P : Pt r h0 h q F L a) (Fc : Foc r p off get put) : ∃ F' C, Pt p h0 h (q.add off) F' (C ++ L) (get a) ∧ ∀ h0' h' L' b', Pt p h0' h' (q.add off) F' (C ++ L') b' → Pt r h0' h' q F L' (put a b') ∧ ∀ k, (k < off ∨ off + p.sz ≤ k) → cell h' (q.add k) = cell h (q.add k) := by
  obtain ⟨rfl, mid, B, M, O⟩ := P
  obtain ⟨pre, md, post, B1, Bm, B2, e1, rfl, rfl, O1, O2⟩ := Fc.fo O
  refine ⟨⟨F.g, F.T, F.pre ++ pre, post ++ F.post⟩, B1 ++ B2, ⟨?_, md, Bm, ?_, O1⟩, fun h0' h' L' b' P' => ?_⟩
  · rw [add_none]; simp [e1]
  · have := M.perm (perm_out _ _ _ _ _)
    simpa using this
  · obtain ⟨_, md', B', M', O'⟩ := P'
    have M'' : Mem h0' h' ((F.g, F.T, ⟨(F.pre ++ pre) ++ (md' ++ (post ++ F.post))⟩) :: (B' ++ (B1 ++ (B2 ++ L')))) := by simpa using M'
    have M2 := M''.perm (perm_out _ _ _ _ _).symm
    refine ⟨⟨rfl, pre ++ (md' ++ post), B1 ++ (B' ++ B2), by simpa using M2, O2 B' md' b' O'⟩, fun k hk => ?_⟩
    have l1 := p.olen O1
    have l2 := p.olen O'
    rw [add_none, M.cell .here, M2.cell .here]
    simp only [List.getElem?_toArray, List.append_assoc]
    rw [List.getElem?_append_right (Nat.le_add_right _ _), List.getElem?_append_right (Nat.le_add_right _ _)]
    rw [Nat.add_sub_cancel_left]
    rcases hk with hk | hk
    · rw [List.getElem?_append_left (by omega), List.getElem?_append_left (by omega)]
    · rw [List.getElem?_append_right (l₁ := pre) (by omega), List.getElem?_append_right (l₁ := pre) (by omega), List.getElem?_append_right (l₁ := md') (by omega), List.getElem?_append_right (l₁ := md) (by omega), l1, l2]
/-- An element, whatever frame its slice has. -/
theorem SlO.elemX [Inhabited β] {e : Nat} {s : Rep β} {B : List Blk} {b : Option Addr} {l c i : Nat} {els : List β} (S : SlO e s B b l c els) (hi : i < l) :
    ∃ a0 F' C, b = some a0 ∧ (∀ h0 h L, Mem h0 h (B ++ L) → Pt s h0 h (a0.add (i * s.sz)) F' (C ++ L) els[i]!) ∧ ∀ h0' h' L' x, Pt s h0' h' (a0.add (i * s.sz)) F' (C ++ L') x → ∃ B', SlO e s B' b l c (els.set i x) ∧ Mem h0' h' (B' ++ L') := by
  obtain ⟨h1, ws, B1, B2, rfl, O, h3⟩ := S
  rcases O.2 with ⟨_, _, h4, _⟩ | ⟨g, cs, rfl, rfl, h5, h6, h7, h8⟩
  · omega
  obtain ⟨pre, mid, post, C1, Cm, C2, e1, e2, rfl, O1, O2⟩ := h3.at (i := i) (by omega)
  have hc : cs = ⟨pre ++ (mid ++ (post ++ cs.toList.drop (l * s.sz)))⟩ := by
    have : cs.toList = ws ++ cs.toList.drop (l * s.sz) := by rw [← h8, List.take_append_drop]
    rw [e2] at this
    cases cs; simpa using this
  refine ⟨_, ⟨g, e, pre, post ++ cs.toList.drop (l * s.sz)⟩, C1 ++ C2, rfl, fun h0 h L M => ⟨?_, mid, Cm, ?_, by rw [getElem!_pos _ i (by omega)]; exact O1⟩, fun h0' h' L' x P' => ?_⟩
  · rw [add_none]; simp [e1]
  · rw [← hc]
    have : Mem h0 h ((g, e, cs) :: ((C1 ++ (Cm ++ C2)) ++ L)) := by simpa using M
    have := this.perm (perm_out _ _ _ _ _)
    simpa using this
  · obtain ⟨_, md', B', M', O'⟩ := P'
    have hm := s.olen O'
    have hm0 := s.olen O1
    have hws : ws.length = l * s.sz := O.1
    have hlen : (pre ++ (md' ++ post)).length = l * s.sz := by rw [← hws, e2]; simp [hm, hm0]
    refine ⟨(g, e, ⟨pre ++ (md' ++ (post ++ cs.toList.drop (l * s.sz)))⟩) :: (C1 ++ (B' ++ C2)), ⟨by simpa using h1, pre ++ (md' ++ post), [_], _, rfl, ⟨hlen, .inr ⟨g, _, rfl, rfl, h5, h6, ?_, ?_⟩⟩, O2 _ _ _ O'⟩, ?_⟩
    · have : cs.toList.length = c * s.sz := by simpa using h7
      have hle := Nat.mul_le_mul_right s.sz h5
      simp only [List.size_toArray]
      have : (pre ++ (md' ++ (post ++ cs.toList.drop (l * s.sz)))).length = (pre ++ (md' ++ post)).length + (cs.toList.drop (l * s.sz)).length := by simp; omega
      rw [this, hlen, List.length_drop]; omega
    · show List.take _ (pre ++ (md' ++ (post ++ _))) = _
      have e5 : pre ++ (md' ++ (post ++ cs.toList.drop (l * s.sz))) = (pre ++ (md' ++ post)) ++ cs.toList.drop (l * s.sz) := by simp
      rw [e5, ← hlen]
      exact List.take_left
    · have M'' : Mem h0' h' ((g, e, ⟨pre ++ (md' ++ (post ++ cs.toList.drop (l * s.sz)))⟩) :: (B' ++ (C1 ++ (C2 ++ L')))) := by simpa using M'
      have := M''.perm (perm_out _ _ _ _ _).symm
      simpa using this
theorem Pt.elemX [Inhabited β] {e : Nat} {s : Rep β} {get : α → List β} {put : α → List β → α} {i l c : Nat} {b : Option Addr} (P : Pt r h0 h q F L a) [Fc : FocC r off (rSl e s) get put] (hb : cell h (q.add off) = some (.slice b l c)) (hi : i < l) :
    ∃ a0 F' C, b = some a0 ∧ Pt s h0 h (a0.add (i * s.sz)) F' (C ++ L) (get a)[i]! ∧ ∀ h0' h' L' x, Pt s h0' h' (a0.add (i * s.sz)) F' (C ++ L') x → Pt r h0' h' q F L' (put a ((get a).set i x)) ∧ ∀ k, cell h' (q.add k) = cell h (q.add k) := by
  obtain ⟨F1, C1, P1, close⟩ := P.focX Fc.f
  obtain ⟨eq, mid, B, M, b', l', c', rfl, S⟩ := P1
  have e0 : cell h (q.add off) = some (.slice b' l' c') := by
    rw [eq, M.cell .here]; simp
  rw [hb] at e0
  cases e0
  obtain ⟨a0, F2, C2, rfl, P2, close2⟩ := S.elemX hi
  refine ⟨a0, F2, C2 ++ ((F1.g, F1.T, ⟨F1.pre ++ ([.slice (some a0) l c] ++ F1.post)⟩) :: C1), rfl, ?_, fun h0' h' L' x P' => ?_⟩
  · have := P2 h0 h ((F1.g, F1.T, ⟨F1.pre ++ ([.slice (some a0) l c] ++ F1.post)⟩) :: (C1 ++ L)) (M.perm List.perm_middle.symm)
    simpa using this
  · have P'' : Pt s h0' h' (a0.add (i * s.sz)) F2 (C2 ++ ((F1.g, F1.T, ⟨F1.pre ++ ([.slice (some a0) l c] ++ F1.post)⟩) :: (C1 ++ L'))) x := by simpa using P'
    obtain ⟨B', S', M'⟩ := close2 h0' h' _ x P''
    have M2 := M'.perm List.perm_middle
    obtain ⟨P3, hk⟩ := close h0' h' _ _ ⟨eq, [.slice (some a0) l c], B', M2, _, _, _, rfl, S'⟩
    refine ⟨P3, fun k => ?_⟩
    by_cases h1 : k < off ∨ off + (rSl e s).sz ≤ k
    · exact hk k h1
    · obtain rfl : k = off := by
        have : (rSl e s).sz = 1 := rfl
        omega
      rw [hb, eq, M2.cell .here]; simp
/-- An element written whole. -/
theorem Pt.stE [Inhabited β] {e : Nat} {s : Rep β} {get : α → List β} {put : α → List β → α} {i l c n : Nat} {b : Option Addr} {vs : Array Value} {B' : List Blk} {x : β} {K : Heap → Prop} (P : Pt r h0 h q F (B' ++ L) a) [Fc : FocC r off (rSl e s) get put] (hb : cell h (q.add off) = some (.slice b l c)) (hi : i < l) (hn : s.sz = n) (O : s.ow B' vs.toList x)
    (H : ∀ h', Pt r h0 h' q F L (put a ((get a).set i x)) → (∀ k, cell h' (q.add k) = cell h (q.add k)) → K h') : ∃ a0, b = some a0 ∧ STA n h (a0.add (i * n)) vs K := by
  subst hn
  obtain ⟨a0, F', C, rfl, P1, close⟩ := P.elemX hb hi
  refine ⟨a0, rfl, ?_⟩
  have P2 : Pt s h0 h (a0.add (i * s.sz)) F' (B' ++ (C ++ L)) (get a)[i]! := P1.cnt fun p => by simp only [cnt_app]; omega
  refine P2.sts0 (Foc.here s) rfl O fun h' P3 => ?_
  obtain ⟨P4, e4⟩ := close _ _ _ _ P3
  exact H h' P4 e4
end
end Go.Sx
/- One element appended to an own slice beside own data. -/
set_option linter.unusedVariables false
set_option linter.unusedSimpArgs false
namespace Go.Sx
open Go.Proofs
set_option maxRecDepth 100000
set_option maxHeartbeats 1000000

section
variable {α β : Type} {r : Rep α} {s : Rep β} {P : Program} {h0 h : Heap} {q : Addr} {F : Fr} {B L : List Blk} {d : α} {t e bytes ty : Nat} {b : Option Addr} {l c : Nat} {xs : List β} {K : Value → Heap → Prop}
/-- One element appended to an own slice beside own data. -/
theorem Pt.push {cs : Array Value} {x : β} (Pa : Pt r h0 h q F (B ++ L) d) (E : ElemT P t e s.sz bytes) (O : SlO e s B b l c xs) (Ox : s.ow [] cs.toList x) (hmax : l + 1 ≤ maxLen) (hbytes : (l + 1) * bytes ≤ 140737488355328)
    (H : ∀ b' c' h' B', SlO e s B' b' (l + 1) c' (xs ++ [x]) → Pt r h0 h' q F (B' ++ L) d → K (.slice b' (l + 1) c') h') :
    ALC cs e (fun g h => SEMV P (Builtin.append_ #[t, t] ty #[.slice b l c, .slice (some ⟨g, 0, none⟩) 1 1]) K h) h := by
  obtain ⟨e1, mid, BR, M, OR⟩ := Pa
  refine push_own (Bn := []) (L := (F.g, F.T, ⟨F.pre ++ (mid ++ F.post)⟩) :: (BR ++ L)) E O (M.cnt fun p => by simp only [cnt_app, cnt_cons, cnt_nil]; omega) Ox hmax hbytes fun b' c' h' B' O' M' => H b' c' h' B' O' ⟨e1, mid, BR, M'.cnt fun p => ?_, OR⟩
  simp only [cnt_app, cnt_cons, cnt_nil]; omega
end
end Go.Sx
/- Cells that stay; blocks changed behind others. -/
set_option linter.unusedVariables false
set_option linter.unusedSimpArgs false
namespace Go.Sx
section
variable {h : Heap}
theorem Upd.skip {B L L' : List Blk} {g : Nat} {cs : Array Value} (k : Upd L g cs L') : Upd (B ++ L) g cs (B ++ L') := by
  induction B with
  | nil => exact k
  | cons p B ih => exact .there ih
end
end Go.Sx
/- Two more small functions over floats. -/
set_option linter.unusedVariables false
set_option linter.unusedSimpArgs false
namespace Go.Sx
open Go.Proofs Ieee
set_option maxRecDepth 100000
section
variable {x y a b : Nat}
def inside (a l r : Nat) : Bool := fge .f32 a l && fle .f32 a r
theorem inside_c {z c : Nat} (hx : FW .f32 x a) (hy : FW .f32 y b) (hz : FW .f32 z c) : Ret prg f_impl_inside #[.float .f32 x, .float .f32 y, .float .f32 z] (.bool (inside a b c)) := fun h => by
  refine impl_inside.call ?_
  rw [impl_inside.S, ord_eq hx hy, ord_eq hx hz]
  exact br (fun hb => ⟨by rw [inside, fge, hb]; rfl, Ext.refl _⟩) fun hb => ⟨by rw [inside, fge, hb]; rfl, Ext.refl _⟩
end
end Go.Sx
