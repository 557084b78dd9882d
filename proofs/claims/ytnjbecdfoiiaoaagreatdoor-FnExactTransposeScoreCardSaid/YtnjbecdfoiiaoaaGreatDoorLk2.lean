/- Rings copied and moved on; filters: what the functions compute. -/
import Derived.Test.YtnjbecdfoiiaoaaGreatDoorLr1
import Derived.Test.YtnjbecdfoiiaoaaGreatDoorLp5
import Derived.Test.YtnjbecdfoiiaoaaGreatDoorLp7
set_option linter.unusedVariables false
set_option linter.unusedSimpArgs false
namespace Go.Sx
open Go.Proofs
set_option maxRecDepth 100000

theorem Clone_f32_c {h : Heap} {b : Option Addr} {l c : Nat} {xs : List Nat} (S : SlR (rF .f32) h b l c xs) (hl : l ≤ 1048576) :
    CALL prg f_slices_Clone_sl_float32_float32 #[.slice b l c] (fun u h' => ∃ b' c' B, u = .slice b' l c' ∧ SlO T_float32 (rF .f32) B b' l c' xs ∧ Mem h h' B) h := by
  refine slices_Clone_sl_float32_float32.call (cmp_nil U_sl_float32 (br (fun hb => ?_) fun hb => ?_))
  · obtain rfl : b = none := by simpa using hb
    obtain ⟨h1, h2, h3, ws, C, R⟩ := S
    have hw : ws = [] := by
      cases ws with
      | nil => rfl
      | cons w ws => obtain ⟨a, e, _⟩ := C 0 (by simp); cases e
    subst hw
    have hx := R.len
    have : l = 0 := by rw [← h1]; have e : (rF .f32).sz = 1 := rfl; rw [e] at hx; simpa using hx.symm
    subst this
    obtain rfl : xs = [] := List.eq_nil_of_length_eq_zero h1
    exact ⟨none, 0, [], rfl, SlO.nil, Mem.start h⟩
  · refine (Mem.start h).alc fun g h1 x1 M => ?_
    refine append_copy E_sl_float32 (by decide) (flat_F _) (S.ext x1) M (by omega) fun b' c' h' B' O' M' => as_l ⟨b', c', B', rfl, O', by simpa using M'⟩
end Go.Sx
/- Filters moved on; blocks made by a function of their places. -/
set_option linter.unusedVariables false
set_option linter.unusedSimpArgs false
namespace Go.Sx
open Go.Proofs
set_option maxRecDepth 100000

/-- What a step of a filter leaves. -/
def FStep (h0 h' : Heap) (q : Addr) (F : Fr) (L : List Blk) (f : GFilter) (a : Nat) (u : Value) : Prop := (∃ y, u = .float .f32 y ∧ FW .f32 y (f.step a).2) ∧ Pt rFilter h0 h' q F L (f.step a).1
section
variable {h0 h : Heap} {q : Addr} {F : Fr} {L : List Blk} {f : GFilter} {x a : Nat}
theorem FStep.of {f' : GFilter} {b y : Nat} (e : f.step a = (f', b)) (hy : FW .f32 y b) (P : Pt rFilter h0 h q F L f') : FStep h0 h q F L f a (.float .f32 y) := by
  unfold FStep
  rw [e]
  exact ⟨⟨y, rfl, hy⟩, P⟩
set_option maxHeartbeats 2000000 in
end
end Go.Sx
/- A slice that lies in own data taken out with its blocks, and put back changed. -/
set_option linter.unusedVariables false
set_option linter.unusedSimpArgs false
namespace Go.Sx
section
variable {α β : Type} {r : Rep α} {h0 h : Heap} {q : Addr} {F : Fr} {L : List Blk} {a : α} {off e : Nat} {s : Rep β} {get : α → List β} {put : α → List β → α}
/-- What lies beside a part stays. -/
theorem Pt.focK {γ : Type} {p : Rep γ} {get : α → γ} {put : α → γ → α} (P : Pt r h0 h q F L a) (Fc : Foc r p off get put) : ∃ F' L', Pt p h0 h (q.add off) F' L' (get a) ∧ L.Sublist L' ∧
    ∀ h0' h' b', Pt p h0' h' (q.add off) F' L' b' → Pt r h0' h' q F L (put a b') ∧ ∀ k, (k < off ∨ off + p.sz ≤ k) → cell h' (q.add k) = cell h (q.add k) := by
  obtain ⟨rfl, mid, B, M, O⟩ := P
  obtain ⟨pre, md, post, B1, Bm, B2, e1, rfl, rfl, O1, O2⟩ := Fc.fo O
  refine ⟨⟨F.g, F.T, F.pre ++ pre, post ++ F.post⟩, B1 ++ (B2 ++ L), ⟨?_, md, Bm, ?_, O1⟩, ?_, fun h0' h' b' P' => ?_⟩
  · rw [add_none]; simp [e1]
  · have := M.perm (perm_out _ _ _ _ _)
    simpa using this
  · exact (List.sublist_append_right _ _).trans (List.sublist_append_right _ _)
  · obtain ⟨_, md', B', M', O'⟩ := P'
    have M2 := M'.perm (perm_out _ _ _ _ _).symm
    refine ⟨⟨rfl, pre ++ (md' ++ post), B1 ++ (B' ++ B2), by simpa using M2, O2 B' md' b' O'⟩, fun k hk => ?_⟩
    have l1 := p.olen O1
    have l2 := p.olen O'
    rw [add_none, M.cell .here, M2.cell .here]
    simp only [List.getElem?_toArray, List.append_assoc]
    rw [List.getElem?_append_right (Nat.le_add_right _ _), List.getElem?_append_right (Nat.le_add_right _ _)]
    rw [Nat.add_sub_cancel_left]
    rcases hk with hk | hk
    · rw [List.getElem?_append_left (by omega), List.getElem?_append_left (by omega)]
    · rw [List.getElem?_append_right (l₁ := pre) (by omega), List.getElem?_append_right (l₁ := pre) (by omega), List.getElem?_append_right (l₁ := md') (by omega), List.getElem?_append_right (l₁ := md) (by omega), l1, l2]
/-- An element of a slice that lies in own data: no cell of the data themselves changes. -/
theorem Pt.elemK [Inhabited β] {i l c : Nat} {b : Option Addr} (P : Pt r h0 h q F L a) [Fc : FocC r off (rSl e s) get put] (hb : cell h (q.add off) = some (.slice b l c)) (hi : i < l) :
    ∃ a0 F' L', b = some a0 ∧ Pt s h0 h (a0.add (i * s.sz)) F' L' (get a)[i]! ∧ L.Sublist L' ∧ ∀ h0' h' x, Pt s h0' h' (a0.add (i * s.sz)) F' L' x → Pt r h0' h' q F L (put a ((get a).set i x)) ∧ ∀ k, cell h' (q.add k) = cell h (q.add k) := by
  obtain ⟨F1, L1, P1, hs, close⟩ := P.focK Fc.f
  obtain ⟨eq, mid, B, M, b', l', c', rfl, S⟩ := P1
  have e0 : cell h (q.add off) = some (.slice b' l' c') := by
    rw [eq, M.cell .here]; simp
  rw [hb] at e0
  cases e0
  have M1 : Mem h0 h (B ++ ((F1.g, F1.T, ⟨F1.pre ++ ([.slice b l c] ++ F1.post)⟩) :: L1)) := M.perm List.perm_middle.symm
  obtain ⟨a0, F2, L2, rfl, P2, hs2, close2⟩ := S.elem M1 hi
  refine ⟨a0, F2, L2, rfl, P2, (hs.trans (List.sublist_cons_self _ _)).trans hs2, fun h0' h' x P' => ?_⟩
  obtain ⟨B', S', M'⟩ := close2 h0' h' x P'
  have M2 := M'.perm List.perm_middle
  obtain ⟨P3, hk⟩ := close h0' h' _ ⟨eq, [.slice (some a0) l c], B', M2, _, _, _, rfl, S'⟩
  refine ⟨P3, fun k => ?_⟩
  by_cases h1 : k < off ∨ off + (rSl e s).sz ≤ k
  · exact hk k h1
  · obtain rfl : k = off := by
      have : (rSl e s).sz = 1 := rfl
      omega
    rw [hb, eq, M2.cell .here]; simp
/-- A slice whose header's cell is known. -/
theorem Pt.slr {l c : Nat} {b : Option Addr} (P : Pt r h0 h q F L a) [Fc : FocC r off (rSl e s) get put] (hb : cell h (q.add off) = some (.slice b l c)) : SlR s h b l c (get a) := by
  obtain ⟨v, e1, b', l', c', e2, S⟩ := P.rd.cell Fc.f rfl
  obtain rfl : v = .slice b' l' c' := by simpa using e2
  rw [hb] at e1
  cases e1
  exact S
end
end Go.Sx
/- What several structs' contracts have in common: slices of floats made, pairs answered, lists changed place by place. -/
set_option linter.unusedVariables false
set_option linter.unusedSimpArgs false
namespace Go.Sx
open Go.Proofs
set_option maxRecDepth 100000

section
variable {h : Heap} {q : Addr}
theorem drop_cons {α : Type} [Inhabited α] {l : List α} {n : Nat} (h : n < l.length) : l.drop n = l[n]! :: l.drop (n + 1) := by
  rw [List.drop_eq_getElem_cons h, getElem!_pos l n h]
theorem take_snoc {α : Type} [Inhabited α] {l : List α} {n : Nat} (h : n < l.length) : l.take (n + 1) = l.take n ++ [l[n]!] := by
  rw [List.take_succ_eq_append_getElem h, getElem!_pos l n h]
theorem zeros_fl (n : Nat) : ows (rF .f32) [] (List.replicate n (.float .f32 0)) (List.replicate n 0) := by
  induction n with
  | zero => exact ⟨rfl, rfl⟩
  | succ n ih => exact ⟨[], [], [.float .f32 0], List.replicate n (.float .f32 0), rfl, rfl, ⟨rfl, 0, rfl, fw0⟩, ih⟩
/-- A slice of zeros, made. -/
theorem make_floats {h0 : Heap} {L : List Blk} {n : Nat} {F : Nat → Heap → Prop} (M : Mem h0 h L) (hn : n ≤ 1048576)
    (H : ∀ g h', Ext h h' → Mem h0 h' ((g, T_float32, ⟨List.replicate n (.float .f32 0)⟩) :: L) → SlO T_float32 (rF .f32) [(g, T_float32, ⟨List.replicate n (.float .f32 0)⟩)] (some ⟨g, 0, none⟩) n n (List.replicate n 0) → F g h') : MKS ti_float32 T_float32 (n : Int) (n : Int) F h := by
  refine mks1 M rfl rfl (by show 4 * n ≤ 2 ^ 48; omega) (by omega) fun g h' x' M' => H g h' x' M' ?_
  have : n ≤ maxLen := by have : (1048576 : Nat) ≤ maxLen := by decide
                          omega
  exact ⟨by simp, List.replicate n (.float .f32 0), [_], [], rfl, ⟨by rw [List.length_replicate, show (rF .f32).sz = 1 from rfl, Nat.mul_one], .inr ⟨g, _, rfl, rfl, Nat.le_refl _, this, by rw [List.size_toArray, List.length_replicate, show (rF .f32).sz = 1 from rfl, Nat.mul_one], by
    rw [List.take_of_length_le]
    show (List.replicate n (Value.float .f32 0)).length ≤ n * 1
    simp⟩⟩, zeros_fl n⟩
end
/-- A pair of a value and a code, told by a call. -/
def PairR {α : Type} (r : Rep α) (h h' : Heap) (u : Value) (a : α) (code : Int) : Prop := ∃ cs B, u = .tuple ⟨[.agg cs, .int .i64 code]⟩ ∧ r.ow B cs.toList a ∧ Mem h h' B
/-- A list of which the first n elements have been changed. -/
def mapN {α : Type} (f : α → α) (l : List α) (n : Nat) : List α := (l.take n).map f ++ l.drop n
section
variable {α : Type} {f : α → α} {l : List α} {n : Nat}
theorem mapN_zero : mapN f l 0 = l := by simp [mapN]
theorem mapN_all (h : n = l.length) : mapN f l n = l.map f := by subst h; simp [mapN]
theorem mapN_len : (mapN f l n).length = l.length := by simp only [mapN, List.length_append, List.length_map, List.length_take, List.length_drop]; omega
theorem mapN_get [Inhabited α] (hn : n < l.length) : (mapN f l n)[n]! = l[n]! := by
  rw [getElem!_pos _ n (by rw [mapN_len]; exact hn), getElem!_pos l n hn]
  unfold mapN
  have hl : ((l.take n).map f).length = n := by rw [List.length_map, List.length_take]; omega
  rw [List.getElem_append_right (by omega)]
  simp only [hl, Nat.sub_self, List.getElem_drop, Nat.add_zero]
theorem mapN_step [Inhabited α] (hn : n < l.length) : (mapN f l n).set n (f l[n]!) = mapN f l (n + 1) := by
  unfold mapN
  have hl : ((l.take n).map f).length = n := by rw [List.length_map, List.length_take]; omega
  rw [List.set_append_right _ _ (by omega), hl, Nat.sub_self, drop_cons hn, List.set_cons_zero, take_snoc hn, List.map_append]
  simp
end
end Go.Sx
