/- A slice that lies in own data taken out with its blocks, and put back changed. -/
import Derived.Test.YtjoajnmhdobbfaaLp7
import Derived.Test.YtjoajnmhdobbfaaLk4
import Derived.Test.YtjoajnmhdobbfaaLx0
set_option linter.unusedVariables false
set_option linter.unusedSimpArgs false
namespace Go.Sx
section
variable {α β : Type} {r : Rep α} {h0 h : Heap} {q : Addr} {F : Fr} {L : List Blk} {a : α} {off e : Nat} {s : Rep β} {get : α → List β} {put : α → List β → α}
theorem Pt.slg (P : Pt r h0 h q F L a) (Fc : Foc r (rSl e s) off get put) : ∃ b l c B N, cell h (q.add off) = some (.slice b l c) ∧ Mem h0 h (B ++ N) ∧ SlO e s B b l c (get a) ∧ L.Sublist N ∧
    ∀ h0' h' B' ys, SlO e s B' b l c ys → Mem h0' h' (B' ++ N) → Pt r h0' h' q F L (put a ys) ∧ cell h' (q.add off) = some (.slice b l c) := by
  obtain ⟨F1, L1, P1, hs, close⟩ := P.foc Fc
  obtain ⟨eq, mid, B, M, b, l, c, rfl, S⟩ := P1
  refine ⟨b, l, c, B, (F1.g, F1.T, ⟨F1.pre ++ ([.slice b l c] ++ F1.post)⟩) :: L1, ?_, M.perm List.perm_middle.symm, S, hs.trans (List.sublist_cons_self _ _), fun h0' h' B' ys S' M' => ?_⟩
  · rw [eq, M.cell .here]; simp
  · have M2 := M'.perm List.perm_middle
    refine ⟨close _ _ _ ⟨eq, [.slice b l c], B', M2, b, l, c, rfl, S'⟩, ?_⟩
    rw [eq, M2.cell .here]; simp
theorem Pt.sl1 (P : Pt r h0 h q F L a) (Fc : Foc r (rSl e s) 0 get put) : ∃ b l c B, ∃ N, cell h q = some (.slice b l c) ∧ Mem h0 h (B ++ N) ∧ SlO e s B b l c (get a) ∧ L.Sublist N ∧
    ∀ h0' h' B' ys, SlO e s B' b l c ys → Mem h0' h' (B' ++ N) → Pt r h0' h' q F L (put a ys) ∧ cell h' q = some (.slice b l c) := by
  have := P.slg Fc
  simpa only [add0] using this
/-- What lies beside a part stays. -/
theorem Pt.focK {γ : Type} {p : Rep γ} {get : α → γ} {put : α → γ → α} (P : Pt r h0 h q F L a) (Fc : Foc r p off get put) : ∃ F' L', Pt p h0 h (q.add off) F' L' (get a) ∧ L.Sublist L' ∧
    ∀ h0' h' b', Pt p h0' h' (q.add off) F' L' b' → Pt r h0' h' q F L (put a b') ∧ ∀ k, (k < off ∨ off + p.sz ≤ k) → cell h' (q.add k) = cell h (q.add k) := by
  obtain ⟨rfl, mid, B, M, O⟩ := P
  obtain ⟨pre, md, post, B1, Bm, B2, e1, rfl, rfl, O1, O2⟩ := Fc.fo O
  refine ⟨⟨F.g, F.T, F.pre ++ pre, post ++ F.post⟩, B1 ++ (B2 ++ L), ⟨?_, md, Bm, ?_, O1⟩, ?_, fun h0' h' b' P' => ?_⟩
  · rw [add_none]; simp [e1]
  · have := M.perm (perm_out _ _ _ _ _)
    simpa using this
  · exact (List.sublist_append_right _ _).trans (List.sublist_append_right _ _)
  · obtain ⟨_, md', B', M', O'⟩ := P'
    have M2 := M'.perm (perm_out _ _ _ _ _).symm
    refine ⟨⟨rfl, pre ++ (md' ++ post), B1 ++ (B' ++ B2), by simpa using M2, O2 B' md' b' O'⟩, fun k hk => ?_⟩
    have l1 := p.olen O1
    have l2 := p.olen O'
    rw [add_none, M.cell .here, M2.cell .here]
    simp only [List.getElem?_toArray, List.append_assoc]
    rw [List.getElem?_append_right (Nat.le_add_right _ _), List.getElem?_append_right (Nat.le_add_right _ _)]
    rw [Nat.add_sub_cancel_left]
    rcases hk with hk | hk
    · rw [List.getElem?_append_left (by omega), List.getElem?_append_left (by omega)]
    · rw [List.getElem?_append_right (l₁ := pre) (by omega), List.getElem?_append_right (l₁ := pre) (by omega), List.getElem?_append_right (l₁ := md') (by omega), List.getElem?_append_right (l₁ := md) (by omega), l1, l2]
/-- An element of a slice that lies in own data: no cell of the data themselves changes. -/
theorem Pt.elemK [Inhabited β] {i l c : Nat} {b : Option Addr} (P : Pt r h0 h q F L a) [Fc : FocC r off (rSl e s) get put] (hb : cell h (q.add off) = some (.slice b l c)) (hi : i < l) :
    ∃ a0 F' L', b = some a0 ∧ Pt s h0 h (a0.add (i * s.sz)) F' L' (get a)[i]! ∧ L.Sublist L' ∧ ∀ h0' h' x, Pt s h0' h' (a0.add (i * s.sz)) F' L' x → Pt r h0' h' q F L (put a ((get a).set i x)) ∧ ∀ k, cell h' (q.add k) = cell h (q.add k) := by
  obtain ⟨F1, L1, P1, hs, close⟩ := P.focK Fc.f
  obtain ⟨eq, mid, B, M, b', l', c', rfl, S⟩ := P1
  have e0 : cell h (q.add off) = some (.slice b' l' c') := by
    rw [eq, M.cell .here]; simp
  rw [hb] at e0
  cases e0
  have M1 : Mem h0 h (B ++ ((F1.g, F1.T, ⟨F1.pre ++ ([.slice b l c] ++ F1.post)⟩) :: L1)) := M.perm List.perm_middle.symm
  obtain ⟨a0, F2, L2, rfl, P2, hs2, close2⟩ := S.elem M1 hi
  refine ⟨a0, F2, L2, rfl, P2, (hs.trans (List.sublist_cons_self _ _)).trans hs2, fun h0' h' x P' => ?_⟩
  obtain ⟨B', S', M'⟩ := close2 h0' h' x P'
  have M2 := M'.perm List.perm_middle
  obtain ⟨P3, hk⟩ := close h0' h' _ ⟨eq, [.slice (some a0) l c], B', M2, _, _, _, rfl, S'⟩
  refine ⟨P3, fun k => ?_⟩
  by_cases h1 : k < off ∨ off + (rSl e s).sz ≤ k
  · exact hk k h1
  · obtain rfl : k = off := by
      have : (rSl e s).sz = 1 := rfl
      omega
    rw [hb, eq, M2.cell .here]; simp
theorem Pt.elemK1 [Inhabited β] {i l c : Nat} {b : Option Addr} (P : Pt r h0 h q F L a) [Fc : FocC r 0 (rSl e s) get put] (hb : cell h q = some (.slice b l c)) (hi : i < l) :
    ∃ a0 F' L', b = some a0 ∧ Pt s h0 h (a0.add (i * s.sz)) F' L' (get a)[i]! ∧ L.Sublist L' ∧ ∀ h0' h' x, Pt s h0' h' (a0.add (i * s.sz)) F' L' x → Pt r h0' h' q F L (put a ((get a).set i x)) ∧ ∀ k, cell h' (q.add k) = cell h (q.add k) :=
  P.elemK (off := 0) (by rwa [add0]) hi
/-- A slice whose header's cell is known. -/
theorem Pt.slr {l c : Nat} {b : Option Addr} (P : Pt r h0 h q F L a) [Fc : FocC r off (rSl e s) get put] (hb : cell h (q.add off) = some (.slice b l c)) : SlR s h b l c (get a) := by
  obtain ⟨v, e1, b', l', c', e2, S⟩ := P.rd.cell Fc.f rfl
  obtain rfl : v = .slice b' l' c' := by simpa using e2
  rw [hb] at e1
  cases e1
  exact S
end
end Go.Sx
/- What several structs' contracts have in common: slices of floats made, pairs answered, lists changed place by place. -/
set_option linter.unusedVariables false
set_option linter.unusedSimpArgs false
namespace Go.Sx
open Go.Proofs
set_option maxRecDepth 100000

section
variable {h : Heap} {q : Addr}
theorem take_snoc {α : Type} [Inhabited α] {l : List α} {n : Nat} (h : n < l.length) : l.take (n + 1) = l.take n ++ [l[n]!] := by
  rw [List.take_succ_eq_append_getElem h, getElem!_pos l n h]
theorem zeros_fl (n : Nat) : ows (rF .f32) [] (List.replicate n (.float .f32 0)) (List.replicate n 0) := by
  induction n with
  | zero => exact ⟨rfl, rfl⟩
  | succ n ih => exact ⟨[], [], [.float .f32 0], List.replicate n (.float .f32 0), rfl, rfl, ⟨rfl, 0, rfl, fw0⟩, ih⟩
/-- A slice of zeros, made. -/
theorem make_floats {h0 : Heap} {L : List Blk} {n : Nat} {F : Nat → Heap → Prop} (M : Mem h0 h L) (hn : n ≤ 1048576)
    (H : ∀ g h', Ext h h' → Mem h0 h' ((g, T_float32, ⟨List.replicate n (.float .f32 0)⟩) :: L) → SlO T_float32 (rF .f32) [(g, T_float32, ⟨List.replicate n (.float .f32 0)⟩)] (some ⟨g, 0, none⟩) n n (List.replicate n 0) → F g h') : MKS ti_float32 T_float32 (n : Int) (n : Int) F h := by
  refine mks1 M rfl rfl (by show 4 * n ≤ 2 ^ 48; omega) (by omega) fun g h' x' M' => H g h' x' M' ?_
  have : n ≤ maxLen := by have : (1048576 : Nat) ≤ maxLen := by decide
                          omega
  exact ⟨by simp, List.replicate n (.float .f32 0), [_], [], rfl, ⟨by rw [List.length_replicate, show (rF .f32).sz = 1 from rfl, Nat.mul_one], .inr ⟨g, _, rfl, rfl, Nat.le_refl _, this, by rw [List.size_toArray, List.length_replicate, show (rF .f32).sz = 1 from rfl, Nat.mul_one], by
    rw [List.take_of_length_le]
    show (List.replicate n (Value.float .f32 0)).length ≤ n * 1
    simp⟩⟩, zeros_fl n⟩
end
/-- A pair of a value and a code, told by a call. -/
def PairR {α : Type} (r : Rep α) (h h' : Heap) (u : Value) (a : α) (code : Int) : Prop := ∃ cs B, u = .tuple ⟨[.agg cs, .int .i64 code]⟩ ∧ r.ow B cs.toList a ∧ Mem h h' B
/-- A list of which the first n elements have been made anew. -/
def mapI {α : Type} [Inhabited α] (f : Nat → α) (l : List α) (n : Nat) : List α := (List.range l.length).map fun i => if i < n then f i else l[i]!
section
variable {α : Type} [Inhabited α] {f : Nat → α} {l : List α} {n i : Nat}
theorem mapI_len : (mapI f l n).length = l.length := by simp [mapI]
theorem mapI_get? (hi : i < l.length) : (mapI f l n)[i]? = some (if i < n then f i else l[i]!) := by
  unfold mapI
  rw [List.getElem?_map, List.getElem?_range hi]; rfl
theorem mapI_get (hi : i < l.length) : (mapI f l n)[i]! = if i < n then f i else l[i]! := by
  rw [List.getElem!_eq_getElem?_getD, mapI_get? hi]; rfl
theorem mapI_ge (hi : i < l.length) (h : n ≤ i) : (mapI f l n)[i]! = l[i]! := by rw [mapI_get hi, if_neg (by omega)]
theorem mapI_lt (hi : i < l.length) (h : i < n) : (mapI f l n)[i]! = f i := by rw [mapI_get hi, if_pos h]
theorem mapI_zero : mapI f l 0 = l := by
  apply List.ext_getElem?
  intro i
  by_cases hi : i < l.length
  · rw [mapI_get? hi, if_neg (by omega), getElem!_pos l i hi, List.getElem?_eq_getElem hi]
  · rw [List.getElem?_eq_none (by rw [mapI_len]; omega), List.getElem?_eq_none (by omega)]
theorem mapI_all (h : l.length ≤ n) : mapI f l n = (List.range l.length).map f := by
  unfold mapI
  refine List.map_congr_left fun i hi => ?_
  rw [if_pos (by have := List.mem_range.1 hi; omega)]
theorem mapI_set (hn : n < l.length) : (mapI f l n).set n (f n) = mapI f l (n + 1) := by
  apply List.ext_getElem?
  intro i
  by_cases hi : i < l.length
  · rw [mapI_get? hi, List.getElem?_set]
    by_cases e : n = i
    · subst e
      rw [if_pos rfl, if_pos (by rw [mapI_len]; exact hn), if_pos (by omega)]
    · rw [if_neg e, mapI_get? hi]
      congr 1
      by_cases h : i < n
      · rw [if_pos h, if_pos (by omega)]
      · rw [if_neg h, if_neg (by omega)]
  · rw [List.getElem?_eq_none (by rw [List.length_set, mapI_len]; omega), List.getElem?_eq_none (by rw [mapI_len]; omega)]
end
theorem push_ok {r : GRing} {a : Nat} (h : r.ok = true) : (r.push a).ok = true ∧ (r.push a).len = r.len := by
  have k := at_lt h
  have e : (r.push a).len = r.len := by simp [GRing.push, GRing.len]
  refine ⟨?_, e⟩
  have hl : r.len = r.Samples.length := rfl
  have h1 : (r.push a).At = (r.At + 1) % r.len := rfl
  have h2 := Int.emod_nonneg (r.At + 1) (show r.len ≠ 0 by omega)
  have h3 := Int.emod_lt_of_pos (r.At + 1) (show 0 < r.len by omega)
  unfold GRing.ok inR
  rw [e, h1]
  simp only [Bool.and_eq_true, decide_eq_true_eq]
  omega
theorem mem_get {α : Type} [Inhabited α] {l : List α} {i : Nat} (h : i < l.length) : l[i]! ∈ l := by rw [getElem!_pos l i h]; exact List.getElem_mem h
/-- A slice answered, new. -/
theorem goS {α : Type} {e : Nat} {r : Rep α} {P : Program} {f : FuncId} {args : Array Value} {xs : List α} {hb h : Heap} {L : List Blk} {l : Nat} {K : Value → Heap → Prop} (M : Mem hb h L)
    (k : CALL P f args (fun u h' => ∃ b' c' B, u = .slice b' l c' ∧ SlO e r B b' l c' xs ∧ Mem h h' B) h) (H : ∀ h' b' c' B, Mem hb h' (B ++ L) → SlO e r B b' l c' xs → K (.slice b' l c') h') : CALL P f args K h :=
  k.mono fun u h' ⟨b', c', B, e, O, N⟩ => by subst e; exact H h' b' c' B (M.join N) O
end Go.Sx
/- Two more small functions over floats. -/
set_option linter.unusedVariables false
set_option linter.unusedSimpArgs false
namespace Go.Sx
open Go.Proofs Ieee
set_option maxRecDepth 100000
section
variable {x y a b : Nat}
def inside (a l r : Nat) : Bool := fge .f32 a l && fle .f32 a r
theorem inside_c {z c : Nat} (hx : FW .f32 x a) (hy : FW .f32 y b) (hz : FW .f32 z c) : Ret prg f_impl_inside #[.float .f32 x, .float .f32 y, .float .f32 z] (.bool (inside a b c)) := fun h => by
  refine impl_inside.call ?_
  rw [impl_inside.S, ord_eq hx hy, ord_eq hx hz]
  exact br (fun hb => ⟨by rw [inside, fge, hb]; rfl, Ext.refl _⟩) fun hb => ⟨by rw [inside, fge, hb]; rfl, Ext.refl _⟩
end
end Go.Sx
/- What pipes do, plain. -/
set_option linter.unusedVariables false
set_option linter.unusedSimpArgs false
namespace Go.Sx
def one32 : Nat := 1065353216
def neg32 : Nat := 3212836864
def GPipe.n (x : GPipe) : Nat := x.Right.length
def GPipe.d (x : GPipe) (b : Nat) : Nat := fsub .f32 x.Left[0]!.old b
def GPipe.t (x : GPipe) (i : Nat) : Nat := fmul .f32 x.Scatter[i]! (fsub .f32 x.Right[i]!.old x.Left[i + 1]!.old)
def GPipe.e (x : GPipe) : GFilter × Nat := x.End.step x.Right[x.n - 1]!.old
def GPipe.back (x : GPipe) : Nat := let b := fmul .f32 x.Loss x.e.2; if x.Open then fneg .f32 b else b
def GPipe.reed (x : GPipe) (d : Nat) : Nat := clamp (fadd .f32 x.Rest (fmul .f32 x.Slope d)) one32
def GPipe.rt (x : GPipe) (b : Nat) (i : Nat) : GRing := x.Right[i]!.push (kept (if i = 0 then fadd .f32 b (fmul .f32 (x.d b) (x.reed (x.d b))) else fadd .f32 x.Right[i - 1]!.old (x.t (i - 1))))
def GPipe.lf (x : GPipe) (i : Nat) : GRing := x.Left[i]!.push (kept (if i = x.n - 1 then x.back else fadd .f32 x.Left[i + 1]!.old (x.t i)))
/-- A step: the pipe behind it, and what comes out. -/
def GPipe.step (x : GPipe) (b : Nat) : GPipe × Nat := ({ x with Right := (List.range x.n).map (x.rt b), Left := (List.range x.n).map x.lf, End := x.e.1 }, x.e.2)
def GPipe.ok (x : GPipe) : Bool :=
  inR x.n 1 3 && decide (x.Left.length = x.n) && decide (x.Scatter.length + 1 = x.n) && x.Right.all GRing.okf && x.Left.all GRing.okf && ((List.range x.n).all fun i => x.Right[i]!.Samples.length == x.Left[i]!.Samples.length) &&
    (x.Scatter.all fun k => inside k neg32 one32) && x.End.ok && (x.End.Kind == 1) && fin x.Loss && fin x.Rest && fin x.Slope
def GPipe.play (x : GPipe) : List Nat → GPipe × List Nat
  | [] => (x, [])
  | a :: l => let y := x.step a; let r := y.1.play l; (r.1, y.2 :: r.2)
end Go.Sx
