/- What several structs' contracts have in common: slices of floats made, pairs answered, lists changed place by place. -/
import Derived.Test.YteahcankljndlaaGreatDoorLk4
import Derived.Test.YteahcankljndlaaGreatDoorLp4
set_option linter.unusedVariables false
set_option linter.unusedSimpArgs false
namespace Go.Sx
open Go.Proofs
set_option maxRecDepth 100000

section
variable {h : Heap} {q : Addr}
theorem take_snoc {α : Type} [Inhabited α] {l : List α} {n : Nat} (h : n < l.length) : l.take (n + 1) = l.take n ++ [l[n]!] := by
  rw [List.take_succ_eq_append_getElem h, getElem!_pos l n h]
theorem zeros_fl (n : Nat) : ows (rF .f32) [] (List.replicate n (.float .f32 0)) (List.replicate n 0) := by
  induction n with
  | zero => exact ⟨rfl, rfl⟩
  | succ n ih => exact ⟨[], [], [.float .f32 0], List.replicate n (.float .f32 0), rfl, rfl, ⟨rfl, 0, rfl, fw0⟩, ih⟩
/-- A slice of zeros, made. -/
theorem make_floats {h0 : Heap} {L : List Blk} {n : Nat} {F : Nat → Heap → Prop} (M : Mem h0 h L) (hn : n ≤ 1048576)
    (H : ∀ g h', Ext h h' → Mem h0 h' ((g, T_float32, ⟨List.replicate n (.float .f32 0)⟩) :: L) → SlO T_float32 (rF .f32) [(g, T_float32, ⟨List.replicate n (.float .f32 0)⟩)] (some ⟨g, 0, none⟩) n n (List.replicate n 0) → F g h') : MKS ti_float32 T_float32 (n : Int) (n : Int) F h := by
  refine mks1 M rfl rfl (by show 4 * n ≤ 2 ^ 48; omega) (by omega) fun g h' x' M' => H g h' x' M' ?_
  have : n ≤ maxLen := by
    have : (1048576 : Nat) ≤ maxLen := by decide
    omega
  exact ⟨by simp, List.replicate n (.float .f32 0), [_], [], rfl, ⟨by rw [List.length_replicate, show (rF .f32).sz = 1 from rfl, Nat.mul_one], .inr ⟨g, _, rfl, rfl, Nat.le_refl _, this, by rw [List.size_toArray, List.length_replicate, show (rF .f32).sz = 1 from rfl, Nat.mul_one], by
    rw [List.take_of_length_le]
    show (List.replicate n (Value.float .f32 0)).length ≤ n * 1
    simp⟩⟩, zeros_fl n⟩
end
/-- A pair of a value and a code, told by a call. -/
def PairR {α : Type} (r : Rep α) (h h' : Heap) (u : Value) (a : α) (code : Int) : Prop := ∃ cs B, u = .tuple ⟨[.agg cs, .int .i64 code]⟩ ∧ r.ow B cs.toList a ∧ Mem h h' B
section
variable {α β : Type} {r : Rep α} {h0 h : Heap} {q : Addr} {F : Fr} {L : List Blk} {a : α} {off : Nat}
theorem Pt.sts0 {p : Rep β} {get : α → β} {put : α → β → α} {b : β} {n : Nat} {vs : Array Value} {B' : List Blk} {K : Heap → Prop} (P : Pt r h0 h q F (B' ++ L) a) (Fc : Foc r p 0 get put) (hp : p.sz = n) (O : p.ow B' vs.toList b)
    (H : ∀ h', Pt r h0 h' q F L (put a b) → K h') : STA n h q vs K := by
  have := P.sts Fc hp O H
  rwa [add0] at this
end
theorem is2 {α : Type} {l : List α} (h : l.length = 2) : ∃ a b, l = [a, b] := by
  match l, h with
  | [a, b], _ => exact ⟨a, b, rfl⟩
/-- A list of which the first n elements have been made anew. -/
def mapI {α : Type} [Inhabited α] (f : Nat → α) (l : List α) (n : Nat) : List α := (List.range l.length).map fun i => if i < n then f i else l[i]!
section
variable {α : Type} [Inhabited α] {f : Nat → α} {l : List α} {n i : Nat}
theorem mapI_len : (mapI f l n).length = l.length := by simp [mapI]
theorem mapI_get? (hi : i < l.length) : (mapI f l n)[i]? = some (if i < n then f i else l[i]!) := by
  unfold mapI
  rw [List.getElem?_map, List.getElem?_range hi]; rfl
theorem mapI_zero : mapI f l 0 = l := by
  apply List.ext_getElem?
  intro i
  by_cases hi : i < l.length
  · rw [mapI_get? hi, if_neg (by omega), getElem!_pos l i hi, List.getElem?_eq_getElem hi]
  · rw [List.getElem?_eq_none (by rw [mapI_len]; omega), List.getElem?_eq_none (by omega)]
theorem mapI_all (h : l.length ≤ n) : mapI f l n = (List.range l.length).map f := by
  unfold mapI
  refine List.map_congr_left fun i hi => ?_
  rw [if_pos (by have := List.mem_range.1 hi; omega)]
theorem mapI_set (hn : n < l.length) : (mapI f l n).set n (f n) = mapI f l (n + 1) := by
  apply List.ext_getElem?
  intro i
  by_cases hi : i < l.length
  · rw [mapI_get? hi, List.getElem?_set]
    by_cases e : n = i
    · subst e
      rw [if_pos rfl, if_pos (by rw [mapI_len]; exact hn), if_pos (by omega)]
    · rw [if_neg e, mapI_get? hi]
      congr 1
      by_cases h : i < n
      · rw [if_pos h, if_pos (by omega)]
      · rw [if_neg h, if_neg (by omega)]
  · rw [List.getElem?_eq_none (by rw [List.length_set, mapI_len]; omega), List.getElem?_eq_none (by rw [mapI_len]; omega)]
end
theorem push_ok {r : GRing} {a : Nat} (h : r.ok = true) : (r.push a).ok = true ∧ (r.push a).len = r.len := by
  have k := at_lt h
  have e : (r.push a).len = r.len := by simp [GRing.push, GRing.len]
  refine ⟨?_, e⟩
  have hl : r.len = r.Samples.length := rfl
  have h1 : (r.push a).At = (r.At + 1) % r.len := rfl
  have h2 := Int.emod_nonneg (r.At + 1) (show r.len ≠ 0 by omega)
  have h3 := Int.emod_lt_of_pos (r.At + 1) (show 0 < r.len by omega)
  unfold GRing.ok inR
  rw [e, h1]
  simp only [Bool.and_eq_true, decide_eq_true_eq]
  omega
theorem mem_get {α : Type} [Inhabited α] {l : List α} {i : Nat} (h : i < l.length) : l[i]! ∈ l := by rw [getElem!_pos l i h]; exact List.getElem_mem h
end Go.Sx
/- Rooms copied by the program; silent rings. -/
set_option linter.unusedVariables false
set_option linter.unusedSimpArgs false
namespace Go.Sx
open Go.Proofs
set_option maxRecDepth 100000

section
variable {h : Heap} {q : Addr}
theorem l05Muted_c {r : GRing} (R : RdP rRing h q r) (hl : r.Samples.length ≤ 1048576) : CALL prg f_spec_l05Muted #[.pointer (some q)] (fun u h' => NewR rRing h h' u r.mute) h := by
  refine spec_l05Muted.call ((Mem.start h).alc fun g1 h1 x1 M => ?_)
  have R1 := R.ext x1
  refine R1.oL1 fun b l c S => R1.oI ?_
  have hls := S.len
  refine make_floats M (by omega) fun g2 h2 x2 M O => R1.pinO (by decide) x2 ?_
  have M := M.perm (.swap _ _ _)
  refine M.sta0 .here rfl (all_one rfl) rfl .here fun h3 M => M.lda0 .here rfl ?_
  refine ⟨_, _, rfl, ow_ring (r := r.mute) (l := l) (c := l) ?_, M.drop⟩
  unfold GRing.mute
  rw [hls]
  exact O
end
end Go.Sx
/- Rooms that run: what a step asks for, and that it leaves it so; lists changed place by place. -/
set_option linter.unusedVariables false
set_option linter.unusedSimpArgs false
namespace Go.Sx
open Go.Proofs
/-- What a step of a room asks for. -/
structure GRoom.Runs (x : GRoom) : Prop where
  e : x.Early.ok = true
  t : ∀ t ∈ x.Taps, inR t.Back 1 x.Early.len = true
  c : ∀ c ∈ x.Combs, c.Ring.ok = true
  l : ∀ r ∈ x.Loops, r.ok = true
  c2 : x.Combs.length = 2
  l4 : x.Loops.length = 4
  d4 : x.Damps.length = 4
  g4 : x.Gains.length = 4
end Go.Sx
/- Rings that fall silent: the newest samples, how many of them are zero. -/
set_option linter.unusedVariables false
set_option linter.unusedSimpArgs false
namespace Go.Sx
open Go.Proofs
def isZ (a : Nat) : Bool := feq .f32 a 0
/-- The samples of a ring, the newest first. -/
def GRing.recent (r : GRing) : List Nat := (List.range r.Samples.length).map fun i : Nat => r.back ((i : Int) + 1)
/-- How many of the newest samples are zero. -/
def runL : List Nat → Nat
  | [] => 0
  | a :: l => if isZ a then runL l + 1 else 0
def GRing.quiet (r : GRing) : Nat := runL r.recent
theorem runL_le : ∀ l : List Nat, runL l ≤ l.length
  | [] => Nat.le_refl _
  | a :: l => by
    have := runL_le l
    unfold runL
    split
    · simp only [List.length_cons]; omega
    · simp
theorem runL_all : ∀ l : List Nat, (runL l = l.length) ↔ ∀ a ∈ l, isZ a = true
  | [] => by simp [runL]
  | a :: l => by
    have ih := runL_all l
    have hle := runL_le l
    unfold runL
    constructor
    · intro h
      split at h
      · next hz =>
        intro b hb
        rcases List.mem_cons.1 hb with rfl | hb
        · exact hz
        · exact ih.1 (by simp only [List.length_cons] at h; omega) b hb
      · simp at h
    · intro h
      rw [if_pos (h a (List.mem_cons_self ..)), ih.2 fun b hb => h b (List.mem_cons_of_mem _ hb)]
      rfl
theorem recent_len (r : GRing) : r.recent.length = r.Samples.length := by simp [GRing.recent]
/-- The place of the sample that came k samples ago. -/
theorem back_place {r : GRing} (h : r.ok = true) {i : Nat} (hi : i < r.Samples.length) : r.back ((i : Int) + 1) = r.Samples[(if i < r.At.toNat then r.At.toNat - 1 - i else r.At.toNat + r.Samples.length - 1 - i)]! := by
  obtain ⟨k1, k2, k3, k4, k5⟩ := at_lt h
  unfold GRing.back
  have hl : r.len = r.Samples.length := rfl
  congr 1
  rw [hl]
  split
  · next hlt =>
    rw [show r.At - ((i : Int) + 1) + (r.Samples.length : Int) = (r.At - 1 - i) + r.Samples.length by omega, Int.add_emod_right, Int.emod_eq_of_lt (by omega) (by omega)]
    omega
  · next hge =>
    rw [Int.emod_eq_of_lt (by omega) (by omega)]
    omega
theorem recent_mem {r : GRing} (h : r.ok = true) (a : Nat) : a ∈ r.recent ↔ a ∈ r.Samples := by
  obtain ⟨k1, k2, k3, k4, k5⟩ := at_lt h
  unfold GRing.recent
  simp only [List.mem_map, List.mem_range]
  constructor
  · rintro ⟨i, hi, rfl⟩
    rw [back_place h hi]
    refine mem_get ?_
    split <;> omega
  · intro ha
    obtain ⟨j, hj, rfl⟩ := List.mem_iff_getElem.1 ha
    by_cases hlt : j < r.At.toNat
    · refine ⟨r.At.toNat - 1 - j, by omega, ?_⟩
      rw [back_place h (by omega), if_pos (by omega), show r.At.toNat - 1 - (r.At.toNat - 1 - j) = j by omega, getElem!_pos _ j hj]
    · refine ⟨r.At.toNat + r.Samples.length - 1 - j, by omega, ?_⟩
      rw [back_place h (by omega), if_neg (by omega), show r.At.toNat + r.Samples.length - 1 - (r.At.toNat + r.Samples.length - 1 - j) = j by omega, getElem!_pos _ j hj]
theorem quiet_zero {r : GRing} (h : r.ok = true) : (r.quiet = r.Samples.length) ↔ r.zero = true := by
  unfold GRing.quiet GRing.zero
  rw [← recent_len r, runL_all, List.all_eq_true]
  exact ⟨fun H a ha => H a ((recent_mem h a).2 ha), fun H a ha => H a ((recent_mem h a).1 ha)⟩
end Go.Sx
/- Floats in blocks beside own data; blocks made sample by sample. -/
set_option linter.unusedVariables false
set_option linter.unusedSimpArgs false
namespace Go.Sx
open Go.Proofs
set_option maxRecDepth 100000
set_option maxHeartbeats 1000000

section
variable {h0 h : Heap} {q : Addr} {F : Fr} {L : List Blk} {x a : Nat}
/-- A cell of a block beside own data written. -/
theorem Pt.blk1 {α : Type} {r : Rep α} {d : α} {g T j : Nat} {cs : Array Value} {v : Value} {L' : List Blk} {K : Heap → Prop} (P : Pt r h0 h q F L d) (l : Look L g cs) (hj : j < cs.size) (k : Pick L g T cs L')
    (H : ∀ h', Pt r h0 h' q F ((g, T, cs.setIfInBounds j v) :: L') d → K h') : ST1 h ⟨g, j, none⟩ v K := by
  obtain ⟨e, mid, B, M, O⟩ := P
  have N := M.pick (.there (Pick.skip k))
  exact N.st1 .here hj .here fun h' M' => H h' ⟨e, mid, B, M'.cnt fun p => by simp only [cnt_app, cnt_cons, cnt_nil]; omega, O⟩
/-- A float put into a list of floats. -/
theorem rds_set {k : FloatKind} {y b : Nat} (hy : FW k y b) : ∀ {xs : List Nat} {vs : List Value} {i : Nat}, rds (rF k) h vs xs → rds (rF k) h (vs.set i (.float k y)) (xs.set i b)
  | [], vs, i, R => by
    obtain rfl : vs = [] := R
    simp [rds]
  | a :: xs, vs, i, R => by
    obtain ⟨v1, v2, rfl, ⟨z, rfl, hz⟩, R2⟩ := R
    cases i with
    | zero => exact ⟨[.float k y], v2, rfl, ⟨y, rfl, hy⟩, R2⟩
    | succ i => exact ⟨[.float k z], v2.set i (.float k y), rfl, ⟨z, rfl, hz⟩, rds_set hy R2⟩
theorem arr_set {k : FloatKind} {y b n i : Nat} {cs : Array Value} {xs : List Nat} (hy : FW k y b) (R : (rArr n (rF k)).rd h cs.toList xs) : (rArr n (rF k)).rd h (cs.setIfInBounds i (.float k y)).toList (xs.set i b) :=
  ⟨by rw [List.length_set]; exact R.1, by rw [Array.toList_setIfInBounds]; exact rds_set hy R.2⟩
end
theorem rdsF_any {k : FloatKind} {h h' : Heap} : ∀ {xs : List Nat} {vs : List Value}, rds (rF k) h vs xs → rds (rF k) h' vs xs
  | [], vs, R => R
  | a :: xs, vs, R => by
    obtain ⟨v1, v2, rfl, R1, R2⟩ := R
    exact ⟨v1, v2, rfl, R1, rdsF_any R2⟩
/-- n floats, wherever they lie. -/
def FA (n : Nat) (cs : Array Value) (xs : List Nat) : Prop := (rArr n (rF .f32)).rd #[] cs.toList xs
section
variable {n : Nat} {cs : Array Value} {xs : List Nat}
theorem FA.rd (R : FA n cs xs) (h : Heap) : (rArr n (rF .f32)).rd h cs.toList xs := ⟨R.1, rdsF_any R.2⟩
theorem FA.of {h : Heap} (R : (rArr n (rF .f32)).rd h cs.toList xs) : FA n cs xs := ⟨R.1, rdsF_any R.2⟩
theorem FA.size (R : FA n cs xs) : cs.size = n := by have := rsz R rfl; rw [this]; exact Nat.mul_one n
theorem FA.one (R : FA n cs xs) : ∀ v ∈ cs.toList, v.oneCell' = true := (rArr n (rF .f32)).rone R
end
def zeros16 : List Nat := List.replicate 16 0
theorem FA.zero : FA 16 ⟨Z_impl_Block⟩ zeros16 := ⟨rfl, rdsF_any (h := #[]) ((zeros_fl 16).look (Mem.start #[]) (List.Sublist.refl _))⟩
section
variable {h0 h : Heap} {q : Addr} {F : Fr} {L : List Blk} {n : Nat}
theorem Pt.blkA {α : Type} {r : Rep α} {d : α} {g T i y b : Nat} {cs : Array Value} {xs : List Nat} {L' : List Blk} {K : Heap → Prop} (P : Pt r h0 h q F L d) (l : Look L g cs) (k : Pick L g T cs L') (R : FA n cs xs) (hi : i < n) (hy : FW .f32 y b)
    (H : ∀ h' cs', FA n cs' (xs.set i b) → Pt r h0 h' q F ((g, T, cs') :: L') d → K h') : ST1 h ((⟨g, 0, none⟩ : Addr).add (i * 1)) (.float .f32 y) K := by
  rw [add_none, Nat.zero_add]
  refine P.blk1 l (by rw [R.size]; omega) k fun h' P' => H h' _ ?_ P'
  rw [Nat.mul_one]
  exact arr_set hy R
theorem Look.oA {g i : Nat} {cs : Array Value} {xs : List Nat} {K : Nat → Prop} (l : Look L g cs) (M : Mem h0 h L) (R : FA n cs xs) (hi : i < n) (H : ∀ y, FW .f32 y xs[i]! → K y) : Sx.oF .f32 (cell h ((⟨g, 0, none⟩ : Addr).add (i * 1))) K :=
  ((M.rdp l (R.rd h)).elem (i := i) hi).oF1 H
theorem Mem.pin2 {h0' h' : Heap} {L' : List Blk} {g m : Nat} {cs : Array Value} {p : Prop} (M : Mem h0 h L) (l : Look L g cs) (M' : Mem h0' h' L') (l' : Look L' g cs) (H : p) : PIN h ⟨g, 0, none⟩ m h' p :=
  ⟨fun j _ => by rw [add_g, M.cell l, M'.cell l'], H⟩
end
theorem mapI16 {n : Nat} (f : Nat → Nat) (h : n < 16) : (mapI f zeros16 n).set n (f n) = mapI f zeros16 (n + 1) := mapI_set h
section
variable {h0 h : Heap} {q : Addr} {F : Fr} {L : List Blk} {n : Nat}
theorem Pt.blkW {α : Type} {r : Rep α} {d : α} {g T : Nat} {cs vs : Array Value} {L' : List Blk} {K : Heap → Prop} (P : Pt r h0 h q F L d) (k : Pick L g T cs L') (hn : cs.size = n) (hv : vs.size = n) (ho : ∀ v ∈ vs.toList, v.oneCell' = true)
    (H : ∀ h', Pt r h0 h' q F ((g, T, vs) :: L') d → K h') : STA n h ⟨g, 0, none⟩ vs K := by
  obtain ⟨e, mid, B, M, O⟩ := P
  have N := M.pick (.there (Pick.skip k))
  exact N.sta0 .here hv ho hn .here fun h' M' => H h' ⟨e, mid, B, M'.cnt fun p => by simp only [cnt_app, cnt_cons, cnt_nil]; omega, O⟩
/-- A block made sample by sample, by a function that moves own data on. -/
theorem made_c {α : Type} {r : Rep α} {X : Nat → α} {f : Nat → Nat} {of : Value} (P : Pt r h0 h q F L (X 0))
    (C : ∀ (n : Nat) (hh : Heap) (W : List Blk), n < 16 → Pt r h0 hh q F (W ++ L) (X n) → CALLD prg of #[.int .i64 (n : Int)] (fun u h' => (∃ y, u = .float .f32 y ∧ FW .f32 y (f n)) ∧ Pt r h0 h' q F (W ++ L) (X (n + 1))) hh) :
    CALL prg f_impl_made #[of] (fun u h' => ∃ cb, u = .agg cb ∧ FA 16 cb (mapI f zeros16 16) ∧ Pt r h0 h' q F L (X 16)) h := by
  refine impl_made.call ((Mem.start h).alc fun g1 h1 x1 N => N.alc fun g2 h2 x2 N => ?_)
  have P : Pt r h0 h2 q F ((g2, T_impl_Block, ⟨Z_impl_Block⟩) :: (g1, T_impl_Block, ⟨Z_impl_Block⟩) :: L) (X 0) := P.join N
  refine loop (fun y hh => ∃ (n : Nat) (co : Array Value), y = (of, ⟨g1, 0, none⟩, ⟨g2, 0, none⟩, (n : Int)) ∧ n ≤ 16 ∧ FA 16 co (mapI f zeros16 n) ∧ Pt r h0 hh q F ((g2, T_impl_Block, co) :: (g1, T_impl_Block, ⟨Z_impl_Block⟩) :: L) (X n))
    (fun y => (16 - y.2.2.2).toNat) ⟨0, _, rfl, by omega, by rw [mapI_zero]; exact FA.zero, P⟩ ?_
  rintro y hh ⟨n, co, rfl, hn, Fo, P⟩
  refine brd (fun hc => ?_) fun hc => ?_
  · refine (C n hh [(g2, T_impl_Block, co), (g1, T_impl_Block, ⟨Z_impl_Block⟩)] (by omega) P).mono ?_
    rintro _ h8 ⟨⟨y, rfl, hy⟩, P⟩
    refine as_f (idx (by omega) (by omega) (Pt.blkA P .here .here Fo (i := n) (by omega) hy fun h9 co' Fo' P => ⟨⟨n + 1, co', by rw [wrap64_succ (by omega)], by omega, ?_, P⟩, by rw [wrap64_succ (by omega)]; show _ < _; simp; omega⟩))
    rw [← mapI16 f (by omega)]; exact Fo'
  obtain rfl : n = 16 := by omega
  refine P.mem.lda0 .here Fo.size (P.blkW (.there .here) rfl Fo.size Fo.one fun h3 P => P.mem.lda0 .here Fo.size ?_)
  exact ⟨co, rfl, Fo, P.sub (.cons _ (.cons _ (List.Sublist.refl _)))⟩
end
end Go.Sx
