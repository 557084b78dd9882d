/- How Comb, Tap, Room lie in cells; their parts; given ones opened. -/
import Derived.Test.YtgbjfohgmpmjoaaGreatDoorLg
import Derived.Test.YtgbjfohgmpmjoaaGreatDoorLp4
import Derived.Test.YtgbjfohgmpmjoaaGreatDoorLp7
import Derived.Test.YtgbjfohgmpmjoaaGreatDoorTabE
import Derived.Test.YtgbjfohgmpmjoaaGreatDoorLk1
import Derived.Test.YtgbjfohgmpmjoaaGreatDoorTab
set_option linter.unusedVariables false
set_option linter.unusedSimpArgs false
namespace Go.Sx
open Go.Proofs
def rComb : Rep GComb := (Rep.seq rRing ((rF .f32))).via fun a => (a.Ring, a.Gain)
theorem foc_Comb_Ring : Foc rComb rRing 0 (fun a => a.Ring) (fun a b => { a with Ring := b }) := (Foc.via (f := fun a : GComb => (a.Ring, a.Gain)) (get' := fun a => a.Ring) (put' := fun a b => { a with Ring := b }) (Foc.fst (Foc.here rRing)) (fun _ => rfl) (fun _ _ => rfl)).at rfl
theorem foc_Comb_Gain : Foc rComb (rF .f32) 2 (fun a => a.Gain) (fun a b => { a with Gain := b }) := (Foc.via (f := fun a : GComb => (a.Ring, a.Gain)) (get' := fun a => a.Gain) (put' := fun a b => { a with Gain := b }) (Foc.snd (Foc.here (rF .f32))) (fun _ => rfl) (fun _ _ => rfl)).at rfl
instance lf_Comb_0 : FocC rComb 0 (rSl T_float32 (rF .f32)) (fun a => a.Ring.Samples) (fun a b => { a with Ring := { a.Ring with Samples := b } }) := ⟨Foc.at (foc_Comb_Ring.trans lf_Ring_0.f) rfl⟩
instance lf_Comb_1 : FocC rComb 1 (rI .i64) (fun a => a.Ring.At) (fun a b => { a with Ring := { a.Ring with At := b } }) := ⟨Foc.at (foc_Comb_Ring.trans lf_Ring_1.f) rfl⟩
instance lf_Comb_2 : FocC rComb 2 (rF .f32) (fun a => a.Gain) (fun a b => { a with Gain := b }) := ⟨Foc.at foc_Comb_Gain rfl⟩
end Go.Sx
/- Rooms: valid ones, as both programs tell them. -/
set_option linter.unusedVariables false
set_option linter.unusedSimpArgs false
namespace Go.Sx
open Go.Proofs
set_option maxRecDepth 100000

section
variable {h : Heap} {q : Addr}
/-- What a room is, told as the programs ask. -/
theorem room_ok (x : GRoom) : x.ok = (x.Early.okf && decide (x.Taps.length ≤ 6) && x.Combs.all GComb.ok && x.Loops.all GRing.okf && (x.Damps.all fun f => f.ok && f.Kind == 1) && (x.Taps.all fun t => t.ok x.Early.len) && allFin x.Gains && fin x.Dry && fin x.Wet) := rfl
end
end Go.Sx
/- Rooms copied. -/
set_option linter.unusedVariables false
set_option linter.unusedSimpArgs false
namespace Go.Sx
open Go.Proofs
set_option maxRecDepth 100000

/-- All rings of a room are of a size that can be copied. -/
def GRoom.small (x : GRoom) : Prop := x.Early.Samples.length ≤ 1048576 ∧ x.Taps.length ≤ 1048576 ∧ (∀ c ∈ x.Combs, c.Ring.Samples.length ≤ 1048576) ∧ ∀ r ∈ x.Loops, r.Samples.length ≤ 1048576
end Go.Sx
/- What several structs' contracts have in common: slices of floats made, pairs answered, lists changed place by place. -/
set_option linter.unusedVariables false
set_option linter.unusedSimpArgs false
namespace Go.Sx
open Go.Proofs
set_option maxRecDepth 100000

section
variable {h : Heap} {q : Addr}
theorem take_snoc {α : Type} [Inhabited α] {l : List α} {n : Nat} (h : n < l.length) : l.take (n + 1) = l.take n ++ [l[n]!] := by
  rw [List.take_succ_eq_append_getElem h, getElem!_pos l n h]
theorem zeros_fl (n : Nat) : ows (rF .f32) [] (List.replicate n (.float .f32 0)) (List.replicate n 0) := by
  induction n with
  | zero => exact ⟨rfl, rfl⟩
  | succ n ih => exact ⟨[], [], [.float .f32 0], List.replicate n (.float .f32 0), rfl, rfl, ⟨rfl, 0, rfl, fw0⟩, ih⟩
end
/-- A pair of a value and a code, told by a call. -/
def PairR {α : Type} (r : Rep α) (h h' : Heap) (u : Value) (a : α) (code : Int) : Prop := ∃ cs B, u = .tuple ⟨[.agg cs, .int .i64 code]⟩ ∧ r.ow B cs.toList a ∧ Mem h h' B
theorem is2 {α : Type} {l : List α} (h : l.length = 2) : ∃ a b, l = [a, b] := by
  match l, h with
  | [a, b], _ => exact ⟨a, b, rfl⟩
/-- A list of which the first n elements have been made anew. -/
def mapI {α : Type} [Inhabited α] (f : Nat → α) (l : List α) (n : Nat) : List α := (List.range l.length).map fun i => if i < n then f i else l[i]!
section
variable {α : Type} [Inhabited α] {f : Nat → α} {l : List α} {n i : Nat}
theorem mapI_len : (mapI f l n).length = l.length := by simp [mapI]
theorem mapI_get? (hi : i < l.length) : (mapI f l n)[i]? = some (if i < n then f i else l[i]!) := by
  unfold mapI
  rw [List.getElem?_map, List.getElem?_range hi]; rfl
theorem mapI_zero : mapI f l 0 = l := by
  apply List.ext_getElem?
  intro i
  by_cases hi : i < l.length
  · rw [mapI_get? hi, if_neg (by omega), getElem!_pos l i hi, List.getElem?_eq_getElem hi]
  · rw [List.getElem?_eq_none (by rw [mapI_len]; omega), List.getElem?_eq_none (by omega)]
theorem mapI_all (h : l.length ≤ n) : mapI f l n = (List.range l.length).map f := by
  unfold mapI
  refine List.map_congr_left fun i hi => ?_
  rw [if_pos (by have := List.mem_range.1 hi; omega)]
theorem mapI_set (hn : n < l.length) : (mapI f l n).set n (f n) = mapI f l (n + 1) := by
  apply List.ext_getElem?
  intro i
  by_cases hi : i < l.length
  · rw [mapI_get? hi, List.getElem?_set]
    by_cases e : n = i
    · subst e
      rw [if_pos rfl, if_pos (by rw [mapI_len]; exact hn), if_pos (by omega)]
    · rw [if_neg e, mapI_get? hi]
      congr 1
      by_cases h : i < n
      · rw [if_pos h, if_pos (by omega)]
      · rw [if_neg h, if_neg (by omega)]
  · rw [List.getElem?_eq_none (by rw [List.length_set, mapI_len]; omega), List.getElem?_eq_none (by rw [mapI_len]; omega)]
end
theorem mem_get {α : Type} [Inhabited α] {l : List α} {i : Nat} (h : i < l.length) : l[i]! ∈ l := by rw [getElem!_pos l i h]; exact List.getElem_mem h
end Go.Sx
/- Rooms that run: what a step asks for, and that it leaves it so; lists changed place by place. -/
set_option linter.unusedVariables false
set_option linter.unusedSimpArgs false
namespace Go.Sx
open Go.Proofs
/-- What a step of a room asks for. -/
structure GRoom.Runs (x : GRoom) : Prop where
  e : x.Early.ok = true
  t : ∀ t ∈ x.Taps, inR t.Back 1 x.Early.len = true
  c : ∀ c ∈ x.Combs, c.Ring.ok = true
  l : ∀ r ∈ x.Loops, r.ok = true
  c2 : x.Combs.length = 2
  l4 : x.Loops.length = 4
  d4 : x.Damps.length = 4
  g4 : x.Gains.length = 4
end Go.Sx
/- Rings that fall silent: the newest samples, how many of them are zero. -/
set_option linter.unusedVariables false
set_option linter.unusedSimpArgs false
namespace Go.Sx
open Go.Proofs
def isZ (a : Nat) : Bool := feq .f32 a 0
/-- The samples of a ring, the newest first. -/
def GRing.recent (r : GRing) : List Nat := (List.range r.Samples.length).map fun i : Nat => r.back ((i : Int) + 1)
/-- How many of the newest samples are zero. -/
def runL : List Nat → Nat
  | [] => 0
  | a :: l => if isZ a then runL l + 1 else 0
def GRing.quiet (r : GRing) : Nat := runL r.recent
end Go.Sx
/- Floats in blocks beside own data; blocks made sample by sample. -/
set_option linter.unusedVariables false
set_option linter.unusedSimpArgs false
namespace Go.Sx
open Go.Proofs
set_option maxRecDepth 100000
set_option maxHeartbeats 1000000

section
variable {h0 h : Heap} {q : Addr} {F : Fr} {L : List Blk} {x a : Nat}
/-- A cell of a block beside own data written. -/
theorem Pt.blk1 {α : Type} {r : Rep α} {d : α} {g T j : Nat} {cs : Array Value} {v : Value} {L' : List Blk} {K : Heap → Prop} (P : Pt r h0 h q F L d) (l : Look L g cs) (hj : j < cs.size) (k : Pick L g T cs L')
    (H : ∀ h', Pt r h0 h' q F ((g, T, cs.setIfInBounds j v) :: L') d → K h') : ST1 h ⟨g, j, none⟩ v K := by
  obtain ⟨e, mid, B, M, O⟩ := P
  have N := M.pick (.there (Pick.skip k))
  exact N.st1 .here hj .here fun h' M' => H h' ⟨e, mid, B, M'.cnt fun p => by simp only [cnt_app, cnt_cons, cnt_nil]; omega, O⟩
/-- A float put into a list of floats. -/
theorem rds_set {k : FloatKind} {y b : Nat} (hy : FW k y b) : ∀ {xs : List Nat} {vs : List Value} {i : Nat}, rds (rF k) h vs xs → rds (rF k) h (vs.set i (.float k y)) (xs.set i b)
  | [], vs, i, R => by
    obtain rfl : vs = [] := R
    simp [rds]
  | a :: xs, vs, i, R => by
    obtain ⟨v1, v2, rfl, ⟨z, rfl, hz⟩, R2⟩ := R
    cases i with
    | zero => exact ⟨[.float k y], v2, rfl, ⟨y, rfl, hy⟩, R2⟩
    | succ i => exact ⟨[.float k z], v2.set i (.float k y), rfl, ⟨z, rfl, hz⟩, rds_set hy R2⟩
theorem arr_set {k : FloatKind} {y b n i : Nat} {cs : Array Value} {xs : List Nat} (hy : FW k y b) (R : (rArr n (rF k)).rd h cs.toList xs) : (rArr n (rF k)).rd h (cs.setIfInBounds i (.float k y)).toList (xs.set i b) :=
  ⟨by rw [List.length_set]; exact R.1, by rw [Array.toList_setIfInBounds]; exact rds_set hy R.2⟩
end
theorem rdsF_any {k : FloatKind} {h h' : Heap} : ∀ {xs : List Nat} {vs : List Value}, rds (rF k) h vs xs → rds (rF k) h' vs xs
  | [], vs, R => R
  | a :: xs, vs, R => by
    obtain ⟨v1, v2, rfl, R1, R2⟩ := R
    exact ⟨v1, v2, rfl, R1, rdsF_any R2⟩
/-- n floats, wherever they lie. -/
def FA (n : Nat) (cs : Array Value) (xs : List Nat) : Prop := (rArr n (rF .f32)).rd #[] cs.toList xs
section
variable {n : Nat} {cs : Array Value} {xs : List Nat}
theorem FA.rd (R : FA n cs xs) (h : Heap) : (rArr n (rF .f32)).rd h cs.toList xs := ⟨R.1, rdsF_any R.2⟩
theorem FA.of {h : Heap} (R : (rArr n (rF .f32)).rd h cs.toList xs) : FA n cs xs := ⟨R.1, rdsF_any R.2⟩
theorem FA.size (R : FA n cs xs) : cs.size = n := by have := rsz R rfl; rw [this]; exact Nat.mul_one n
theorem FA.one (R : FA n cs xs) : ∀ v ∈ cs.toList, v.oneCell' = true := (rArr n (rF .f32)).rone R
end
def zeros16 : List Nat := List.replicate 16 0
theorem FA.zero : FA 16 ⟨Z_impl_Block⟩ zeros16 := ⟨rfl, rdsF_any (h := #[]) ((zeros_fl 16).look (Mem.start #[]) (List.Sublist.refl _))⟩
section
variable {h0 h : Heap} {q : Addr} {F : Fr} {L : List Blk} {n : Nat}
theorem Pt.blkA {α : Type} {r : Rep α} {d : α} {g T i y b : Nat} {cs : Array Value} {xs : List Nat} {L' : List Blk} {K : Heap → Prop} (P : Pt r h0 h q F L d) (l : Look L g cs) (k : Pick L g T cs L') (R : FA n cs xs) (hi : i < n) (hy : FW .f32 y b)
    (H : ∀ h' cs', FA n cs' (xs.set i b) → Pt r h0 h' q F ((g, T, cs') :: L') d → K h') : ST1 h ((⟨g, 0, none⟩ : Addr).add (i * 1)) (.float .f32 y) K := by
  rw [add_none, Nat.zero_add]
  refine P.blk1 l (by rw [R.size]; omega) k fun h' P' => H h' _ ?_ P'
  rw [Nat.mul_one]
  exact arr_set hy R
theorem Look.oA {g i : Nat} {cs : Array Value} {xs : List Nat} {K : Nat → Prop} (l : Look L g cs) (M : Mem h0 h L) (R : FA n cs xs) (hi : i < n) (H : ∀ y, FW .f32 y xs[i]! → K y) : Sx.oF .f32 (cell h ((⟨g, 0, none⟩ : Addr).add (i * 1))) K :=
  ((M.rdp l (R.rd h)).elem (i := i) hi).oF1 H
theorem Mem.pin2 {h0' h' : Heap} {L' : List Blk} {g m : Nat} {cs : Array Value} {p : Prop} (M : Mem h0 h L) (l : Look L g cs) (M' : Mem h0' h' L') (l' : Look L' g cs) (H : p) : PIN h ⟨g, 0, none⟩ m h' p :=
  ⟨fun j _ => by rw [add_g, M.cell l, M'.cell l'], H⟩
end
theorem mapI16 {n : Nat} (f : Nat → Nat) (h : n < 16) : (mapI f zeros16 n).set n (f n) = mapI f zeros16 (n + 1) := mapI_set h
section
variable {h0 h : Heap} {q : Addr} {F : Fr} {L : List Blk} {n : Nat}
theorem Pt.blkW {α : Type} {r : Rep α} {d : α} {g T : Nat} {cs vs : Array Value} {L' : List Blk} {K : Heap → Prop} (P : Pt r h0 h q F L d) (k : Pick L g T cs L') (hn : cs.size = n) (hv : vs.size = n) (ho : ∀ v ∈ vs.toList, v.oneCell' = true)
    (H : ∀ h', Pt r h0 h' q F ((g, T, vs) :: L') d → K h') : STA n h ⟨g, 0, none⟩ vs K := by
  obtain ⟨e, mid, B, M, O⟩ := P
  have N := M.pick (.there (Pick.skip k))
  exact N.sta0 .here hv ho hn .here fun h' M' => H h' ⟨e, mid, B, M'.cnt fun p => by simp only [cnt_app, cnt_cons, cnt_nil]; omega, O⟩
/-- A block made sample by sample, by a function that moves own data on. -/
theorem made_c {α : Type} {r : Rep α} {X : Nat → α} {f : Nat → Nat} {of : Value} (P : Pt r h0 h q F L (X 0))
    (C : ∀ (n : Nat) (hh : Heap) (W : List Blk), n < 16 → Pt r h0 hh q F (W ++ L) (X n) → CALLD prg of #[.int .i64 (n : Int)] (fun u h' => (∃ y, u = .float .f32 y ∧ FW .f32 y (f n)) ∧ Pt r h0 h' q F (W ++ L) (X (n + 1))) hh) :
    CALL prg f_impl_made #[of] (fun u h' => ∃ cb, u = .agg cb ∧ FA 16 cb (mapI f zeros16 16) ∧ Pt r h0 h' q F L (X 16)) h := by
  refine impl_made.call ((Mem.start h).alc fun g1 h1 x1 N => N.alc fun g2 h2 x2 N => ?_)
  have P : Pt r h0 h2 q F ((g2, T_impl_Block, ⟨Z_impl_Block⟩) :: (g1, T_impl_Block, ⟨Z_impl_Block⟩) :: L) (X 0) := P.join N
  refine loop (fun y hh => ∃ (n : Nat) (co : Array Value), y = (of, ⟨g1, 0, none⟩, ⟨g2, 0, none⟩, (n : Int)) ∧ n ≤ 16 ∧ FA 16 co (mapI f zeros16 n) ∧ Pt r h0 hh q F ((g2, T_impl_Block, co) :: (g1, T_impl_Block, ⟨Z_impl_Block⟩) :: L) (X n))
    (fun y => (16 - y.2.2.2).toNat) ⟨0, _, rfl, by omega, by rw [mapI_zero]; exact FA.zero, P⟩ ?_
  rintro y hh ⟨n, co, rfl, hn, Fo, P⟩
  refine brd (fun hc => ?_) fun hc => ?_
  · refine (C n hh [(g2, T_impl_Block, co), (g1, T_impl_Block, ⟨Z_impl_Block⟩)] (by omega) P).mono ?_
    rintro _ h8 ⟨⟨y, rfl, hy⟩, P⟩
    refine as_f (idx (by omega) (by omega) (Pt.blkA P .here .here Fo (i := n) (by omega) hy fun h9 co' Fo' P => ⟨⟨n + 1, co', by rw [wrap64_succ (by omega)], by omega, ?_, P⟩, by rw [wrap64_succ (by omega)]; show _ < _; simp; omega⟩))
    rw [← mapI16 f (by omega)]; exact Fo'
  obtain rfl : n = 16 := by omega
  refine P.mem.lda0 .here Fo.size (P.blkW (.there .here) rfl Fo.size Fo.one fun h3 P => P.mem.lda0 .here Fo.size ?_)
  exact ⟨co, rfl, Fo, P.sub (.cons _ (.cons _ (List.Sublist.refl _)))⟩
end
end Go.Sx
