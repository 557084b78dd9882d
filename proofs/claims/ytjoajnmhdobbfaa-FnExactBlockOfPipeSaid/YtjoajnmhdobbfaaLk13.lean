/- Floats in blocks beside own data; blocks made sample by sample. -/
import Derived.Test.YtjoajnmhdobbfaaLp8
set_option linter.unusedVariables false
set_option linter.unusedSimpArgs false
namespace Go.Sx
open Go.Proofs
set_option maxRecDepth 100000
set_option maxHeartbeats 1000000

section
variable {h0 h : Heap} {q : Addr} {F : Fr} {L : List Blk} {x a : Nat}
/-- A cell of a block beside own data written. -/
theorem Pt.blk1 {α : Type} {r : Rep α} {d : α} {g T j : Nat} {cs : Array Value} {v : Value} {L' : List Blk} {K : Heap → Prop} (P : Pt r h0 h q F L d) (l : Look L g cs) (hj : j < cs.size) (k : Pick L g T cs L')
    (H : ∀ h', Pt r h0 h' q F ((g, T, cs.setIfInBounds j v) :: L') d → K h') : ST1 h ⟨g, j, none⟩ v K := by
  obtain ⟨e, mid, B, M, O⟩ := P
  have N := M.pick (.there (Pick.skip k))
  exact N.st1 .here hj .here fun h' M' => H h' ⟨e, mid, B, M'.cnt fun p => by simp only [cnt_app, cnt_cons, cnt_nil]; omega, O⟩
/-- A float put into a list of floats. -/
theorem rds_set {k : FloatKind} {y b : Nat} (hy : FW k y b) : ∀ {xs : List Nat} {vs : List Value} {i : Nat}, rds (rF k) h vs xs → rds (rF k) h (vs.set i (.float k y)) (xs.set i b)
  | [], vs, i, R => by
    obtain rfl : vs = [] := R
    simp [rds]
  | a :: xs, vs, i, R => by
    obtain ⟨v1, v2, rfl, ⟨z, rfl, hz⟩, R2⟩ := R
    cases i with
    | zero => exact ⟨[.float k y], v2, rfl, ⟨y, rfl, hy⟩, R2⟩
    | succ i => exact ⟨[.float k z], v2.set i (.float k y), rfl, ⟨z, rfl, hz⟩, rds_set hy R2⟩
theorem arr_set {k : FloatKind} {y b n i : Nat} {cs : Array Value} {xs : List Nat} (hy : FW k y b) (R : (rArr n (rF k)).rd h cs.toList xs) : (rArr n (rF k)).rd h (cs.setIfInBounds i (.float k y)).toList (xs.set i b) :=
  ⟨by rw [List.length_set]; exact R.1, by rw [Array.toList_setIfInBounds]; exact rds_set hy R.2⟩
end
theorem rdsF_any {k : FloatKind} {h h' : Heap} : ∀ {xs : List Nat} {vs : List Value}, rds (rF k) h vs xs → rds (rF k) h' vs xs
  | [], vs, R => R
  | a :: xs, vs, R => by
    obtain ⟨v1, v2, rfl, R1, R2⟩ := R
    exact ⟨v1, v2, rfl, R1, rdsF_any R2⟩
/-- n floats, wherever they lie. -/
def FA (n : Nat) (cs : Array Value) (xs : List Nat) : Prop := (rArr n (rF .f32)).rd #[] cs.toList xs
section
variable {n : Nat} {cs : Array Value} {xs : List Nat}
theorem FA.rd (R : FA n cs xs) (h : Heap) : (rArr n (rF .f32)).rd h cs.toList xs := ⟨R.1, rdsF_any R.2⟩
theorem FA.of {h : Heap} (R : (rArr n (rF .f32)).rd h cs.toList xs) : FA n cs xs := ⟨R.1, rdsF_any R.2⟩
theorem FA.size (R : FA n cs xs) : cs.size = n := by have := rsz R rfl; rw [this]; exact Nat.mul_one n
theorem FA.one (R : FA n cs xs) : ∀ v ∈ cs.toList, v.oneCell' = true := (rArr n (rF .f32)).rone R
end
def zeros16 : List Nat := List.replicate 16 0
theorem FA.zero : FA 16 ⟨Z_impl_Block⟩ zeros16 := ⟨rfl, rdsF_any (h := #[]) ((zeros_fl 16).look (Mem.start #[]) (List.Sublist.refl _))⟩
section
variable {h0 h : Heap} {q : Addr} {F : Fr} {L : List Blk} {n : Nat}
theorem Pt.blkA {α : Type} {r : Rep α} {d : α} {g T i y b : Nat} {cs : Array Value} {xs : List Nat} {L' : List Blk} {K : Heap → Prop} (P : Pt r h0 h q F L d) (l : Look L g cs) (k : Pick L g T cs L') (R : FA n cs xs) (hi : i < n) (hy : FW .f32 y b)
    (H : ∀ h' cs', FA n cs' (xs.set i b) → Pt r h0 h' q F ((g, T, cs') :: L') d → K h') : ST1 h ((⟨g, 0, none⟩ : Addr).add (i * 1)) (.float .f32 y) K := by
  rw [add_none, Nat.zero_add]
  refine P.blk1 l (by rw [R.size]; omega) k fun h' P' => H h' _ ?_ P'
  rw [Nat.mul_one]
  exact arr_set hy R
theorem Look.oA {g i : Nat} {cs : Array Value} {xs : List Nat} {K : Nat → Prop} (l : Look L g cs) (M : Mem h0 h L) (R : FA n cs xs) (hi : i < n) (H : ∀ y, FW .f32 y xs[i]! → K y) : Sx.oF .f32 (cell h ((⟨g, 0, none⟩ : Addr).add (i * 1))) K :=
  ((M.rdp l (R.rd h)).elem (i := i) hi).oF1 H
theorem Mem.pin2 {h0' h' : Heap} {L' : List Blk} {g m : Nat} {cs : Array Value} {p : Prop} (M : Mem h0 h L) (l : Look L g cs) (M' : Mem h0' h' L') (l' : Look L' g cs) (H : p) : PIN h ⟨g, 0, none⟩ m h' p :=
  ⟨fun j _ => by rw [add_g, M.cell l, M'.cell l'], H⟩
end
theorem mapI16 {n : Nat} (f : Nat → Nat) (h : n < 16) : (mapI f zeros16 n).set n (f n) = mapI f zeros16 (n + 1) := mapI_set h
section
variable {h0 h : Heap} {q : Addr} {F : Fr} {L : List Blk} {n : Nat}
theorem Pt.blkW {α : Type} {r : Rep α} {d : α} {g T : Nat} {cs vs : Array Value} {L' : List Blk} {K : Heap → Prop} (P : Pt r h0 h q F L d) (k : Pick L g T cs L') (hn : cs.size = n) (hv : vs.size = n) (ho : ∀ v ∈ vs.toList, v.oneCell' = true)
    (H : ∀ h', Pt r h0 h' q F ((g, T, vs) :: L') d → K h') : STA n h ⟨g, 0, none⟩ vs K := by
  obtain ⟨e, mid, B, M, O⟩ := P
  have N := M.pick (.there (Pick.skip k))
  exact N.sta0 .here hv ho hn .here fun h' M' => H h' ⟨e, mid, B, M'.cnt fun p => by simp only [cnt_app, cnt_cons, cnt_nil]; omega, O⟩
/-- A block made sample by sample, by a function that moves own data on. -/
theorem made_c {α : Type} {r : Rep α} {X : Nat → α} {f : Nat → Nat} {of : Value} (P : Pt r h0 h q F L (X 0))
    (C : ∀ (n : Nat) (hh : Heap) (W : List Blk), n < 16 → Pt r h0 hh q F (W ++ L) (X n) → CALLD prg of #[.int .i64 (n : Int)] (fun u h' => (∃ y, u = .float .f32 y ∧ FW .f32 y (f n)) ∧ Pt r h0 h' q F (W ++ L) (X (n + 1))) hh) :
    CALL prg f_impl_made #[of] (fun u h' => ∃ cb, u = .agg cb ∧ FA 16 cb (mapI f zeros16 16) ∧ Pt r h0 h' q F L (X 16)) h := by
  refine impl_made.call ((Mem.start h).alc fun g1 h1 x1 N => N.alc fun g2 h2 x2 N => ?_)
  have P : Pt r h0 h2 q F ((g2, T_impl_Block, ⟨Z_impl_Block⟩) :: (g1, T_impl_Block, ⟨Z_impl_Block⟩) :: L) (X 0) := P.join N
  refine loop (fun y hh => ∃ (n : Nat) (co : Array Value), y = (of, ⟨g1, 0, none⟩, ⟨g2, 0, none⟩, (n : Int)) ∧ n ≤ 16 ∧ FA 16 co (mapI f zeros16 n) ∧ Pt r h0 hh q F ((g2, T_impl_Block, co) :: (g1, T_impl_Block, ⟨Z_impl_Block⟩) :: L) (X n))
    (fun y => (16 - y.2.2.2).toNat) ⟨0, _, rfl, by omega, by rw [mapI_zero]; exact FA.zero, P⟩ ?_
  rintro y hh ⟨n, co, rfl, hn, Fo, P⟩
  refine brd (fun hc => ?_) fun hc => ?_
  · refine (C n hh [(g2, T_impl_Block, co), (g1, T_impl_Block, ⟨Z_impl_Block⟩)] (by omega) P).mono ?_
    rintro _ h8 ⟨⟨y, rfl, hy⟩, P⟩
    refine as_f (idx (by omega) (by omega) (Pt.blkA P .here .here Fo (i := n) (by omega) hy fun h9 co' Fo' P => ⟨⟨n + 1, co', by rw [wrap64_succ (by omega)], by omega, ?_, P⟩, by rw [wrap64_succ (by omega)]; show _ < _; simp; omega⟩))
    rw [← mapI16 f (by omega)]; exact Fo'
  obtain rfl : n = 16 := by omega
  refine P.mem.lda0 .here Fo.size (P.blkW (.there .here) rfl Fo.size Fo.one fun h3 P => P.mem.lda0 .here Fo.size ?_)
  exact ⟨co, rfl, Fo, P.sub (.cons _ (.cons _ (List.Sublist.refl _)))⟩
end
theorem ows_rds {k : FloatKind} : ∀ {xs : List Nat} {B : List Blk} {vs : List Value}, ows (rF k) B vs xs → rds (rF k) #[] vs xs
  | [], B, vs, e => e.2
  | a :: xs, B, vs, e => by
    obtain ⟨B1, B2, v1, v2, rfl, rfl, h1, h2⟩ := e
    exact ⟨v1, v2, rfl, h1.2, ows_rds h2⟩
theorem FA.ofow {xs : List Nat} {n : Nat} {B : List Blk} {cs : Array Value} (O : (rArr n (rF .f32)).ow B cs.toList xs) : FA n cs xs := ⟨O.1, ows_rds O.2⟩
end Go.Sx
