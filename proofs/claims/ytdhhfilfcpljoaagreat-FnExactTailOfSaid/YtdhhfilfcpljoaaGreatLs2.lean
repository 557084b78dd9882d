/- A room's step, as the program makes it. -/
import Derived.Test.YtdhhfilfcpljoaaGreatLs1
set_option linter.unusedVariables false
set_option linter.unusedSimpArgs false
namespace Go.Sx
open Go.Proofs
set_option maxRecDepth 100000

theorem rdsF_any {k : FloatKind} {h h' : Heap} : ∀ {xs : List Nat} {vs : List Value}, rds (rF k) h vs xs → rds (rF k) h' vs xs
  | [], vs, R => R
  | a :: xs, vs, R => by
    obtain ⟨v1, v2, rfl, R1, R2⟩ := R
    exact ⟨v1, v2, rfl, R1, rdsF_any R2⟩
/-- Four floats, wherever they lie. -/
def F4 (cs : Array Value) (xs : List Nat) : Prop := (rArr 4 (rF .f32)).rd #[] cs.toList xs
theorem F4.rd {cs : Array Value} {xs : List Nat} (R : F4 cs xs) (h : Heap) : (rArr 4 (rF .f32)).rd h cs.toList xs := ⟨R.1, rdsF_any R.2⟩
theorem F4.of {cs : Array Value} {xs : List Nat} {h : Heap} (R : (rArr 4 (rF .f32)).rd h cs.toList xs) : F4 cs xs := ⟨R.1, rdsF_any R.2⟩
theorem F4.size {cs : Array Value} {xs : List Nat} (R : F4 cs xs) : cs.size = 4 := rsz R rfl
def zeros4 : List Nat := [0, 0, 0, 0]
theorem F4.zero : F4 ⟨[.float .f32 0, .float .f32 0, .float .f32 0, .float .f32 0]⟩ zeros4 := four_rd fw0 fw0 fw0 fw0
section
variable {h0 h : Heap} {q : Addr} {F : Fr} {L : List Blk} {x a : Nat}
theorem Pt.blkF {α : Type} {r : Rep α} {d : α} {g T i y b : Nat} {cs : Array Value} {xs : List Nat} {L' : List Blk} {K : Heap → Prop} (P : Pt r h0 h q F L d) (l : Look L g cs) (k : Pick L g T cs L') (R : F4 cs xs) (hi : i < 4) (hy : FW .f32 y b)
    (H : ∀ h' cs', F4 cs' (xs.set i b) → Pt r h0 h' q F ((g, T, cs') :: L') d → K h') : ST1 h ((⟨g, 0, none⟩ : Addr).add (i * 1)) (.float .f32 y) K := by
  rw [add_none, Nat.zero_add]
  refine P.blk1 l (by rw [R.size]; omega) k fun h' P' => H h' _ ?_ P'
  rw [Nat.mul_one]
  exact arr_set hy R
theorem Look.oF {g i : Nat} {cs : Array Value} {xs : List Nat} {K : Nat → Prop} (l : Look L g cs) (M : Mem h0 h L) (R : F4 cs xs) (hi : i < 4) (H : ∀ y, FW .f32 y xs[i]! → K y) : oF .f32 (cell h ((⟨g, 0, none⟩ : Addr).add (i * 1))) K :=
  ((M.rdp l (R.rd h)).elem (i := i) hi).oF1 H
def GRoom.earlyL (x : GRoom) : List GTap → Nat
  | [] => 0
  | t :: ts => ts.foldl (fun m t => fadd .f32 m (fmul .f32 t.Gain (x.Early.back t.Back))) (fmul .f32 t.Gain (x.Early.back t.Back))
theorem early_eq (x : GRoom) : x.early = x.earlyL x.Taps := by unfold GRoom.early GRoom.earlyL; rfl
theorem earlyL_snoc (x : GRoom) {ts : List GTap} (h : ts ≠ []) (t : GTap) : x.earlyL (ts ++ [t]) = fadd .f32 (x.earlyL ts) (fmul .f32 t.Gain (x.Early.back t.Back)) := by
  cases ts with
  | nil => exact absurd rfl h
  | cons u us => simp [GRoom.earlyL, List.foldl_append]
theorem early_step {x : GRoom} {n : Nat} (hn : n < x.Taps.length) : x.earlyL (x.Taps.take (n + 1)) = if n = 0 then fmul .f32 x.Taps[n]!.Gain (x.Early.back x.Taps[n]!.Back) else fadd .f32 (x.earlyL (x.Taps.take n)) (fmul .f32 x.Taps[n]!.Gain (x.Early.back x.Taps[n]!.Back)) := by
  rw [take_snoc hn]
  split
  · next e => subst e; simp [GRoom.earlyL]
  · next e =>
    refine earlyL_snoc x ?_ _
    intro e2
    have := congrArg List.length e2
    rw [List.length_take] at this
    simp only [List.length_nil] at this; omega
/-- What a step of a room leaves. -/
def RStep (h0 h' : Heap) (q : Addr) (F : Fr) (L : List Blk) (x : GRoom) (a : Nat) (u : Value) : Prop := (∃ y, u = .float .f32 y ∧ FW .f32 y (x.step a).2) ∧ Pt rRoom h0 h' q F L (x.step a).1
section
variable (x : GRoom) (a : Nat)
def GRoom.c0 : GComb × Nat := x.Combs[0]!.step (fadd .f32 a x.early)
def GRoom.c1 : GComb × Nat := x.Combs[1]!.step (x.c0 a).2
def GRoom.fo (i : Nat) : Nat := x.Loops[i]!.old
def GRoom.fg (i : Nat) : GFilter × Nat := x.Damps[i]!.step (fmul .f32 x.Gains[i]! (x.fo i))
def GRoom.hs : List Nat := mixFour ((List.range 4).map fun i => (x.fg i).2)
def GRoom.fl (i : Nat) : GRing := x.Loops[i]!.push (kept (fadd .f32 (x.c1 a).2 x.hs[i]!))
def GRoom.s1 : GRoom := { x with Early := x.Early.push (kept a), Combs := [(x.c0 a).1, (x.c1 a).1] }
def GRoom.s2 (n : Nat) : GRoom := { x.s1 a with Damps := mapI (fun i => (x.fg i).1) x.Damps n }
def GRoom.s3 (n : Nat) : GRoom := { x.s2 a 4 with Loops := mapI (x.fl a) x.Loops n }
def GRoom.sv : Nat := fadd .f32 (fmul .f32 x.Dry a) (fmul .f32 x.Wet (fadd .f32 (fadd .f32 (x.fo 0) (x.fo 1)) (fadd .f32 (x.fo 2) (x.fo 3))))
end
theorem map_old {x : GRoom} (hL : x.Loops.length = 4) {i : Nat} (hi : i < 4) : (x.Loops.map GRing.old)[i]! = x.fo i := by
  rw [getElem!_pos _ i (by rw [List.length_map]; omega), List.getElem_map]
  unfold GRoom.fo
  rw [getElem!_pos _ i (by omega)]
theorem step_eq {x : GRoom} (R : x.Runs) (a : Nat) : x.step a = (x.s3 a 4, x.sv a) := by
  have hL := R.l4
  have hg : ((List.range 4).map fun i => x.Damps[i]!.step (fmul .f32 x.Gains[i]! (x.Loops.map GRing.old)[i]!)) = (List.range 4).map x.fg := by
    refine List.map_congr_left fun i hi => ?_
    rw [map_old hL (List.mem_range.1 hi)]; rfl
  unfold GRoom.step
  simp only []
  rw [hg, map_old hL (by decide), map_old hL (by decide), map_old hL (by decide), map_old hL (by decide)]
  unfold GRoom.s3 GRoom.s2 GRoom.s1 GRoom.sv
  rw [mapI_all (by rw [R.d4]; exact Nat.le_refl _), mapI_all (by rw [R.l4]; exact Nat.le_refl _), R.d4, R.l4, List.map_map, List.map_map]
  rfl
theorem s3_zero (x : GRoom) (a : Nat) : x.s3 a 0 = x.s2 a 4 := by unfold GRoom.s3; rw [mapI_zero]; rfl
theorem s2_zero (x : GRoom) (a : Nat) : x.s2 a 0 = x.s1 a := by unfold GRoom.s2; rw [mapI_zero]; rfl
theorem s2_step {x : GRoom} {a n : Nat} (h : n < x.Damps.length) : { x.s2 a n with Damps := (x.s2 a n).Damps.set n (x.fg n).1 } = x.s2 a (n + 1) := by
  show { x.s1 a with Damps := (mapI (fun i => (x.fg i).1) x.Damps n).set n ((fun i => (x.fg i).1) n) } = _
  rw [mapI_set h]; rfl
theorem s3_step {x : GRoom} {a n : Nat} (h : n < x.Loops.length) : { x.s3 a n with Loops := (x.s3 a n).Loops.set n (x.fl a n) } = x.s3 a (n + 1) := by
  show { x.s2 a 4 with Loops := (mapI (x.fl a) x.Loops n).set n (x.fl a n) } = _
  rw [mapI_set h]; rfl
theorem hs_eq (x : GRoom) : mixFour (mapI (fun i => (x.fg i).2) zeros4 4) = x.hs := by rw [mapI_all (by decide)]; rfl
theorem dist4 {n : Nat} (f : Nat → Nat) (h : n < 4) : (mapI f zeros4 n).set n (f n) = mapI f zeros4 (n + 1) := mapI_set h
end
end Go.Sx
