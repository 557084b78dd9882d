/- Rooms that are silent, as the program tells them. -/
import Derived.Test.YthgnpepchedpbaaGreatLs1
import Derived.Test.YthgnpepchedpbaaGreatLk9
import Derived.Test.YthgnpepchedpbaaGreatK0
import Derived.Test.YthgnpepchedpbaaGreatLsl
import Derived.MapKept
set_option linter.unusedVariables false
set_option linter.unusedSimpArgs false
namespace Go.Sx
open Go.Proofs
set_option maxRecDepth 100000
set_option maxHeartbeats 1000000

section
variable {h : Heap} {q : Addr} {x : GRoom}
def GRoom.stillD (x : GRoom) : Bool := x.Damps.all GFilter.still
def GRoom.zeroR (x : GRoom) : Bool := x.Early.zero && x.Combs.all (fun c => c.Ring.zero) && x.Loops.all GRing.zero
theorem zero_eq (x : GRoom) : x.zero = (x.zeroR && x.stillD) := rfl
theorem l06Silent_c (R : RdP rRoom h q x) : CALL prg f_spec_l06Silent #[.pointer (some q)] (fun u h' => u = .bool x.zero ∧ Ext h h') h := by
  have hD : x.Damps.length = 4 := (R.foc foc_Room_Damps).len
  have hC := combs2 R
  refine spec_l06Silent.call (loop (fun y hh => ∃ n : Nat, y = (q, (n : Int)) ∧ n ≤ 4 ∧ Ext h hh ∧ ∀ i, i < n → x.Damps[i]!.still = true) (fun y => (4 - y.2).toNat) ⟨0, rfl, by omega, Ext.refl _, fun i hi => by omega⟩ ?_)
  rintro y hh ⟨n, rfl, hn, X, hz⟩
  refine brd (fun hc => ?_) fun hc => ?_
  · refine idx (by omega) (by omega) ((l02Still_c (((R.ext X).foc foc_Room_Damps).elem (i := n) (by omega))).mono ?_)
    rintro _ h2 ⟨rfl, x2⟩
    refine as_b (br (fun hb => ⟨?_, X.trans x2⟩) fun hb => ?_)
    · have : x.stillD = false := by unfold GRoom.stillD; rw [all_range, all_false (f := fun i => x.Damps[i]!.still) (i := n) (by omega) (nt hb)]
      rw [zero_eq, this, Bool.and_false]
    · refine ⟨⟨n + 1, by rw [wrap64_succ (by omega)], by omega, X.trans x2, fun i hi => ?_⟩, by rw [wrap64_succ (by omega)]; show _ < _; simp; omega⟩
      by_cases e : i = n
      · subst e; exact nf hb
      · exact hz i (by omega)
  have hS : x.stillD = true := by unfold GRoom.stillD; rw [all_range, all_true fun i hi => hz i (by omega)]
  have R := R.ext X
  have e1 := ((R.foc foc_Room_Combs).elem (i := 0) (by decide)).fst foc_Comb_Ring
  have e2 := ((R.foc foc_Room_Combs).elem (i := 1) (by decide)).fst foc_Comb_Ring
  simp only [add_add', sz_Comb, Nat.reduceMul, Nat.reduceAdd] at e1 e2
  refine (R.fst foc_Room_Early).lda1 rfl fun c0 R0 => idx (by omega) (by omega) (e1.lda1 rfl fun c1 R1 => idx (by omega) (by omega) (e2.lda1 rfl fun c2 R2 => ⟨rsz R0 rfl, ⟨rsz R1 rfl, ⟨rsz R2 rfl, ?_⟩⟩⟩))
  have z0 : (rArr 3 rRing).rd hh [.slice none 0 0, .int .i64 (0 : Int), .slice none 0 0, .int .i64 (0 : Int), .slice none 0 0, .int .i64 (0 : Int)] [z_Ring, z_Ring, z_Ring] :=
    ⟨rfl, [_, _], _, rfl, zr_rd hh, [_, _], _, rfl, zr_rd hh, [_, _], _, rfl, zr_rd hh, rfl⟩
  have z1 := rd_splice (put := fun l b => l.set 0 b) (get := fun l => l[0]!) z0 (fun R => arr_put (i := 0) (by decide) R) R0
  have z2 := rd_splice (put := fun l b => l.set 1 b) (get := fun l => l[1]!) z1 (fun R => arr_put (i := 1) (by decide) R) R1
  have z3 := rd_splice (put := fun l b => l.set 2 b) (get := fun l => l[2]!) z2 (fun R => arr_put (i := 2) (by decide) R) R2
  have z3 : (rArr 3 rRing).rd hh _ [x.Early, x.Combs[0]!.Ring, x.Combs[1]!.Ring] := z3
  refine rArr_slr z3 (by decide) fun g h3 x3 S => goX (l04Zero_c S) fun h4 x4 => as_b ?_
  have X4 := X.trans (x3.trans x4)
  have eC : x.Combs.all (fun c => c.Ring.zero) = (x.Combs[0]!.Ring.zero && x.Combs[1]!.Ring.zero) := by
    obtain ⟨u, v, e⟩ := is2 hC
    rw [e]; simp
  have e3 : ([x.Early, x.Combs[0]!.Ring, x.Combs[1]!.Ring].all GRing.zero) = (x.Early.zero && x.Combs.all (fun c => c.Ring.zero)) := by rw [eC]; simp
  rw [e3]
  refine br (fun hb => ?_) fun hb => ?_
  · refine (l06Loops_c (R.ext (x3.trans x4))).mono ?_
    rintro _ h5 ⟨⟨b, l, c, rfl, SL⟩, x5⟩
    refine as_l (goX (l04Zero_c SL) fun h6 x6 => as_b ⟨?_, (X4.trans x5).trans x6⟩)
    rw [zero_eq, hS, GRoom.zeroR, hb, Bool.true_and, Bool.and_true]
  · refine ⟨?_, X4⟩
    rw [zero_eq, GRoom.zeroR, hb]; rfl
theorem Room_isStill_c (R : RdP rRoom h q x) : CALL prg f_p_impl_Room_isStill #[.pointer (some q)] (fun u h' => u = .bool x.stillD ∧ Ext h h') h := by
  have hD : x.Damps.length = 4 := (R.foc foc_Room_Damps).len
  refine p_impl_Room_isStill.call (R.lda foc_Room_Damps rfl fun cD RD => ?_)
  refine loop (fun y hh => ∃ n : Nat, y = (cD, (n : Int)) ∧ n ≤ 4 ∧ Ext h hh ∧ ∀ i, i < n → x.Damps[i]!.still = true) (fun y => (4 - y.2).toNat) ⟨0, rfl, by omega, Ext.refl _, fun i hi => by omega⟩ ?_
  rintro y hh ⟨n, rfl, hn, X, hz⟩
  refine brd (fun hc => ?_) fun hc => ?_
  · have Rn : rFilter.rd h (cD.extract (n * 6) (n * 6 + 6)).toList x.Damps[n]! := rd_part RD (Foc.arr rFilter n (by omega)) rfl
    refine idx (by omega) (by omega) ((Mem.start hh).alc fun g2 h8 x8 M => M.sta0 .here (rsz Rn rfl) (rFilter.rone Rn) rfl .here fun h9 M => M.lda0 .here (rsz Rn rfl) ?_)
    have X9 := X.trans M.ext
    refine goX (Filter_isStill_c (rFilter.ext X9 Rn)) fun h10 x10 => as_b (br (fun hb => ⟨?_, X9.trans x10⟩) fun hb => ?_)
    · have : x.stillD = false := by unfold GRoom.stillD; rw [all_range, all_false (f := fun i => x.Damps[i]!.still) (i := n) (by omega) (nt hb)]
      rw [this]
    · refine ⟨⟨n + 1, by rw [wrap64_succ (by omega)], by omega, X9.trans x10, fun i hi => ?_⟩, by rw [wrap64_succ (by omega)]; show _ < _; simp; omega⟩
      by_cases e : i = n
      · subst e; exact nf hb
      · exact hz i (by omega)
  · refine ⟨?_, X⟩
    unfold GRoom.stillD; rw [all_range, all_true fun i hi => hz i (by omega)]
end
end Go.Sx
/- A room's step, as the program makes it. -/
set_option linter.unusedVariables false
set_option linter.unusedSimpArgs false
namespace Go.Sx
open Go.Proofs
set_option maxRecDepth 100000

/-- Four floats, wherever they lie. -/
def F4 (cs : Array Value) (xs : List Nat) : Prop := (rArr 4 (rF .f32)).rd #[] cs.toList xs
theorem F4.rd {cs : Array Value} {xs : List Nat} (R : F4 cs xs) (h : Heap) : (rArr 4 (rF .f32)).rd h cs.toList xs := ⟨R.1, rdsF_any R.2⟩
theorem F4.of {cs : Array Value} {xs : List Nat} {h : Heap} (R : (rArr 4 (rF .f32)).rd h cs.toList xs) : F4 cs xs := ⟨R.1, rdsF_any R.2⟩
theorem F4.size {cs : Array Value} {xs : List Nat} (R : F4 cs xs) : cs.size = 4 := rsz R rfl
def zeros4 : List Nat := [0, 0, 0, 0]
theorem F4.zero : F4 ⟨[.float .f32 0, .float .f32 0, .float .f32 0, .float .f32 0]⟩ zeros4 := four_rd fw0 fw0 fw0 fw0
section
variable {h0 h : Heap} {q : Addr} {F : Fr} {L : List Blk} {x a : Nat}
theorem Pt.blkF {α : Type} {r : Rep α} {d : α} {g T i y b : Nat} {cs : Array Value} {xs : List Nat} {L' : List Blk} {K : Heap → Prop} (P : Pt r h0 h q F L d) (l : Look L g cs) (k : Pick L g T cs L') (R : F4 cs xs) (hi : i < 4) (hy : FW .f32 y b)
    (H : ∀ h' cs', F4 cs' (xs.set i b) → Pt r h0 h' q F ((g, T, cs') :: L') d → K h') : ST1 h ((⟨g, 0, none⟩ : Addr).add (i * 1)) (.float .f32 y) K := by
  rw [add_none, Nat.zero_add]
  refine P.blk1 l (by rw [R.size]; omega) k fun h' P' => H h' _ ?_ P'
  rw [Nat.mul_one]
  exact arr_set hy R
theorem Look.oF {g i : Nat} {cs : Array Value} {xs : List Nat} {K : Nat → Prop} (l : Look L g cs) (M : Mem h0 h L) (R : F4 cs xs) (hi : i < 4) (H : ∀ y, FW .f32 y xs[i]! → K y) : oF .f32 (cell h ((⟨g, 0, none⟩ : Addr).add (i * 1))) K :=
  ((M.rdp l (R.rd h)).elem (i := i) hi).oF1 H
def GRoom.earlyL (x : GRoom) : List GTap → Nat
  | [] => 0
  | t :: ts => ts.foldl (fun m t => fadd .f32 m (fmul .f32 t.Gain (x.Early.back t.Back))) (fmul .f32 t.Gain (x.Early.back t.Back))
theorem early_eq (x : GRoom) : x.early = x.earlyL x.Taps := by unfold GRoom.early GRoom.earlyL; rfl
theorem earlyL_snoc (x : GRoom) {ts : List GTap} (h : ts ≠ []) (t : GTap) : x.earlyL (ts ++ [t]) = fadd .f32 (x.earlyL ts) (fmul .f32 t.Gain (x.Early.back t.Back)) := by
  cases ts with
  | nil => exact absurd rfl h
  | cons u us => simp [GRoom.earlyL, List.foldl_append]
theorem early_step {x : GRoom} {n : Nat} (hn : n < x.Taps.length) : x.earlyL (x.Taps.take (n + 1)) = if n = 0 then fmul .f32 x.Taps[n]!.Gain (x.Early.back x.Taps[n]!.Back) else fadd .f32 (x.earlyL (x.Taps.take n)) (fmul .f32 x.Taps[n]!.Gain (x.Early.back x.Taps[n]!.Back)) := by
  rw [take_snoc hn]
  split
  · next e => subst e; simp [GRoom.earlyL]
  · next e =>
    refine earlyL_snoc x ?_ _
    intro e2
    have := congrArg List.length e2
    rw [List.length_take] at this
    simp only [List.length_nil] at this; omega
/-- What a step of a room leaves. -/
def RStep (h0 h' : Heap) (q : Addr) (F : Fr) (L : List Blk) (x : GRoom) (a : Nat) (u : Value) : Prop := (∃ y, u = .float .f32 y ∧ FW .f32 y (x.step a).2) ∧ Pt rRoom h0 h' q F L (x.step a).1
section
variable (x : GRoom) (a : Nat)
def GRoom.c0 : GComb × Nat := x.Combs[0]!.step (fadd .f32 a x.early)
def GRoom.c1 : GComb × Nat := x.Combs[1]!.step (x.c0 a).2
def GRoom.fo (i : Nat) : Nat := x.Loops[i]!.old
def GRoom.fg (i : Nat) : GFilter × Nat := x.Damps[i]!.step (fmul .f32 x.Gains[i]! (x.fo i))
def GRoom.hs : List Nat := mixFour ((List.range 4).map fun i => (x.fg i).2)
def GRoom.fl (i : Nat) : GRing := x.Loops[i]!.push (kept (fadd .f32 (x.c1 a).2 x.hs[i]!))
def GRoom.s1 : GRoom := { x with Early := x.Early.push (kept a), Combs := [(x.c0 a).1, (x.c1 a).1] }
def GRoom.s2 (n : Nat) : GRoom := { x.s1 a with Damps := mapI (fun i => (x.fg i).1) x.Damps n }
def GRoom.s3 (n : Nat) : GRoom := { x.s2 a 4 with Loops := mapI (x.fl a) x.Loops n }
def GRoom.sv : Nat := fadd .f32 (fmul .f32 x.Dry a) (fmul .f32 x.Wet (fadd .f32 (fadd .f32 (x.fo 0) (x.fo 1)) (fadd .f32 (x.fo 2) (x.fo 3))))
end
theorem map_old {x : GRoom} (hL : x.Loops.length = 4) {i : Nat} (hi : i < 4) : (x.Loops.map GRing.old)[i]! = x.fo i := by
  rw [getElem!_pos _ i (by rw [List.length_map]; omega), List.getElem_map]
  unfold GRoom.fo
  rw [getElem!_pos _ i (by omega)]
theorem step_eq {x : GRoom} (R : x.Runs) (a : Nat) : x.step a = (x.s3 a 4, x.sv a) := by
  have hL := R.l4
  have hg : ((List.range 4).map fun i => x.Damps[i]!.step (fmul .f32 x.Gains[i]! (x.Loops.map GRing.old)[i]!)) = (List.range 4).map x.fg := by
    refine List.map_congr_left fun i hi => ?_
    rw [map_old hL (List.mem_range.1 hi)]; rfl
  unfold GRoom.step
  simp only []
  rw [hg, map_old hL (by decide), map_old hL (by decide), map_old hL (by decide), map_old hL (by decide)]
  unfold GRoom.s3 GRoom.s2 GRoom.s1 GRoom.sv
  rw [mapI_all (by rw [R.d4]; exact Nat.le_refl _), mapI_all (by rw [R.l4]; exact Nat.le_refl _), R.d4, R.l4, List.map_map, List.map_map]
  rfl
theorem s3_zero (x : GRoom) (a : Nat) : x.s3 a 0 = x.s2 a 4 := by unfold GRoom.s3; rw [mapI_zero]; rfl
theorem s2_zero (x : GRoom) (a : Nat) : x.s2 a 0 = x.s1 a := by unfold GRoom.s2; rw [mapI_zero]; rfl
theorem s2_step {x : GRoom} {a n : Nat} (h : n < x.Damps.length) : { x.s2 a n with Damps := (x.s2 a n).Damps.set n (x.fg n).1 } = x.s2 a (n + 1) := by
  show { x.s1 a with Damps := (mapI (fun i => (x.fg i).1) x.Damps n).set n ((fun i => (x.fg i).1) n) } = _
  rw [mapI_set h]; rfl
theorem s3_step {x : GRoom} {a n : Nat} (h : n < x.Loops.length) : { x.s3 a n with Loops := (x.s3 a n).Loops.set n (x.fl a n) } = x.s3 a (n + 1) := by
  show { x.s2 a 4 with Loops := (mapI (x.fl a) x.Loops n).set n (x.fl a n) } = _
  rw [mapI_set h]; rfl
theorem hs_eq (x : GRoom) : mixFour (mapI (fun i => (x.fg i).2) zeros4 4) = x.hs := by rw [mapI_all (by decide)]; rfl
theorem dist4 {n : Nat} (f : Nat → Nat) (h : n < 4) : (mapI f zeros4 n).set n (f n) = mapI f zeros4 (n + 1) := mapI_set h
end
end Go.Sx
/- How long a room sounds: told by the rings' zeros, and by runs kept beside them. -/
set_option linter.unusedVariables false
set_option linter.unusedSimpArgs false
namespace Go.Sx
open Go.Proofs
/-- From the n-th step on, for k steps more. -/
def tailFrom : GRoom → Int → Nat → Int × Int
  | _, _, 0 => (0, 7)
  | x, n, k + 1 => if x.zero then (n, 0) else tailFrom (x.step 0).1 (n + 1) k
def GRoom.tailOf (x : GRoom) (most : Int) : Int × Int := if x.ok then if inR most 0 20000 then tailFrom x 0 (most.toNat + 1) else (0, 2) else (0, 1)
theorem zeroR_eq {x : GRoom} (c2 : x.Combs.length = 2) (l4 : x.Loops.length = 4) : x.zeroR = (List.range 7).all fun i => (getR x i).zero := by
  obtain ⟨a, b, e1⟩ := is2 c2
  obtain ⟨c, d, e, f, e2⟩ := is4 l4
  obtain ⟨E, T, C, Lo, D, G, dr, we⟩ := x
  subst e1 e2
  show (E.zero && [a, b].all (fun c => c.Ring.zero) && [c, d, e, f].all GRing.zero) = [0, 1, 2, 3, 4, 5, 6].all _
  simp only [List.all_cons, List.all_nil, Bool.and_true, getR]
  show _ = (E.zero && (a.Ring.zero && (b.Ring.zero && (c.zero && (d.zero && (e.zero && f.zero))))))
  simp only [Bool.and_assoc]
theorem getR_ok {x : GRoom} (R : x.Runs) {i : Nat} (hi : i < 7) : (getR x i).ok = true := by
  have hC := R.c2
  have hL := R.l4
  unfold getR
  split
  · exact R.e
  · split
    · exact R.c _ (mem_get (by omega))
    · exact R.l _ (mem_get (by omega))
theorem getR_step {x : GRoom} (R : x.Runs) (a : Nat) {i : Nat} (hi : i < 7) : ∃ b, getR (x.step a).1 i = (getR x i).push b := by
  rw [step_eq R]
  have hL := R.l4
  have key : ∀ j, j < 4 → getR (x.s3 a 4) (j + 3) = (getR x (j + 3)).push (kept (fadd .f32 (x.c1 a).2 x.hs[j]!)) := fun j hj => by
    unfold getR
    rw [if_neg (by omega), if_neg (by omega), if_neg (by omega), if_neg (by omega), show j + 3 - 3 = j by omega]
    show (mapI (x.fl a) x.Loops 4)[j]! = _
    rw [mapI_lt (by omega) hj]
    rfl
  show ∃ b, getR (x.s3 a 4) i = _
  by_cases h0 : i = 0
  · subst h0; exact ⟨kept a, rfl⟩
  by_cases h1 : i = 1
  · subst h1; exact ⟨_, rfl⟩
  by_cases h2 : i = 2
  · subst h2; exact ⟨_, rfl⟩
  have := key (i - 3) (by omega)
  rw [show i - 3 + 3 = i by omega] at this
  exact ⟨_, this⟩
/-- The runs kept beside a room's rings. -/
structure Kept7 (x : GRoom) (rs : List Int) (n : Int) : Prop where
  len : rs.length = 7
  k : ∀ i : Nat, i < 7 → 0 ≤ rs[i]! ∧ rs[i]! ≤ 1024 + n ∧ min rs[i]! ((getR x i).Samples.length : Int) = (getR x i).quiet
theorem kept_zero {x : GRoom} (R : x.Runs) {rs : List Int} {n : Int} (K : Kept7 x rs n) {i : Nat} (hi : i < 7) : decide (((getR x i).Samples.length : Int) ≤ rs[i]!) = (getR x i).zero := by
  obtain ⟨k1, k2, k3⟩ := K.k i hi
  have hz := quiet_zero (getR_ok R hi)
  have hq := quiet_le (getR x i)
  by_cases h : (getR x i).zero = true
  · rw [h, decide_eq_true_eq]
    have := hz.2 h
    omega
  · rw [Bool.eq_false_iff.2 h, decide_eq_false_iff_not]
    intro hle
    exact h (hz.1 (by omega))
theorem kept_init {x : GRoom} (R : x.Runs) : Kept7 x ((List.range 7).map fun i => ((getR x i).quiet : Int)) 0 := by
  refine ⟨by simp, fun i hi => ?_⟩
  have e : ((List.range 7).map fun i => ((getR x i).quiet : Int))[i]! = ((getR x i).quiet : Int) := by
    rw [List.getElem!_eq_getElem?_getD, List.getElem?_map, List.getElem?_range hi]; rfl
  have hq := quiet_le (getR x i)
  have := at_lt (getR_ok R hi)
  rw [e]
  omega
/-- The runs behind a step. -/
def runsNext (y : GRoom) (rs : List Int) (i : Nat) : Int := if isZ ((getR y i).back 1) then rs[i]! + 1 else 0
theorem back1 {r : GRing} (h : r.ok = true) (b : Nat) : (r.push b).back 1 = b := by
  obtain ⟨k1, k2, k3, k4, k5⟩ := at_lt h
  have hls : (r.push b).Samples.length = r.Samples.length := by simp [GRing.push]
  have := recent_get (r := r.push b) (i := 0) (by omega)
  rw [push_recent h] at this
  exact this.symm
theorem kept_step {x : GRoom} (R : x.Runs) {rs : List Int} {n : Int} (hn : 0 ≤ n) (K : Kept7 x rs n) (a : Nat) : Kept7 (x.step a).1 (mapI (runsNext (x.step a).1 rs) rs 7) (n + 1) := by
  refine ⟨by rw [mapI_len, K.len], fun i hi => ?_⟩
  rw [mapI_lt (by rw [K.len]; exact hi) hi]
  obtain ⟨k1, k2, k3⟩ := K.k i hi
  obtain ⟨b, e⟩ := getR_step R a hi
  have hok := getR_ok R hi
  have hq := push_quiet hok b
  have hls : ((getR x i).push b).Samples.length = (getR x i).Samples.length := by simp [GRing.push]
  have h1 := at_lt hok
  unfold runsNext
  rw [e, back1 hok, hls, hq]
  split
  · omega
  · omega
end Go.Sx
/- Two more small functions over floats. -/
set_option linter.unusedVariables false
set_option linter.unusedSimpArgs false
namespace Go.Sx
open Go.Proofs Ieee
set_option maxRecDepth 100000
section
variable {x y a b : Nat}
def inside (a l r : Nat) : Bool := fge .f32 a l && fle .f32 a r
end
end Go.Sx
/- What pipes do, plain. -/
set_option linter.unusedVariables false
set_option linter.unusedSimpArgs false
namespace Go.Sx
def one32 : Nat := 1065353216
def neg32 : Nat := 3212836864
def GPipe.n (x : GPipe) : Nat := x.Right.length
def GPipe.d (x : GPipe) (b : Nat) : Nat := fsub .f32 x.Left[0]!.old b
def GPipe.t (x : GPipe) (i : Nat) : Nat := fmul .f32 x.Scatter[i]! (fsub .f32 x.Right[i]!.old x.Left[i + 1]!.old)
def GPipe.e (x : GPipe) : GFilter × Nat := x.End.step x.Right[x.n - 1]!.old
def GPipe.back (x : GPipe) : Nat := let b := fmul .f32 x.Loss x.e.2; if x.Open then fneg .f32 b else b
def GPipe.reed (x : GPipe) (d : Nat) : Nat := clamp (fadd .f32 x.Rest (fmul .f32 x.Slope d)) one32
def GPipe.rt (x : GPipe) (b : Nat) (i : Nat) : GRing := x.Right[i]!.push (kept (if i = 0 then fadd .f32 b (fmul .f32 (x.d b) (x.reed (x.d b))) else fadd .f32 x.Right[i - 1]!.old (x.t (i - 1))))
def GPipe.lf (x : GPipe) (i : Nat) : GRing := x.Left[i]!.push (kept (if i = x.n - 1 then x.back else fadd .f32 x.Left[i + 1]!.old (x.t i)))
/-- A step: the pipe behind it, and what comes out. -/
def GPipe.step (x : GPipe) (b : Nat) : GPipe × Nat := ({ x with Right := (List.range x.n).map (x.rt b), Left := (List.range x.n).map x.lf, End := x.e.1 }, x.e.2)
def GPipe.ok (x : GPipe) : Bool :=
  inR x.n 1 3 && decide (x.Left.length = x.n) && decide (x.Scatter.length + 1 = x.n) && x.Right.all GRing.okf && x.Left.all GRing.okf && ((List.range x.n).all fun i => x.Right[i]!.Samples.length == x.Left[i]!.Samples.length) &&
    (x.Scatter.all fun k => inside k neg32 one32) && x.End.ok && (x.End.Kind == 1) && fin x.Loss && fin x.Rest && fin x.Slope
def GPipe.play (x : GPipe) : List Nat → GPipe × List Nat
  | [] => (x, [])
  | a :: l => let y := x.step a; let r := y.1.play l; (r.1, y.2 :: r.2)
end Go.Sx
/- Maps whose keys are integers: made, looked up, updated, counted. -/
set_option linter.unusedVariables false
set_option linter.unusedSimpArgs false
namespace Go.Sx
open Go.MapKept

def encM (p : Int × Value) : Value × Value := (.int .i64 p.1, p.2)
def pairM (e : MapEntry) : Value × Value := (e.key, e.val)
/-- In block g lies a map with these entries, in this order. -/
def MapI (h : Heap) (g : Nat) (m : List (Int × Value)) : Prop := ∃ (es : Array MapEntry) (clock : Nat), h[g]? = some (.map es clock) ∧ es.toList.map pairM = m.map encM
section
variable {P : Program} {h hb : Heap} {g : Nat} {m : List (Int × Value)} {t k e : TypeId} {K : Value → Heap → Prop}
theorem MapI.ext {h' : Heap} (M : MapI h g m) (x : Ext h h') : MapI h' g m := by
  obtain ⟨es, c, e1, e2⟩ := M
  have hlt : g < h.size := (Array.getElem?_eq_some_iff.1 e1).1
  exact ⟨es, c, by rw [x.2 g hlt]; exact e1, e2⟩
end
end Go.Sx
