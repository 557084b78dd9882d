/- Rings that fall silent: the newest samples, how many of them are zero. -/
import Derived.Test.YtdhhfilfcpljoaaGreatLm2
import Derived.Test.YtdhhfilfcpljoaaGreatLs1
import Derived.Test.YtdhhfilfcpljoaaGreatLs2
set_option linter.unusedVariables false
set_option linter.unusedSimpArgs false
namespace Go.Sx
open Go.Proofs
def isZ (a : Nat) : Bool := feq .f32 a 0
/-- The samples of a ring, the newest first. -/
def GRing.recent (r : GRing) : List Nat := (List.range r.Samples.length).map fun i : Nat => r.back ((i : Int) + 1)
/-- How many of the newest samples are zero. -/
def runL : List Nat → Nat
  | [] => 0
  | a :: l => if isZ a then runL l + 1 else 0
def GRing.quiet (r : GRing) : Nat := runL r.recent
theorem runL_le : ∀ l : List Nat, runL l ≤ l.length
  | [] => Nat.le_refl _
  | a :: l => by
    have := runL_le l
    unfold runL
    split
    · simp only [List.length_cons]; omega
    · simp
theorem runL_take : ∀ (l : List Nat) (n : Nat), runL (l.take n) = min n (runL l)
  | l, 0 => by simp [runL]
  | [], n + 1 => by simp [runL]
  | a :: l, n + 1 => by
    rw [List.take_succ_cons]
    unfold runL
    rw [runL_take l n]
    split <;> omega
theorem runL_all : ∀ l : List Nat, (runL l = l.length) ↔ ∀ a ∈ l, isZ a = true
  | [] => by simp [runL]
  | a :: l => by
    have ih := runL_all l
    have hle := runL_le l
    unfold runL
    constructor
    · intro h
      split at h
      · next hz =>
        intro b hb
        rcases List.mem_cons.1 hb with rfl | hb
        · exact hz
        · exact ih.1 (by simp only [List.length_cons] at h; omega) b hb
      · simp at h
    · intro h
      rw [if_pos (h a (List.mem_cons_self ..)), ih.2 fun b hb => h b (List.mem_cons_of_mem _ hb)]
      rfl
theorem recent_len (r : GRing) : r.recent.length = r.Samples.length := by simp [GRing.recent]
/-- The place of the sample that came k samples ago. -/
theorem back_place {r : GRing} (h : r.ok = true) {i : Nat} (hi : i < r.Samples.length) : r.back ((i : Int) + 1) = r.Samples[(if i < r.At.toNat then r.At.toNat - 1 - i else r.At.toNat + r.Samples.length - 1 - i)]! := by
  obtain ⟨k1, k2, k3, k4, k5⟩ := at_lt h
  unfold GRing.back
  have hl : r.len = r.Samples.length := rfl
  congr 1
  rw [hl]
  split
  · next hlt =>
    rw [show r.At - ((i : Int) + 1) + (r.Samples.length : Int) = (r.At - 1 - i) + r.Samples.length by omega, Int.add_emod_right, Int.emod_eq_of_lt (by omega) (by omega)]
    omega
  · next hge =>
    rw [Int.emod_eq_of_lt (by omega) (by omega)]
    omega
theorem recent_mem {r : GRing} (h : r.ok = true) (a : Nat) : a ∈ r.recent ↔ a ∈ r.Samples := by
  obtain ⟨k1, k2, k3, k4, k5⟩ := at_lt h
  unfold GRing.recent
  simp only [List.mem_map, List.mem_range]
  constructor
  · rintro ⟨i, hi, rfl⟩
    rw [back_place h hi]
    refine mem_get ?_
    split <;> omega
  · intro ha
    obtain ⟨j, hj, rfl⟩ := List.mem_iff_getElem.1 ha
    by_cases hlt : j < r.At.toNat
    · refine ⟨r.At.toNat - 1 - j, by omega, ?_⟩
      rw [back_place h (by omega), if_pos (by omega), show r.At.toNat - 1 - (r.At.toNat - 1 - j) = j by omega, getElem!_pos _ j hj]
    · refine ⟨r.At.toNat + r.Samples.length - 1 - j, by omega, ?_⟩
      rw [back_place h (by omega), if_neg (by omega), show r.At.toNat + r.Samples.length - 1 - (r.At.toNat + r.Samples.length - 1 - j) = j by omega, getElem!_pos _ j hj]
theorem quiet_le (r : GRing) : r.quiet ≤ r.Samples.length := by have := runL_le r.recent; rw [recent_len] at this; exact this
theorem quiet_zero {r : GRing} (h : r.ok = true) : (r.quiet = r.Samples.length) ↔ r.zero = true := by
  unfold GRing.quiet GRing.zero
  rw [← recent_len r, runL_all, List.all_eq_true]
  exact ⟨fun H a ha => H a ((recent_mem h a).2 ha), fun H a ha => H a ((recent_mem h a).1 ha)⟩
theorem set_get {l : List Nat} {i j : Nat} {a : Nat} (hi : i < l.length) (hj : j < l.length) : (l.set i a)[j]! = if i = j then a else l[j]! := by
  rw [getElem!_pos _ j (by rw [List.length_set]; exact hj), List.getElem_set]
  split
  · rfl
  · rw [getElem!_pos _ j hj]
theorem push_recent {r : GRing} (h : r.ok = true) (a : Nat) : (r.push a).recent = a :: r.recent.take (r.Samples.length - 1) := by
  obtain ⟨k1, k2, k3, k4, k5⟩ := at_lt h
  have hp := push_ok (a := a) h
  have hls : (r.push a).Samples.length = r.Samples.length := by simp [GRing.push]
  have hs : (r.push a).Samples = r.Samples.set r.At.toNat a := rfl
  have hat : (r.push a).At = (r.At + 1) % (r.Samples.length : Int) := rfl
  have hat' : (r.push a).At.toNat = if r.At.toNat + 1 = r.Samples.length then 0 else r.At.toNat + 1 := by
    rw [hat]
    split
    · rw [show r.At + 1 = (r.Samples.length : Int) by omega, Int.emod_self]; rfl
    · rw [Int.emod_eq_of_lt (by omega) (by omega)]; omega
  apply List.ext_getElem?
  intro i
  by_cases hi : i < r.Samples.length
  · have e1 : (r.push a).recent[i]? = some ((r.push a).back ((i : Int) + 1)) := by
      unfold GRing.recent; rw [List.getElem?_map, List.getElem?_range (by rw [hls]; exact hi)]; rfl
    rw [e1, back_place hp.1 (by rw [hls]; exact hi), hs]
    cases i with
    | zero =>
      rw [List.getElem?_cons_zero]
      congr 1
      rw [List.length_set, hat']
      rw [set_get k2 (by split <;> split <;> omega), if_pos (by split <;> split <;> omega)]
    | succ i =>
      have e2 : (a :: r.recent.take (r.Samples.length - 1))[i + 1]? = some (r.back ((i : Int) + 1)) := by
        rw [List.getElem?_cons_succ, List.getElem?_take, if_pos (by omega)]
        unfold GRing.recent; rw [List.getElem?_map, List.getElem?_range (by omega)]; rfl
      rw [e2]
      congr 1
      rw [back_place h (by omega), List.length_set, hat']
      rw [set_get k2 (by split <;> split <;> omega), if_neg (by split <;> split <;> omega)]
      congr 1
      split <;> split <;> split <;> omega
  · rw [List.getElem?_eq_none (by rw [recent_len, hls]; omega), List.getElem?_eq_none]
    simp only [List.length_cons, List.length_take, recent_len]; omega
theorem push_quiet {r : GRing} (h : r.ok = true) (a : Nat) : (r.push a).quiet = if isZ a then min (r.quiet + 1) r.Samples.length else 0 := by
  obtain ⟨k1, k2, k3, k4, k5⟩ := at_lt h
  unfold GRing.quiet
  rw [push_recent h]
  show (if isZ a then runL (r.recent.take (r.Samples.length - 1)) + 1 else 0) = _
  rw [runL_take]
  split <;> omega
end Go.Sx
/- Rings and filters that are silent, as the program tells them. -/
set_option linter.unusedVariables false
set_option linter.unusedSimpArgs false
namespace Go.Sx
open Go.Proofs
set_option maxRecDepth 100000
set_option maxHeartbeats 1000000

section
variable {h : Heap} {q : Addr}
theorem ordZ {y a : Nat} (hy : FW .f32 y a) : (FloatKind.f32.format.order y 0 == some .eq) = isZ a := by rw [ord_eq hy fw0]; rfl
theorem ordN {y a : Nat} (hy : FW .f32 y a) : (FloatKind.f32.format.order y 0 != some .eq) = !isZ a := by rw [bne, ordZ hy]
theorem l02Still_c {f : GFilter} (R : RdP rFilter h q f) : CALL prg f_spec_l02Still #[.pointer (some q)] (fun u h' => u = .bool f.still ∧ Ext h h') h := by
  refine spec_l02Still.call (idx (by omega) (by omega) (R.oF fun y hy => ?_))
  rw [ordZ hy]
  refine br (fun hb => idx (by omega) (by omega) (R.oF fun z hz => ?_)) fun hb => ?_
  · rw [ordZ hz]
    refine ⟨?_, Ext.refl _⟩
    have hb : feq .f32 f.S[0]! 0 = true := hb
    unfold GFilter.still; rw [hb]; rfl
  · refine ⟨?_, Ext.refl _⟩
    have hb : feq .f32 f.S[0]! 0 = false := hb
    unfold GFilter.still; rw [hb]; rfl
theorem Filter_isStill_c {cs : Array Value} {f : GFilter} (R0 : rFilter.rd h cs.toList f) : CALL prg f_impl_Filter_isStill #[.agg cs] (fun u h' => u = .bool f.still ∧ Ext h h') h := by
  refine impl_Filter_isStill.call (alcR R0 fun g h1 x1 R => idx (by omega) (by omega) (R.oF2 fun y hy => ?_))
  rw [ordZ hy]
  refine br (fun hb => idx (by omega) (by omega) (R.oF2 fun z hz => ?_)) fun hb => ?_
  · rw [ordZ hz]
    refine ⟨?_, x1⟩
    have hb : feq .f32 f.S[0]! 0 = true := hb
    unfold GFilter.still; rw [hb]; rfl
  · refine ⟨?_, x1⟩
    have hb : feq .f32 f.S[0]! 0 = false := hb
    unfold GFilter.still; rw [hb]; rfl
theorem l04Zero_c {b : Option Addr} {l c : Nat} {rs : List GRing} (S : SlR rRing h b l c rs) : CALL prg f_spec_l04Zero #[.slice b l c] (fun u h' => u = .bool (rs.all GRing.zero) ∧ Ext h h') h := by
  have hl := S.len
  have k1 := S.2.1
  have k2 := S.2.2.1
  have k3 := maxLen_lt
  refine spec_l04Zero.call (loop (fun y hh => ∃ n : Nat, y = (b, l, c, (n : Int)) ∧ n ≤ l ∧ hh = h ∧ ∀ i, i < n → rs[i]!.zero = true) (fun y => (l - y.2.2.2).toNat) ⟨0, rfl, by omega, rfl, fun i hi => by omega⟩ ?_)
  rintro y hh ⟨n, rfl, hn, rfl, hz⟩
  refine brd (fun hc => ?_) fun hc => ?_
  · have no : (∃ j, j < rs[n]!.Samples.length ∧ isZ rs[n]!.Samples[j]! = false) → (Value.bool false = .bool (rs.all GRing.zero) ∧ Ext hh hh) := fun ⟨j, hj, e⟩ => by
      refine ⟨?_, Ext.refl _⟩
      have : rs[n]!.zero = false := by
        unfold GRing.zero
        rw [List.all_eq_false]
        exact ⟨_, mem_get hj, by unfold isZ at e; rw [e]; simp⟩
      rw [all_range, all_false (f := fun i => rs[i]!.zero) (i := n) (by omega) this]
    refine loop (fun y hh' => ∃ k : Nat, y = (b, l, c, (n : Int), (k : Int)) ∧ k ≤ rs[n]!.Samples.length ∧ hh' = hh ∧ ∀ j, j < k → isZ rs[n]!.Samples[j]! = true) (fun y => (rs[n]!.Samples.length - y.2.2.2.2).toNat) ⟨0, rfl, by omega, rfl, fun i hi => by omega⟩ ?_
    rintro y hh' ⟨k, rfl, hk, rfl, hj⟩
    refine S.idx ring_sz (by omega) (by omega) fun p Rp => Rp.oL1 fun b2 l2 c2 S2 => ?_
    have hl2 : rs[n]!.Samples.length = l2 := S2.len
    have j1 := S2.2.1
    have j2 := S2.2.2.1
    refine brd (fun hc2 => ?_) fun hc2 => ?_
    · refine S.idx ring_sz (by omega) (by omega) fun p Rp => Rp.oL1 fun b3 l3 c3 S3 => ?_
      have hl3 : rs[n]!.Samples.length = l3 := S3.len
      refine S3.idx (by decide) (by omega) (by omega) fun p3 Rp3 => Rp3.oF1 fun y hy => ?_
      rw [ordN hy]
      refine br (fun hb => no ⟨k, by omega, nt hb⟩) fun hb => ?_
      refine ⟨⟨k + 1, by rw [wrap64_succ (by omega)], by omega, rfl, fun j hj' => ?_⟩, by rw [wrap64_succ (by omega)]; show (((rs[n]!.Samples.length : Nat) : Int) - ((k + 1 : Nat) : Int)).toNat < (((rs[n]!.Samples.length : Nat) : Int) - ((k : Nat) : Int)).toNat; omega⟩
      by_cases e : j = k
      · subst e; exact nf hb
      · exact hj j (by omega)
    · refine ⟨⟨n + 1, by rw [wrap64_succ (by omega)], by omega, rfl, fun i hi => ?_⟩, by rw [wrap64_succ (by omega)]; show _ < _; simp; omega⟩
      by_cases e : i = n
      · subst e
        unfold GRing.zero
        rw [all_range]
        exact all_true (f := fun j => isZ rs[i]!.Samples[j]!) fun j hj' => hj j (by omega)
      · exact hz i (by omega)
  · refine ⟨?_, Ext.refl _⟩
    rw [all_range, all_true fun i hi => hz i (by omega)]
theorem runL_lt {l : List Nat} {n : Nat} (hn : n < l.length) (h1 : ∀ i, i < n → isZ l[i]! = true) (h2 : isZ l[n]! = false) : runL l = n := by
  induction l generalizing n with
  | nil => simp at hn
  | cons a l ih =>
    cases n with
    | zero => unfold runL; rw [show isZ a = false from h2]; rfl
    | succ n =>
      unfold runL
      rw [if_pos (show isZ a = true from h1 0 (by omega)), ih (by simpa using hn) (fun i hi => h1 (i + 1) (by omega)) h2]
theorem recent_get {r : GRing} {i : Nat} (hi : i < r.Samples.length) : r.recent[i]! = r.back ((i : Int) + 1) := by
  rw [List.getElem!_eq_getElem?_getD]
  unfold GRing.recent
  rw [List.getElem?_map, List.getElem?_range hi]; rfl
theorem Ring_quiet_c {cs : Array Value} {r : GRing} (R0 : rRing.rd h cs.toList r) (hr : r.ok = true) : CALL prg f_impl_Ring_quiet #[.agg cs] (fun u h' => u = .int .i64 (r.quiet : Int) ∧ Ext h h') h := by
  have h1 := at_lt hr
  have hlen : r.len = r.Samples.length := rfl
  refine impl_Ring_quiet.call (alcR R0 fun g h1 x1 R => R.oL2 fun b l c S => goX (length_f32_c _ _ _ _) fun h2 x2 => as_i ?_)
  have hl : r.Samples.length = l := S.len
  have R := R.ext x2
  refine loop (fun y hh => ∃ n : Nat, y = (⟨g, 0, none⟩, (l : Int), (n : Int) + 1) ∧ n ≤ l ∧ Ext h2 hh ∧ ∀ i, i < n → isZ r.recent[i]! = true) (fun y => (l + 1 - y.2.2).toNat) ⟨0, rfl, by omega, Ext.refl _, fun i hi => by omega⟩ ?_
  rintro y hh ⟨n, rfl, hn, X, hz⟩
  refine brd (fun hc => ?_) fun hc => ?_
  · refine (R.ext X).lda1 rfl fun cs' Rc => (Ring_back_c Rc hr (k := (n : Int) + 1) (by unfold inR; simp only [Bool.and_eq_true, decide_eq_true_eq]; omega)).mono ?_
    rintro _ h3 ⟨⟨y, rfl, hy⟩, x3⟩
    refine as_f ?_
    rw [ordN hy]
    refine br (fun hb => ?_) fun hb => ?_
    · refine ⟨?_, ((x1.trans x2).trans X).trans x3⟩
      have : r.quiet = n := runL_lt (by rw [recent_len]; omega) hz (by rw [recent_get (by omega)]; exact nt hb)
      rw [this, wrap64 (by omega) (by omega)]
      congr 1; omega
    · refine ⟨⟨n + 1, by rw [wrap64 (n := (n : Int) + 1 + 1) (by omega) (by omega)]; rfl, by omega, X.trans x3, fun i hi => ?_⟩, by rw [wrap64 (n := (n : Int) + 1 + 1) (by omega) (by omega)]; show _ < _; simp; omega⟩
      by_cases e : i = n
      · subst e; rw [recent_get (by omega)]; exact nf hb
      · exact hz i (by omega)
  · obtain rfl : n = l := by omega
    refine ⟨?_, (x1.trans x2).trans X⟩
    have : r.quiet = n := by
      rw [← hl]
      unfold GRing.quiet
      rw [← recent_len r, runL_all]
      intro a ha
      obtain ⟨j, hj, rfl⟩ := List.mem_iff_getElem.1 ha
      have := hz j (by rw [recent_len] at hj; omega)
      rwa [getElem!_pos _ j hj] at this
    rw [this]
end
end Go.Sx
/- Rooms that are silent, as the program tells them. -/
set_option linter.unusedVariables false
set_option linter.unusedSimpArgs false
namespace Go.Sx
open Go.Proofs
set_option maxRecDepth 100000
set_option maxHeartbeats 1000000

section
variable {h : Heap} {q : Addr} {x : GRoom}
def GRoom.stillD (x : GRoom) : Bool := x.Damps.all GFilter.still
def GRoom.zeroR (x : GRoom) : Bool := x.Early.zero && x.Combs.all (fun c => c.Ring.zero) && x.Loops.all GRing.zero
theorem zero_eq (x : GRoom) : x.zero = (x.zeroR && x.stillD) := rfl
theorem l06Silent_c (R : RdP rRoom h q x) : CALL prg f_spec_l06Silent #[.pointer (some q)] (fun u h' => u = .bool x.zero ∧ Ext h h') h := by
  have hD : x.Damps.length = 4 := (R.foc foc_Room_Damps).len
  have hC := combs2 R
  refine spec_l06Silent.call (loop (fun y hh => ∃ n : Nat, y = (q, (n : Int)) ∧ n ≤ 4 ∧ Ext h hh ∧ ∀ i, i < n → x.Damps[i]!.still = true) (fun y => (4 - y.2).toNat) ⟨0, rfl, by omega, Ext.refl _, fun i hi => by omega⟩ ?_)
  rintro y hh ⟨n, rfl, hn, X, hz⟩
  refine brd (fun hc => ?_) fun hc => ?_
  · refine idx (by omega) (by omega) ((l02Still_c (((R.ext X).foc foc_Room_Damps).elem (i := n) (by omega))).mono ?_)
    rintro _ h2 ⟨rfl, x2⟩
    refine as_b (br (fun hb => ⟨?_, X.trans x2⟩) fun hb => ?_)
    · have : x.stillD = false := by unfold GRoom.stillD; rw [all_range, all_false (f := fun i => x.Damps[i]!.still) (i := n) (by omega) (nt hb)]
      rw [zero_eq, this, Bool.and_false]
    · refine ⟨⟨n + 1, by rw [wrap64_succ (by omega)], by omega, X.trans x2, fun i hi => ?_⟩, by rw [wrap64_succ (by omega)]; show _ < _; simp; omega⟩
      by_cases e : i = n
      · subst e; exact nf hb
      · exact hz i (by omega)
  have hS : x.stillD = true := by unfold GRoom.stillD; rw [all_range, all_true fun i hi => hz i (by omega)]
  have R := R.ext X
  have e1 := ((R.foc foc_Room_Combs).elem (i := 0) (by decide)).fst foc_Comb_Ring
  have e2 := ((R.foc foc_Room_Combs).elem (i := 1) (by decide)).fst foc_Comb_Ring
  simp only [add_add', sz_Comb, Nat.reduceMul, Nat.reduceAdd] at e1 e2
  refine (R.fst foc_Room_Early).lda1 rfl fun c0 R0 => idx (by omega) (by omega) (e1.lda1 rfl fun c1 R1 => idx (by omega) (by omega) (e2.lda1 rfl fun c2 R2 => ⟨rsz R0 rfl, ⟨rsz R1 rfl, ⟨rsz R2 rfl, ?_⟩⟩⟩))
  have z0 : (rArr 3 rRing).rd hh [.slice none 0 0, .int .i64 (0 : Int), .slice none 0 0, .int .i64 (0 : Int), .slice none 0 0, .int .i64 (0 : Int)] [z_Ring, z_Ring, z_Ring] :=
    ⟨rfl, [_, _], _, rfl, zr_rd hh, [_, _], _, rfl, zr_rd hh, [_, _], _, rfl, zr_rd hh, rfl⟩
  have z1 := rd_splice (put := fun l b => l.set 0 b) (get := fun l => l[0]!) z0 (fun R => arr_put (i := 0) (by decide) R) R0
  have z2 := rd_splice (put := fun l b => l.set 1 b) (get := fun l => l[1]!) z1 (fun R => arr_put (i := 1) (by decide) R) R1
  have z3 := rd_splice (put := fun l b => l.set 2 b) (get := fun l => l[2]!) z2 (fun R => arr_put (i := 2) (by decide) R) R2
  have z3 : (rArr 3 rRing).rd hh _ [x.Early, x.Combs[0]!.Ring, x.Combs[1]!.Ring] := z3
  refine rArr_slr z3 (by decide) fun g h3 x3 S => goX (l04Zero_c S) fun h4 x4 => as_b ?_
  have X4 := X.trans (x3.trans x4)
  have eC : x.Combs.all (fun c => c.Ring.zero) = (x.Combs[0]!.Ring.zero && x.Combs[1]!.Ring.zero) := by
    obtain ⟨u, v, e⟩ := is2 hC
    rw [e]; simp
  have e3 : ([x.Early, x.Combs[0]!.Ring, x.Combs[1]!.Ring].all GRing.zero) = (x.Early.zero && x.Combs.all (fun c => c.Ring.zero)) := by rw [eC]; simp
  rw [e3]
  refine br (fun hb => ?_) fun hb => ?_
  · refine (l06Loops_c (R.ext (x3.trans x4))).mono ?_
    rintro _ h5 ⟨⟨b, l, c, rfl, SL⟩, x5⟩
    refine as_l (goX (l04Zero_c SL) fun h6 x6 => as_b ⟨?_, (X4.trans x5).trans x6⟩)
    rw [zero_eq, hS, GRoom.zeroR, hb, Bool.true_and, Bool.and_true]
  · refine ⟨?_, X4⟩
    rw [zero_eq, GRoom.zeroR, hb]; rfl
theorem Room_isStill_c (R : RdP rRoom h q x) : CALL prg f_p_impl_Room_isStill #[.pointer (some q)] (fun u h' => u = .bool x.stillD ∧ Ext h h') h := by
  have hD : x.Damps.length = 4 := (R.foc foc_Room_Damps).len
  refine p_impl_Room_isStill.call (R.lda foc_Room_Damps rfl fun cD RD => ?_)
  refine loop (fun y hh => ∃ n : Nat, y = (cD, (n : Int)) ∧ n ≤ 4 ∧ Ext h hh ∧ ∀ i, i < n → x.Damps[i]!.still = true) (fun y => (4 - y.2).toNat) ⟨0, rfl, by omega, Ext.refl _, fun i hi => by omega⟩ ?_
  rintro y hh ⟨n, rfl, hn, X, hz⟩
  refine brd (fun hc => ?_) fun hc => ?_
  · have Rn : rFilter.rd h (cD.extract (n * 6) (n * 6 + 6)).toList x.Damps[n]! := rd_part RD (Foc.arr rFilter n (by omega)) rfl
    refine idx (by omega) (by omega) ((Mem.start hh).alc fun g2 h8 x8 M => M.sta0 .here (rsz Rn rfl) (rFilter.rone Rn) rfl .here fun h9 M => M.lda0 .here (rsz Rn rfl) ?_)
    have X9 := X.trans M.ext
    refine goX (Filter_isStill_c (rFilter.ext X9 Rn)) fun h10 x10 => as_b (br (fun hb => ⟨?_, X9.trans x10⟩) fun hb => ?_)
    · have : x.stillD = false := by unfold GRoom.stillD; rw [all_range, all_false (f := fun i => x.Damps[i]!.still) (i := n) (by omega) (nt hb)]
      rw [this]
    · refine ⟨⟨n + 1, by rw [wrap64_succ (by omega)], by omega, X9.trans x10, fun i hi => ?_⟩, by rw [wrap64_succ (by omega)]; show _ < _; simp; omega⟩
      by_cases e : i = n
      · subst e; exact nf hb
      · exact hz i (by omega)
  · refine ⟨?_, X⟩
    unfold GRoom.stillD; rw [all_range, all_true fun i hi => hz i (by omega)]
end
end Go.Sx
/- How long a room sounds: told by the rings' zeros, and by runs kept beside them. -/
set_option linter.unusedVariables false
set_option linter.unusedSimpArgs false
namespace Go.Sx
open Go.Proofs
/-- From the n-th step on, for k steps more. -/
def tailFrom : GRoom → Int → Nat → Int × Int
  | _, _, 0 => (0, 7)
  | x, n, k + 1 => if x.zero then (n, 0) else tailFrom (x.step 0).1 (n + 1) k
def GRoom.tailOf (x : GRoom) (most : Int) : Int × Int := if x.ok then if inR most 0 20000 then tailFrom x 0 (most.toNat + 1) else (0, 2) else (0, 1)
theorem zeroR_eq {x : GRoom} (c2 : x.Combs.length = 2) (l4 : x.Loops.length = 4) : x.zeroR = (List.range 7).all fun i => (getR x i).zero := by
  obtain ⟨a, b, e1⟩ := is2 c2
  obtain ⟨c, d, e, f, e2⟩ := is4 l4
  obtain ⟨E, T, C, Lo, D, G, dr, we⟩ := x
  subst e1 e2
  show (E.zero && [a, b].all (fun c => c.Ring.zero) && [c, d, e, f].all GRing.zero) = [0, 1, 2, 3, 4, 5, 6].all _
  simp only [List.all_cons, List.all_nil, Bool.and_true, getR]
  show _ = (E.zero && (a.Ring.zero && (b.Ring.zero && (c.zero && (d.zero && (e.zero && f.zero))))))
  simp only [Bool.and_assoc]
theorem getR_ok {x : GRoom} (R : x.Runs) {i : Nat} (hi : i < 7) : (getR x i).ok = true := by
  have hC := R.c2
  have hL := R.l4
  unfold getR
  split
  · exact R.e
  · split
    · exact R.c _ (mem_get (by omega))
    · exact R.l _ (mem_get (by omega))
theorem getR_step {x : GRoom} (R : x.Runs) (a : Nat) {i : Nat} (hi : i < 7) : ∃ b, getR (x.step a).1 i = (getR x i).push b := by
  rw [step_eq R]
  have hL := R.l4
  have key : ∀ j, j < 4 → getR (x.s3 a 4) (j + 3) = (getR x (j + 3)).push (kept (fadd .f32 (x.c1 a).2 x.hs[j]!)) := fun j hj => by
    unfold getR
    rw [if_neg (by omega), if_neg (by omega), if_neg (by omega), if_neg (by omega), show j + 3 - 3 = j by omega]
    show (mapI (x.fl a) x.Loops 4)[j]! = _
    rw [mapI_lt (by omega) hj]
    rfl
  show ∃ b, getR (x.s3 a 4) i = _
  by_cases h0 : i = 0
  · subst h0; exact ⟨kept a, rfl⟩
  by_cases h1 : i = 1
  · subst h1; exact ⟨_, rfl⟩
  by_cases h2 : i = 2
  · subst h2; exact ⟨_, rfl⟩
  have := key (i - 3) (by omega)
  rw [show i - 3 + 3 = i by omega] at this
  exact ⟨_, this⟩
/-- The runs kept beside a room's rings. -/
structure Kept7 (x : GRoom) (rs : List Int) (n : Int) : Prop where
  len : rs.length = 7
  k : ∀ i : Nat, i < 7 → 0 ≤ rs[i]! ∧ rs[i]! ≤ 1024 + n ∧ min rs[i]! ((getR x i).Samples.length : Int) = (getR x i).quiet
theorem kept_zero {x : GRoom} (R : x.Runs) {rs : List Int} {n : Int} (K : Kept7 x rs n) {i : Nat} (hi : i < 7) : decide (((getR x i).Samples.length : Int) ≤ rs[i]!) = (getR x i).zero := by
  obtain ⟨k1, k2, k3⟩ := K.k i hi
  have hz := quiet_zero (getR_ok R hi)
  have hq := quiet_le (getR x i)
  by_cases h : (getR x i).zero = true
  · rw [h, decide_eq_true_eq]
    have := hz.2 h
    omega
  · rw [Bool.eq_false_iff.2 h, decide_eq_false_iff_not]
    intro hle
    exact h (hz.1 (by omega))
theorem kept_init {x : GRoom} (R : x.Runs) : Kept7 x ((List.range 7).map fun i => ((getR x i).quiet : Int)) 0 := by
  refine ⟨by simp, fun i hi => ?_⟩
  have e : ((List.range 7).map fun i => ((getR x i).quiet : Int))[i]! = ((getR x i).quiet : Int) := by
    rw [List.getElem!_eq_getElem?_getD, List.getElem?_map, List.getElem?_range hi]; rfl
  have hq := quiet_le (getR x i)
  have := at_lt (getR_ok R hi)
  rw [e]
  omega
/-- The runs behind a step. -/
def runsNext (y : GRoom) (rs : List Int) (i : Nat) : Int := if isZ ((getR y i).back 1) then rs[i]! + 1 else 0
theorem back1 {r : GRing} (h : r.ok = true) (b : Nat) : (r.push b).back 1 = b := by
  obtain ⟨k1, k2, k3, k4, k5⟩ := at_lt h
  have hls : (r.push b).Samples.length = r.Samples.length := by simp [GRing.push]
  have := recent_get (r := r.push b) (i := 0) (by omega)
  rw [push_recent h] at this
  exact this.symm
theorem kept_step {x : GRoom} (R : x.Runs) {rs : List Int} {n : Int} (hn : 0 ≤ n) (K : Kept7 x rs n) (a : Nat) : Kept7 (x.step a).1 (mapI (runsNext (x.step a).1 rs) rs 7) (n + 1) := by
  refine ⟨by rw [mapI_len, K.len], fun i hi => ?_⟩
  rw [mapI_lt (by rw [K.len]; exact hi) hi]
  obtain ⟨k1, k2, k3⟩ := K.k i hi
  obtain ⟨b, e⟩ := getR_step R a hi
  have hok := getR_ok R hi
  have hq := push_quiet hok b
  have hls : ((getR x i).push b).Samples.length = (getR x i).Samples.length := by simp [GRing.push]
  have h1 := at_lt hok
  unfold runsNext
  rw [e, back1 hok, hls, hq]
  split
  · omega
  · omega
end Go.Sx
