/- The rings of a room, found one by one; rooms muted ring by ring. -/
import Derived.Test.YthgnpepchedpbaaGreatLk8
import Derived.Test.YthgnpepchedpbaaGreatLk7
set_option linter.unusedVariables false
set_option linter.unusedSimpArgs false
namespace Go.Sx
open Go.Proofs
set_option maxRecDepth 100000

theorem ok_small {x : GRoom} (h : x.ok = true) : x.small := by
  rw [room_ok] at h
  simp only [Bool.and_eq_true, decide_eq_true_eq, List.all_eq_true] at h
  obtain ⟨⟨⟨⟨⟨⟨⟨⟨h1, h2⟩, h3⟩, h4⟩, h5⟩, h6⟩, h7⟩, h8⟩, h9⟩ := h
  have k : ∀ r : GRing, r.okf = true → r.Samples.length ≤ 1048576 := fun r hr => by
    unfold GRing.okf at hr
    rw [Bool.and_eq_true] at hr
    have := at_lt hr.1
    omega
  refine ⟨k _ h1, by omega, fun c hc => ?_, fun r hr => k _ (h4 r hr)⟩
  have := h3 c hc
  unfold GComb.ok at this
  rw [Bool.and_eq_true] at this
  exact k _ this.1
def offR (n : Nat) : Nat := if n = 0 then 0 else if n < 3 then 3 + (n - 1) * 3 else 9 + (n - 3) * 2
def getR (x : GRoom) (n : Nat) : GRing := if n = 0 then x.Early else if n < 3 then x.Combs[n - 1]!.Ring else x.Loops[n - 3]!
def putR (x : GRoom) (n : Nat) (r : GRing) : GRoom := if n = 0 then { x with Early := r } else if n < 3 then { x with Combs := x.Combs.set (n - 1) { x.Combs[n - 1]! with Ring := r } } else { x with Loops := x.Loops.set (n - 3) r }
theorem foc_ring (n : Nat) (hn : n < 7) : Foc rRoom rRing (offR n) (fun a => getR a n) (fun a b => putR a n b) := by
  unfold offR getR putR
  by_cases h0 : n = 0
  · simp only [if_pos h0]; exact foc_Room_Early
  · by_cases h3 : n < 3
    · simp only [if_neg h0, if_pos h3]
      exact ((foc_comb (n - 1) (by omega)).trans foc_Comb_Ring).at (by omega)
    · simp only [if_neg h0, if_neg h3]
      exact foc_loop (n - 3) (by omega)
theorem lt7 {n : Nat} (h : n < 7) : n = 0 ∨ n = 1 ∨ n = 2 ∨ n = 3 ∨ n = 4 ∨ n = 5 ∨ n = 6 := by omega
/-- The pointers to a room's rings. -/
def ringPs (q : Addr) : List Addr := q :: ((List.range 2).map (fun i => q.add (3 + i * 3)) ++ (List.range 4).map fun i => q.add (9 + i * 2))
theorem ringPs_get (q : Addr) {n : Nat} (hn : n < 7) : (ringPs q)[n]! = q.add (offR n) := by
  rcases lt7 hn with rfl | rfl | rfl | rfl | rfl | rfl | rfl <;> first | rfl | exact (add0 q).symm
theorem rings_c (h : Heap) (q : Addr) : CALL prg f_p_impl_Room_rings #[.pointer (some q)] (fun u h' => ∃ b c B, u = .slice b 7 c ∧ SlO T_p_impl_Ring rP B b 7 c (ringPs q) ∧ Mem h h' B) h := by
  have h7 : (7 : Nat) ≤ maxLen := by decide
  refine p_impl_Room_rings.call ((Mem.start h).alc fun g1 h1 x1 M => ?_)
  have O1 : SlO T_p_impl_Ring rP [(g1, T_p_impl_Ring, ⟨[.pointer (some q)]⟩)] (some ⟨g1, 0, none⟩) 1 1 [q] :=
    ⟨rfl, [.pointer (some q)], [_], [], rfl, ⟨rfl, .inr ⟨g1, _, rfl, rfl, Nat.le_refl _, by decide, rfl, rfl⟩⟩, [], [], [.pointer (some q)], [], rfl, rfl, ⟨rfl, rfl⟩, rfl, rfl⟩
  refine loop (fun y hh => ∃ (n : Nat) (b : Option Addr) (c : Nat) (B : List Blk), y = (q, b, 1 + n, c, (n : Int)) ∧ n ≤ 2 ∧ SlO T_p_impl_Ring rP B b (1 + n) c (q :: (List.range n).map fun i => q.add (3 + i * 3)) ∧ Mem h hh B) (fun y => (2 - y.2.2.2.2).toNat)
    ⟨0, _, _, _, rfl, by omega, O1, M⟩ ?_
  rintro y hh ⟨n, b, c, B, rfl, hn, O, M⟩
  refine brd (fun hc => ?_) fun hc => ?_
  · refine idx (by omega) (by omega) ?_
    rw [Int.toNat_natCast, add_add']
    refine push_own (Bn := []) (L := []) (x := q.add (3 + n * 3)) E_sl_p_impl_Ring O (by simpa using M) ⟨rfl, rfl⟩ (by omega) (by omega) fun b' c' h' B' O' M' => as_l ⟨⟨n + 1, b', c', B', ?_, by omega, ?_, by simpa using M'⟩, by rw [wrap64_succ (by omega)]; show _ < _; simp; omega⟩
    · rw [wrap64_succ (by omega)]; rfl
    · rw [List.range_succ, List.map_append]; exact O'
  obtain rfl : n = 2 := by omega
  refine loop (fun y hh => ∃ (n : Nat) (b : Option Addr) (c : Nat) (B : List Blk), y = (q, b, 3 + n, c, (n : Int)) ∧ n ≤ 4 ∧ SlO T_p_impl_Ring rP B b (3 + n) c (q :: ((List.range 2).map (fun i => q.add (3 + i * 3)) ++ (List.range n).map fun i => q.add (9 + i * 2))) ∧ Mem h hh B) (fun y => (4 - y.2.2.2.2).toNat)
    ⟨0, _, _, _, rfl, by omega, O, M⟩ ?_
  rintro y hh ⟨n, b, c, B, rfl, hn, O, M⟩
  refine brd (fun hc => ?_) fun hc => ?_
  · refine idx (by omega) (by omega) ?_
    rw [Int.toNat_natCast, add_add']
    refine push_own (Bn := []) (L := []) (x := q.add (9 + n * 2)) E_sl_p_impl_Ring O (by simpa using M) ⟨rfl, rfl⟩ (by omega) (by omega) fun b' c' h' B' O' M' => as_l ⟨⟨n + 1, b', c', B', ?_, by omega, ?_, by simpa using M'⟩, by rw [wrap64_succ (by omega)]; show _ < _; simp; omega⟩
    · rw [wrap64_succ (by omega)]; rfl
    · rw [List.range_succ (n := n), List.map_append, ← List.append_assoc]; exact O'
  obtain rfl : n = 4 := by omega
  exact ⟨b, c, B, rfl, O, M⟩
end Go.Sx
/- Rooms that run: what a step asks for, and that it leaves it so; lists changed place by place. -/
set_option linter.unusedVariables false
set_option linter.unusedSimpArgs false
namespace Go.Sx
open Go.Proofs
/-- What a step of a room asks for. -/
structure GRoom.Runs (x : GRoom) : Prop where
  e : x.Early.ok = true
  t : ∀ t ∈ x.Taps, inR t.Back 1 x.Early.len = true
  c : ∀ c ∈ x.Combs, c.Ring.ok = true
  l : ∀ r ∈ x.Loops, r.ok = true
  c2 : x.Combs.length = 2
  l4 : x.Loops.length = 4
  d4 : x.Damps.length = 4
  g4 : x.Gains.length = 4
theorem ok_runs {x : GRoom} (h : x.ok = true) (c2 : x.Combs.length = 2) (l4 : x.Loops.length = 4) (d4 : x.Damps.length = 4) (g4 : x.Gains.length = 4) : x.Runs := by
  rw [room_ok] at h
  simp only [Bool.and_eq_true, decide_eq_true_eq, List.all_eq_true] at h
  obtain ⟨⟨⟨⟨⟨⟨⟨⟨h1, h2⟩, h3⟩, h4⟩, h5⟩, h6⟩, h7⟩, h8⟩, h9⟩ := h
  have k : ∀ r : GRing, r.okf = true → r.ok = true := fun r hr => by
    unfold GRing.okf at hr
    rw [Bool.and_eq_true] at hr
    exact hr.1
  refine ⟨k _ h1, fun t ht => ?_, fun c hc => ?_, fun r hr => k _ (h4 r hr), c2, l4, d4, g4⟩
  · have := h6 t ht
    unfold GTap.ok at this
    rw [Bool.and_eq_true] at this
    exact this.1
  · have := h3 c hc
    unfold GComb.ok at this
    rw [Bool.and_eq_true] at this
    exact k _ this.1
theorem step_runs {x : GRoom} (R : x.Runs) (a : Nat) : (x.step a).1.Runs := by
  obtain ⟨re, rt, rc, rl, c2, l4, d4, g4⟩ := R
  have hp := push_ok (a := kept a) re
  refine ⟨hp.1, fun t ht => ?_, fun c hc => ?_, fun r hr => ?_, rfl, by simp [GRoom.step], by simp [GRoom.step], g4⟩
  · show inR t.Back 1 (x.Early.push (kept a)).len = true
    rw [hp.2]; exact rt t ht
  · have e : (x.step a).1.Combs = [(x.Combs[0]!.step (fadd .f32 a x.early)).1, (x.Combs[1]!.step (x.Combs[0]!.step (fadd .f32 a x.early)).2).1] := rfl
    rw [e] at hc
    have k : ∀ c : GComb, c.Ring.ok = true → ∀ b, (c.step b).1.Ring.ok = true := fun c hc b => (push_ok hc).1
    simp only [List.mem_cons, List.not_mem_nil, or_false] at hc
    rcases hc with rfl | rfl
    · exact k _ (rc _ (mem_get (by omega))) _
    · exact k _ (rc _ (mem_get (by omega))) _
  · unfold GRoom.step at hr
    simp only [List.mem_map, List.mem_range] at hr
    obtain ⟨i, hi, rfl⟩ := hr
    exact (push_ok (rl _ (mem_get (by omega)))).1
theorem play_runs {x : GRoom} (R : x.Runs) : ∀ l : List Nat, (x.play l).1.Runs
  | [] => R
  | a :: l => by
    induction l generalizing x a with
    | nil => exact step_runs R a
    | cons b l ih => exact ih (step_runs R a) b
theorem play_append (x : GRoom) (l : List Nat) (a : Nat) : x.play (l ++ [a]) = (((x.play l).1.step a).1, (x.play l).2 ++ [((x.play l).1.step a).2]) := by
  induction l generalizing x with
  | nil => rfl
  | cons b l ih => rw [List.cons_append]; simp only [GRoom.play]; rw [ih]; rfl
end Go.Sx
/- Rings that fall silent: the newest samples, how many of them are zero. -/
set_option linter.unusedVariables false
set_option linter.unusedSimpArgs false
namespace Go.Sx
open Go.Proofs
def isZ (a : Nat) : Bool := feq .f32 a 0
/-- The samples of a ring, the newest first. -/
def GRing.recent (r : GRing) : List Nat := (List.range r.Samples.length).map fun i : Nat => r.back ((i : Int) + 1)
/-- How many of the newest samples are zero. -/
def runL : List Nat → Nat
  | [] => 0
  | a :: l => if isZ a then runL l + 1 else 0
def GRing.quiet (r : GRing) : Nat := runL r.recent
theorem runL_le : ∀ l : List Nat, runL l ≤ l.length
  | [] => Nat.le_refl _
  | a :: l => by
    have := runL_le l
    unfold runL
    split
    · simp only [List.length_cons]; omega
    · simp
theorem runL_take : ∀ (l : List Nat) (n : Nat), runL (l.take n) = min n (runL l)
  | l, 0 => by simp [runL]
  | [], n + 1 => by simp [runL]
  | a :: l, n + 1 => by
    rw [List.take_succ_cons]
    unfold runL
    rw [runL_take l n]
    split <;> omega
theorem runL_all : ∀ l : List Nat, (runL l = l.length) ↔ ∀ a ∈ l, isZ a = true
  | [] => by simp [runL]
  | a :: l => by
    have ih := runL_all l
    have hle := runL_le l
    unfold runL
    constructor
    · intro h
      split at h
      · next hz =>
        intro b hb
        rcases List.mem_cons.1 hb with rfl | hb
        · exact hz
        · exact ih.1 (by simp only [List.length_cons] at h; omega) b hb
      · simp at h
    · intro h
      rw [if_pos (h a (List.mem_cons_self ..)), ih.2 fun b hb => h b (List.mem_cons_of_mem _ hb)]
      rfl
theorem recent_len (r : GRing) : r.recent.length = r.Samples.length := by simp [GRing.recent]
/-- The place of the sample that came k samples ago. -/
theorem back_place {r : GRing} (h : r.ok = true) {i : Nat} (hi : i < r.Samples.length) : r.back ((i : Int) + 1) = r.Samples[(if i < r.At.toNat then r.At.toNat - 1 - i else r.At.toNat + r.Samples.length - 1 - i)]! := by
  obtain ⟨k1, k2, k3, k4, k5⟩ := at_lt h
  unfold GRing.back
  have hl : r.len = r.Samples.length := rfl
  congr 1
  rw [hl]
  split
  · next hlt =>
    rw [show r.At - ((i : Int) + 1) + (r.Samples.length : Int) = (r.At - 1 - i) + r.Samples.length by omega, Int.add_emod_right, Int.emod_eq_of_lt (by omega) (by omega)]
    omega
  · next hge =>
    rw [Int.emod_eq_of_lt (by omega) (by omega)]
    omega
theorem recent_mem {r : GRing} (h : r.ok = true) (a : Nat) : a ∈ r.recent ↔ a ∈ r.Samples := by
  obtain ⟨k1, k2, k3, k4, k5⟩ := at_lt h
  unfold GRing.recent
  simp only [List.mem_map, List.mem_range]
  constructor
  · rintro ⟨i, hi, rfl⟩
    rw [back_place h hi]
    refine mem_get ?_
    split <;> omega
  · intro ha
    obtain ⟨j, hj, rfl⟩ := List.mem_iff_getElem.1 ha
    by_cases hlt : j < r.At.toNat
    · refine ⟨r.At.toNat - 1 - j, by omega, ?_⟩
      rw [back_place h (by omega), if_pos (by omega), show r.At.toNat - 1 - (r.At.toNat - 1 - j) = j by omega, getElem!_pos _ j hj]
    · refine ⟨r.At.toNat + r.Samples.length - 1 - j, by omega, ?_⟩
      rw [back_place h (by omega), if_neg (by omega), show r.At.toNat + r.Samples.length - 1 - (r.At.toNat + r.Samples.length - 1 - j) = j by omega, getElem!_pos _ j hj]
theorem quiet_le (r : GRing) : r.quiet ≤ r.Samples.length := by have := runL_le r.recent; rw [recent_len] at this; exact this
theorem quiet_zero {r : GRing} (h : r.ok = true) : (r.quiet = r.Samples.length) ↔ r.zero = true := by
  unfold GRing.quiet GRing.zero
  rw [← recent_len r, runL_all, List.all_eq_true]
  exact ⟨fun H a ha => H a ((recent_mem h a).2 ha), fun H a ha => H a ((recent_mem h a).1 ha)⟩
theorem set_get {l : List Nat} {i j : Nat} {a : Nat} (hi : i < l.length) (hj : j < l.length) : (l.set i a)[j]! = if i = j then a else l[j]! := by
  rw [getElem!_pos _ j (by rw [List.length_set]; exact hj), List.getElem_set]
  split
  · rfl
  · rw [getElem!_pos _ j hj]
theorem push_recent {r : GRing} (h : r.ok = true) (a : Nat) : (r.push a).recent = a :: r.recent.take (r.Samples.length - 1) := by
  obtain ⟨k1, k2, k3, k4, k5⟩ := at_lt h
  have hp := push_ok (a := a) h
  have hls : (r.push a).Samples.length = r.Samples.length := by simp [GRing.push]
  have hs : (r.push a).Samples = r.Samples.set r.At.toNat a := rfl
  have hat : (r.push a).At = (r.At + 1) % (r.Samples.length : Int) := rfl
  have hat' : (r.push a).At.toNat = if r.At.toNat + 1 = r.Samples.length then 0 else r.At.toNat + 1 := by
    rw [hat]
    split
    · rw [show r.At + 1 = (r.Samples.length : Int) by omega, Int.emod_self]; rfl
    · rw [Int.emod_eq_of_lt (by omega) (by omega)]; omega
  apply List.ext_getElem?
  intro i
  by_cases hi : i < r.Samples.length
  · have e1 : (r.push a).recent[i]? = some ((r.push a).back ((i : Int) + 1)) := by
      unfold GRing.recent; rw [List.getElem?_map, List.getElem?_range (by rw [hls]; exact hi)]; rfl
    rw [e1, back_place hp.1 (by rw [hls]; exact hi), hs]
    cases i with
    | zero =>
      rw [List.getElem?_cons_zero]
      congr 1
      rw [List.length_set, hat']
      rw [set_get k2 (by split <;> split <;> omega), if_pos (by split <;> split <;> omega)]
    | succ i =>
      have e2 : (a :: r.recent.take (r.Samples.length - 1))[i + 1]? = some (r.back ((i : Int) + 1)) := by
        rw [List.getElem?_cons_succ, List.getElem?_take, if_pos (by omega)]
        unfold GRing.recent; rw [List.getElem?_map, List.getElem?_range (by omega)]; rfl
      rw [e2]
      congr 1
      rw [back_place h (by omega), List.length_set, hat']
      rw [set_get k2 (by split <;> split <;> omega), if_neg (by split <;> split <;> omega)]
      congr 1
      split <;> split <;> split <;> omega
  · rw [List.getElem?_eq_none (by rw [recent_len, hls]; omega), List.getElem?_eq_none]
    simp only [List.length_cons, List.length_take, recent_len]; omega
theorem push_quiet {r : GRing} (h : r.ok = true) (a : Nat) : (r.push a).quiet = if isZ a then min (r.quiet + 1) r.Samples.length else 0 := by
  obtain ⟨k1, k2, k3, k4, k5⟩ := at_lt h
  unfold GRing.quiet
  rw [push_recent h]
  show (if isZ a then runL (r.recent.take (r.Samples.length - 1)) + 1 else 0) = _
  rw [runL_take]
  split <;> omega
end Go.Sx
/- Floats in blocks beside own data; blocks made sample by sample. -/
set_option linter.unusedVariables false
set_option linter.unusedSimpArgs false
namespace Go.Sx
open Go.Proofs
set_option maxRecDepth 100000
set_option maxHeartbeats 1000000

section
variable {h0 h : Heap} {q : Addr} {F : Fr} {L : List Blk} {x a : Nat}
/-- A cell of a block beside own data written. -/
theorem Pt.blk1 {α : Type} {r : Rep α} {d : α} {g T j : Nat} {cs : Array Value} {v : Value} {L' : List Blk} {K : Heap → Prop} (P : Pt r h0 h q F L d) (l : Look L g cs) (hj : j < cs.size) (k : Pick L g T cs L')
    (H : ∀ h', Pt r h0 h' q F ((g, T, cs.setIfInBounds j v) :: L') d → K h') : ST1 h ⟨g, j, none⟩ v K := by
  obtain ⟨e, mid, B, M, O⟩ := P
  have N := M.pick (.there (Pick.skip k))
  exact N.st1 .here hj .here fun h' M' => H h' ⟨e, mid, B, M'.cnt fun p => by simp only [cnt_app, cnt_cons, cnt_nil]; omega, O⟩
/-- A float put into a list of floats. -/
theorem rds_set {k : FloatKind} {y b : Nat} (hy : FW k y b) : ∀ {xs : List Nat} {vs : List Value} {i : Nat}, rds (rF k) h vs xs → rds (rF k) h (vs.set i (.float k y)) (xs.set i b)
  | [], vs, i, R => by
    obtain rfl : vs = [] := R
    simp [rds]
  | a :: xs, vs, i, R => by
    obtain ⟨v1, v2, rfl, ⟨z, rfl, hz⟩, R2⟩ := R
    cases i with
    | zero => exact ⟨[.float k y], v2, rfl, ⟨y, rfl, hy⟩, R2⟩
    | succ i => exact ⟨[.float k z], v2.set i (.float k y), rfl, ⟨z, rfl, hz⟩, rds_set hy R2⟩
theorem arr_set {k : FloatKind} {y b n i : Nat} {cs : Array Value} {xs : List Nat} (hy : FW k y b) (R : (rArr n (rF k)).rd h cs.toList xs) : (rArr n (rF k)).rd h (cs.setIfInBounds i (.float k y)).toList (xs.set i b) :=
  ⟨by rw [List.length_set]; exact R.1, by rw [Array.toList_setIfInBounds]; exact rds_set hy R.2⟩
theorem arr_oF {k : FloatKind} {n i : Nat} {cs : Array Value} {xs : List Nat} {K : Nat → Prop} (R : (rArr n (rF k)).rd h cs.toList xs) (hi : i < n) (H : ∀ y, FW k y xs[i]! → K y) : oF k cs[i * 1]? K := by
  obtain ⟨v, e, y, e2, hy⟩ := rd_cell R (Foc.arr (rF k) i hi) rfl
  obtain rfl : v = .float k y := by simpa using e2
  have e : cs[i * 1]? = some (.float k y) := e
  rw [e]
  simpa [oF, asF] using H y hy
end
theorem rdsF_any {k : FloatKind} {h h' : Heap} : ∀ {xs : List Nat} {vs : List Value}, rds (rF k) h vs xs → rds (rF k) h' vs xs
  | [], vs, R => R
  | a :: xs, vs, R => by
    obtain ⟨v1, v2, rfl, R1, R2⟩ := R
    exact ⟨v1, v2, rfl, R1, rdsF_any R2⟩
/-- n floats, wherever they lie. -/
def FA (n : Nat) (cs : Array Value) (xs : List Nat) : Prop := (rArr n (rF .f32)).rd #[] cs.toList xs
section
variable {n : Nat} {cs : Array Value} {xs : List Nat}
theorem FA.rd (R : FA n cs xs) (h : Heap) : (rArr n (rF .f32)).rd h cs.toList xs := ⟨R.1, rdsF_any R.2⟩
theorem FA.of {h : Heap} (R : (rArr n (rF .f32)).rd h cs.toList xs) : FA n cs xs := ⟨R.1, rdsF_any R.2⟩
theorem FA.size (R : FA n cs xs) : cs.size = n := by have := rsz R rfl; rw [this]; exact Nat.mul_one n
theorem FA.one (R : FA n cs xs) : ∀ v ∈ cs.toList, v.oneCell' = true := (rArr n (rF .f32)).rone R
end
section
variable {h0 h : Heap} {q : Addr} {F : Fr} {L : List Blk} {n : Nat}
theorem Mem.pin2 {h0' h' : Heap} {L' : List Blk} {g m : Nat} {cs : Array Value} {p : Prop} (M : Mem h0 h L) (l : Look L g cs) (M' : Mem h0' h' L') (l' : Look L' g cs) (H : p) : PIN h ⟨g, 0, none⟩ m h' p :=
  ⟨fun j _ => by rw [add_g, M.cell l, M'.cell l'], H⟩
end
end Go.Sx
