/- Rooms: valid ones, as both programs tell them. -/
import Derived.Test.YtdhhfilfcpljoaaGreatLk4
import Derived.Test.YtdhhfilfcpljoaaGreatLr2
import Derived.Test.YtdhhfilfcpljoaaGreatK2
set_option linter.unusedVariables false
set_option linter.unusedSimpArgs false
namespace Go.Sx
open Go.Proofs
set_option maxRecDepth 100000

section
variable {h : Heap} {q : Addr}
theorem l06Comb_c {c : GComb} (R : RdP rComb h q c) : CALL prg f_spec_l06Comb #[.pointer (some q)] (fun u h' => u = .bool c.ok ∧ Ext h h') h := by
  refine spec_l06Comb.call ((R.fst foc_Comb_Ring).lda1 rfl fun cs Rc => ⟨rsz Rc rfl, alc_one Rc rfl fun g h1 x1 S => ?_⟩)
  refine goX (l04Rings_c S) fun h2 x2 => as_b ?_
  have e : ([c.Ring].all GRing.okf) = c.Ring.okf := by simp
  rw [e]
  refine br (fun hb => ?_) fun hb => ⟨by rw [GComb.ok, hb]; rfl, x1.trans x2⟩
  refine (R.ext (x1.trans x2)).oF fun y hy => (l01Finite_c hy).go fun h3 x3 => as_b ⟨by rw [GComb.ok, hb]; rfl, (x1.trans x2).trans x3⟩
theorem zr_rd (h : Heap) : rRing.rd h [.slice none 0 0, .int .i64 (0 : Int)] z_Ring := rRing.look zow_Ring (Mem.start h) (List.Sublist.refl _)
theorem list4 {α : Type} [Inhabited α] {l : List α} (h : l.length = 4) (z : α) : ((([z, z, z, z].set 0 l[0]!).set 1 l[1]!).set 2 l[2]!).set 3 l[3]! = l := by
  match l, h with
  | [a, b, c, d], _ => rfl
theorem l06Loops_c {x : GRoom} (R : RdP rRoom h q x) : CALL prg f_spec_l06Loops #[.pointer (some q)] (fun u h' => (∃ b l c, u = .slice b l c ∧ SlR rRing h' b l c x.Loops) ∧ Ext h h') h := by
  have RL := R.foc foc_Room_Loops
  have hl := RL.len
  have e0 := RL.elem (i := 0) (by decide)
  have e1 := RL.elem (i := 1) (by decide)
  have e2 := RL.elem (i := 2) (by decide)
  have e3 := RL.elem (i := 3) (by decide)
  simp only [add_add', sz_Ring, Nat.reduceMul, Nat.reduceAdd] at e0 e1 e2 e3
  refine spec_l06Loops.call (idx (by omega) (by omega) (e0.lda1 rfl fun c0 R0 => idx (by omega) (by omega) (e1.lda1 rfl fun c1 R1 => idx (by omega) (by omega) (e2.lda1 rfl fun c2 R2 => idx (by omega) (by omega) (e3.lda1 rfl fun c3 R3 => ?_)))))
  refine ⟨rsz R0 rfl, ⟨rsz R1 rfl, ⟨rsz R2 rfl, ⟨rsz R3 rfl, ?_⟩⟩⟩⟩
  have z0 : (rArr 4 rRing).rd h [.slice none 0 0, .int .i64 (0 : Int), .slice none 0 0, .int .i64 (0 : Int), .slice none 0 0, .int .i64 (0 : Int), .slice none 0 0, .int .i64 (0 : Int)] [z_Ring, z_Ring, z_Ring, z_Ring] :=
    ⟨rfl, [_, _], _, rfl, zr_rd h, [_, _], _, rfl, zr_rd h, [_, _], _, rfl, zr_rd h, [_, _], _, rfl, zr_rd h, rfl⟩
  have z1 := rd_splice (put := fun l b => l.set 0 b) (get := fun l => l[0]!) z0 (fun R => arr_put (i := 0) (by decide) R) R0
  have z2 := rd_splice (put := fun l b => l.set 1 b) (get := fun l => l[1]!) z1 (fun R => arr_put (i := 1) (by decide) R) R1
  have z3 := rd_splice (put := fun l b => l.set 2 b) (get := fun l => l[2]!) z2 (fun R => arr_put (i := 2) (by decide) R) R2
  have z4 := rd_splice (put := fun l b => l.set 3 b) (get := fun l => l[3]!) z3 (fun R => arr_put (i := 3) (by decide) R) R3
  have e : ((([z_Ring, z_Ring, z_Ring, z_Ring].set 0 x.Loops[0]!).set 1 x.Loops[1]!).set 2 x.Loops[2]!).set 3 x.Loops[3]! = x.Loops := list4 hl _
  rw [e] at z4
  exact rArr_slr z4 (by decide) fun g h' x' S => ⟨⟨_, _, _, rfl, S⟩, x'⟩
/-- What a room is, told as the programs ask. -/
theorem room_ok (x : GRoom) : x.ok = (x.Early.okf && decide (x.Taps.length ≤ 6) && x.Combs.all GComb.ok && x.Loops.all GRing.okf && (x.Damps.all fun f => f.ok && f.Kind == 1) && (x.Taps.all fun t => t.ok x.Early.len) && allFin x.Gains && fin x.Dry && fin x.Wet) := rfl
theorem all2 {α : Type} [Inhabited α] {l : List α} (h : l.length = 2) (p : α → Bool) : l.all p = (p l[0]! && p l[1]!) := by
  match l, h with
  | [a, b], _ => simp
theorem combs2 {h : Heap} {q : Addr} {x : GRoom} (R : RdP rRoom h q x) : x.Combs.length = 2 := (R.foc foc_Room_Combs).len
theorem tap_sz : 0 < rTap.sz := by decide
theorem gains4 {l : List Nat} (h : l.length = 4) (a b : Nat) : allFin [l[0]!, l[1]!, l[2]!, l[3]!, a, b] = (allFin l && fin a && fin b) := by
  match l, h with
  | [p, q, r, s], _ => simp [allFin, Bool.and_assoc]
theorem l06Ok_c {x : GRoom} (R : RdP rRoom h q x) : CALL prg f_spec_l06Ok #[.pointer (some q)] (fun u h' => u = .bool x.ok ∧ Ext h h') h := by
  have hC := combs2 R
  have hD : x.Damps.length = 4 := (R.foc foc_Room_Damps).len
  have hG : x.Gains.length = 4 := (R.foc foc_Room_Gains).len
  refine spec_l06Ok.call ((R.fst foc_Room_Early).lda1 rfl fun cs Rc => ⟨rsz Rc rfl, alc_one Rc rfl fun g h1 x1 S => ?_⟩)
  refine goX (l04Rings_c S) fun h2 x2 => as_b ?_
  have X2 := x1.trans x2
  have e : ([x.Early].all GRing.okf) = x.Early.okf := by simp
  rw [e]
  refine br (fun hb => ⟨by rw [room_ok, show x.Early.okf = false by simpa using hb]; rfl, X2⟩) fun hb => ?_
  have hE : x.Early.okf = true := by simpa using hb
  have C0 := ((R.foc foc_Room_Combs).elem (i := 0) (by decide))
  have C1 := ((R.foc foc_Room_Combs).elem (i := 1) (by decide))
  simp only [add_add', sz_Comb, Nat.reduceMul, Nat.reduceAdd] at C0 C1
  refine idx (by omega) (by omega) (goX (l06Comb_c (C0.ext X2)) fun h3 x3 => as_b (br (fun hb => ⟨?_, X2.trans x3⟩) fun hb => ?_))
  · rw [room_ok, hE, all2 hC, show x.Combs[0]!.ok = false by simpa using hb]; simp
  have h0 : x.Combs[0]!.ok = true := by simpa using hb
  have X3 := X2.trans x3
  refine idx (by omega) (by omega) (goX (l06Comb_c (C1.ext X3)) fun h4 x4 => as_b (br (fun hb => ⟨?_, X3.trans x4⟩) fun hb => ?_))
  · rw [room_ok, hE, all2 hC, show x.Combs[1]!.ok = false by simpa using hb]; simp
  have hCo : x.Combs.all GComb.ok = true := by rw [all2 hC, h0, show x.Combs[1]!.ok = true by simpa using hb]; rfl
  have X4 := X3.trans x4
  refine (l06Loops_c (R.ext X4)).mono ?_
  rintro _ h5 ⟨⟨b, l, c, rfl, S5⟩, x5⟩
  have X5 := X4.trans x5
  refine as_l (goX (l04Rings_c S5) fun h6 x6 => as_b (br (fun hb => ⟨?_, X5.trans x6⟩) fun hb => ?_))
  · rw [room_ok, hE, hCo, show x.Loops.all GRing.okf = false by simpa using hb]; simp
  have hL : x.Loops.all GRing.okf = true := by simpa using hb
  have X6 := X5.trans x6
  refine (R.ext X6).oL fun b l c ST => brd (fun hb => ⟨?_, X6⟩) fun hb => ?_
  · have := ST.len; rw [room_ok, hE, decide_eq_false (by omega)]; simp
  have hT : decide (x.Taps.length ≤ 6) = true := by have := ST.len; exact decide_eq_true (by omega)
  have hT6 : x.Taps.length ≤ 6 := of_decide_eq_true hT
  unfold spec_l06Ok.J3
  refine loop (fun y hh => ∃ n : Nat, y = (q, (n : Int)) ∧ n ≤ 4 ∧ Ext h hh ∧ ∀ i, i < n → (x.Damps[i]!.ok && x.Damps[i]!.Kind == 1) = true) (fun y => (4 - y.2).toNat) ⟨0, rfl, by omega, X6, fun i hi => by omega⟩ ?_
  rintro y hh ⟨n, rfl, hn, X, hf⟩
  refine brd (fun hc => ?_) fun hc => ?_
  · have Ra := ((R.ext X).foc foc_Room_Damps).elem (i := n) (by omega)
    have no : ∀ {h'}, Ext h h' → (x.Damps[n]!.ok && x.Damps[n]!.Kind == 1) = false → ((Value.bool false = .bool x.ok) ∧ Ext h h') := fun X e => ⟨by
      rw [room_ok, all_range (fun f : GFilter => f.ok && f.Kind == 1), all_false (f := fun i => x.Damps[i]!.ok && x.Damps[i]!.Kind == 1) (i := n) (by omega) e]; simp, X⟩
    refine idx (by omega) (by omega) (goX (l02Ok_c Ra) fun h7 x7 => as_b (br (fun hb => no (X.trans x7) ?_) fun hb => ?_))
    · rw [show x.Damps[n]!.ok = false by simpa using hb]; rfl
    have ho : x.Damps[n]!.ok = true := by simpa using hb
    refine idx (by omega) (by omega) ((Ra.ext x7).oI1 (br (fun hb => no (X.trans x7) ?_) fun hb => ?_))
    · rw [ho, Bool.true_and]; simpa using hb
    · refine ⟨⟨n + 1, by rw [wrap64_succ (by omega)], by omega, X.trans x7, fun i hi => ?_⟩, by rw [wrap64_succ (by omega)]; show _ < _; simp; omega⟩
      by_cases e : i = n
      · subst e; rw [ho, Bool.true_and]; simpa using hb
      · exact hf i (by omega)
  have hDa : (x.Damps.all fun f => f.ok && f.Kind == 1) = true := by rw [all_range, all_true fun i hi => hf i (by omega)]
  refine loop (fun y hh => ∃ n : Nat, y = (q, (n : Int)) ∧ n ≤ x.Taps.length ∧ Ext h hh ∧ ∀ i, i < n → x.Taps[i]!.ok x.Early.len = true) (fun y => (x.Taps.length - y.2).toNat) ⟨0, rfl, by omega, X, fun i hi => by omega⟩ ?_
  rintro y hh ⟨n, rfl, hn, X, hf⟩
  refine (R.ext X).oL fun b l c ST => ?_
  have hl := ST.len
  refine brd (fun hc => ?_) fun hc => ?_
  · refine (R.ext X).oL fun b' l' c' ST' => ?_
    have hl' := ST'.len
    have no : ∀ {h'}, Ext h h' → x.Taps[n]!.ok x.Early.len = false → ((Value.bool false = .bool x.ok) ∧ Ext h h') := fun X e => ⟨by
      rw [room_ok, all_range (fun t : GTap => t.ok x.Early.len), all_false (f := fun i => x.Taps[i]!.ok x.Early.len) (i := n) (by omega) e]; simp, X⟩
    refine ST'.idx tap_sz (by omega) (by omega) fun a Ra => Ra.oI1 ((R.ext X).oL1 fun b2 l2 c2 S2 => goX (l00In_c _ _ _ _) fun h7 x7 => as_b (br (fun hb => no (X.trans x7) ?_) fun hb => ?_))
    · rw [GTap.ok, GRing.len, S2.len]
      have : inR x.Taps[n]!.Back 1 (l2 : Int) = false := by simpa using hb
      rw [this]; rfl
    have hb1 : inR x.Taps[n]!.Back 1 x.Early.len = true := by rw [GRing.len, S2.len]; simpa using hb
    refine (R.ext (X.trans x7)).oL fun b' l' c' ST' => ?_
    have hl' := ST'.len
    refine ST'.idx tap_sz (by omega) (by omega) fun a Ra => Ra.oF fun z hz => goX (l01Finite_c hz _) fun h8 x8 => as_b (br (fun hb => no ((X.trans x7).trans x8) ?_) fun hb => ?_)
    · rw [GTap.ok, hb1, Bool.true_and]; simpa using hb
    · refine ⟨⟨n + 1, by rw [wrap64_succ (by omega)], by omega, (X.trans x7).trans x8, fun i hi => ?_⟩, by rw [wrap64_succ (by omega)]; show _ < _; simp; omega⟩
      by_cases e : i = n
      · subst e; rw [GTap.ok, hb1, Bool.true_and]; simpa using hb
      · exact hf i (by omega)
  have hTa : (x.Taps.all fun t => t.ok x.Early.len) = true := by rw [all_range, all_true fun i hi => hf i (by omega)]
  have RG := R.ext X
  refine idx (by omega) (by omega) (RG.oF fun y0 hy0 => idx (by omega) (by omega) (RG.oF fun y1 hy1 => idx (by omega) (by omega) (RG.oF fun y2 hy2 => idx (by omega) (by omega) (RG.oF fun y3 hy3 => RG.oF fun y4 hy4 => RG.oF fun y5 hy5 => ?_))))
  refine rArr_slr (r := rF .f32) (n := 6) (xs := [x.Gains[0]!, x.Gains[1]!, x.Gains[2]!, x.Gains[3]!, x.Dry, x.Wet]) ⟨rfl, [_], _, rfl, ⟨_, rfl, hy0⟩, [_], _, rfl, ⟨_, rfl, hy1⟩, [_], _, rfl, ⟨_, rfl, hy2⟩, [_], _, rfl, ⟨_, rfl, hy3⟩, [_], _, rfl, ⟨_, rfl, hy4⟩, [_], _, rfl, ⟨_, rfl, hy5⟩, rfl⟩ (by decide) fun g h' x' S => ?_
  refine goX (l04All_c S) fun h8 x8 => as_b ⟨?_, (X.trans x').trans x8⟩
  rw [room_ok, hE, hT, hCo, hL, hDa, hTa, gains4 hG]; simp [Bool.and_assoc]
end
end Go.Sx
