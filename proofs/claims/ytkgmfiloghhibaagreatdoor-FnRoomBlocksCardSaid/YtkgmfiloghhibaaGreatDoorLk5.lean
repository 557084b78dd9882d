/- Rooms: valid ones, as both programs tell them. -/
import Derived.Test.YtkgmfiloghhibaaGreatDoorLk4
import Derived.Test.YtkgmfiloghhibaaGreatDoorLr2
import Derived.Test.YtkgmfiloghhibaaGreatDoorK2
set_option linter.unusedVariables false
set_option linter.unusedSimpArgs false
namespace Go.Sx
open Go.Proofs
set_option maxRecDepth 100000

section
variable {h : Heap} {q : Addr}
theorem l06Comb_c {c : GComb} (R : RdP rComb h q c) : CALL prg f_spec_l06Comb #[.pointer (some q)] (fun u h' => u = .bool c.ok ∧ Ext h h') h := by
  refine spec_l06Comb.call ((R.fst foc_Comb_Ring).lda1 rfl fun cs Rc => ⟨rsz Rc rfl, alc_one Rc rfl fun g h1 x1 S => ?_⟩)
  refine goX (l04Rings_c S) fun h2 x2 => as_b ?_
  have e : ([c.Ring].all GRing.okf) = c.Ring.okf := by simp
  rw [e]
  refine br (fun hb => ?_) fun hb => ⟨by rw [GComb.ok, hb]; rfl, x1.trans x2⟩
  refine (R.ext (x1.trans x2)).oF fun y hy => (l01Finite_c hy).go fun h3 x3 => as_b ⟨by rw [GComb.ok, hb]; rfl, (x1.trans x2).trans x3⟩
theorem zr_rd (h : Heap) : rRing.rd h [.slice none 0 0, .int .i64 (0 : Int)] z_Ring := rRing.look zow_Ring (Mem.start h) (List.Sublist.refl _)
theorem list4 {α : Type} [Inhabited α] {l : List α} (h : l.length = 4) (z : α) : ((([z, z, z, z].set 0 l[0]!).set 1 l[1]!).set 2 l[2]!).set 3 l[3]! = l := by
  match l, h with
  | [a, b, c, d], _ => rfl
theorem l06Loops_c {x : GRoom} (R : RdP rRoom h q x) : CALL prg f_spec_l06Loops #[.pointer (some q)] (fun u h' => (∃ b l c, u = .slice b l c ∧ SlR rRing h' b l c x.Loops) ∧ Ext h h') h := by
  have RL := R.foc foc_Room_Loops
  have hl := RL.len
  have e0 := RL.elem (i := 0) (by decide)
  have e1 := RL.elem (i := 1) (by decide)
  have e2 := RL.elem (i := 2) (by decide)
  have e3 := RL.elem (i := 3) (by decide)
  simp only [add_add', sz_Ring, Nat.reduceMul, Nat.reduceAdd] at e0 e1 e2 e3
  refine spec_l06Loops.call (idx (by omega) (by omega) (e0.lda1 rfl fun c0 R0 => idx (by omega) (by omega) (e1.lda1 rfl fun c1 R1 => idx (by omega) (by omega) (e2.lda1 rfl fun c2 R2 => idx (by omega) (by omega) (e3.lda1 rfl fun c3 R3 => ?_)))))
  refine ⟨rsz R0 rfl, ⟨rsz R1 rfl, ⟨rsz R2 rfl, ⟨rsz R3 rfl, ?_⟩⟩⟩⟩
  have z0 : (rArr 4 rRing).rd h [.slice none 0 0, .int .i64 (0 : Int), .slice none 0 0, .int .i64 (0 : Int), .slice none 0 0, .int .i64 (0 : Int), .slice none 0 0, .int .i64 (0 : Int)] [z_Ring, z_Ring, z_Ring, z_Ring] :=
    ⟨rfl, [_, _], _, rfl, zr_rd h, [_, _], _, rfl, zr_rd h, [_, _], _, rfl, zr_rd h, [_, _], _, rfl, zr_rd h, rfl⟩
  have z1 := rd_splice (put := fun l b => l.set 0 b) (get := fun l => l[0]!) z0 (fun R => arr_put (i := 0) (by decide) R) R0
  have z2 := rd_splice (put := fun l b => l.set 1 b) (get := fun l => l[1]!) z1 (fun R => arr_put (i := 1) (by decide) R) R1
  have z3 := rd_splice (put := fun l b => l.set 2 b) (get := fun l => l[2]!) z2 (fun R => arr_put (i := 2) (by decide) R) R2
  have z4 := rd_splice (put := fun l b => l.set 3 b) (get := fun l => l[3]!) z3 (fun R => arr_put (i := 3) (by decide) R) R3
  have e : ((([z_Ring, z_Ring, z_Ring, z_Ring].set 0 x.Loops[0]!).set 1 x.Loops[1]!).set 2 x.Loops[2]!).set 3 x.Loops[3]! = x.Loops := list4 hl _
  rw [e] at z4
  exact rArr_slr z4 (by decide) fun g h' x' S => ⟨⟨_, _, _, rfl, S⟩, x'⟩
/-- What a room is, told as the programs ask. -/
theorem room_ok (x : GRoom) : x.ok = (x.Early.okf && decide (x.Taps.length ≤ 6) && x.Combs.all GComb.ok && x.Loops.all GRing.okf && (x.Damps.all fun f => f.ok && f.Kind == 1) && (x.Taps.all fun t => t.ok x.Early.len) && allFin x.Gains && fin x.Dry && fin x.Wet) := rfl
theorem all2 {α : Type} [Inhabited α] {l : List α} (h : l.length = 2) (p : α → Bool) : l.all p = (p l[0]! && p l[1]!) := by
  match l, h with
  | [a, b], _ => simp
theorem combs2 {h : Heap} {q : Addr} {x : GRoom} (R : RdP rRoom h q x) : x.Combs.length = 2 := (R.foc foc_Room_Combs).len
theorem tap_sz : 0 < rTap.sz := by decide
theorem gains4 {l : List Nat} (h : l.length = 4) (a b : Nat) : allFin [l[0]!, l[1]!, l[2]!, l[3]!, a, b] = (allFin l && fin a && fin b) := by
  match l, h with
  | [p, q, r, s], _ => simp [allFin, Bool.and_assoc]
theorem l06Ok_c {x : GRoom} (R : RdP rRoom h q x) : CALL prg f_spec_l06Ok #[.pointer (some q)] (fun u h' => u = .bool x.ok ∧ Ext h h') h := by
  have hC := combs2 R
  have hD : x.Damps.length = 4 := (R.foc foc_Room_Damps).len
  have hG : x.Gains.length = 4 := (R.foc foc_Room_Gains).len
  refine spec_l06Ok.call ((R.fst foc_Room_Early).lda1 rfl fun cs Rc => ⟨rsz Rc rfl, alc_one Rc rfl fun g h1 x1 S => ?_⟩)
  refine goX (l04Rings_c S) fun h2 x2 => as_b ?_
  have X2 := x1.trans x2
  have e : ([x.Early].all GRing.okf) = x.Early.okf := by simp
  rw [e]
  refine br (fun hb => ⟨by rw [room_ok, show x.Early.okf = false by simpa using hb]; rfl, X2⟩) fun hb => ?_
  have hE : x.Early.okf = true := by simpa using hb
  have C0 := ((R.foc foc_Room_Combs).elem (i := 0) (by decide))
  have C1 := ((R.foc foc_Room_Combs).elem (i := 1) (by decide))
  simp only [add_add', sz_Comb, Nat.reduceMul, Nat.reduceAdd] at C0 C1
  refine idx (by omega) (by omega) (goX (l06Comb_c (C0.ext X2)) fun h3 x3 => as_b (br (fun hb => ⟨?_, X2.trans x3⟩) fun hb => ?_))
  · rw [room_ok, hE, all2 hC, show x.Combs[0]!.ok = false by simpa using hb]; simp
  have h0 : x.Combs[0]!.ok = true := by simpa using hb
  have X3 := X2.trans x3
  refine idx (by omega) (by omega) (goX (l06Comb_c (C1.ext X3)) fun h4 x4 => as_b (br (fun hb => ⟨?_, X3.trans x4⟩) fun hb => ?_))
  · rw [room_ok, hE, all2 hC, show x.Combs[1]!.ok = false by simpa using hb]; simp
  have hCo : x.Combs.all GComb.ok = true := by rw [all2 hC, h0, show x.Combs[1]!.ok = true by simpa using hb]; rfl
  have X4 := X3.trans x4
  refine (l06Loops_c (R.ext X4)).mono ?_
  rintro _ h5 ⟨⟨b, l, c, rfl, S5⟩, x5⟩
  have X5 := X4.trans x5
  refine as_l (goX (l04Rings_c S5) fun h6 x6 => as_b (br (fun hb => ⟨?_, X5.trans x6⟩) fun hb => ?_))
  · rw [room_ok, hE, hCo, show x.Loops.all GRing.okf = false by simpa using hb]; simp
  have hL : x.Loops.all GRing.okf = true := by simpa using hb
  have X6 := X5.trans x6
  refine (R.ext X6).oL fun b l c ST => brd (fun hb => ⟨?_, X6⟩) fun hb => ?_
  · have := ST.len; rw [room_ok, hE, decide_eq_false (by omega)]; simp
  have hT : decide (x.Taps.length ≤ 6) = true := by have := ST.len; exact decide_eq_true (by omega)
  have hT6 : x.Taps.length ≤ 6 := of_decide_eq_true hT
  unfold spec_l06Ok.J3
  refine loop (fun y hh => ∃ n : Nat, y = (q, (n : Int)) ∧ n ≤ 4 ∧ Ext h hh ∧ ∀ i, i < n → (x.Damps[i]!.ok && x.Damps[i]!.Kind == 1) = true) (fun y => (4 - y.2).toNat) ⟨0, rfl, by omega, X6, fun i hi => by omega⟩ ?_
  rintro y hh ⟨n, rfl, hn, X, hf⟩
  refine brd (fun hc => ?_) fun hc => ?_
  · have Ra := ((R.ext X).foc foc_Room_Damps).elem (i := n) (by omega)
    have no : ∀ {h'}, Ext h h' → (x.Damps[n]!.ok && x.Damps[n]!.Kind == 1) = false → ((Value.bool false = .bool x.ok) ∧ Ext h h') := fun X e => ⟨by
      rw [room_ok, all_range (fun f : GFilter => f.ok && f.Kind == 1), all_false (f := fun i => x.Damps[i]!.ok && x.Damps[i]!.Kind == 1) (i := n) (by omega) e]; simp, X⟩
    refine idx (by omega) (by omega) (goX (l02Ok_c Ra) fun h7 x7 => as_b (br (fun hb => no (X.trans x7) ?_) fun hb => ?_))
    · rw [show x.Damps[n]!.ok = false by simpa using hb]; rfl
    have ho : x.Damps[n]!.ok = true := by simpa using hb
    refine idx (by omega) (by omega) ((Ra.ext x7).oI1 (br (fun hb => no (X.trans x7) ?_) fun hb => ?_))
    · rw [ho, Bool.true_and]; simpa using hb
    · refine ⟨⟨n + 1, by rw [wrap64_succ (by omega)], by omega, X.trans x7, fun i hi => ?_⟩, by rw [wrap64_succ (by omega)]; show _ < _; simp; omega⟩
      by_cases e : i = n
      · subst e; rw [ho, Bool.true_and]; simpa using hb
      · exact hf i (by omega)
  have hDa : (x.Damps.all fun f => f.ok && f.Kind == 1) = true := by rw [all_range, all_true fun i hi => hf i (by omega)]
  refine loop (fun y hh => ∃ n : Nat, y = (q, (n : Int)) ∧ n ≤ x.Taps.length ∧ Ext h hh ∧ ∀ i, i < n → x.Taps[i]!.ok x.Early.len = true) (fun y => (x.Taps.length - y.2).toNat) ⟨0, rfl, by omega, X, fun i hi => by omega⟩ ?_
  rintro y hh ⟨n, rfl, hn, X, hf⟩
  refine (R.ext X).oL fun b l c ST => ?_
  have hl := ST.len
  refine brd (fun hc => ?_) fun hc => ?_
  · refine (R.ext X).oL fun b' l' c' ST' => ?_
    have hl' := ST'.len
    have no : ∀ {h'}, Ext h h' → x.Taps[n]!.ok x.Early.len = false → ((Value.bool false = .bool x.ok) ∧ Ext h h') := fun X e => ⟨by
      rw [room_ok, all_range (fun t : GTap => t.ok x.Early.len), all_false (f := fun i => x.Taps[i]!.ok x.Early.len) (i := n) (by omega) e]; simp, X⟩
    refine ST'.idx tap_sz (by omega) (by omega) fun a Ra => Ra.oI1 ((R.ext X).oL1 fun b2 l2 c2 S2 => goX (l00In_c _ _ _ _) fun h7 x7 => as_b (br (fun hb => no (X.trans x7) ?_) fun hb => ?_))
    · rw [GTap.ok, GRing.len, S2.len]
      have : inR x.Taps[n]!.Back 1 (l2 : Int) = false := by simpa using hb
      rw [this]; rfl
    have hb1 : inR x.Taps[n]!.Back 1 x.Early.len = true := by rw [GRing.len, S2.len]; simpa using hb
    refine (R.ext (X.trans x7)).oL fun b' l' c' ST' => ?_
    have hl' := ST'.len
    refine ST'.idx tap_sz (by omega) (by omega) fun a Ra => Ra.oF fun z hz => goX (l01Finite_c hz _) fun h8 x8 => as_b (br (fun hb => no ((X.trans x7).trans x8) ?_) fun hb => ?_)
    · rw [GTap.ok, hb1, Bool.true_and]; simpa using hb
    · refine ⟨⟨n + 1, by rw [wrap64_succ (by omega)], by omega, (X.trans x7).trans x8, fun i hi => ?_⟩, by rw [wrap64_succ (by omega)]; show _ < _; simp; omega⟩
      by_cases e : i = n
      · subst e; rw [GTap.ok, hb1, Bool.true_and]; simpa using hb
      · exact hf i (by omega)
  have hTa : (x.Taps.all fun t => t.ok x.Early.len) = true := by rw [all_range, all_true fun i hi => hf i (by omega)]
  have RG := R.ext X
  refine idx (by omega) (by omega) (RG.oF fun y0 hy0 => idx (by omega) (by omega) (RG.oF fun y1 hy1 => idx (by omega) (by omega) (RG.oF fun y2 hy2 => idx (by omega) (by omega) (RG.oF fun y3 hy3 => RG.oF fun y4 hy4 => RG.oF fun y5 hy5 => ?_))))
  refine rArr_slr (r := rF .f32) (n := 6) (xs := [x.Gains[0]!, x.Gains[1]!, x.Gains[2]!, x.Gains[3]!, x.Dry, x.Wet]) ⟨rfl, [_], _, rfl, ⟨_, rfl, hy0⟩, [_], _, rfl, ⟨_, rfl, hy1⟩, [_], _, rfl, ⟨_, rfl, hy2⟩, [_], _, rfl, ⟨_, rfl, hy3⟩, [_], _, rfl, ⟨_, rfl, hy4⟩, [_], _, rfl, ⟨_, rfl, hy5⟩, rfl⟩ (by decide) fun g h' x' S => ?_
  refine goX (l04All_c S) fun h8 x8 => as_b ⟨?_, (X.trans x').trans x8⟩
  rw [room_ok, hE, hT, hCo, hL, hDa, hTa, gains4 hG]; simp [Bool.and_assoc]
end
end Go.Sx
/- Rooms: valid ones, as the program tells them. -/
set_option linter.unusedVariables false
set_option linter.unusedSimpArgs false
namespace Go.Sx
open Go.Proofs
set_option maxRecDepth 100000

section
variable {h : Heap} {q : Addr}
theorem ValidComb_c {cs : Array Value} {c : GComb} (R : rComb.rd h cs.toList c) : CALL prg f_impl_ValidComb #[.agg cs] (fun u h' => u = .bool c.ok ∧ Ext h h') h := by
  refine impl_ValidComb.call (alcR R fun g h1 x1 R1 => (R1.fst foc_Comb_Ring).lda1 rfl fun cs Rc => goX (isRing_c Rc) fun h2 x2 => as_b (br (fun hb => ?_) fun hb => ⟨by rw [GComb.ok, hb]; rfl, x1.trans x2⟩))
  exact (R1.ext x2).oF2 fun y hy => goX (isFinite_c hy _) fun h3 x3 => as_b ⟨by rw [GComb.ok, hb]; rfl, (x1.trans x2).trans x3⟩
theorem isTap_c {cs : Array Value} {t : GTap} (R : rTap.rd h cs.toList t) (n : Int) : CALL prg f_impl_isTap #[.agg cs, .int .i64 n] (fun u h' => u = .bool (t.ok n) ∧ Ext h h') h := by
  refine impl_isTap.call (alcR R fun g h1 x1 R1 => R1.oI2 (goX (within_c _ _ _ _) fun h2 x2 => as_b (br (fun hb => ?_) fun hb => ⟨by rw [GTap.ok, hb]; rfl, x1.trans x2⟩)))
  exact (R1.ext x2).oF2 fun y hy => goX (isFinite_c hy _) fun h3 x3 => as_b ⟨by rw [GTap.ok, hb]; rfl, (x1.trans x2).trans x3⟩
/-- A function value that tells of each tap whether p holds, in every heap behind hb. -/
def TellsT (P : Program) (hb : Heap) (f : Value) (p : GTap → Bool) : Prop := ∀ cs t h, Ext hb h → rTap.rd h cs.toList t → CALLD P f #[.agg cs] (fun u h' => u = .bool (p t) ∧ Ext h h') h
theorem IndexFunc_Tap_c {b : Option Addr} {l c : Nat} {xs : List GTap} {f : Value} {p : GTap → Bool} (S : SlR rTap h b l c xs) (T : TellsT prg h f p) :
    CALL prg f_slices_IndexFunc_sl_impl_Tap_impl_Tap #[.slice b l c, f] (fun u h' => u = .int .i64 (firstAt p xs) ∧ Ext h h') h := by
  refine slices_IndexFunc_sl_impl_Tap_impl_Tap.call ?_
  have hm2 := S.2.2.1
  have hm3 := S.2.1
  have := maxLen_lt
  have hl := S.len
  refine loop (fun x hh => ∃ n : Nat, x = (b, l, c, f, (l : Int), (n : Int)) ∧ n ≤ l ∧ Ext h hh ∧ ∀ i, i < n → p xs[i]! = false) (fun x => (l - x.2.2.2.2.2).toNat) ⟨0, rfl, by omega, Ext.refl _, fun i hi => by omega⟩ ?_
  rintro x hh ⟨n, rfl, hn, X, hf⟩
  refine brd (fun hc => ?_) fun hc => ?_
  · refine (S.ext X).idx tap_sz (by omega) (by omega) fun a Ra => Ra.lda1 rfl fun cs Rc => ?_
    refine (T _ _ _ X Rc).mono fun u h1 ⟨e, x1⟩ => ?_
    subst e
    refine as_b (br (fun hb => ?_) fun hb => ?_)
    · exact ⟨by rw [firstAt_some (by omega) hf (by simpa using hb)], X.trans x1⟩
    · refine ⟨⟨n + 1, by rw [wrap64_succ (by omega)], by omega, X.trans x1, fun i hi => ?_⟩, by rw [wrap64_succ (by omega)]; show _ < _; simp; omega⟩
      by_cases e : i = n
      · subst e; simpa using hb
      · exact hf i (by omega)
  · exact ⟨by rw [firstAt_none fun i hi => hf i (by omega)], X⟩
theorem ContainsFunc_Tap_c {b : Option Addr} {l c : Nat} {xs : List GTap} {f : Value} {p : GTap → Bool} (S : SlR rTap h b l c xs) (T : TellsT prg h f p) :
    CALL prg f_slices_ContainsFunc_sl_impl_Tap_impl_Tap #[.slice b l c, f] (fun u h' => u = .bool (xs.any p) ∧ Ext h h') h := by
  refine slices_ContainsFunc_sl_impl_Tap_impl_Tap.call (goX (IndexFunc_Tap_c S T) fun h1 x1 => as_i ⟨by rw [firstAt_any], x1⟩)
theorem ValidRoom_tells {hb : Heap} {a : Addr} {x : GRoom} (R : RdP rRoom hb a x) : TellsT prg hb (.func (.func f_impl_ValidRoom_c1) #[] #[.pointer (some a)]) fun t => !t.ok x.Early.len := fun cs t h X Rt => by
  show CALL prg f_impl_ValidRoom_c1 #[.agg cs, .pointer (some a)] _ h
  refine impl_ValidRoom_c1.call (alcR Rt fun g h1 x1 R1 => R1.lda1 rfl fun cs' Rc => (R.ext (X.trans x1)).oL1 fun b l c S => goX (length_f32_c _ _ _ _) fun h2 x2 => as_i (R1.pin0 (by decide) x2 ?_))
  refine goX (isTap_c (rTap.ext x2 Rc) _) fun h3 x3 => as_b ⟨?_, (x1.trans x2).trans x3⟩
  rw [GRing.len, S.len]
theorem ValidRoom_c {cs : Array Value} {x : GRoom} (R0 : rRoom.rd h cs.toList x) : CALL prg f_impl_ValidRoom #[.agg cs] (fun u h' => u = .bool x.ok ∧ Ext h h') h := by
  refine impl_ValidRoom.call (alcR R0 fun g h1 x1 R => ?_)
  have hC := combs2 R
  have hD : x.Damps.length = 4 := (R.foc foc_Room_Damps).len
  have hG : x.Gains.length = 4 := (R.foc foc_Room_Gains).len
  have hLl : x.Loops.length = 4 := (R.foc foc_Room_Loops).len
  refine (R.fst foc_Room_Early).lda1 rfl fun cs Rc => goX (isRing_c Rc) fun h2 x2 => as_b ?_
  have X2 := x2
  refine br (fun hb => ⟨by rw [room_ok, show x.Early.okf = false by simpa using hb]; rfl, x1.trans X2⟩) fun hb => ?_
  have hE : x.Early.okf = true := by simpa using hb
  refine (R.ext X2).oL2 fun b l c ST => brd (fun hb => ⟨?_, x1.trans X2⟩) fun hb => ?_
  · have := ST.len; rw [room_ok, hE, decide_eq_false (by omega)]; simp
  have hT : decide (x.Taps.length ≤ 6) = true := by have := ST.len; exact decide_eq_true (by omega)
  refine slb (by omega) (by omega) (by omega) ?_
  rw [slP_zero]
  refine goX (areFinite_c (((R.ext X2).foc0 foc_Room_Gains).arr (by decide))) fun h3 x3 => as_b (br (fun hb => ⟨?_, x1.trans (X2.trans x3)⟩) fun hb => ?_)
  · rw [room_ok, show allFin x.Gains = false by simpa using hb]; simp
  have hGa : allFin x.Gains = true := by simpa using hb
  have X3 := X2.trans x3
  refine (R.ext X3).oF2 fun y hy => (R.ext X3).oF2 fun z hz => ?_
  refine rArr_slr (r := rF .f32) (n := 2) (xs := [x.Dry, x.Wet]) ⟨rfl, [_], _, rfl, ⟨_, rfl, hy⟩, [_], _, rfl, ⟨_, rfl, hz⟩, rfl⟩ (by decide) fun g' h4 x4 S => ?_
  have X4 := X3.trans x4
  refine goX (areFinite_c S) fun h5 x5 => as_b ?_
  have e : allFin [x.Dry, x.Wet] = (fin x.Dry && fin x.Wet) := by simp [allFin]
  rw [e]
  have X5 := X4.trans x5
  refine br (fun hb => ⟨?_, x1.trans X5⟩) fun hb => ?_
  · rw [room_ok, Bool.and_assoc _ (fin x.Dry), nt hb, Bool.and_false]
  have hDW : (fin x.Dry && fin x.Wet) = true := nf hb
  have C0 := ((R.foc0 foc_Room_Combs).elem (i := 0) (by decide))
  have C1 := ((R.foc0 foc_Room_Combs).elem (i := 1) (by decide))
  simp only [add_none, sz_Comb, Nat.reduceMul, Nat.reduceAdd] at C0 C1
  refine idx (by omega) (by omega) ((C0.ext X5).lda1 rfl fun cs Rc => goX (ValidComb_c Rc) fun h6 x6 => as_b (br (fun hb => ⟨?_, x1.trans (X5.trans x6)⟩) fun hb => ?_))
  · rw [room_ok, hE, all2 hC, show x.Combs[0]!.ok = false by simpa using hb]; simp
  have h0 : x.Combs[0]!.ok = true := by simpa using hb
  have X6 := X5.trans x6
  refine idx (by omega) (by omega) ((C1.ext X6).lda1 rfl fun cs Rc => goX (ValidComb_c Rc) fun h7 x7 => as_b (br (fun hb => ⟨?_, x1.trans (X6.trans x7)⟩) fun hb => ?_))
  · rw [room_ok, hE, all2 hC, show x.Combs[1]!.ok = false by simpa using hb]; simp
  have hCo : x.Combs.all GComb.ok = true := by rw [all2 hC, h0, show x.Combs[1]!.ok = true by simpa using hb]; rfl
  have X7 := X6.trans x7
  unfold impl_ValidRoom.J3
  refine ((R.ext X7).lda foc_Room_Loops rfl fun cL RL => ?_)
  refine loop (fun y hh => ∃ n : Nat, y = (⟨g, 0, none⟩, cL, (n : Int)) ∧ n ≤ 4 ∧ Ext h7 hh ∧ ∀ i, i < n → (x.Loops[i]!.okf = true ∧ (x.Damps[i]!.ok && x.Damps[i]!.Kind == 1) = true)) (fun y => (4 - y.2.2).toNat) ⟨0, rfl, by omega, Ext.refl _, fun i hi => by omega⟩ ?_
  rintro y hh ⟨n, rfl, hn, X, hf⟩
  refine brd (fun hc => ?_) fun hc => ?_
  · have R := R.ext X7
    have no : ∀ {h'}, Ext h7 h' → (x.Loops[n]!.okf && (x.Damps[n]!.ok && x.Damps[n]!.Kind == 1)) = false → ((Value.bool false = .bool x.ok) ∧ Ext h h') := fun X e => ⟨by
      rw [room_ok]
      rcases Bool.and_eq_false_iff.1 e with e | e
      · rw [all_range GRing.okf, all_false (f := fun i => x.Loops[i]!.okf) (i := n) (by omega) e]; simp
      · rw [all_range (fun f : GFilter => f.ok && f.Kind == 1), all_false (f := fun i => x.Damps[i]!.ok && x.Damps[i]!.Kind == 1) (i := n) (by omega) e]; simp, x1.trans (X7.trans X)⟩
    have Rn : rRing.rd h7 (cL.extract (n * 2) (n * 2 + 2)).toList x.Loops[n]! := rd_part RL (Foc.arr rRing n (by omega)) rfl
    refine idx (by omega) (by omega) ?_
    refine (Mem.start hh).alc fun g2 h8 x8 M => M.sta0 .here (rsz Rn rfl) (rRing.rone Rn) rfl .here fun h9 M => M.lda0 .here (rsz Rn rfl) ?_
    have X9 := X.trans M.ext
    refine goX (isRing_c (rRing.ext X9 Rn)) fun h10 x10 => as_b (br (fun hb => no (X9.trans x10) ?_) fun hb => ?_)
    · rw [show x.Loops[n]!.okf = false by simpa using hb]; rfl
    have ho : x.Loops[n]!.okf = true := by simpa using hb
    have X10 := X9.trans x10
    have Ra := ((R.ext X10).foc foc_Room_Damps).elem (i := n) (by omega)
    refine idx (by omega) (by omega) (Ra.lda1 rfl fun cs Rc => goX (isFilter_c Rc _) fun h11 x11 => as_b (br (fun hb => no (X10.trans x11) ?_) fun hb => ?_))
    · rw [ho, Bool.true_and]; exact nt hb
    · refine ⟨⟨n + 1, by rw [wrap64_succ (by omega)], by omega, X10.trans x11, fun i hi => ?_⟩, by rw [wrap64_succ (by omega)]; show _ < _; simp; omega⟩
      by_cases e : i = n
      · subst e; exact ⟨ho, nf hb⟩
      · exact hf i (by omega)
  have hL : x.Loops.all GRing.okf = true := by rw [all_range, all_true fun i hi => (hf i (by omega)).1]
  have hDa : (x.Damps.all fun f => f.ok && f.Kind == 1) = true := by rw [all_range, all_true fun i hi => (hf i (by omega)).2]
  have X := X7.trans X
  refine (R.ext X).oL fun b l c ST2 => goX (ContainsFunc_Tap_c ST2 (ValidRoom_tells (R.ext X))) fun h12 x12 => as_b ⟨?_, x1.trans (X.trans x12)⟩
  rw [any_not, room_ok, hE, hT, hCo, hL, hDa, hGa, Bool.and_assoc _ (fin x.Dry), hDW]; simp
end
end Go.Sx
/- Rooms copied. -/
set_option linter.unusedVariables false
set_option linter.unusedSimpArgs false
namespace Go.Sx
open Go.Proofs
set_option maxRecDepth 100000

/-- All rings of a room are of a size that can be copied. -/
def GRoom.small (x : GRoom) : Prop := x.Early.Samples.length ≤ 1048576 ∧ x.Taps.length ≤ 1048576 ∧ (∀ c ∈ x.Combs, c.Ring.Samples.length ≤ 1048576) ∧ ∀ r ∈ x.Loops, r.Samples.length ≤ 1048576
theorem flat_Tap : Flat rTap := flat_via (flat_seq (flat_I _) (flat_F _))
section
variable {h : Heap} {q : Addr}
theorem l06CopyComb_c {c : GComb} (R : RdP rComb h q c) (hl : c.Ring.Samples.length ≤ 1048576) : CALL prg f_spec_l06CopyComb #[.pointer (some q)] (fun u h' => NewR rComb h h' u c) h := by
  refine spec_l06CopyComb.call ((Mem.start h).alc fun g1 h1 x1 M => ?_)
  have R1 := R.ext x1
  refine R1.oF fun y hy => NewR.go (Mem.start h1) (l02Copy_c (R1.fst foc_Comb_Ring) hl) fun h2 cs B N O hs => as_a (R1.pinO (by decide) N.ext ⟨hs, ?_⟩)
  obtain ⟨B1, O1, c1⟩ := ow_splice zow_Comb foc_Comb_Ring rfl O
  obtain ⟨B2, O2, c2⟩ := ow_set O1 foc_Comb_Gain rfl ⟨rfl, y, rfl, hy⟩
  have M := (M.join N).cnt (W := (g1, T_impl_Comb, ⟨Z_impl_Comb⟩) :: B2) (fun p => by have := c1 p; have := c2 p; simp only [cnt_app, cnt_cons, cnt_nil] at *; omega)
  refine M.sta0 .here (osz (cs := ⟨_⟩) O2 rfl) (rComb.oone O2) rfl .here fun h3 M => M.lda0 .here (osz (cs := ⟨_⟩) O2 rfl) ?_
  exact ⟨_, B2, rfl, O2, M.drop⟩
def rings0 (x : GRoom) (n : Nat) : List GRing := x.Loops.take n ++ List.replicate (4 - n) z_Ring
def roomN (x : GRoom) (n : Nat) : GRoom := { x with Loops := rings0 x n }
theorem rings0_step {x : GRoom} (hl : x.Loops.length = 4) {n : Nat} (hn : n < 4) : (rings0 x n).set n x.Loops[n]! = rings0 x (n + 1) := by
  unfold rings0
  rw [getElem!_pos x.Loops n (by omega)]
  exact copy_step hl hn
theorem foc_comb (i : Nat) (hi : i < 2) : Foc rRoom rComb (3 + i * 3) (fun a => a.Combs[i]!) (fun a b => { a with Combs := a.Combs.set i b }) := (foc_Room_Combs.trans (Foc.arr rComb i hi)).at rfl
theorem foc_loop (i : Nat) (hi : i < 4) : Foc rRoom rRing (9 + i * 2) (fun a => a.Loops[i]!) (fun a b => { a with Loops := a.Loops.set i b }) := (foc_Room_Loops.trans (Foc.arr rRing i hi)).at rfl
theorem combs_set {x : GRoom} (h : x.Combs.length = 2) (z : GComb) : ([z, z].set 0 x.Combs[0]!).set 1 x.Combs[1]! = x.Combs := by
  match x.Combs, h with
  | [a, b], _ => rfl
/-- What copies its parts into y, and y to where it is asked. -/
theorem copy_loops {x : GRoom} {hh : Heap} {g1 gy : Nat} (R : RdP rRoom h q x) (hs : x.small) (P : Pt rRoom h hh ⟨gy, 0, none⟩ ⟨gy, T_impl_Room, [], []⟩ [(g1, T_impl_Room, ⟨Z_impl_Room⟩)] (roomN x 0)) :
    LOOP (spec_l06Copy.B5 fun u h' => NewR rRoom h h' u x) (q, ⟨g1, 0, none⟩, ⟨gy, 0, none⟩, 0) hh := by
  have hL : x.Loops.length = 4 := (R.foc foc_Room_Loops).len
  refine loop (fun y hh => ∃ n : Nat, y = (q, ⟨g1, 0, none⟩, ⟨gy, 0, none⟩, (n : Int)) ∧ n ≤ 4 ∧ Pt rRoom h hh ⟨gy, 0, none⟩ ⟨gy, T_impl_Room, [], []⟩ [(g1, T_impl_Room, ⟨Z_impl_Room⟩)] (roomN x n)) (fun y => (4 - y.2.2.2).toNat) ⟨0, rfl, by omega, P⟩ ?_
  rintro y hh ⟨n, rfl, hn, P⟩
  refine brd (fun hc => ?_) fun hc => ?_
  · have Ra := ((R.ext P.ext).foc foc_Room_Loops).elem (i := n) (by omega)
    refine idx (by omega) (by omega) (NewR.pt P (l02Copy_c Ra (hs.2.2.2 _ (by rw [getElem!_pos _ n (by omega)]; exact List.getElem_mem _))) fun h' cs B P O ho => as_a (idx (by omega) (by omega) ?_))
    rw [add_add', Int.toNat_natCast]
    refine P.sts (foc_loop n (by omega)) rfl O fun h'' P => ⟨⟨n + 1, by rw [wrap64_succ (by omega)], by omega, ?_⟩, by rw [wrap64_succ (by omega)]; show _ < _; simp; omega⟩
    have e : (rings0 x n).set n x.Loops[n]! = rings0 x (n + 1) := rings0_step hL (by omega)
    have P : Pt rRoom h h'' ⟨gy, 0, none⟩ ⟨gy, T_impl_Room, [], []⟩ [(g1, T_impl_Room, ⟨Z_impl_Room⟩)] { x with Loops := (rings0 x n).set n x.Loops[n]! } := P
    rw [e] at P
    exact P
  · obtain rfl : n = 4 := by omega
    have e : roomN x 4 = x := by unfold roomN rings0; rw [← hL, List.take_length, hL]; simp
    rw [e] at P
    obtain ⟨cs, B, M, O⟩ := P.out
    refine M.lda0 .here (osz O rfl) ?_
    have M := M.cnt (W := (g1, T_impl_Room, ⟨Z_impl_Room⟩) :: B) (fun p => by simp only [cnt_app, cnt_cons, cnt_nil] at *; omega)
    refine M.sta0 .here (osz O rfl) (rRoom.oone O) rfl .here fun h3 M => M.lda0 .here (osz O rfl) ?_
    exact ⟨_, B, rfl, O, M.drop⟩
theorem l06Copy_c {x : GRoom} (R : RdP rRoom h q x) (hs : x.small) : CALL prg f_spec_l06Copy #[.pointer (some q)] (fun u h' => NewR rRoom h h' u x) h := by
  refine spec_l06Copy.call ((Mem.start h).alc fun g1 h2 x2 M0 => ?_)
  have R2 := R.ext x2
  have hC : x.Combs.length = 2 := combs2 R
  have hL : x.Loops.length = 4 := (R.foc foc_Room_Loops).len
  refine R2.oL fun bt lt ct ST => R2.lda foc_Room_Damps rfl fun cD RD => R2.lda foc_Room_Gains rfl fun cG RG => R2.oF fun y hy => R2.oF fun z hz => ?_
  have hlt := ST.len
  have sD : cD.size = 24 := rsz RD rfl
  have sG : cG.size = 4 := rsz RG rfl
  have RE := R2.fst foc_Room_Early
  have hE := hs.1
  have hT : lt * 16 ≤ 140737488355328 := by have := hs.2.1; omega
  have fD : (rArr 4 rFilter).ow [] cD.toList x.Damps := flat_arr 4 (flat_via (flat_seq (flat_I _) (flat_seq (flat_arr 3 (flat_F _)) (flat_arr 2 (flat_F _))))) _ _ _ RD
  have fG : (rArr 4 (rF .f32)).ow [] cG.toList x.Gains := flat_arr 4 (flat_F _) _ _ _ RG
  have j2 : ∀ {hh : Heap} {gy : Nat}, Pt rRoom h hh ⟨gy, 0, none⟩ ⟨gy, T_impl_Room, [], []⟩ [(g1, T_impl_Room, ⟨Z_impl_Room⟩)] { x with Combs := [z_Comb, z_Comb], Loops := rings0 x 0 } → spec_l06Copy.J2 (fun u h' => NewR rRoom h h' u x) q ⟨g1, 0, none⟩ ⟨gy, 0, none⟩ hh := by
    intro hh gy P
    have C0 := ((R.foc foc_Room_Combs).elem (i := 0) (by decide))
    have C1 := ((R.foc foc_Room_Combs).elem (i := 1) (by decide))
    simp only [add_add', sz_Comb, Nat.reduceMul, Nat.reduceAdd] at C0 C1
    have s0 := hs.2.2.1 x.Combs[0]! (by rw [getElem!_pos _ 0 (by omega)]; exact List.getElem_mem _)
    have s1 := hs.2.2.1 x.Combs[1]! (by rw [getElem!_pos _ 1 (by omega)]; exact List.getElem_mem _)
    refine idx (by omega) (by omega) (NewR.pt P (l06CopyComb_c (C0.ext P.ext) s0) fun h3 cs B P O ho => as_a (idx (by omega) (by omega) (P.sts (foc_comb 0 (by decide)) rfl O fun h4 P => ?_)))
    refine idx (by omega) (by omega) (NewR.pt P (l06CopyComb_c (C1.ext P.ext) s1) fun h5 cs B P O ho => as_a (idx (by omega) (by omega) (P.sts (foc_comb 1 (by decide)) rfl O fun h6 P => ?_)))
    have P : Pt rRoom h h6 ⟨gy, 0, none⟩ ⟨gy, T_impl_Room, [], []⟩ [(g1, T_impl_Room, ⟨Z_impl_Room⟩)] { x with Combs := ([z_Comb, z_Comb].set 0 x.Combs[0]!).set 1 x.Combs[1]!, Loops := rings0 x 0 } := P
    rw [combs_set hC] at P
    exact copy_loops R hs P
  have key : ∀ {hh : Heap} {gy : Nat} {BE BT : List Blk} {cE : Array Value} {b : Option Addr} {l c : Nat}, rRing.ow BE cE.toList x.Early → SlO T_impl_Tap rTap BT b l c x.Taps → Mem h2 hh ((gy, T_impl_Room, ⟨Z_impl_Room⟩) :: (BE ++ BT)) →
      STA 47 hh ⟨gy, 0, none⟩ ⟨(List.set (List.set (splice 41 4 cG (splice 17 24 cD (List.set (splice 0 2 cE [.slice none 0 0, .int .i64 (0 : Int), .slice none 0 0, .slice none 0 0, .int .i64 (0 : Int), .float .f32 0, .slice none 0 0, .int .i64 (0 : Int), .float .f32 0, .slice none 0 0, .int .i64 (0 : Int), .slice none 0 0, .int .i64 (0 : Int), .slice none 0 0, .int .i64 (0 : Int), .slice none 0 0, .int .i64 (0 : Int), .int .i64 (0 : Int), .float .f32 0, .float .f32 0, .float .f32 0, .float .f32 0, .float .f32 0, .int .i64 (0 : Int), .float .f32 0, .float .f32 0, .float .f32 0, .float .f32 0, .float .f32 0, .int .i64 (0 : Int), .float .f32 0, .float .f32 0, .float .f32 0, .float .f32 0, .float .f32 0, .int .i64 (0 : Int), .float .f32 0, .float .f32 0, .float .f32 0, .float .f32 0, .float .f32 0, .float .f32 0, .float .f32 0, .float .f32 0, .float .f32 0, .float .f32 0, .float .f32 0]) 2 (.slice b l c)))) 45 (.float .f32 y)) 46 (.float .f32 z))⟩ (fun h18 => spec_l06Copy.J2 (fun u h' => NewR rRoom h h' u x) q ⟨g1, 0, none⟩ ⟨gy, 0, none⟩ h18) := by
    intro hh gy BE BT cE b l c OE OT N
    obtain ⟨B1, O1, c1⟩ := ow_splice zow_Room foc_Room_Early rfl OE
    obtain ⟨B2, O2, c2⟩ := ow_set O1 foc_Room_Taps rfl ⟨b, l, c, rfl, OT⟩
    obtain ⟨B3, O3, c3⟩ := ow_splice O2 foc_Room_Damps rfl fD
    obtain ⟨B4, O4, c4⟩ := ow_splice O3 foc_Room_Gains rfl fG
    obtain ⟨B5, O5, c5⟩ := ow_set O4 foc_Room_Dry rfl ⟨rfl, y, rfl, hy⟩
    obtain ⟨B6, O6, c6⟩ := ow_set O5 foc_Room_Wet rfl ⟨rfl, z, rfl, hz⟩
    have M := (M0.join N).cnt (W := (gy, T_impl_Room, ⟨Z_impl_Room⟩) :: (B6 ++ [(g1, T_impl_Room, ⟨Z_impl_Room⟩)])) (fun p => by have := c1 p; have := c2 p; have := c3 p; have := c4 p; have := c5 p; have := c6 p; simp only [cnt_app, cnt_cons, cnt_nil] at *; omega)
    refine M.sta0 .here (osz (cs := ⟨_⟩) O6 rfl) (rRoom.oone O6) rfl .here fun h3 M => j2 ?_
    exact Pt.new (r := rRoom) (a := { x with Combs := [z_Comb, z_Comb], Loops := rings0 x 0 }) O6 M
  have nil := Mem.start h2
  (repeat' (first
    | refine RdP.pinO R2 (by decide) (Mem.ext (by assumption)) ?_
    | refine siz (by assumption) ?_
    | refine as_a ?_
    | refine as_l ?_
    | refine NewR.go (by assumption) (l02Copy_c (RdP.ext (Mem.ext (by assumption)) RE) hE) fun _ _ _ _ _ _ => ?_
    | refine Mem.alc (by assumption) fun _ _ _ _ => ?_
    | refine append_copyM E_sl_impl_Tap tap_sz flat_Tap ST (by assumption) (by repeat (first | exact Pick.here | apply Pick.there | apply Pick.skip)) hT fun _ _ _ _ _ _ => ?_
    | exact key (by assumption) (by assumption) (Mem.cnt (by assumption) (fun p => by simp only [cnt_app, cnt_cons, cnt_nil] at *; omega))
    | refine And.intro ?_ ?_))
end
end Go.Sx
