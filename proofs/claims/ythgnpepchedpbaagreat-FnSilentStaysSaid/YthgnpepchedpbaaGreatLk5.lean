/- Rooms: valid ones, as both programs tell them. -/
import Derived.Test.YthgnpepchedpbaaGreatLk3
import Derived.Test.YthgnpepchedpbaaGreatLr2
import Derived.Test.YthgnpepchedpbaaGreatK2
set_option linter.unusedVariables false
set_option linter.unusedSimpArgs false
namespace Go.Sx
open Go.Proofs
set_option maxRecDepth 100000

section
variable {h : Heap} {q : Addr}
theorem l06Comb_c {c : GComb} (R : RdP rComb h q c) : CALL prg f_spec_l06Comb #[.pointer (some q)] (fun u h' => u = .bool c.ok ∧ Ext h h') h := by
  refine spec_l06Comb.call ((R.fst foc_Comb_Ring).lda1 rfl fun cs Rc => ⟨rsz Rc rfl, alc_one Rc rfl fun g h1 x1 S => ?_⟩)
  refine goX (l04Rings_c S) fun h2 x2 => as_b ?_
  have e : ([c.Ring].all GRing.okf) = c.Ring.okf := by simp
  rw [e]
  refine br (fun hb => ?_) fun hb => ⟨by rw [GComb.ok, hb]; rfl, x1.trans x2⟩
  refine (R.ext (x1.trans x2)).oF fun y hy => (l01Finite_c hy).go fun h3 x3 => as_b ⟨by rw [GComb.ok, hb]; rfl, (x1.trans x2).trans x3⟩
theorem zr_rd (h : Heap) : rRing.rd h [.slice none 0 0, .int .i64 (0 : Int)] z_Ring := rRing.look zow_Ring (Mem.start h) (List.Sublist.refl _)
theorem list4 {α : Type} [Inhabited α] {l : List α} (h : l.length = 4) (z : α) : ((([z, z, z, z].set 0 l[0]!).set 1 l[1]!).set 2 l[2]!).set 3 l[3]! = l := by
  match l, h with
  | [a, b, c, d], _ => rfl
theorem l06Loops_c {x : GRoom} (R : RdP rRoom h q x) : CALL prg f_spec_l06Loops #[.pointer (some q)] (fun u h' => (∃ b l c, u = .slice b l c ∧ SlR rRing h' b l c x.Loops) ∧ Ext h h') h := by
  have RL := R.foc foc_Room_Loops
  have hl := RL.len
  have e0 := RL.elem (i := 0) (by decide)
  have e1 := RL.elem (i := 1) (by decide)
  have e2 := RL.elem (i := 2) (by decide)
  have e3 := RL.elem (i := 3) (by decide)
  simp only [add_add', sz_Ring, Nat.reduceMul, Nat.reduceAdd] at e0 e1 e2 e3
  refine spec_l06Loops.call (idx (by omega) (by omega) (e0.lda1 rfl fun c0 R0 => idx (by omega) (by omega) (e1.lda1 rfl fun c1 R1 => idx (by omega) (by omega) (e2.lda1 rfl fun c2 R2 => idx (by omega) (by omega) (e3.lda1 rfl fun c3 R3 => ?_)))))
  refine ⟨rsz R0 rfl, ⟨rsz R1 rfl, ⟨rsz R2 rfl, ⟨rsz R3 rfl, ?_⟩⟩⟩⟩
  have z0 : (rArr 4 rRing).rd h [.slice none 0 0, .int .i64 (0 : Int), .slice none 0 0, .int .i64 (0 : Int), .slice none 0 0, .int .i64 (0 : Int), .slice none 0 0, .int .i64 (0 : Int)] [z_Ring, z_Ring, z_Ring, z_Ring] :=
    ⟨rfl, [_, _], _, rfl, zr_rd h, [_, _], _, rfl, zr_rd h, [_, _], _, rfl, zr_rd h, [_, _], _, rfl, zr_rd h, rfl⟩
  have z1 := rd_splice (put := fun l b => l.set 0 b) (get := fun l => l[0]!) z0 (fun R => arr_put (i := 0) (by decide) R) R0
  have z2 := rd_splice (put := fun l b => l.set 1 b) (get := fun l => l[1]!) z1 (fun R => arr_put (i := 1) (by decide) R) R1
  have z3 := rd_splice (put := fun l b => l.set 2 b) (get := fun l => l[2]!) z2 (fun R => arr_put (i := 2) (by decide) R) R2
  have z4 := rd_splice (put := fun l b => l.set 3 b) (get := fun l => l[3]!) z3 (fun R => arr_put (i := 3) (by decide) R) R3
  have e : ((([z_Ring, z_Ring, z_Ring, z_Ring].set 0 x.Loops[0]!).set 1 x.Loops[1]!).set 2 x.Loops[2]!).set 3 x.Loops[3]! = x.Loops := list4 hl _
  rw [e] at z4
  exact rArr_slr z4 (by decide) fun g h' x' S => ⟨⟨_, _, _, rfl, S⟩, x'⟩
/-- What a room is, told as the programs ask. -/
theorem room_ok (x : GRoom) : x.ok = (x.Early.okf && decide (x.Taps.length ≤ 6) && x.Combs.all GComb.ok && x.Loops.all GRing.okf && (x.Damps.all fun f => f.ok && f.Kind == 1) && (x.Taps.all fun t => t.ok x.Early.len) && allFin x.Gains && fin x.Dry && fin x.Wet) := rfl
theorem all2 {α : Type} [Inhabited α] {l : List α} (h : l.length = 2) (p : α → Bool) : l.all p = (p l[0]! && p l[1]!) := by
  match l, h with
  | [a, b], _ => simp
theorem combs2 {h : Heap} {q : Addr} {x : GRoom} (R : RdP rRoom h q x) : x.Combs.length = 2 := (R.foc foc_Room_Combs).len
theorem tap_sz : 0 < rTap.sz := by decide
theorem gains4 {l : List Nat} (h : l.length = 4) (a b : Nat) : allFin [l[0]!, l[1]!, l[2]!, l[3]!, a, b] = (allFin l && fin a && fin b) := by
  match l, h with
  | [p, q, r, s], _ => simp [allFin, Bool.and_assoc]
theorem l06Ok_c {x : GRoom} (R : RdP rRoom h q x) : CALL prg f_spec_l06Ok #[.pointer (some q)] (fun u h' => u = .bool x.ok ∧ Ext h h') h := by
  have hC := combs2 R
  have hD : x.Damps.length = 4 := (R.foc foc_Room_Damps).len
  have hG : x.Gains.length = 4 := (R.foc foc_Room_Gains).len
  refine spec_l06Ok.call ((R.fst foc_Room_Early).lda1 rfl fun cs Rc => ⟨rsz Rc rfl, alc_one Rc rfl fun g h1 x1 S => ?_⟩)
  refine goX (l04Rings_c S) fun h2 x2 => as_b ?_
  have X2 := x1.trans x2
  have e : ([x.Early].all GRing.okf) = x.Early.okf := by simp
  rw [e]
  refine br (fun hb => ⟨by rw [room_ok, show x.Early.okf = false by simpa using hb]; rfl, X2⟩) fun hb => ?_
  have hE : x.Early.okf = true := by simpa using hb
  have C0 := ((R.foc foc_Room_Combs).elem (i := 0) (by decide))
  have C1 := ((R.foc foc_Room_Combs).elem (i := 1) (by decide))
  simp only [add_add', sz_Comb, Nat.reduceMul, Nat.reduceAdd] at C0 C1
  refine idx (by omega) (by omega) (goX (l06Comb_c (C0.ext X2)) fun h3 x3 => as_b (br (fun hb => ⟨?_, X2.trans x3⟩) fun hb => ?_))
  · rw [room_ok, hE, all2 hC, show x.Combs[0]!.ok = false by simpa using hb]; simp
  have h0 : x.Combs[0]!.ok = true := by simpa using hb
  have X3 := X2.trans x3
  refine idx (by omega) (by omega) (goX (l06Comb_c (C1.ext X3)) fun h4 x4 => as_b (br (fun hb => ⟨?_, X3.trans x4⟩) fun hb => ?_))
  · rw [room_ok, hE, all2 hC, show x.Combs[1]!.ok = false by simpa using hb]; simp
  have hCo : x.Combs.all GComb.ok = true := by rw [all2 hC, h0, show x.Combs[1]!.ok = true by simpa using hb]; rfl
  have X4 := X3.trans x4
  refine (l06Loops_c (R.ext X4)).mono ?_
  rintro _ h5 ⟨⟨b, l, c, rfl, S5⟩, x5⟩
  have X5 := X4.trans x5
  refine as_l (goX (l04Rings_c S5) fun h6 x6 => as_b (br (fun hb => ⟨?_, X5.trans x6⟩) fun hb => ?_))
  · rw [room_ok, hE, hCo, show x.Loops.all GRing.okf = false by simpa using hb]; simp
  have hL : x.Loops.all GRing.okf = true := by simpa using hb
  have X6 := X5.trans x6
  refine (R.ext X6).oL fun b l c ST => brd (fun hb => ⟨?_, X6⟩) fun hb => ?_
  · have := ST.len; rw [room_ok, hE, decide_eq_false (by omega)]; simp
  have hT : decide (x.Taps.length ≤ 6) = true := by have := ST.len; exact decide_eq_true (by omega)
  have hT6 : x.Taps.length ≤ 6 := of_decide_eq_true hT
  unfold spec_l06Ok.J3
  refine loop (fun y hh => ∃ n : Nat, y = (q, (n : Int)) ∧ n ≤ 4 ∧ Ext h hh ∧ ∀ i, i < n → (x.Damps[i]!.ok && x.Damps[i]!.Kind == 1) = true) (fun y => (4 - y.2).toNat) ⟨0, rfl, by omega, X6, fun i hi => by omega⟩ ?_
  rintro y hh ⟨n, rfl, hn, X, hf⟩
  refine brd (fun hc => ?_) fun hc => ?_
  · have Ra := ((R.ext X).foc foc_Room_Damps).elem (i := n) (by omega)
    have no : ∀ {h'}, Ext h h' → (x.Damps[n]!.ok && x.Damps[n]!.Kind == 1) = false → ((Value.bool false = .bool x.ok) ∧ Ext h h') := fun X e => ⟨by
      rw [room_ok, all_range (fun f : GFilter => f.ok && f.Kind == 1), all_false (f := fun i => x.Damps[i]!.ok && x.Damps[i]!.Kind == 1) (i := n) (by omega) e]; simp, X⟩
    refine idx (by omega) (by omega) (goX (l02Ok_c Ra) fun h7 x7 => as_b (br (fun hb => no (X.trans x7) ?_) fun hb => ?_))
    · rw [show x.Damps[n]!.ok = false by simpa using hb]; rfl
    have ho : x.Damps[n]!.ok = true := by simpa using hb
    refine idx (by omega) (by omega) ((Ra.ext x7).oI1 (br (fun hb => no (X.trans x7) ?_) fun hb => ?_))
    · rw [ho, Bool.true_and]; simpa using hb
    · refine ⟨⟨n + 1, by rw [wrap64_succ (by omega)], by omega, X.trans x7, fun i hi => ?_⟩, by rw [wrap64_succ (by omega)]; show _ < _; simp; omega⟩
      by_cases e : i = n
      · subst e; rw [ho, Bool.true_and]; simpa using hb
      · exact hf i (by omega)
  have hDa : (x.Damps.all fun f => f.ok && f.Kind == 1) = true := by rw [all_range, all_true fun i hi => hf i (by omega)]
  refine loop (fun y hh => ∃ n : Nat, y = (q, (n : Int)) ∧ n ≤ x.Taps.length ∧ Ext h hh ∧ ∀ i, i < n → x.Taps[i]!.ok x.Early.len = true) (fun y => (x.Taps.length - y.2).toNat) ⟨0, rfl, by omega, X, fun i hi => by omega⟩ ?_
  rintro y hh ⟨n, rfl, hn, X, hf⟩
  refine (R.ext X).oL fun b l c ST => ?_
  have hl := ST.len
  refine brd (fun hc => ?_) fun hc => ?_
  · refine (R.ext X).oL fun b' l' c' ST' => ?_
    have hl' := ST'.len
    have no : ∀ {h'}, Ext h h' → x.Taps[n]!.ok x.Early.len = false → ((Value.bool false = .bool x.ok) ∧ Ext h h') := fun X e => ⟨by
      rw [room_ok, all_range (fun t : GTap => t.ok x.Early.len), all_false (f := fun i => x.Taps[i]!.ok x.Early.len) (i := n) (by omega) e]; simp, X⟩
    refine ST'.idx tap_sz (by omega) (by omega) fun a Ra => Ra.oI1 ((R.ext X).oL1 fun b2 l2 c2 S2 => goX (l00In_c _ _ _ _) fun h7 x7 => as_b (br (fun hb => no (X.trans x7) ?_) fun hb => ?_))
    · rw [GTap.ok, GRing.len, S2.len]
      have : inR x.Taps[n]!.Back 1 (l2 : Int) = false := by simpa using hb
      rw [this]; rfl
    have hb1 : inR x.Taps[n]!.Back 1 x.Early.len = true := by rw [GRing.len, S2.len]; simpa using hb
    refine (R.ext (X.trans x7)).oL fun b' l' c' ST' => ?_
    have hl' := ST'.len
    refine ST'.idx tap_sz (by omega) (by omega) fun a Ra => Ra.oF fun z hz => goX (l01Finite_c hz _) fun h8 x8 => as_b (br (fun hb => no ((X.trans x7).trans x8) ?_) fun hb => ?_)
    · rw [GTap.ok, hb1, Bool.true_and]; simpa using hb
    · refine ⟨⟨n + 1, by rw [wrap64_succ (by omega)], by omega, (X.trans x7).trans x8, fun i hi => ?_⟩, by rw [wrap64_succ (by omega)]; show _ < _; simp; omega⟩
      by_cases e : i = n
      · subst e; rw [GTap.ok, hb1, Bool.true_and]; simpa using hb
      · exact hf i (by omega)
  have hTa : (x.Taps.all fun t => t.ok x.Early.len) = true := by rw [all_range, all_true fun i hi => hf i (by omega)]
  have RG := R.ext X
  refine idx (by omega) (by omega) (RG.oF fun y0 hy0 => idx (by omega) (by omega) (RG.oF fun y1 hy1 => idx (by omega) (by omega) (RG.oF fun y2 hy2 => idx (by omega) (by omega) (RG.oF fun y3 hy3 => RG.oF fun y4 hy4 => RG.oF fun y5 hy5 => ?_))))
  refine rArr_slr (r := rF .f32) (n := 6) (xs := [x.Gains[0]!, x.Gains[1]!, x.Gains[2]!, x.Gains[3]!, x.Dry, x.Wet]) ⟨rfl, [_], _, rfl, ⟨_, rfl, hy0⟩, [_], _, rfl, ⟨_, rfl, hy1⟩, [_], _, rfl, ⟨_, rfl, hy2⟩, [_], _, rfl, ⟨_, rfl, hy3⟩, [_], _, rfl, ⟨_, rfl, hy4⟩, [_], _, rfl, ⟨_, rfl, hy5⟩, rfl⟩ (by decide) fun g h' x' S => ?_
  refine goX (l04All_c S) fun h8 x8 => as_b ⟨?_, (X.trans x').trans x8⟩
  rw [room_ok, hE, hT, hCo, hL, hDa, hTa, gains4 hG]; simp [Bool.and_assoc]
end
end Go.Sx
/- Rooms: valid ones, as the program tells them. -/
set_option linter.unusedVariables false
set_option linter.unusedSimpArgs false
namespace Go.Sx
open Go.Proofs
set_option maxRecDepth 100000

section
variable {h : Heap} {q : Addr}
theorem ValidComb_c {cs : Array Value} {c : GComb} (R : rComb.rd h cs.toList c) : CALL prg f_impl_ValidComb #[.agg cs] (fun u h' => u = .bool c.ok ∧ Ext h h') h := by
  refine impl_ValidComb.call (alcR R fun g h1 x1 R1 => (R1.fst foc_Comb_Ring).lda1 rfl fun cs Rc => goX (isRing_c Rc) fun h2 x2 => as_b (br (fun hb => ?_) fun hb => ⟨by rw [GComb.ok, hb]; rfl, x1.trans x2⟩))
  exact (R1.ext x2).oF2 fun y hy => goX (isFinite_c hy _) fun h3 x3 => as_b ⟨by rw [GComb.ok, hb]; rfl, (x1.trans x2).trans x3⟩
theorem isTap_c {cs : Array Value} {t : GTap} (R : rTap.rd h cs.toList t) (n : Int) : CALL prg f_impl_isTap #[.agg cs, .int .i64 n] (fun u h' => u = .bool (t.ok n) ∧ Ext h h') h := by
  refine impl_isTap.call (alcR R fun g h1 x1 R1 => R1.oI2 (goX (within_c _ _ _ _) fun h2 x2 => as_b (br (fun hb => ?_) fun hb => ⟨by rw [GTap.ok, hb]; rfl, x1.trans x2⟩)))
  exact (R1.ext x2).oF2 fun y hy => goX (isFinite_c hy _) fun h3 x3 => as_b ⟨by rw [GTap.ok, hb]; rfl, (x1.trans x2).trans x3⟩
/-- A function value that tells of each tap whether p holds, in every heap behind hb. -/
def TellsT (P : Program) (hb : Heap) (f : Value) (p : GTap → Bool) : Prop := ∀ cs t h, Ext hb h → rTap.rd h cs.toList t → CALLD P f #[.agg cs] (fun u h' => u = .bool (p t) ∧ Ext h h') h
theorem IndexFunc_Tap_c {b : Option Addr} {l c : Nat} {xs : List GTap} {f : Value} {p : GTap → Bool} (S : SlR rTap h b l c xs) (T : TellsT prg h f p) :
    CALL prg f_slices_IndexFunc_sl_impl_Tap_impl_Tap #[.slice b l c, f] (fun u h' => u = .int .i64 (firstAt p xs) ∧ Ext h h') h := by
  refine slices_IndexFunc_sl_impl_Tap_impl_Tap.call ?_
  have hm2 := S.2.2.1
  have hm3 := S.2.1
  have := maxLen_lt
  have hl := S.len
  refine loop (fun x hh => ∃ n : Nat, x = (b, l, c, f, (l : Int), (n : Int)) ∧ n ≤ l ∧ Ext h hh ∧ ∀ i, i < n → p xs[i]! = false) (fun x => (l - x.2.2.2.2.2).toNat) ⟨0, rfl, by omega, Ext.refl _, fun i hi => by omega⟩ ?_
  rintro x hh ⟨n, rfl, hn, X, hf⟩
  refine brd (fun hc => ?_) fun hc => ?_
  · refine (S.ext X).idx tap_sz (by omega) (by omega) fun a Ra => Ra.lda1 rfl fun cs Rc => ?_
    refine (T _ _ _ X Rc).mono fun u h1 ⟨e, x1⟩ => ?_
    subst e
    refine as_b (br (fun hb => ?_) fun hb => ?_)
    · exact ⟨by rw [firstAt_some (by omega) hf (by simpa using hb)], X.trans x1⟩
    · refine ⟨⟨n + 1, by rw [wrap64_succ (by omega)], by omega, X.trans x1, fun i hi => ?_⟩, by rw [wrap64_succ (by omega)]; show _ < _; simp; omega⟩
      by_cases e : i = n
      · subst e; simpa using hb
      · exact hf i (by omega)
  · exact ⟨by rw [firstAt_none fun i hi => hf i (by omega)], X⟩
theorem ContainsFunc_Tap_c {b : Option Addr} {l c : Nat} {xs : List GTap} {f : Value} {p : GTap → Bool} (S : SlR rTap h b l c xs) (T : TellsT prg h f p) :
    CALL prg f_slices_ContainsFunc_sl_impl_Tap_impl_Tap #[.slice b l c, f] (fun u h' => u = .bool (xs.any p) ∧ Ext h h') h := by
  refine slices_ContainsFunc_sl_impl_Tap_impl_Tap.call (goX (IndexFunc_Tap_c S T) fun h1 x1 => as_i ⟨by rw [firstAt_any], x1⟩)
theorem ValidRoom_tells {hb : Heap} {a : Addr} {x : GRoom} (R : RdP rRoom hb a x) : TellsT prg hb (.func (.func f_impl_ValidRoom_c1) #[] #[.pointer (some a)]) fun t => !t.ok x.Early.len := fun cs t h X Rt => by
  show CALL prg f_impl_ValidRoom_c1 #[.agg cs, .pointer (some a)] _ h
  refine impl_ValidRoom_c1.call (alcR Rt fun g h1 x1 R1 => R1.lda1 rfl fun cs' Rc => (R.ext (X.trans x1)).oL1 fun b l c S => goX (length_f32_c _ _ _ _) fun h2 x2 => as_i (R1.pin0 (by decide) x2 ?_))
  refine goX (isTap_c (rTap.ext x2 Rc) _) fun h3 x3 => as_b ⟨?_, (x1.trans x2).trans x3⟩
  rw [GRing.len, S.len]
theorem ValidRoom_c {cs : Array Value} {x : GRoom} (R0 : rRoom.rd h cs.toList x) : CALL prg f_impl_ValidRoom #[.agg cs] (fun u h' => u = .bool x.ok ∧ Ext h h') h := by
  refine impl_ValidRoom.call (alcR R0 fun g h1 x1 R => ?_)
  have hC := combs2 R
  have hD : x.Damps.length = 4 := (R.foc foc_Room_Damps).len
  have hG : x.Gains.length = 4 := (R.foc foc_Room_Gains).len
  have hLl : x.Loops.length = 4 := (R.foc foc_Room_Loops).len
  refine (R.fst foc_Room_Early).lda1 rfl fun cs Rc => goX (isRing_c Rc) fun h2 x2 => as_b ?_
  have X2 := x2
  refine br (fun hb => ⟨by rw [room_ok, show x.Early.okf = false by simpa using hb]; rfl, x1.trans X2⟩) fun hb => ?_
  have hE : x.Early.okf = true := by simpa using hb
  refine (R.ext X2).oL2 fun b l c ST => brd (fun hb => ⟨?_, x1.trans X2⟩) fun hb => ?_
  · have := ST.len; rw [room_ok, hE, decide_eq_false (by omega)]; simp
  have hT : decide (x.Taps.length ≤ 6) = true := by have := ST.len; exact decide_eq_true (by omega)
  refine slb (by omega) (by omega) (by omega) ?_
  rw [slP_zero]
  refine goX (areFinite_c (((R.ext X2).foc0 foc_Room_Gains).arr (by decide))) fun h3 x3 => as_b (br (fun hb => ⟨?_, x1.trans (X2.trans x3)⟩) fun hb => ?_)
  · rw [room_ok, show allFin x.Gains = false by simpa using hb]; simp
  have hGa : allFin x.Gains = true := by simpa using hb
  have X3 := X2.trans x3
  refine (R.ext X3).oF2 fun y hy => (R.ext X3).oF2 fun z hz => ?_
  refine rArr_slr (r := rF .f32) (n := 2) (xs := [x.Dry, x.Wet]) ⟨rfl, [_], _, rfl, ⟨_, rfl, hy⟩, [_], _, rfl, ⟨_, rfl, hz⟩, rfl⟩ (by decide) fun g' h4 x4 S => ?_
  have X4 := X3.trans x4
  refine goX (areFinite_c S) fun h5 x5 => as_b ?_
  have e : allFin [x.Dry, x.Wet] = (fin x.Dry && fin x.Wet) := by simp [allFin]
  rw [e]
  have X5 := X4.trans x5
  refine br (fun hb => ⟨?_, x1.trans X5⟩) fun hb => ?_
  · rw [room_ok, Bool.and_assoc _ (fin x.Dry), nt hb, Bool.and_false]
  have hDW : (fin x.Dry && fin x.Wet) = true := nf hb
  have C0 := ((R.foc0 foc_Room_Combs).elem (i := 0) (by decide))
  have C1 := ((R.foc0 foc_Room_Combs).elem (i := 1) (by decide))
  simp only [add_none, sz_Comb, Nat.reduceMul, Nat.reduceAdd] at C0 C1
  refine idx (by omega) (by omega) ((C0.ext X5).lda1 rfl fun cs Rc => goX (ValidComb_c Rc) fun h6 x6 => as_b (br (fun hb => ⟨?_, x1.trans (X5.trans x6)⟩) fun hb => ?_))
  · rw [room_ok, hE, all2 hC, show x.Combs[0]!.ok = false by simpa using hb]; simp
  have h0 : x.Combs[0]!.ok = true := by simpa using hb
  have X6 := X5.trans x6
  refine idx (by omega) (by omega) ((C1.ext X6).lda1 rfl fun cs Rc => goX (ValidComb_c Rc) fun h7 x7 => as_b (br (fun hb => ⟨?_, x1.trans (X6.trans x7)⟩) fun hb => ?_))
  · rw [room_ok, hE, all2 hC, show x.Combs[1]!.ok = false by simpa using hb]; simp
  have hCo : x.Combs.all GComb.ok = true := by rw [all2 hC, h0, show x.Combs[1]!.ok = true by simpa using hb]; rfl
  have X7 := X6.trans x7
  unfold impl_ValidRoom.J3
  refine ((R.ext X7).lda foc_Room_Loops rfl fun cL RL => ?_)
  refine loop (fun y hh => ∃ n : Nat, y = (⟨g, 0, none⟩, cL, (n : Int)) ∧ n ≤ 4 ∧ Ext h7 hh ∧ ∀ i, i < n → (x.Loops[i]!.okf = true ∧ (x.Damps[i]!.ok && x.Damps[i]!.Kind == 1) = true)) (fun y => (4 - y.2.2).toNat) ⟨0, rfl, by omega, Ext.refl _, fun i hi => by omega⟩ ?_
  rintro y hh ⟨n, rfl, hn, X, hf⟩
  refine brd (fun hc => ?_) fun hc => ?_
  · have R := R.ext X7
    have no : ∀ {h'}, Ext h7 h' → (x.Loops[n]!.okf && (x.Damps[n]!.ok && x.Damps[n]!.Kind == 1)) = false → ((Value.bool false = .bool x.ok) ∧ Ext h h') := fun X e => ⟨by
      rw [room_ok]
      rcases Bool.and_eq_false_iff.1 e with e | e
      · rw [all_range GRing.okf, all_false (f := fun i => x.Loops[i]!.okf) (i := n) (by omega) e]; simp
      · rw [all_range (fun f : GFilter => f.ok && f.Kind == 1), all_false (f := fun i => x.Damps[i]!.ok && x.Damps[i]!.Kind == 1) (i := n) (by omega) e]; simp, x1.trans (X7.trans X)⟩
    have Rn : rRing.rd h7 (cL.extract (n * 2) (n * 2 + 2)).toList x.Loops[n]! := rd_part RL (Foc.arr rRing n (by omega)) rfl
    refine idx (by omega) (by omega) ?_
    refine (Mem.start hh).alc fun g2 h8 x8 M => M.sta0 .here (rsz Rn rfl) (rRing.rone Rn) rfl .here fun h9 M => M.lda0 .here (rsz Rn rfl) ?_
    have X9 := X.trans M.ext
    refine goX (isRing_c (rRing.ext X9 Rn)) fun h10 x10 => as_b (br (fun hb => no (X9.trans x10) ?_) fun hb => ?_)
    · rw [show x.Loops[n]!.okf = false by simpa using hb]; rfl
    have ho : x.Loops[n]!.okf = true := by simpa using hb
    have X10 := X9.trans x10
    have Ra := ((R.ext X10).foc foc_Room_Damps).elem (i := n) (by omega)
    refine idx (by omega) (by omega) (Ra.lda1 rfl fun cs Rc => goX (isFilter_c Rc _) fun h11 x11 => as_b (br (fun hb => no (X10.trans x11) ?_) fun hb => ?_))
    · rw [ho, Bool.true_and]; exact nt hb
    · refine ⟨⟨n + 1, by rw [wrap64_succ (by omega)], by omega, X10.trans x11, fun i hi => ?_⟩, by rw [wrap64_succ (by omega)]; show _ < _; simp; omega⟩
      by_cases e : i = n
      · subst e; exact ⟨ho, nf hb⟩
      · exact hf i (by omega)
  have hL : x.Loops.all GRing.okf = true := by rw [all_range, all_true fun i hi => (hf i (by omega)).1]
  have hDa : (x.Damps.all fun f => f.ok && f.Kind == 1) = true := by rw [all_range, all_true fun i hi => (hf i (by omega)).2]
  have X := X7.trans X
  refine (R.ext X).oL fun b l c ST2 => goX (ContainsFunc_Tap_c ST2 (ValidRoom_tells (R.ext X))) fun h12 x12 => as_b ⟨?_, x1.trans (X.trans x12)⟩
  rw [any_not, room_ok, hE, hT, hCo, hL, hDa, hGa, Bool.and_assoc _ (fin x.Dry), hDW]; simp
end
end Go.Sx
