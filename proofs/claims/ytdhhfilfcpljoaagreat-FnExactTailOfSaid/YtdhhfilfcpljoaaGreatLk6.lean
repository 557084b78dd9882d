/- Rooms: valid ones, as the program tells them. -/
import Derived.Test.YtdhhfilfcpljoaaGreatLk5
set_option linter.unusedVariables false
set_option linter.unusedSimpArgs false
namespace Go.Sx
open Go.Proofs
set_option maxRecDepth 100000

section
variable {h : Heap} {q : Addr}
theorem ValidComb_c {cs : Array Value} {c : GComb} (R : rComb.rd h cs.toList c) : CALL prg f_impl_ValidComb #[.agg cs] (fun u h' => u = .bool c.ok ∧ Ext h h') h := by
  refine impl_ValidComb.call (alcR R fun g h1 x1 R1 => (R1.fst foc_Comb_Ring).lda1 rfl fun cs Rc => goX (isRing_c Rc) fun h2 x2 => as_b (br (fun hb => ?_) fun hb => ⟨by rw [GComb.ok, hb]; rfl, x1.trans x2⟩))
  exact (R1.ext x2).oF2 fun y hy => goX (isFinite_c hy _) fun h3 x3 => as_b ⟨by rw [GComb.ok, hb]; rfl, (x1.trans x2).trans x3⟩
theorem isTap_c {cs : Array Value} {t : GTap} (R : rTap.rd h cs.toList t) (n : Int) : CALL prg f_impl_isTap #[.agg cs, .int .i64 n] (fun u h' => u = .bool (t.ok n) ∧ Ext h h') h := by
  refine impl_isTap.call (alcR R fun g h1 x1 R1 => R1.oI2 (goX (within_c _ _ _ _) fun h2 x2 => as_b (br (fun hb => ?_) fun hb => ⟨by rw [GTap.ok, hb]; rfl, x1.trans x2⟩)))
  exact (R1.ext x2).oF2 fun y hy => goX (isFinite_c hy _) fun h3 x3 => as_b ⟨by rw [GTap.ok, hb]; rfl, (x1.trans x2).trans x3⟩
/-- A function value that tells of each tap whether p holds, in every heap behind hb. -/
def TellsT (P : Program) (hb : Heap) (f : Value) (p : GTap → Bool) : Prop := ∀ cs t h, Ext hb h → rTap.rd h cs.toList t → CALLD P f #[.agg cs] (fun u h' => u = .bool (p t) ∧ Ext h h') h
theorem IndexFunc_Tap_c {b : Option Addr} {l c : Nat} {xs : List GTap} {f : Value} {p : GTap → Bool} (S : SlR rTap h b l c xs) (T : TellsT prg h f p) :
    CALL prg f_slices_IndexFunc_sl_impl_Tap_impl_Tap #[.slice b l c, f] (fun u h' => u = .int .i64 (firstAt p xs) ∧ Ext h h') h := by
  refine slices_IndexFunc_sl_impl_Tap_impl_Tap.call ?_
  have hm2 := S.2.2.1
  have hm3 := S.2.1
  have := maxLen_lt
  have hl := S.len
  refine loop (fun x hh => ∃ n : Nat, x = (b, l, c, f, (l : Int), (n : Int)) ∧ n ≤ l ∧ Ext h hh ∧ ∀ i, i < n → p xs[i]! = false) (fun x => (l - x.2.2.2.2.2).toNat) ⟨0, rfl, by omega, Ext.refl _, fun i hi => by omega⟩ ?_
  rintro x hh ⟨n, rfl, hn, X, hf⟩
  refine brd (fun hc => ?_) fun hc => ?_
  · refine (S.ext X).idx tap_sz (by omega) (by omega) fun a Ra => Ra.lda1 rfl fun cs Rc => ?_
    refine (T _ _ _ X Rc).mono fun u h1 ⟨e, x1⟩ => ?_
    subst e
    refine as_b (br (fun hb => ?_) fun hb => ?_)
    · exact ⟨by rw [firstAt_some (by omega) hf (by simpa using hb)], X.trans x1⟩
    · refine ⟨⟨n + 1, by rw [wrap64_succ (by omega)], by omega, X.trans x1, fun i hi => ?_⟩, by rw [wrap64_succ (by omega)]; show _ < _; simp; omega⟩
      by_cases e : i = n
      · subst e; simpa using hb
      · exact hf i (by omega)
  · exact ⟨by rw [firstAt_none fun i hi => hf i (by omega)], X⟩
theorem ContainsFunc_Tap_c {b : Option Addr} {l c : Nat} {xs : List GTap} {f : Value} {p : GTap → Bool} (S : SlR rTap h b l c xs) (T : TellsT prg h f p) :
    CALL prg f_slices_ContainsFunc_sl_impl_Tap_impl_Tap #[.slice b l c, f] (fun u h' => u = .bool (xs.any p) ∧ Ext h h') h := by
  refine slices_ContainsFunc_sl_impl_Tap_impl_Tap.call (goX (IndexFunc_Tap_c S T) fun h1 x1 => as_i ⟨by rw [firstAt_any], x1⟩)
theorem ValidRoom_tells {hb : Heap} {a : Addr} {x : GRoom} (R : RdP rRoom hb a x) : TellsT prg hb (.func (.func f_impl_ValidRoom_c1) #[] #[.pointer (some a)]) fun t => !t.ok x.Early.len := fun cs t h X Rt => by
  show CALL prg f_impl_ValidRoom_c1 #[.agg cs, .pointer (some a)] _ h
  refine impl_ValidRoom_c1.call (alcR Rt fun g h1 x1 R1 => R1.lda1 rfl fun cs' Rc => (R.ext (X.trans x1)).oL1 fun b l c S => goX (length_f32_c _ _ _ _) fun h2 x2 => as_i (R1.pin0 (by decide) x2 ?_))
  refine goX (isTap_c (rTap.ext x2 Rc) _) fun h3 x3 => as_b ⟨?_, (x1.trans x2).trans x3⟩
  rw [GRing.len, S.len]
theorem ValidRoom_c {cs : Array Value} {x : GRoom} (R0 : rRoom.rd h cs.toList x) : CALL prg f_impl_ValidRoom #[.agg cs] (fun u h' => u = .bool x.ok ∧ Ext h h') h := by
  refine impl_ValidRoom.call (alcR R0 fun g h1 x1 R => ?_)
  have hC := combs2 R
  have hD : x.Damps.length = 4 := (R.foc foc_Room_Damps).len
  have hG : x.Gains.length = 4 := (R.foc foc_Room_Gains).len
  have hLl : x.Loops.length = 4 := (R.foc foc_Room_Loops).len
  refine (R.fst foc_Room_Early).lda1 rfl fun cs Rc => goX (isRing_c Rc) fun h2 x2 => as_b ?_
  have X2 := x2
  refine br (fun hb => ⟨by rw [room_ok, show x.Early.okf = false by simpa using hb]; rfl, x1.trans X2⟩) fun hb => ?_
  have hE : x.Early.okf = true := by simpa using hb
  refine (R.ext X2).oL2 fun b l c ST => brd (fun hb => ⟨?_, x1.trans X2⟩) fun hb => ?_
  · have := ST.len; rw [room_ok, hE, decide_eq_false (by omega)]; simp
  have hT : decide (x.Taps.length ≤ 6) = true := by have := ST.len; exact decide_eq_true (by omega)
  refine slb (by omega) (by omega) (by omega) ?_
  rw [slP_zero]
  refine goX (areFinite_c (((R.ext X2).foc0 foc_Room_Gains).arr (by decide))) fun h3 x3 => as_b (br (fun hb => ⟨?_, x1.trans (X2.trans x3)⟩) fun hb => ?_)
  · rw [room_ok, show allFin x.Gains = false by simpa using hb]; simp
  have hGa : allFin x.Gains = true := by simpa using hb
  have X3 := X2.trans x3
  refine (R.ext X3).oF2 fun y hy => (R.ext X3).oF2 fun z hz => ?_
  refine rArr_slr (r := rF .f32) (n := 2) (xs := [x.Dry, x.Wet]) ⟨rfl, [_], _, rfl, ⟨_, rfl, hy⟩, [_], _, rfl, ⟨_, rfl, hz⟩, rfl⟩ (by decide) fun g' h4 x4 S => ?_
  have X4 := X3.trans x4
  refine goX (areFinite_c S) fun h5 x5 => as_b ?_
  have e : allFin [x.Dry, x.Wet] = (fin x.Dry && fin x.Wet) := by simp [allFin]
  rw [e]
  have X5 := X4.trans x5
  refine br (fun hb => ⟨?_, x1.trans X5⟩) fun hb => ?_
  · rw [room_ok, Bool.and_assoc _ (fin x.Dry), nt hb, Bool.and_false]
  have hDW : (fin x.Dry && fin x.Wet) = true := nf hb
  have C0 := ((R.foc0 foc_Room_Combs).elem (i := 0) (by decide))
  have C1 := ((R.foc0 foc_Room_Combs).elem (i := 1) (by decide))
  simp only [add_none, sz_Comb, Nat.reduceMul, Nat.reduceAdd] at C0 C1
  refine idx (by omega) (by omega) ((C0.ext X5).lda1 rfl fun cs Rc => goX (ValidComb_c Rc) fun h6 x6 => as_b (br (fun hb => ⟨?_, x1.trans (X5.trans x6)⟩) fun hb => ?_))
  · rw [room_ok, hE, all2 hC, show x.Combs[0]!.ok = false by simpa using hb]; simp
  have h0 : x.Combs[0]!.ok = true := by simpa using hb
  have X6 := X5.trans x6
  refine idx (by omega) (by omega) ((C1.ext X6).lda1 rfl fun cs Rc => goX (ValidComb_c Rc) fun h7 x7 => as_b (br (fun hb => ⟨?_, x1.trans (X6.trans x7)⟩) fun hb => ?_))
  · rw [room_ok, hE, all2 hC, show x.Combs[1]!.ok = false by simpa using hb]; simp
  have hCo : x.Combs.all GComb.ok = true := by rw [all2 hC, h0, show x.Combs[1]!.ok = true by simpa using hb]; rfl
  have X7 := X6.trans x7
  unfold impl_ValidRoom.J3
  refine ((R.ext X7).lda foc_Room_Loops rfl fun cL RL => ?_)
  refine loop (fun y hh => ∃ n : Nat, y = (⟨g, 0, none⟩, cL, (n : Int)) ∧ n ≤ 4 ∧ Ext h7 hh ∧ ∀ i, i < n → (x.Loops[i]!.okf = true ∧ (x.Damps[i]!.ok && x.Damps[i]!.Kind == 1) = true)) (fun y => (4 - y.2.2).toNat) ⟨0, rfl, by omega, Ext.refl _, fun i hi => by omega⟩ ?_
  rintro y hh ⟨n, rfl, hn, X, hf⟩
  refine brd (fun hc => ?_) fun hc => ?_
  · have R := R.ext X7
    have no : ∀ {h'}, Ext h7 h' → (x.Loops[n]!.okf && (x.Damps[n]!.ok && x.Damps[n]!.Kind == 1)) = false → ((Value.bool false = .bool x.ok) ∧ Ext h h') := fun X e => ⟨by
      rw [room_ok]
      rcases Bool.and_eq_false_iff.1 e with e | e
      · rw [all_range GRing.okf, all_false (f := fun i => x.Loops[i]!.okf) (i := n) (by omega) e]; simp
      · rw [all_range (fun f : GFilter => f.ok && f.Kind == 1), all_false (f := fun i => x.Damps[i]!.ok && x.Damps[i]!.Kind == 1) (i := n) (by omega) e]; simp, x1.trans (X7.trans X)⟩
    have Rn : rRing.rd h7 (cL.extract (n * 2) (n * 2 + 2)).toList x.Loops[n]! := rd_part RL (Foc.arr rRing n (by omega)) rfl
    refine idx (by omega) (by omega) ?_
    refine (Mem.start hh).alc fun g2 h8 x8 M => M.sta0 .here (rsz Rn rfl) (rRing.rone Rn) rfl .here fun h9 M => M.lda0 .here (rsz Rn rfl) ?_
    have X9 := X.trans M.ext
    refine goX (isRing_c (rRing.ext X9 Rn)) fun h10 x10 => as_b (br (fun hb => no (X9.trans x10) ?_) fun hb => ?_)
    · rw [show x.Loops[n]!.okf = false by simpa using hb]; rfl
    have ho : x.Loops[n]!.okf = true := by simpa using hb
    have X10 := X9.trans x10
    have Ra := ((R.ext X10).foc foc_Room_Damps).elem (i := n) (by omega)
    refine idx (by omega) (by omega) (Ra.lda1 rfl fun cs Rc => goX (isFilter_c Rc _) fun h11 x11 => as_b (br (fun hb => no (X10.trans x11) ?_) fun hb => ?_))
    · rw [ho, Bool.true_and]; exact nt hb
    · refine ⟨⟨n + 1, by rw [wrap64_succ (by omega)], by omega, X10.trans x11, fun i hi => ?_⟩, by rw [wrap64_succ (by omega)]; show _ < _; simp; omega⟩
      by_cases e : i = n
      · subst e; exact ⟨ho, nf hb⟩
      · exact hf i (by omega)
  have hL : x.Loops.all GRing.okf = true := by rw [all_range, all_true fun i hi => (hf i (by omega)).1]
  have hDa : (x.Damps.all fun f => f.ok && f.Kind == 1) = true := by rw [all_range, all_true fun i hi => (hf i (by omega)).2]
  have X := X7.trans X
  refine (R.ext X).oL fun b l c ST2 => goX (ContainsFunc_Tap_c ST2 (ValidRoom_tells (R.ext X))) fun h12 x12 => as_b ⟨?_, x1.trans (X.trans x12)⟩
  rw [any_not, room_ok, hE, hT, hCo, hL, hDa, hGa, Bool.and_assoc _ (fin x.Dry), hDW]; simp
end
end Go.Sx
