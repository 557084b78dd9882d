/- Jets told and read. -/
import Derived.Test.YtkgmfiloghhibaaGreatDoorTL
import Derived.Test.YtkgmfiloghhibaaGreatDoorLk76
import Derived.Test.YtkgmfiloghhibaaGreatDoorTab
import Derived.Test.YtkgmfiloghhibaaGreatDoorLk21
import Derived.Test.YtkgmfiloghhibaaGreatDoorLfk
import Derived.Test.YtkgmfiloghhibaaGreatDoorLr3
import Derived.Test.YtkgmfiloghhibaaGreatDoorMuteRoom
import Derived.Test.YtkgmfiloghhibaaGreatDoorLvp
import Derived.Test.YtkgmfiloghhibaaGreatDoorLk72
import Derived.Test.YtkgmfiloghhibaaGreatDoorK10
import Derived.Test.YtkgmfiloghhibaaGreatDoorLk8
import Derived.Test.YtkgmfiloghhibaaGreatDoorLk5
import Derived.Test.YtkgmfiloghhibaaGreatDoorLs3
import Derived.Test.YtkgmfiloghhibaaGreatDoorK2b
set_option linter.unusedVariables false
set_option linter.unusedSimpArgs false
namespace Go.Sx
open Go.Proofs
set_option maxRecDepth 100000
set_option maxHeartbeats 2000000

section
variable {h0 h : Heap} {L : List Blk}
/-- Two floats in a new block. -/
theorem two_slr {g y z a b : Nat} {h0 h : Heap} {L : List Blk} (M : Mem h0 h L) (l : Look L g ⟨[.float .f32 y, .float .f32 z]⟩) (hy : FW .f32 y a) (hz : FW .f32 z b) : SlR (rF .f32) h (some ⟨g, 0, none⟩) 2 2 [a, b] :=
  ⟨rfl, Nat.le_refl _, by decide, [.float .f32 y, .float .f32 z], fun i hi => ⟨_, rfl, by rw [add_none, M.cell l, Nat.zero_add, List.getElem?_toArray]⟩, [.float .f32 y], _, rfl, ⟨y, rfl, hy⟩, [.float .f32 z], [], rfl, ⟨z, rfl, hz⟩, rfl⟩
theorem cells_drop {a : Addr} {ws : List Value} (C : Cells h (some a) ws) (n : Nat) : Cells h (some (a.add n)) (ws.drop n) := fun i hi => by
  rw [List.length_drop] at hi
  obtain ⟨_, e, e2⟩ := C (n + i) (by omega)
  cases e
  exact ⟨_, rfl, by rw [add_add', e2, List.getElem?_drop]⟩
theorem pin_cells {a : Addr} {ws : List Value} {h' : Heap} {p : Prop} {n : Nat} (C : Cells h (some a) ws) (hn : n ≤ ws.length) (X : Ext h h') (H : p) : PIN h a n h' p := pin X (fun j hj => ⟨ws[j], C.get (List.getElem?_eq_getElem (by omega))⟩) H
theorem two_cells {b : Option Addr} {l c a1 a2 : Nat} (S : SlR (rF .f32) h b l c [a1, a2]) : ∃ a y z, b = some a ∧ Cells h (some a) [.float .f32 y, .float .f32 z] ∧ FW .f32 y a1 ∧ FW .f32 z a2 := by
  obtain ⟨_, _, _, ws, C, w1, r1, e1, ⟨y0, rfl, f0⟩, w2, r2, e2, ⟨y1, rfl, f1⟩, e3⟩ := S
  have e3 : r2 = [] := e3
  subst e3 e2 e1
  obtain ⟨a, rfl⟩ := C.base (by simp)
  exact ⟨a, y0, y1, rfl, C, f0, f1⟩
end
end Go.Sx
/- What is told of rooms, line by line. -/
set_option linter.unusedVariables false
set_option linter.unusedSimpArgs false
namespace Go.Sx
open Go.Proofs Go.RowKit
set_option maxRecDepth 100000
set_option maxHeartbeats 1000000

def roomW : List UInt8 := [114, 111, 111, 109]
def tapW : List UInt8 := [116, 97, 112]
def combW : List UInt8 := [99, 111, 109, 98]
def loopW : List UInt8 := [108, 111, 111, 112]
def GTap.line (t : GTap) : List UInt8 := wordsL [tapW, Lib.decDigits t.Back.toNat, bitL t.Gain]
def GComb.lines (c : GComb) : List (List UInt8) := [headL combW [c.Gain], c.Ring.line]
def GRoom.loopLines (x : GRoom) (i : Nat) : List (List UInt8) := [headL loopW [x.Gains[i]!], x.Damps[i]!.line, x.Loops[i]!.line]
def GRoom.lines (x : GRoom) : List (List UInt8) :=
  headL roomW [x.Dry, x.Wet] :: (x.Taps.map GTap.line ++ x.Early.line :: ((x.Combs.map GComb.lines).flatten ++ ((List.range 4).map x.loopLines).flatten))
structure TapB (t : GTap) : Prop where
  b0 : 1 ≤ t.Back
  b1 : t.Back ≤ 1024
  g : t.Gain < 4294967296
structure RoomB (x : GRoom) : Prop where
  e : RingB x.Early
  t : ∀ t ∈ x.Taps, TapB t
  t6 : x.Taps.length ≤ 6
  c2 : x.Combs.length = 2
  c : ∀ c ∈ x.Combs, RingB c.Ring ∧ c.Gain < 4294967296
  l4 : x.Loops.length = 4
  l : ∀ i, i < 4 → RingB x.Loops[i]!
  d : ∀ i, i < 4 → FiltB x.Damps[i]!
  g : ∀ i, i < 4 → x.Gains[i]! < 4294967296
  b : B32 [x.Dry, x.Wet]
theorem b32_one {n : Nat} (h : n < 4294967296) : B32 [n] := fun k hk => by
  rw [List.mem_singleton] at hk
  rw [hk]; exact h
theorem TapB.words {t : GTap} (h : TapB t) : ∀ w ∈ [tapW, Lib.decDigits t.Back.toNat, bitL t.Gain], Word w := by
  intro w hw
  simp only [List.mem_cons, List.not_mem_nil, or_false] at hw
  rcases hw with rfl | rfl | rfl
  · intro b hb
    have : ∀ b ∈ tapW, b ≠ 32 ∧ b ≠ 10 := by decide
    exact this b hb
  · exact word_dec _
  · exact word_bits h.g
theorem TapB.size {t : GTap} (h : TapB t) : t.line.length ≤ 33 := by
  refine words_size (k := 10) fun w hw => ?_
  simp only [List.mem_cons, List.not_mem_nil, or_false] at hw
  rcases hw with rfl | rfl | rfl
  · decide
  · exact dec_le (k := 9) (by have := h.b1; omega)
  · rw [bitL_len h.g]; decide
/-- What is true of each line. -/
theorem RoomB.all {x : GRoom} (h : RoomB x) : ∀ l ∈ x.lines, (∀ b ∈ l, b ≠ 10) ∧ l.length ≤ 9300 := by
  intro l hl
  unfold GRoom.lines at hl
  rcases List.mem_cons.1 hl with rfl | hl
  · exact ⟨head_mem (by decide) h.b, Nat.le_trans (head_size h.b) (show 4 + 1 + 9 * 2 ≤ 9300 by decide)⟩
  rcases List.mem_append.1 hl with hl | hl
  · obtain ⟨t, ht, rfl⟩ := List.mem_map.1 hl
    exact ⟨words_mem (h.t t ht).words, Nat.le_trans (h.t t ht).size (by decide)⟩
  rcases List.mem_cons.1 hl with rfl | hl
  · exact ⟨h.e.mem, h.e.size⟩
  rcases List.mem_append.1 hl with hl | hl
  · obtain ⟨m, hm, hl⟩ := List.mem_flatten.1 hl
    obtain ⟨c, hc, rfl⟩ := List.mem_map.1 hm
    obtain ⟨h1, h2⟩ := h.c c hc
    simp only [GComb.lines, List.mem_cons, List.not_mem_nil, or_false] at hl
    rcases hl with rfl | rfl
    · exact ⟨head_mem (by decide) (b32_one h2), Nat.le_trans (head_size (b32_one h2)) (show 4 + 1 + 9 * 1 ≤ 9300 by decide)⟩
    · exact ⟨h1.mem, h1.size⟩
  · obtain ⟨m, hm, hl⟩ := List.mem_flatten.1 hl
    obtain ⟨i, hi, rfl⟩ := List.mem_map.1 hm
    have hi := List.mem_range.1 hi
    have h2 := h.g i hi
    simp only [GRoom.loopLines, List.mem_cons, List.not_mem_nil, or_false] at hl
    rcases hl with rfl | rfl | rfl
    · exact ⟨head_mem (by decide) (b32_one h2), Nat.le_trans (head_size (b32_one h2)) (show 4 + 1 + 9 * 1 ≤ 9300 by decide)⟩
    · exact ⟨(h.d i hi).mem, Nat.le_trans (h.d i hi).size (by decide)⟩
    · exact ⟨(h.l i hi).mem, (h.l i hi).size⟩
theorem RoomB.cut {x : GRoom} (h : RoomB x) : cutL 10 (linL x.lines) = x.lines ++ [[]] := lin_cut fun l hl => (h.all l hl).1
theorem RoomB.len {x : GRoom} (h : RoomB x) : x.lines.length = x.Taps.length + 18 := by
  have hc : ((x.Combs.map GComb.lines).flatten).length = 4 := by
    have c2 := h.c2
    match x.Combs, c2 with
    | [a, b], _ => rfl
  unfold GRoom.lines
  simp only [List.length_cons, List.length_append, List.length_map, hc]
  rfl
theorem RoomB.size {x : GRoom} (h : RoomB x) : (linL x.lines).length ≤ 230000 := by
  have e := h.len
  have t6 := h.t6
  exact Nat.le_trans (lin_size (k := 9300) fun l hl => (h.all l hl).2) (by rw [e]; omega)
end Go.Sx
/- What functions of this seat's program compute, told in words (a predicate over heaps for each), and the proofs that the words are no more than the code's own weakest precondition. -/
namespace Go.Sx
open Go.Proofs
set_option linter.unusedVariables false
set_option maxRecDepth 100000

def spec_P6Plains.B4 (Post : Value → Heap → Prop) (N4 : (Int × Addr × Option Addr × Nat × Nat × Int) → Heap → Prop) : Int × Addr × Option Addr × Nat × Nat × Int → Heap → Prop
  | (count_1, s_5, out_6b, out_6l, out_6c, i_7), h =>
    BIF (decide (i_7 < count_1)) (
    CALL prg f_spec_l01Plain #[.pointer (some s_5)] (fun q6 h7 =>
    asF .f32 q6 fun r8 =>
    ALC ⟨[.float .f32 r8]⟩ T_float32 (fun g9 h10 =>
    SEMV prg (Builtin.append_ #[T_sl_float32, T_sl_float32] T_sl_float32 #[.slice out_6b out_6l out_6c, .slice (some ⟨g9, 0, none⟩) 1 1]) (fun q11 h12 =>
    asL q11 fun l13b l13l l13c =>
    N4 (count_1, s_5, l13b, l13l, l13c, ((IntKind.i64.wrap (i_7 + (1 : Int))))) h12) h10) h7) h) (
    Post (.slice out_6b out_6l out_6c) h)
def spec_P6Plains.g4 (fr : Frame) : Int × Addr × Option Addr × Nat × Nat × Int := ((gI (lget fr 1)), (gP (lget fr 5)), (gLb (lget fr 6)), (gLl (lget fr 6)), (gLc (lget fr 6)), (gI (lget fr 7)))
def spec_P6Plains.l4 (Post : Value → Heap → Prop) : Frame → Heap → Prop := fun fr h => GRD (shape (kds 22 [(1, .i .i64), (5, .p), (6, .l), (7, .i .i64)]) fr) (LOOP (spec_P6Plains.B4 Post) (spec_P6Plains.g4 fr) h)
def spec_P6Plains.S (code_0b : Option Addr) (code_0l code_0c : Nat) (count_1 : Int) (Post : Value → Heap → Prop) (h : Heap) : Prop :=
    CALL prg f_spec_l00From #[.slice code_0b code_0l code_0c] (fun q1 h2 =>
    asP q1 fun p3 =>
    ALC ⟨[]⟩ T_float32 (fun g4 h5 =>
    LOOP (spec_P6Plains.B4 Post) (count_1, p3, (some ⟨g4, 0, none⟩), 0, 0, (0 : Int)) h5) h2) h
noncomputable def spec_P6Plains.code : Code := (Tryz.f18.body).getD .skip
theorem spec_P6Plains.call {code_0b : Option Addr} {code_0l code_0c : Nat} {count_1 : Int} {Post : Value → Heap → Prop} {h : Heap} (H : spec_P6Plains.S code_0b code_0l code_0c count_1 Post h) : CALL prg f_spec_P6Plains #[.slice code_0b code_0l code_0c, .int .i64 count_1] Post h :=
  fn_call tau_ok mixed (c := spec_P6Plains.code) (Λ := lookL [(1000004, spec_P6Plains.l4 Post)]) Tryz.func18 (by kernel_rfl) (by kernel_rfl)
    (Rq.seq (by kernel_rfl) (Rq.free (by kernel_rfl)) (Rq.seq (by kernel_rfl) (Rq.free (by kernel_rfl)) (Rq.seq (by kernel_rfl) (Rq.free (by kernel_rfl)) (Rq.seq (by kernel_rfl) (Rq.seq (by kernel_rfl) (Rq.free (by kernel_rfl)) (Rq.block (Rq.loop (spec_P6Plains.l4 Post) (by kernel_rfl) (segL (g := spec_P6Plains.g4) tau_ok mixed (Λ := fun N4 => lookL []) (fun _ _ _ => by kernel_rfl) (fun N4 => (Rq.free (by kernel_rfl))))))) (Rq.free (by kernel_rfl))))))
    (Eq.mp (by kernel_rfl) H)

def spec_SameReals.S (a_0b : Option Addr) (a_0l a_0c : Nat) (b_1b : Option Addr) (b_1l b_1c : Nat) (Post : Value → Heap → Prop) (h : Heap) : Prop :=
    CALL prg f_spec_l02SameList #[.slice a_0b a_0l a_0c, .slice b_1b b_1l b_1c] (fun q1 h2 =>
    asB q1 fun b3 =>
    Post (.bool b3) h2) h
noncomputable def spec_SameReals.code : Code := (Tryz.f24.body).getD .skip
theorem spec_SameReals.call {a_0b : Option Addr} {a_0l a_0c : Nat} {b_1b : Option Addr} {b_1l b_1c : Nat} {Post : Value → Heap → Prop} {h : Heap} (H : spec_SameReals.S a_0b a_0l a_0c b_1b b_1l b_1c Post h) : CALL prg f_spec_SameReals #[.slice a_0b a_0l a_0c, .slice b_1b b_1l b_1c] Post h :=
  fn_call tau_ok mixed (c := spec_SameReals.code) (Λ := lookL []) Tryz.func24 (by kernel_rfl) (by kernel_rfl)
    (Rq.free (by kernel_rfl))
    (Eq.mp (by kernel_rfl) H)

end Go.Sx
/- Jets played by the rule, played as a block, muted; samples drawn. -/
set_option linter.unusedVariables false
set_option linter.unusedSimpArgs false
namespace Go.Sx
open Go.Proofs
set_option maxRecDepth 100000
set_option maxHeartbeats 2000000

section
variable {α : Type} {st : α → Nat → α × Nat} {x : α} {xs : List Nat}
def gN (st : α → Nat → α × Nat) (x : α) (xs : List Nat) (n : Nat) : α := (playG st x (xs.take n)).1
def outN (st : α → Nat → α × Nat) (x : α) (xs : List Nat) (n : Nat) : Nat := (st (gN st x xs n) xs[n]!).2
theorem gN_step {n : Nat} (hn : n < xs.length) : gN st x xs (n + 1) = (st (gN st x xs n) xs[n]!).1 := by
  unfold gN
  rw [playG_step hn]
theorem gN_all (h : xs.length = 16) : gN st x xs 16 = (playG st x xs).1 := by
  unfold gN
  rw [← h, List.take_length]
theorem playG_len' (st : α → Nat → α × Nat) : ∀ (l : List Nat) (x : α), (playG st x l).2.length = l.length
  | [], _ => rfl
  | a :: l, x => by simp only [playG, List.length_cons]; rw [playG_len' st l]
theorem playG_take (n : Nat) : (playG st x (xs.take n)).2 = (playG st x xs).2.take n := by
  by_cases h : n ≤ xs.length
  · conv => rhs; rw [← List.take_append_drop n xs, playG_append]
    rw [List.take_left' (by rw [playG_len', List.length_take]; omega)]
  · rw [List.take_of_length_le (show xs.length ≤ n by omega), List.take_of_length_le (by rw [playG_len']; omega)]
theorem outN_all (h : xs.length = 16) : mapI (outN st x xs) zeros16 16 = (playG st x xs).2 := by
  have hz : zeros16.length = 16 := rfl
  rw [mapI_all (by rw [hz]; decide), hz]
  have key : ∀ n, n ≤ 16 → (List.range n).map (outN st x xs) = (playG st x xs).2.take n := by
    intro n
    induction n with
    | zero => intro _; rfl
    | succ n ih =>
      intro hn
      rw [List.range_succ, List.map_append, ih (by omega), ← playG_take, ← playG_take, playG_step (by omega)]
      rfl
  rw [key 16 (by omega), List.take_of_length_le (by rw [playG_len']; omega)]
end
def TriBk {α : Type} (r : Rep α) (h h' : Heap) (u : Value) (x : α) (ys : List Nat) : Prop := ∃ cs B cb, u = .tuple ⟨[.agg cs, .agg cb, .int .i64 (0 : Int)]⟩ ∧ r.ow B cs.toList x ∧ FA 16 cb ys ∧ Mem h h' B
section
variable {h0 h : Heap} {L : List Blk} {g : Nat} {x : GJet} {b cb : Option Addr} {l c cc : Nat} {xs : List Nat} {cs : Array Value} {bs : List Int}
/-- Samples that are drawn. -/
theorem P6Plains_c (M : Mem h0 h L) (C : Cells h0 cb (iv .u8 bs)) (hb : Byt' bs) {k : Nat} (hk : k ≤ 1000) :
    CALL prg f_spec_P6Plains #[.slice cb bs.length cc, .int .i64 (k : Int)] (fun u h' => ∃ b c B ys, u = .slice b k c ∧ SlO T_float32 (rF .f32) B b k c ys ∧ Mem h0 h' (B ++ L)) h := by
  have hm : (1048577 : Nat) ≤ maxLen := by decide
  refine spec_P6Plains.call ((l00From_c M).mono ?_)
  rintro _ h1 ⟨g, rfl, S⟩
  refine as_p (S.alc fun g4 h2 S => ?_)
  refine loop (fun y hh => ∃ (n : Nat) (b' : Option Addr) (c' : Nat) (B : List Blk) (ys : List Nat), y = ((k : Int), ⟨g, 0, none⟩, b', n, c', (n : Int)) ∧ n ≤ k ∧ SlO T_float32 (rF .f32) B b' n c' ys ∧ Src h0 hh (B ++ L) g cb bs.length cc (2 * n)) (fun y => (k - y.2.2.2.2.2).toNat)
    ⟨0, _, _, [(g4, T_float32, ⟨[]⟩)], [], rfl, by omega, SlO.empty g4, S⟩ ?_
  rintro y hh ⟨n, b', c', B, ys, rfl, hn, O, S⟩
  refine brd (fun hc => ?_) fun hc => ?_
  · refine (l01Plain_c S C hb (by omega)).mono ?_
    rintro _ h3 ⟨y, v, rfl, v1, v2, hy, p, st, hp, M⟩
    refine as_f (push_own (Bn := []) (L := (g, T_spec_l00Src, ⟨[.slice cb bs.length cc, .int .i64 (p : Int), .int .u64 st]⟩) :: L) (x := plainW v) E_sl_float32 O (M.cnt fun p => by simp only [cnt_app, cnt_cons, cnt_nil]; omega) ⟨rfl, _, rfl, hy⟩ (by omega) (by omega) fun b2 c2 h4 B2 O2 M2 => as_l ?_)
    exact ⟨⟨n + 1, b2, c2, B2, _, by rw [wrap64_succ (by omega)], by omega, O2, p, st, by omega, M2.cnt fun p => by simp only [cnt_app, cnt_cons, cnt_nil]; omega⟩, by rw [wrap64_succ (by omega)]; show _ < _; simp; omega⟩
  obtain rfl : n = k := by omega
  exact ⟨b', c', B, ys, rfl, O, S.mem⟩
theorem SameReals_c {b1 b2 : Option Addr} {l1 c1 l2 c2 : Nat} {xs ys : List Nat} (S1 : SlR (rF .f32) h b1 l1 c1 xs) (S2 : SlR (rF .f32) h b2 l2 c2 ys) :
    CALL prg f_spec_SameReals #[.slice b1 l1 c1, .slice b2 l2 c2] (fun u h' => u = .bool (same xs ys) ∧ Ext h h') h :=
  spec_SameReals.call (goX (l02SameList_c S1 S2) fun h1 x1 => as_b ⟨rfl, x1⟩)
end
end Go.Sx
/- Drawn rooms; rooms that are silent; rooms that are the same. -/
set_option linter.unusedVariables false
set_option linter.unusedSimpArgs false
namespace Go.Sx
open Go.Proofs
set_option maxRecDepth 100000
set_option maxHeartbeats 1000000

section
variable {h0 h h' : Heap} {L W : List Blk} {g : Nat} {cb : Option Addr} {cc K : Nat} {xs : List Int} {n : Int}
theorem Src.join {hh : Heap} {B : List Blk} (S : Src h0 h L g cb xs.length cc K) (N : Mem h hh B) : Src h0 hh (B ++ L) g cb xs.length cc K := by
  obtain ⟨p, st, hp, M⟩ := S
  exact ⟨p, st, hp, (M.join N).cnt fun p => by simp only [cnt_app, cnt_cons, cnt_nil]; omega⟩
theorem drS {r t : Nat} {cs : Array Value} {B : List Blk} {x : GRoom} (O : rRoom.ow B cs.toList x) (hx : x.ok = true) (S : Src h0 h ((r, T_impl_Room, ⟨Z_impl_Room⟩) :: (B ++ ((t, T_impl_Room, ⟨Z_impl_Room⟩) :: L))) g cb xs.length cc K) (C : Cells h0 cb (iv .u8 xs)) (hb : Byt' xs) (hK : K ≤ 500) :
    STA 47 h ⟨r, 0, none⟩ cs fun h' => spec_l06Drawn.J5 (fun u h' => DrawnR h0 h' L u) ⟨g, 0, none⟩ ⟨t, 0, none⟩ ⟨r, 0, none⟩ h' :=
  S.sta (osz O rfl) (rRoom.oone O) rfl fun h' S => dr5 ⟨cs, B, O, S⟩ hx C hb hK
theorem RoomOk.go {P : Program} {f : FuncId} {args : Array Value} {hh : Heap} {Q : Value → Heap → Prop} (c : CALL P f args (fun u h' => RoomOk hh h' u) hh) (H : ∀ h' cs B x, rRoom.ow B cs.toList x → x.ok = true → Mem hh h' B → Q (.tuple ⟨[.agg cs, .int .i64 (0 : Int)]⟩) h') : CALL P f args Q hh :=
  c.mono fun u h' ⟨cs, B, x, e, O, hx, N⟩ => by subst e; exact H h' cs B x O hx N
theorem l06Drawn_c (S : Src h0 h L g cb xs.length cc 0) (C : Cells h0 cb (iv .u8 xs)) (hb : Byt' xs) : CALL prg f_spec_l06Drawn #[.pointer (some ⟨g, 0, none⟩)] (fun u h' => DrawnR h0 h' L u) h := by
  refine spec_l06Drawn.call (S.alc fun g1 h1 S => (pick_c S C hb (by omega)).mono ?_)
  rintro _ h2 ⟨a1, rfl, a11, a12, a13, S⟩
  refine as_i ((pick_c S C hb (by omega)).mono ?_)
  rintro _ h3 ⟨a2, rfl, a21, a22, a23, S⟩
  refine as_i ((pick_c S C hb (by omega)).mono ?_)
  rintro _ h4 ⟨a3, rfl, a31, a32, a33, S⟩
  refine as_i ((pick_c S C hb (by omega)).mono ?_)
  rintro _ h5 ⟨a4, rfl, a41, a42, a43, S⟩
  refine as_i (S.alc fun g15 h6 S => S.sta (vs := ivs [IntKind.i64.wrap (1 + a1), IntKind.i64.wrap (1 + a2), IntKind.i64.wrap (1 + a3), IntKind.i64.wrap (1 + a4)]) rfl (all_one rfl) rfl fun h7 S => (pick_c S C hb (by omega)).mono ?_)
  rintro _ h8 ⟨t, rfl, t1, t2, t3, S⟩
  refine as_i ((pick_c S C hb (by omega)).mono ?_)
  rintro _ h9 ⟨k, rfl, k1, k2, k3, S⟩
  rw [wrap64 (n := 1 + a1) (by omega) (by omega), wrap64 (n := 1 + a2) (by omega) (by omega), wrap64 (n := 1 + a3) (by omega) (by omega), wrap64 (n := 1 + a4) (by omega) (by omega), wrap64 (n := 10 + t) (by omega) (by omega)] at *
  have hr : ∀ i : Nat, i < 4 → 1 ≤ [1 + a1, 1 + a2, 1 + a3, 1 + a4][i]! ∧ [1 + a1, 1 + a2, 1 + a3, 1 + a4][i]! ≤ 8 := fun i hi => by
    rcases (show i = 0 ∨ i = 1 ∨ i = 2 ∨ i = 3 by omega) with rfl | rfl | rfl | rfl
    · show 1 ≤ 1 + a1 ∧ 1 + a1 ≤ 8; omega
    · show 1 ≤ 1 + a2 ∧ 1 + a2 ≤ 8; omega
    · show 1 ≤ 1 + a3 ∧ 1 + a3 ≤ 8; omega
    · show 1 ≤ 1 + a4 ∧ 1 + a4 ≤ 8; omega
  generalize hls : [1 + a1, 1 + a2, 1 + a3, 1 + a4] = ls at *
  have hl : ls.length = 4 := by rw [← hls]; rfl
  refine as_i (fD (fw_nearest .f32 k) (fw_c32 (by decide) (by decide)) fun yk hk => S.mem.lda0 .here (by unfold ivs; simp [hl]) ?_)
  have hk : FW .f32 yk (keepW k) := hk
  have M9 := S.mem
  have new : ∀ {hh : Heap} {w z : Nat}, FW .f32 w z → fin z = true → CALL prg f_spec_NewRoom #[.agg (ivs ls), .float .f32 (tailW (10 + t)), .float .f32 yk, .float .f32 w] (fun u h' => RoomOk hh h' u) hh := fun hw hz =>
    spec_NewRoom_c hl hr (by omega) (by omega) hk (keep_place k1 (by omega)) hw hz
  refine ⟨?_, S.alc fun g47 h48 S => M9.pin2 .here S.mem (.there .here) ((l01Plain_c S C hb (by omega)).mono ?_)⟩
  · refine (l01Plain_c S C hb (by omega)).mono ?_
    rintro _ h27 ⟨y, u, rfl, u1, u2, hy, S⟩
    refine as_f (M9.pin2 .here S.mem .here ⟨RoomOk.go (new hy (plain_fin u1 u2)) fun h30 c33 B33 x33 O hx N => tup2 (as_a (as_i ((S.join N).alc fun g35 h36 S => M9.pin2 .here S.mem (.there (Look.skip .here)) (drS O hx (S.cnt fun p => by simp only [cnt_app, cnt_cons, cnt_nil]; omega) C hb (by omega))))), S.alc fun g38 h39 S => M9.pin2 .here S.mem (.there .here) ?_⟩)
    exact RoomOk.go (new hy (plain_fin u1 u2)) fun h41 c44 B44 x44 O hx N => tup2 (as_a (as_i (drS O hx ((S.join N).cnt fun p => by simp only [cnt_app, cnt_cons, cnt_nil]; omega) C hb (by omega))))
  · rintro _ h50 ⟨y, u, rfl, u1, u2, hy, S⟩
    exact as_f (M9.pin2 .here S.mem (.there .here) (RoomOk.go (new hy (plain_fin u1 u2)) fun h53 c56 B56 x56 O hx N => tup2 (as_a (as_i (drS O hx ((S.join N).cnt fun p => by simp only [cnt_app, cnt_cons, cnt_nil]; omega) C hb (by omega))))))
theorem P6Room_c (M : Mem h0 h L) (C : Cells h0 cb (iv .u8 xs)) (hb : Byt' xs) : CALL prg f_spec_P6Room #[.slice cb xs.length cc] (fun u h' => DrawnR h0 h' L u) h := by
  refine spec_P6Room.call (M.alc fun g1 h1 x1 M => (l00From_c M).mono ?_)
  rintro _ h2 ⟨g, rfl, S⟩
  refine as_p ((l06Drawn_c S C hb).mono ?_)
  rintro _ h3 ⟨cs, B, x, rfl, O, hx, M⟩
  have M := M.cnt (W := (g1, T_impl_Room, ⟨Z_impl_Room⟩) :: (B ++ L)) (fun p => by simp only [cnt_app, cnt_cons, cnt_nil] at *; omega)
  exact as_a (M.sta0 .here (osz O rfl) (rRoom.oone O) rfl .here fun h4 M => M.lda0 .here (osz O rfl) ⟨cs, B, x, rfl, O, hx, M.drop⟩)
end
section
variable {h : Heap} {q : Addr} {x : GRoom}
theorem IsSilentRoom_c {cs : Array Value} (R0 : rRoom.rd h cs.toList x) (hx : x.ok = true) : CALL prg f_impl_IsSilentRoom #[.agg cs] (fun u h' => u = .tuple ⟨[.bool x.zero, .int .i64 (0 : Int)]⟩ ∧ Ext h h') h := by
  have Rn := room_runs R0 hx
  refine impl_IsSilentRoom.call ((Mem.start h).alc fun g1 h1 x1 M => M.lda0 .here (rsz R0 rfl) (goM M (ValidRoom_c (rRoom.ext M.ext R0)) fun h2 M => as_b (brN (fun e => by rw [hx] at e; cases e) fun _ => (rings_c _ _).mono ?_)))
  rintro _ h3 ⟨b, c, B, rfl, O, N⟩
  have M := M.join N
  have R : RdP rRoom h3 ⟨g1, 0, none⟩ x := M.rdp (Look.skip .here) (rRoom.ext M.ext R0)
  have pr : PR h3 (ringPs ⟨g1, 0, none⟩) ((List.range 7).map (getR x)) := ⟨by rfl, fun i hi => by
    have hi : i < 7 := hi
    have e : ((List.range 7).map (getR x))[i]! = getR x i := by rw [getElem!_pos _ i (by simpa using hi), List.getElem_map, List.getElem_range]
    rw [e, ringPs_get _ hi]
    exact ⟨R.foc (foc_ring i hi), getR_ok Rn hi⟩⟩
  refine as_l (goX (areQuiet_c (O.look M (List.sublist_append_left _ _)) pr) fun h4 x4 => as_b ?_)
  have X4 := M.ext.trans x4
  have e : (((List.range 7).map (getR x)).all GRing.zero) = x.zeroR := by rw [zeroR_eq Rn.c2 Rn.l4, List.all_map]; rfl
  rw [e]
  refine br (fun hz => goX (Room_isStill_c (R.ext x4)) fun h5 x5 => as_b ⟨?_, X4.trans x5⟩) fun hz => ⟨?_, X4⟩
  · rw [zero_eq, hz, Bool.true_and]
  · rw [zero_eq, hz, Bool.false_and]
end
end Go.Sx
/- Rooms that are the same. -/
set_option linter.unusedVariables false
set_option linter.unusedSimpArgs false
namespace Go.Sx
open Go.Proofs
set_option maxRecDepth 100000
set_option maxHeartbeats 1000000

section
variable {h : Heap}
theorem one_ring {cs : Array Value} {r : GRing} {T : Nat} {F : Nat → Heap → Prop} (R : rRing.rd h cs.toList r) (H : ∀ g h', Ext h h' → SlR rRing h' (some ⟨g, 0, none⟩) 1 1 [r] → F g h') : ALC ⟨splice 0 2 cs [.slice none 0 0, .int .i64 (0 : Int)]⟩ T F h := by
  have z0 : (rArr 1 rRing).rd h [.slice none 0 0, .int .i64 (0 : Int)] [z_Ring] := ⟨rfl, [_, _], _, rfl, zr_rd h, rfl⟩
  have z1 := rd_splice (put := fun l b => l.set 0 b) (get := fun l => l[0]!) z0 (fun R => arr_put (i := 0) (by decide) R) R
  exact rArr_slr (xs := [r]) z1 (by decide) H
theorem sameR {b1 b2 : Option Addr} {l1 c1 l2 c2 : Nat} {xs : List GRing} {h0 : Heap} {K : Value → Heap → Prop} (x : Ext h0 h) (S1 : SlR rRing h b1 l1 c1 xs) (S2 : SlR rRing h b2 l2 c2 xs) (H : ∀ h', Ext h0 h' → K (.bool true) h') : CALL prg f_spec_l04SameRings #[.slice b1 l1 c1, .slice b2 l2 c2] K h :=
  goE x (l04SameRings_c S1 S2) fun h' x' => by rw [same_iff.2 rfl]; exact H h' x'
theorem sameW {y z a : Nat} {h0 : Heap} {K : Value → Heap → Prop} (x : Ext h0 h) (hy : FW .f32 y a) (hz : FW .f32 z a) (H : ∀ h', Ext h0 h' → K (.bool true) h') : CALL prg f_spec_l01Same #[.float .f32 y, .float .f32 z] K h :=
  goE x (l01Same_c hy hz _) fun h' x' => by rw [beq_self_eq_true]; exact H h' x'
theorem l06SameComb_c {a b : Addr} {c : GComb} (A : RdP rComb h a c) (B : RdP rComb h b c) : CALL prg f_spec_l06SameComb #[.pointer (some a), .pointer (some b)] (fun u h' => u = .bool true ∧ Ext h h') h := by
  have A1 := A.fst foc_Comb_Ring
  have B1 := B.fst foc_Comb_Ring
  refine spec_l06SameComb.call (A1.lda1 rfl fun ca Ra => B1.lda1 rfl fun cb Rb => ⟨?_, ?_⟩)
  · refine siz (rsz Ra rfl) (one_ring Ra fun g3 h4 x4 S3 => B1.pin rfl x4 (siz (rsz Rb rfl) (one_ring (rRing.ext x4 Rb) fun g5 h6 x6 S5 => A1.pin rfl (x4.trans x6) ?_)))
    refine sameR (x4.trans x6) (S3.ext x6) S5 fun h8 x8 => as_b (br_t rfl ((A.ext x8).oF fun y hy => (B.ext x8).oF fun z hz => sameW x8 hy hz fun h9 x9 => as_b ⟨rfl, x9⟩))
  · refine siz (rsz Rb rfl) (one_ring Rb fun g3 h4 x4 S3 => A1.pin rfl x4 (siz (rsz Ra rfl) (one_ring (rRing.ext x4 Ra) fun g5 h6 x6 S5 => B1.pin rfl (x4.trans x6) ?_)))
    refine sameR (x4.trans x6) S5 (S3.ext x6) fun h8 x8 => as_b (br_t rfl ((A.ext x8).oF fun y hy => (B.ext x8).oF fun z hz => sameW x8 hy hz fun h9 x9 => as_b ⟨rfl, x9⟩))
theorem same3 {a b : Addr} {x : GRoom} {hh : Heap} (X : Ext h hh) (A : RdP rRoom h a x) (B : RdP rRoom h b x) : spec_l06Same.J3 (fun u h' => u = .bool true ∧ Ext h h') a b hh := by
  have hD : x.Damps.length = 4 := (A.foc foc_Room_Damps).len
  have hm := maxLen_lt
  unfold spec_l06Same.J3
  refine loop (fun v h1 => ∃ n : Nat, v = (a, b, (n : Int)) ∧ n ≤ x.Taps.length ∧ Ext h h1) (fun v => ((x.Taps.length : Int) - v.2.2).toNat) ⟨0, rfl, by omega, X⟩ ?_
  rintro v h1 ⟨n, rfl, hn, X⟩
  have A1 := A.ext X
  have B1 := B.ext X
  refine A1.oL fun b4 l4 c4 S4 => ?_
  have e4 := S4.len
  have s1 := S4.2.1
  have s2 := S4.2.2.1
  refine brd (fun hc => A1.oL fun b5 l5 c5 S5 => ?_) fun hc => ?_
  · have e5 := S5.len
    refine S5.idx (by decide) (by omega) (by omega) fun p Rp => Rp.oI1 (B1.oL fun b6 l6 c6 S6 => ?_)
    have e6 := S6.len
    refine S6.idx (by decide) (by omega) (by omega) fun p' Rp' => Rp'.oI1 (br_f (by simp) (A1.oL fun b7 l7 c7 S7 => ?_))
    have e7 := S7.len
    refine S7.idx (by decide) (by omega) (by omega) fun p Rp => Rp.oF fun y hy => B1.oL fun b8 l8 c8 S8 => ?_
    have e8 := S8.len
    refine S8.idx (by decide) (by omega) (by omega) fun p Rp => Rp.oF fun z hz => sameW X hy hz fun h9 x9 => as_b (br_f rfl ⟨⟨n + 1, by rw [wrap64_succ (by omega)], by omega, x9⟩, by rw [wrap64_succ (by omega)]; show _ < _; simp; omega⟩)
  refine loop (fun v h1 => ∃ n : Nat, v = (a, b, (n : Int)) ∧ n ≤ 4 ∧ Ext h h1) (fun v => (4 - v.2.2).toNat) ⟨0, rfl, by omega, X⟩ ?_
  rintro v h1 ⟨n, rfl, hn, X⟩
  have A1 := A.ext X
  have B1 := B.ext X
  refine brd (fun hc => idx (by omega) (by omega) (idx (by omega) (by omega) ?_)) fun hc => ?_
  · rw [Int.toNat_natCast]
    refine goE X (l02Same_c ((A1.foc foc_Room_Damps).elem (i := n) (by omega)) ((B1.foc foc_Room_Damps).elem (i := n) (by omega))) fun h2 X => as_b ?_
    rw [same_iff.2 rfl]
    refine br_f rfl (idx (by omega) (by omega) (((A.ext X).foc foc_Room_Gains).elem (i := n) (by omega) |>.oF1 fun y hy => idx (by omega) (by omega) (((B.ext X).foc foc_Room_Gains).elem (i := n) (by omega) |>.oF1 fun z hz => ?_)))
    exact sameW X hy hz fun h9 x9 => as_b (br_f rfl ⟨⟨n + 1, by rw [wrap64_succ (by omega)], by omega, x9⟩, by rw [wrap64_succ (by omega)]; show _ < _; simp; omega⟩)
  refine A1.oF fun y hy => B1.oF fun z hz => sameW X hy hz fun h9 X => as_b (br_t rfl ((A.ext X).oF fun y hy => (B.ext X).oF fun z hz => sameW X hy hz fun h9 X => as_b ⟨rfl, X⟩))
theorem l06Same_c {a b : Addr} {x : GRoom} (A : RdP rRoom h a x) (B : RdP rRoom h b x) : CALL prg f_spec_l06Same #[.pointer (some a), .pointer (some b)] (fun u h' => u = .bool true ∧ Ext h h') h := by
  have A1 := A.fst foc_Room_Early
  have B1 := B.fst foc_Room_Early
  have comb : ∀ {hh : Heap}, Ext h hh → RdP rComb hh (a.add 3) x.Combs[0]! ∧ RdP rComb hh (b.add 3) x.Combs[0]! ∧ RdP rComb hh (a.add 6) x.Combs[1]! ∧ RdP rComb hh (b.add 6) x.Combs[1]! := fun X => by
    have a0 := (((A.ext X).foc foc_Room_Combs).elem (i := 0) (by decide))
    have a1 := (((A.ext X).foc foc_Room_Combs).elem (i := 1) (by decide))
    have b0 := (((B.ext X).foc foc_Room_Combs).elem (i := 0) (by decide))
    have b1 := (((B.ext X).foc foc_Room_Combs).elem (i := 1) (by decide))
    simp only [add_add', sz_Comb, Nat.reduceMul, Nat.reduceAdd] at a0 a1 b0 b1
    exact ⟨a0, b0, a1, b1⟩
  have rest : ∀ {hh : Heap}, Ext h hh → ∀ {q1 q2 : Option Addr}, True → True := fun _ _ => id
  refine spec_l06Same.call (A1.lda1 rfl fun ca Ra => B1.lda1 rfl fun cb Rb => ⟨?_, ?_⟩)
  · refine siz (rsz Ra rfl) (one_ring Ra fun g3 h4 x4 S3 => B1.pin rfl x4 (siz (rsz Rb rfl) (one_ring (rRing.ext x4 Rb) fun g5 h6 x6 S5 => A1.pin rfl (x4.trans x6) ?_)))
    refine sameR (x4.trans x6) (S3.ext x6) S5 fun h8 X => as_b (br_f rfl ?_)
    refine (A.ext X).oL fun b1 l1 c1 S1 => (B.ext X).oL fun b2 l2 c2 S2 => br_f (by rw [← S1.len, ← S2.len]; simp) ?_
    obtain ⟨k1, k2, k3, k4⟩ := comb X
    refine idx (by omega) (by omega) (idx (by omega) (by omega) (goE X (l06SameComb_c k1 k2) fun h9 X => as_b (br_f rfl ?_)))
    obtain ⟨k1, k2, k3, k4⟩ := comb X
    refine idx (by omega) (by omega) (idx (by omega) (by omega) (goE X (l06SameComb_c k3 k4) fun h9 X => as_b (br_f rfl ((l06Loops_c (A.ext X)).mono ?_))))
    rintro _ h10 ⟨⟨b3, l3, c3, rfl, L1⟩, x10⟩
    refine as_l ((l06Loops_c (B.ext (X.trans x10))).mono ?_)
    rintro _ h11 ⟨⟨b4, l4, c4, rfl, L2⟩, x11⟩
    exact as_l (sameR ((X.trans x10).trans x11) (L1.ext x11) L2 fun h12 X => as_b (br_f rfl (same3 X A B)))
  · refine siz (rsz Rb rfl) (one_ring Rb fun g3 h4 x4 S3 => A1.pin rfl x4 (siz (rsz Ra rfl) (one_ring (rRing.ext x4 Ra) fun g5 h6 x6 S5 => B1.pin rfl (x4.trans x6) ?_)))
    refine sameR (x4.trans x6) S5 (S3.ext x6) fun h8 X => as_b (br_f rfl ?_)
    refine (A.ext X).oL fun b1 l1 c1 S1 => (B.ext X).oL fun b2 l2 c2 S2 => br_f (by rw [← S1.len, ← S2.len]; simp) ?_
    obtain ⟨k1, k2, k3, k4⟩ := comb X
    refine idx (by omega) (by omega) (idx (by omega) (by omega) (goE X (l06SameComb_c k1 k2) fun h9 X => as_b (br_f rfl ?_)))
    obtain ⟨k1, k2, k3, k4⟩ := comb X
    refine idx (by omega) (by omega) (idx (by omega) (by omega) (goE X (l06SameComb_c k3 k4) fun h9 X => as_b (br_f rfl ((l06Loops_c (A.ext X)).mono ?_))))
    rintro _ h10 ⟨⟨b3, l3, c3, rfl, L1⟩, x10⟩
    refine as_l ((l06Loops_c (B.ext (X.trans x10))).mono ?_)
    rintro _ h11 ⟨⟨b4, l4, c4, rfl, L2⟩, x11⟩
    exact as_l (sameR ((X.trans x10).trans x11) (L1.ext x11) L2 fun h12 X => as_b (br_f rfl (same3 X A B)))
theorem SameRoom_c {ca cb : Array Value} {x : GRoom} (Ra : rRoom.rd h ca.toList x) (Rb : rRoom.rd h cb.toList x) : CALL prg f_spec_SameRoom #[.agg ca, .agg cb] (fun u h' => u = .bool true ∧ Ext h h') h :=
  spec_SameRoom.call (alcR Ra fun g1 h1 x1 A => alcR (rRoom.ext x1 Rb) fun g3 h3 x3 B => goE (x1.trans x3) (l06Same_c (A.ext x3) B) fun h4 x4 => as_b ⟨rfl, x4⟩)
end
end Go.Sx
