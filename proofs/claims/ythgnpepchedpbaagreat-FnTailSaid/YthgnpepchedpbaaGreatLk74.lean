/- Drawn rooms; rooms that are silent; rooms that are the same. -/
import Derived.Test.YthgnpepchedpbaaGreatLk72
import Derived.Test.YthgnpepchedpbaaGreatLk48
import Derived.Test.YthgnpepchedpbaaGreatLq2
import Derived.Test.YthgnpepchedpbaaGreatLk18
import Derived.Test.YthgnpepchedpbaaGreatLk5
import Derived.Test.YthgnpepchedpbaaGreatLs3
import Derived.Test.YthgnpepchedpbaaGreatK2b
set_option linter.unusedVariables false
set_option linter.unusedSimpArgs false
namespace Go.Sx
open Go.Proofs
set_option maxRecDepth 100000
set_option maxHeartbeats 1000000

section
variable {h0 h h' : Heap} {L W : List Blk} {g : Nat} {cb : Option Addr} {cc K : Nat} {xs : List Int} {n : Int}
theorem Src.join {hh : Heap} {B : List Blk} (S : Src h0 h L g cb xs.length cc K) (N : Mem h hh B) : Src h0 hh (B ++ L) g cb xs.length cc K := by
  obtain ⟨p, st, hp, M⟩ := S
  exact ⟨p, st, hp, (M.join N).cnt fun p => by simp only [cnt_app, cnt_cons, cnt_nil]; omega⟩
theorem drS {r t : Nat} {cs : Array Value} {B : List Blk} {x : GRoom} (O : rRoom.ow B cs.toList x) (hx : x.ok = true) (S : Src h0 h ((r, T_impl_Room, ⟨Z_impl_Room⟩) :: (B ++ ((t, T_impl_Room, ⟨Z_impl_Room⟩) :: L))) g cb xs.length cc K) (C : Cells h0 cb (iv .u8 xs)) (hb : Byt' xs) (hK : K ≤ 500) :
    STA 47 h ⟨r, 0, none⟩ cs fun h' => spec_l06Drawn.J5 (fun u h' => DrawnR h0 h' L u) ⟨g, 0, none⟩ ⟨t, 0, none⟩ ⟨r, 0, none⟩ h' :=
  S.sta (osz O rfl) (rRoom.oone O) rfl fun h' S => dr5 ⟨cs, B, O, S⟩ hx C hb hK
theorem RoomOk.go {P : Program} {f : FuncId} {args : Array Value} {hh : Heap} {Q : Value → Heap → Prop} (c : CALL P f args (fun u h' => RoomOk hh h' u) hh) (H : ∀ h' cs B x, rRoom.ow B cs.toList x → x.ok = true → Mem hh h' B → Q (.tuple ⟨[.agg cs, .int .i64 (0 : Int)]⟩) h') : CALL P f args Q hh :=
  c.mono fun u h' ⟨cs, B, x, e, O, hx, N⟩ => by subst e; exact H h' cs B x O hx N
theorem l06Drawn_c (S : Src h0 h L g cb xs.length cc 0) (C : Cells h0 cb (iv .u8 xs)) (hb : Byt' xs) : CALL prg f_spec_l06Drawn #[.pointer (some ⟨g, 0, none⟩)] (fun u h' => DrawnR h0 h' L u) h := by
  refine spec_l06Drawn.call (S.alc fun g1 h1 S => (pick_c S C hb (by omega)).mono ?_)
  rintro _ h2 ⟨a1, rfl, a11, a12, a13, S⟩
  refine as_i ((pick_c S C hb (by omega)).mono ?_)
  rintro _ h3 ⟨a2, rfl, a21, a22, a23, S⟩
  refine as_i ((pick_c S C hb (by omega)).mono ?_)
  rintro _ h4 ⟨a3, rfl, a31, a32, a33, S⟩
  refine as_i ((pick_c S C hb (by omega)).mono ?_)
  rintro _ h5 ⟨a4, rfl, a41, a42, a43, S⟩
  refine as_i (S.alc fun g15 h6 S => S.sta (vs := ivs [IntKind.i64.wrap (1 + a1), IntKind.i64.wrap (1 + a2), IntKind.i64.wrap (1 + a3), IntKind.i64.wrap (1 + a4)]) rfl (all_one rfl) rfl fun h7 S => (pick_c S C hb (by omega)).mono ?_)
  rintro _ h8 ⟨t, rfl, t1, t2, t3, S⟩
  refine as_i ((pick_c S C hb (by omega)).mono ?_)
  rintro _ h9 ⟨k, rfl, k1, k2, k3, S⟩
  rw [wrap64 (n := 1 + a1) (by omega) (by omega), wrap64 (n := 1 + a2) (by omega) (by omega), wrap64 (n := 1 + a3) (by omega) (by omega), wrap64 (n := 1 + a4) (by omega) (by omega), wrap64 (n := 10 + t) (by omega) (by omega)] at *
  have hr : ∀ i : Nat, i < 4 → 1 ≤ [1 + a1, 1 + a2, 1 + a3, 1 + a4][i]! ∧ [1 + a1, 1 + a2, 1 + a3, 1 + a4][i]! ≤ 8 := fun i hi => by
    rcases (show i = 0 ∨ i = 1 ∨ i = 2 ∨ i = 3 by omega) with rfl | rfl | rfl | rfl
    · show 1 ≤ 1 + a1 ∧ 1 + a1 ≤ 8; omega
    · show 1 ≤ 1 + a2 ∧ 1 + a2 ≤ 8; omega
    · show 1 ≤ 1 + a3 ∧ 1 + a3 ≤ 8; omega
    · show 1 ≤ 1 + a4 ∧ 1 + a4 ≤ 8; omega
  generalize hls : [1 + a1, 1 + a2, 1 + a3, 1 + a4] = ls at *
  have hl : ls.length = 4 := by rw [← hls]; rfl
  refine as_i (fD (fw_nearest .f32 k) (fw_c32 (by decide) (by decide)) fun yk hk => S.mem.lda0 .here (by unfold ivs; simp [hl]) ?_)
  have hk : FW .f32 yk (keepW k) := hk
  have M9 := S.mem
  have new : ∀ {hh : Heap} {w z : Nat}, FW .f32 w z → fin z = true → CALL prg f_spec_NewRoom #[.agg (ivs ls), .float .f32 (tailW (10 + t)), .float .f32 yk, .float .f32 w] (fun u h' => RoomOk hh h' u) hh := fun hw hz =>
    spec_NewRoom_c hl hr (by omega) (by omega) hk (keep_place k1 (by omega)) hw hz
  refine ⟨?_, S.alc fun g47 h48 S => M9.pin2 .here S.mem (.there .here) ((l01Plain_c S C hb (by omega)).mono ?_)⟩
  · refine (l01Plain_c S C hb (by omega)).mono ?_
    rintro _ h27 ⟨y, u, rfl, u1, u2, hy, S⟩
    refine as_f (M9.pin2 .here S.mem .here ⟨RoomOk.go (new hy (plain_fin u1 u2)) fun h30 c33 B33 x33 O hx N => tup2 (as_a (as_i ((S.join N).alc fun g35 h36 S => M9.pin2 .here S.mem (.there (Look.skip .here)) (drS O hx (S.cnt fun p => by simp only [cnt_app, cnt_cons, cnt_nil]; omega) C hb (by omega))))), S.alc fun g38 h39 S => M9.pin2 .here S.mem (.there .here) ?_⟩)
    exact RoomOk.go (new hy (plain_fin u1 u2)) fun h41 c44 B44 x44 O hx N => tup2 (as_a (as_i (drS O hx ((S.join N).cnt fun p => by simp only [cnt_app, cnt_cons, cnt_nil]; omega) C hb (by omega))))
  · rintro _ h50 ⟨y, u, rfl, u1, u2, hy, S⟩
    exact as_f (M9.pin2 .here S.mem (.there .here) (RoomOk.go (new hy (plain_fin u1 u2)) fun h53 c56 B56 x56 O hx N => tup2 (as_a (as_i (drS O hx ((S.join N).cnt fun p => by simp only [cnt_app, cnt_cons, cnt_nil]; omega) C hb (by omega))))))
theorem P6Room_c (M : Mem h0 h L) (C : Cells h0 cb (iv .u8 xs)) (hb : Byt' xs) : CALL prg f_spec_P6Room #[.slice cb xs.length cc] (fun u h' => DrawnR h0 h' L u) h := by
  refine spec_P6Room.call (M.alc fun g1 h1 x1 M => (l00From_c M).mono ?_)
  rintro _ h2 ⟨g, rfl, S⟩
  refine as_p ((l06Drawn_c S C hb).mono ?_)
  rintro _ h3 ⟨cs, B, x, rfl, O, hx, M⟩
  have M := M.cnt (W := (g1, T_impl_Room, ⟨Z_impl_Room⟩) :: (B ++ L)) (fun p => by simp only [cnt_app, cnt_cons, cnt_nil] at *; omega)
  exact as_a (M.sta0 .here (osz O rfl) (rRoom.oone O) rfl .here fun h4 M => M.lda0 .here (osz O rfl) ⟨cs, B, x, rfl, O, hx, M.drop⟩)
end
section
variable {h : Heap} {q : Addr} {x : GRoom}
theorem IsSilentRoom_c {cs : Array Value} (R0 : rRoom.rd h cs.toList x) (hx : x.ok = true) : CALL prg f_impl_IsSilentRoom #[.agg cs] (fun u h' => u = .tuple ⟨[.bool x.zero, .int .i64 (0 : Int)]⟩ ∧ Ext h h') h := by
  have Rn := room_runs R0 hx
  refine impl_IsSilentRoom.call ((Mem.start h).alc fun g1 h1 x1 M => M.lda0 .here (rsz R0 rfl) (goM M (ValidRoom_c (rRoom.ext M.ext R0)) fun h2 M => as_b (brN (fun e => by rw [hx] at e; cases e) fun _ => (rings_c _ _).mono ?_)))
  rintro _ h3 ⟨b, c, B, rfl, O, N⟩
  have M := M.join N
  have R : RdP rRoom h3 ⟨g1, 0, none⟩ x := M.rdp (Look.skip .here) (rRoom.ext M.ext R0)
  have pr : PR h3 (ringPs ⟨g1, 0, none⟩) ((List.range 7).map (getR x)) := ⟨by rfl, fun i hi => by
    have hi : i < 7 := hi
    have e : ((List.range 7).map (getR x))[i]! = getR x i := by rw [getElem!_pos _ i (by simpa using hi), List.getElem_map, List.getElem_range]
    rw [e, ringPs_get _ hi]
    exact ⟨R.foc (foc_ring i hi), getR_ok Rn hi⟩⟩
  refine as_l (goX (areQuiet_c (O.look M (List.sublist_append_left _ _)) pr) fun h4 x4 => as_b ?_)
  have X4 := M.ext.trans x4
  have e : (((List.range 7).map (getR x)).all GRing.zero) = x.zeroR := by rw [zeroR_eq Rn.c2 Rn.l4, List.all_map]; rfl
  rw [e]
  refine br (fun hz => goX (Room_isStill_c (R.ext x4)) fun h5 x5 => as_b ⟨?_, X4.trans x5⟩) fun hz => ⟨?_, X4⟩
  · rw [zero_eq, hz, Bool.true_and]
  · rw [zero_eq, hz, Bool.false_and]
end
end Go.Sx
/- Rooms that are the same. -/
set_option linter.unusedVariables false
set_option linter.unusedSimpArgs false
namespace Go.Sx
open Go.Proofs
set_option maxRecDepth 100000
set_option maxHeartbeats 1000000

section
variable {h : Heap}
theorem one_ring {cs : Array Value} {r : GRing} {T : Nat} {F : Nat → Heap → Prop} (R : rRing.rd h cs.toList r) (H : ∀ g h', Ext h h' → SlR rRing h' (some ⟨g, 0, none⟩) 1 1 [r] → F g h') : ALC ⟨splice 0 2 cs [.slice none 0 0, .int .i64 (0 : Int)]⟩ T F h := by
  have z0 : (rArr 1 rRing).rd h [.slice none 0 0, .int .i64 (0 : Int)] [z_Ring] := ⟨rfl, [_, _], _, rfl, zr_rd h, rfl⟩
  have z1 := rd_splice (put := fun l b => l.set 0 b) (get := fun l => l[0]!) z0 (fun R => arr_put (i := 0) (by decide) R) R
  exact rArr_slr (xs := [r]) z1 (by decide) H
theorem sameR {b1 b2 : Option Addr} {l1 c1 l2 c2 : Nat} {xs : List GRing} {h0 : Heap} {K : Value → Heap → Prop} (x : Ext h0 h) (S1 : SlR rRing h b1 l1 c1 xs) (S2 : SlR rRing h b2 l2 c2 xs) (H : ∀ h', Ext h0 h' → K (.bool true) h') : CALL prg f_spec_l04SameRings #[.slice b1 l1 c1, .slice b2 l2 c2] K h :=
  goE x (l04SameRings_c S1 S2) fun h' x' => by rw [same_iff.2 rfl]; exact H h' x'
theorem sameW {y z a : Nat} {h0 : Heap} {K : Value → Heap → Prop} (x : Ext h0 h) (hy : FW .f32 y a) (hz : FW .f32 z a) (H : ∀ h', Ext h0 h' → K (.bool true) h') : CALL prg f_spec_l01Same #[.float .f32 y, .float .f32 z] K h :=
  goE x (l01Same_c hy hz _) fun h' x' => by rw [beq_self_eq_true]; exact H h' x'
theorem l06SameComb_c {a b : Addr} {c : GComb} (A : RdP rComb h a c) (B : RdP rComb h b c) : CALL prg f_spec_l06SameComb #[.pointer (some a), .pointer (some b)] (fun u h' => u = .bool true ∧ Ext h h') h := by
  have A1 := A.fst foc_Comb_Ring
  have B1 := B.fst foc_Comb_Ring
  refine spec_l06SameComb.call (A1.lda1 rfl fun ca Ra => B1.lda1 rfl fun cb Rb => ⟨?_, ?_⟩)
  · refine siz (rsz Ra rfl) (one_ring Ra fun g3 h4 x4 S3 => B1.pin rfl x4 (siz (rsz Rb rfl) (one_ring (rRing.ext x4 Rb) fun g5 h6 x6 S5 => A1.pin rfl (x4.trans x6) ?_)))
    refine sameR (x4.trans x6) (S3.ext x6) S5 fun h8 x8 => as_b (br_t rfl ((A.ext x8).oF fun y hy => (B.ext x8).oF fun z hz => sameW x8 hy hz fun h9 x9 => as_b ⟨rfl, x9⟩))
  · refine siz (rsz Rb rfl) (one_ring Rb fun g3 h4 x4 S3 => A1.pin rfl x4 (siz (rsz Ra rfl) (one_ring (rRing.ext x4 Ra) fun g5 h6 x6 S5 => B1.pin rfl (x4.trans x6) ?_)))
    refine sameR (x4.trans x6) S5 (S3.ext x6) fun h8 x8 => as_b (br_t rfl ((A.ext x8).oF fun y hy => (B.ext x8).oF fun z hz => sameW x8 hy hz fun h9 x9 => as_b ⟨rfl, x9⟩))
theorem same3 {a b : Addr} {x : GRoom} {hh : Heap} (X : Ext h hh) (A : RdP rRoom h a x) (B : RdP rRoom h b x) : spec_l06Same.J3 (fun u h' => u = .bool true ∧ Ext h h') a b hh := by
  have hD : x.Damps.length = 4 := (A.foc foc_Room_Damps).len
  have hm := maxLen_lt
  unfold spec_l06Same.J3
  refine loop (fun v h1 => ∃ n : Nat, v = (a, b, (n : Int)) ∧ n ≤ x.Taps.length ∧ Ext h h1) (fun v => ((x.Taps.length : Int) - v.2.2).toNat) ⟨0, rfl, by omega, X⟩ ?_
  rintro v h1 ⟨n, rfl, hn, X⟩
  have A1 := A.ext X
  have B1 := B.ext X
  refine A1.oL fun b4 l4 c4 S4 => ?_
  have e4 := S4.len
  have s1 := S4.2.1
  have s2 := S4.2.2.1
  refine brd (fun hc => A1.oL fun b5 l5 c5 S5 => ?_) fun hc => ?_
  · have e5 := S5.len
    refine S5.idx (by decide) (by omega) (by omega) fun p Rp => Rp.oI1 (B1.oL fun b6 l6 c6 S6 => ?_)
    have e6 := S6.len
    refine S6.idx (by decide) (by omega) (by omega) fun p' Rp' => Rp'.oI1 (br_f (by simp) (A1.oL fun b7 l7 c7 S7 => ?_))
    have e7 := S7.len
    refine S7.idx (by decide) (by omega) (by omega) fun p Rp => Rp.oF fun y hy => B1.oL fun b8 l8 c8 S8 => ?_
    have e8 := S8.len
    refine S8.idx (by decide) (by omega) (by omega) fun p Rp => Rp.oF fun z hz => sameW X hy hz fun h9 x9 => as_b (br_f rfl ⟨⟨n + 1, by rw [wrap64_succ (by omega)], by omega, x9⟩, by rw [wrap64_succ (by omega)]; show _ < _; simp; omega⟩)
  refine loop (fun v h1 => ∃ n : Nat, v = (a, b, (n : Int)) ∧ n ≤ 4 ∧ Ext h h1) (fun v => (4 - v.2.2).toNat) ⟨0, rfl, by omega, X⟩ ?_
  rintro v h1 ⟨n, rfl, hn, X⟩
  have A1 := A.ext X
  have B1 := B.ext X
  refine brd (fun hc => idx (by omega) (by omega) (idx (by omega) (by omega) ?_)) fun hc => ?_
  · rw [Int.toNat_natCast]
    refine goE X (l02Same_c ((A1.foc foc_Room_Damps).elem (i := n) (by omega)) ((B1.foc foc_Room_Damps).elem (i := n) (by omega))) fun h2 X => as_b ?_
    rw [same_iff.2 rfl]
    refine br_f rfl (idx (by omega) (by omega) (((A.ext X).foc foc_Room_Gains).elem (i := n) (by omega) |>.oF1 fun y hy => idx (by omega) (by omega) (((B.ext X).foc foc_Room_Gains).elem (i := n) (by omega) |>.oF1 fun z hz => ?_)))
    exact sameW X hy hz fun h9 x9 => as_b (br_f rfl ⟨⟨n + 1, by rw [wrap64_succ (by omega)], by omega, x9⟩, by rw [wrap64_succ (by omega)]; show _ < _; simp; omega⟩)
  refine A1.oF fun y hy => B1.oF fun z hz => sameW X hy hz fun h9 X => as_b (br_t rfl ((A.ext X).oF fun y hy => (B.ext X).oF fun z hz => sameW X hy hz fun h9 X => as_b ⟨rfl, X⟩))
theorem l06Same_c {a b : Addr} {x : GRoom} (A : RdP rRoom h a x) (B : RdP rRoom h b x) : CALL prg f_spec_l06Same #[.pointer (some a), .pointer (some b)] (fun u h' => u = .bool true ∧ Ext h h') h := by
  have A1 := A.fst foc_Room_Early
  have B1 := B.fst foc_Room_Early
  have comb : ∀ {hh : Heap}, Ext h hh → RdP rComb hh (a.add 3) x.Combs[0]! ∧ RdP rComb hh (b.add 3) x.Combs[0]! ∧ RdP rComb hh (a.add 6) x.Combs[1]! ∧ RdP rComb hh (b.add 6) x.Combs[1]! := fun X => by
    have a0 := (((A.ext X).foc foc_Room_Combs).elem (i := 0) (by decide))
    have a1 := (((A.ext X).foc foc_Room_Combs).elem (i := 1) (by decide))
    have b0 := (((B.ext X).foc foc_Room_Combs).elem (i := 0) (by decide))
    have b1 := (((B.ext X).foc foc_Room_Combs).elem (i := 1) (by decide))
    simp only [add_add', sz_Comb, Nat.reduceMul, Nat.reduceAdd] at a0 a1 b0 b1
    exact ⟨a0, b0, a1, b1⟩
  have rest : ∀ {hh : Heap}, Ext h hh → ∀ {q1 q2 : Option Addr}, True → True := fun _ _ => id
  refine spec_l06Same.call (A1.lda1 rfl fun ca Ra => B1.lda1 rfl fun cb Rb => ⟨?_, ?_⟩)
  · refine siz (rsz Ra rfl) (one_ring Ra fun g3 h4 x4 S3 => B1.pin rfl x4 (siz (rsz Rb rfl) (one_ring (rRing.ext x4 Rb) fun g5 h6 x6 S5 => A1.pin rfl (x4.trans x6) ?_)))
    refine sameR (x4.trans x6) (S3.ext x6) S5 fun h8 X => as_b (br_f rfl ?_)
    refine (A.ext X).oL fun b1 l1 c1 S1 => (B.ext X).oL fun b2 l2 c2 S2 => br_f (by rw [← S1.len, ← S2.len]; simp) ?_
    obtain ⟨k1, k2, k3, k4⟩ := comb X
    refine idx (by omega) (by omega) (idx (by omega) (by omega) (goE X (l06SameComb_c k1 k2) fun h9 X => as_b (br_f rfl ?_)))
    obtain ⟨k1, k2, k3, k4⟩ := comb X
    refine idx (by omega) (by omega) (idx (by omega) (by omega) (goE X (l06SameComb_c k3 k4) fun h9 X => as_b (br_f rfl ((l06Loops_c (A.ext X)).mono ?_))))
    rintro _ h10 ⟨⟨b3, l3, c3, rfl, L1⟩, x10⟩
    refine as_l ((l06Loops_c (B.ext (X.trans x10))).mono ?_)
    rintro _ h11 ⟨⟨b4, l4, c4, rfl, L2⟩, x11⟩
    exact as_l (sameR ((X.trans x10).trans x11) (L1.ext x11) L2 fun h12 X => as_b (br_f rfl (same3 X A B)))
  · refine siz (rsz Rb rfl) (one_ring Rb fun g3 h4 x4 S3 => A1.pin rfl x4 (siz (rsz Ra rfl) (one_ring (rRing.ext x4 Ra) fun g5 h6 x6 S5 => B1.pin rfl (x4.trans x6) ?_)))
    refine sameR (x4.trans x6) S5 (S3.ext x6) fun h8 X => as_b (br_f rfl ?_)
    refine (A.ext X).oL fun b1 l1 c1 S1 => (B.ext X).oL fun b2 l2 c2 S2 => br_f (by rw [← S1.len, ← S2.len]; simp) ?_
    obtain ⟨k1, k2, k3, k4⟩ := comb X
    refine idx (by omega) (by omega) (idx (by omega) (by omega) (goE X (l06SameComb_c k1 k2) fun h9 X => as_b (br_f rfl ?_)))
    obtain ⟨k1, k2, k3, k4⟩ := comb X
    refine idx (by omega) (by omega) (idx (by omega) (by omega) (goE X (l06SameComb_c k3 k4) fun h9 X => as_b (br_f rfl ((l06Loops_c (A.ext X)).mono ?_))))
    rintro _ h10 ⟨⟨b3, l3, c3, rfl, L1⟩, x10⟩
    refine as_l ((l06Loops_c (B.ext (X.trans x10))).mono ?_)
    rintro _ h11 ⟨⟨b4, l4, c4, rfl, L2⟩, x11⟩
    exact as_l (sameR ((X.trans x10).trans x11) (L1.ext x11) L2 fun h12 X => as_b (br_f rfl (same3 X A B)))
theorem SameRoom_c {ca cb : Array Value} {x : GRoom} (Ra : rRoom.rd h ca.toList x) (Rb : rRoom.rd h cb.toList x) : CALL prg f_spec_SameRoom #[.agg ca, .agg cb] (fun u h' => u = .bool true ∧ Ext h h') h :=
  spec_SameRoom.call (alcR Ra fun g1 h1 x1 A => alcR (rRoom.ext x1 Rb) fun g3 h3 x3 B => goE (x1.trans x3) (l06Same_c (A.ext x3) B) fun h4 x4 => as_b ⟨rfl, x4⟩)
end
end Go.Sx
