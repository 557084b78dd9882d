/- Rooms read. -/
import Derived.Test.YtkgmfiloghhibaaGreatDoorLvb
import Derived.Test.YtkgmfiloghhibaaGreatDoorLk5
import Derived.Test.YtkgmfiloghhibaaGreatDoorMuteRoom
import Derived.Test.YtkgmfiloghhibaaGreatDoorLk72
set_option linter.unusedVariables false
set_option linter.unusedSimpArgs false
namespace Go.Sx
open Go.Proofs
set_option maxRecDepth 100000
set_option maxHeartbeats 2000000

theorem app_at {α : Type} [Inhabited α] {l1 l2 : List α} {n k : Nat} (hn : n = l1.length + k) (hk : k < l2.length) : (l1 ++ l2)[n]! = l2[k]! := by
  subst hn
  rw [getElem!_pos (l1 ++ l2) (l1.length + k) (by rw [List.length_append]; omega), getElem!_pos l2 k hk, List.getElem_append_right (by omega)]
  simp
section
variable {x : GRoom}
def restLs (x : GRoom) : List (List UInt8) := x.Early.line :: ((x.Combs.map GComb.lines).flatten ++ ((List.range 4).map x.loopLines).flatten) ++ [[]]
theorem lines_split (x : GRoom) : x.lines ++ [[]] = (headL roomW [x.Dry, x.Wet] :: x.Taps.map GTap.line) ++ restLs x := by
  unfold GRoom.lines restLs
  simp
theorem rest_at {k : Nat} (hk : k < (restLs x).length) {n : Nat} (hn : n = 1 + x.Taps.length + k) : (x.lines ++ [[]])[n]! = (restLs x)[k]! := by
  rw [lines_split]
  exact app_at (by rw [hn, List.length_cons, List.length_map]; omega) hk
theorem tap_at {n : Nat} (hn : n < x.Taps.length) : (x.lines ++ [[]])[1 + n]! = x.Taps[n]!.line := by
  rw [lines_split, show 1 + n = n + 1 by omega, List.cons_append, getElem!_pos (_ :: _) (n + 1) (by simp; omega), List.getElem_cons_succ, List.getElem_append_left (by simp; omega)]
  simp [hn]
theorem rest_len (c2 : x.Combs.length = 2) : (restLs x).length = 18 := by
  unfold restLs
  match hx : x.Combs, c2 with
  | [a, b], _ => rfl
theorem comb_at (c2 : x.Combs.length = 2) {i : Nat} (hi : i < 2) : (restLs x)[1 + 2 * i]! = headL combW [x.Combs[i]!.Gain] ∧ (restLs x)[1 + 2 * i + 1]! = x.Combs[i]!.Ring.line := by
  unfold restLs
  match hx : x.Combs, c2 with
  | [a, b], _ => rcases (show i = 0 ∨ i = 1 by omega) with rfl | rfl <;> exact ⟨rfl, rfl⟩
theorem loop_at (c2 : x.Combs.length = 2) {i : Nat} (hi : i < 4) : (restLs x)[5 + 3 * i]! = headL loopW [x.Gains[i]!] ∧ (restLs x)[5 + 3 * i + 1]! = x.Damps[i]!.line ∧ (restLs x)[5 + 3 * i + 2]! = x.Loops[i]!.line := by
  unfold restLs
  match hx : x.Combs, c2 with
  | [a, b], _ => rcases (show i = 0 ∨ i = 1 ∨ i = 2 ∨ i = 3 by omega) with rfl | rfl | rfl | rfl <;> exact ⟨rfl, rfl, rfl⟩
theorem head_one (w : List UInt8) (n : Nat) : headL w [n] = w ++ 32 :: bitL n := by
  unfold headL
  rw [smp_words]
  simp [words_one]
theorem tap_line (t : GTap) : t.line = (tapW ++ 32 :: Lib.decDigits t.Back.toNat) ++ 32 :: bitL t.Gain := by
  unfold GTap.line
  simp [words_cons, words_one]
end
/-- A room in a block, the lines that are left beside it. -/
def RmS (hb hh : Heap) (gl g gx g1 : Nat) (LS : List (List UInt8)) (m j : Nat) (cur : GRoom) : Prop :=
  ∃ cs B, rRoom.ow B cs.toList cur ∧ LnS hb hh ((gx, T_impl_Room, cs) :: (B ++ [(g1, T_impl_Room, ⟨Z_impl_Room⟩)])) gl g LS m j
def Lj (gl g g1 : Nat) (LS : List (List UInt8)) (m j : Nat) : List Blk := (gl, T_impl_roomLines, ⟨[.slice (some ⟨g, j, none⟩) (m - j) (m + 1 - j), .bool false]⟩) :: (g, T_string, strV LS) :: [(g1, T_impl_Room, ⟨Z_impl_Room⟩)]
section
variable {hb h : Heap} {gl g gx g1 m j : Nat} {LS : List (List UInt8)} {cur : GRoom}
theorem RmS.pt (R : RmS hb h gl g gx g1 LS m j cur) : Pt rRoom hb h ⟨gx, 0, none⟩ ⟨gx, T_impl_Room, [], []⟩ (Lj gl g g1 LS m j) cur := by
  obtain ⟨cs, B, O, S⟩ := R
  exact Pt.new O (S.cnt fun p => by unfold Lj; simp only [cnt_app, cnt_cons, cnt_nil]; omega)
theorem RmS.of (P : Pt rRoom hb h ⟨gx, 0, none⟩ ⟨gx, T_impl_Room, [], []⟩ (Lj gl g g1 LS m j) cur) : RmS hb h gl g gx g1 LS m j cur := by
  obtain ⟨cs, B, M, O⟩ := P.out
  exact ⟨cs, B, O, M.cnt fun p => by unfold Lj; simp only [cnt_app, cnt_cons, cnt_nil]; omega⟩
theorem RmS.num {n : Nat} {p : List UInt8} (R : RmS hb h gl g gx g1 LS m j cur) (hj : j < m) (hl : m < LS.length) (e : LS[j]! = p ++ 32 :: bitL n) (hp : p.length ≤ 1000) (hn : FW .f32 n n) (T : Txt hb) :
    CALL prg f_p_impl_roomLines_number #[.pointer (some ⟨gl, 0, none⟩)] (fun u h' => u = .float .f32 n ∧ RmS hb h' gl g gx g1 LS m (j + 1) cur) h := by
  obtain ⟨cs, B, O, S⟩ := R
  exact (number_c S hj hl e hp hn T).mono fun u h' ⟨e, S⟩ => ⟨e, cs, B, O, S⟩
theorem RmS.ring {r : GRing} (R : RmS hb h gl g gx g1 LS m j cur) (hj : j < m) (hl : m < LS.length) (e : LS[j]! = r.line) (A : RingA r) (T : Txt hb) :
    CALL prg f_p_impl_roomLines_ring #[.pointer (some ⟨gl, 0, none⟩)] (fun u h' => ∃ b l c B, u = .agg ⟨[.slice b l c, .int .i64 r.At]⟩ ∧ rRing.ow B [.slice b l c, .int .i64 r.At] r ∧ Pt rRoom hb h' ⟨gx, 0, none⟩ ⟨gx, T_impl_Room, [], []⟩ (B ++ Lj gl g g1 LS m (j + 1)) cur) h := by
  obtain ⟨cs, B, O, S⟩ := R
  refine (ringL_c S hj hl e A T).mono ?_
  rintro _ h' ⟨b, l, c, B', rfl, O', S⟩
  exact ⟨b, l, c, B', rfl, ow_ring O', Pt.new O (S.cnt fun p => by unfold Lj; simp only [cnt_app, cnt_cons, cnt_nil]; omega)⟩
theorem RmS.next (R : RmS hb h gl g gx g1 LS m j cur) (hj : j < m) (hl : m < LS.length) :
    CALL prg f_p_impl_roomLines_next #[.pointer (some ⟨gl, 0, none⟩)] (fun u h' => u = .string (mkB LS[j]!) ∧ RmS hb h' gl g gx g1 LS m (j + 1) cur) h := by
  obtain ⟨cs, B, O, S⟩ := R
  exact (nextL_c S hj hl).mono fun u h' ⟨e, S⟩ => ⟨e, cs, B, O, S⟩
end
theorem zroom_ow {y z a b : Nat} (hy : FW .f32 y a) (hz : FW .f32 z b) : rRoom.ow [] (Z_impl_Room.take 45 ++ [.float .f32 y, .float .f32 z]) { z_Room with Dry := a, Wet := b } := by
  have O : rRoom.ow [] Z_impl_Room z_Room := zow_Room
  obtain ⟨a1, a2, w1, t1, e1, k1, o1, a3, a4, w2, t2, e2, k2, o2, a5, a6, w3, t3, e3, k3, o3, a7, a8, w4, t4, e4, k4, o4, a9, a10, w5, t5, e5, k5, o5, a11, a12, w6, t6, e6, k6, o6, a13, a14, w7, w8, e7, k7, o7, o8⟩ := O
  have n1 := rRing.olen o1
  have n2 := (rSl T_impl_Tap rTap).olen o2
  have n3 := (rArr 2 rComb).olen o3
  have n4 := (rArr 4 rRing).olen o4
  have n5 := (rArr 4 rFilter).olen o5
  have n6 := (rArr 4 (rF .f32)).olen o6
  have m1 : rRing.sz = 2 := rfl
  have m2 : (rSl T_impl_Tap rTap).sz = 1 := rfl
  have m3 : (rArr 2 rComb).sz = 6 := rfl
  have m4 : (rArr 4 rRing).sz = 8 := rfl
  have m5 : (rArr 4 rFilter).sz = 24 := rfl
  have m6 : (rArr 4 (rF .f32)).sz = 4 := rfl
  subst e2 e3 e4 e5 e6 e7 k2 k3 k4 k5 k6 k7
  have ht : Z_impl_Room.take 45 = w1 ++ (w2 ++ (w3 ++ (w4 ++ (w5 ++ w6)))) := by
    have : Z_impl_Room = (w1 ++ (w2 ++ (w3 ++ (w4 ++ (w5 ++ w6))))) ++ (w7 ++ w8) := by rw [show Z_impl_Room = _ from k1]; simp
    rw [this]
    exact List.take_left' (by simp only [List.length_append]; omega)
  have hB := e1.symm
  simp only [List.append_eq_nil_iff] at hB
  obtain ⟨rfl, rfl, rfl, rfl, rfl, rfl, rfl, rfl⟩ := hB
  rw [ht]
  exact ⟨[], [], w1, w2 ++ (w3 ++ (w4 ++ (w5 ++ (w6 ++ ([.float .f32 y] ++ [.float .f32 z]))))), rfl, by simp, o1, [], [], w2, _, rfl, rfl, o2, [], [], w3, _, rfl, rfl, o3, [], [], w4, _, rfl, rfl, o4, [], [], w5, _, rfl, rfl, o5, [], [], w6, _, rfl, rfl, o6, [], [], [.float .f32 y], [.float .f32 z], rfl, rfl, ⟨rfl, y, rfl, hy⟩, ⟨rfl, z, rfl, hz⟩⟩
section
variable {h : Heap} {x : GRoom}
def zCs : List GComb := [z_Comb, z_Comb]
def zLs : List GRing := [z_Ring, z_Ring, z_Ring, z_Ring]
def zDs : List GFilter := [z_Filter, z_Filter, z_Filter, z_Filter]
def zGs : List Nat := [0, 0, 0, 0]
def tapsRd (x : GRoom) (n : Nat) : GRoom := { z_Room with Dry := x.Dry, Wet := x.Wet, Taps := x.Taps.take n }
def combRd (x : GRoom) (n : Nat) : GRoom := { z_Room with Dry := x.Dry, Wet := x.Wet, Taps := x.Taps, Early := x.Early, Combs := mapI (fun i => x.Combs[i]!) zCs n }
def loopRd (x : GRoom) (n : Nat) : GRoom := { x with Loops := mapI (fun i => x.Loops[i]!) zLs n, Damps := mapI (fun i => x.Damps[i]!) zDs n, Gains := mapI (fun i => x.Gains[i]!) zGs n }
theorem map_idx {α : Type} [Inhabited α] {l : List α} {n : Nat} (h : l.length = n) : (List.range n).map (fun i => l[i]!) = l := by
  apply List.ext_getElem
  · rw [List.length_map, List.length_range, h]
  · intro i h1 h2
    rw [List.getElem_map, List.getElem_range, getElem!_pos l i h2]
theorem combRd_all (c2 : x.Combs.length = 2) : combRd x 2 = loopRd x 0 := by
  unfold combRd loopRd
  rw [mapI_all (l := zCs) (by decide), show zCs.length = 2 from rfl, map_idx c2, mapI_zero, mapI_zero, mapI_zero]
  rfl
theorem loopRd_all (l4 : x.Loops.length = 4) (d4 : x.Damps.length = 4) (g4 : x.Gains.length = 4) : loopRd x 4 = x := by
  unfold loopRd
  rw [mapI_all (l := zLs) (by decide), mapI_all (l := zDs) (by decide), mapI_all (l := zGs) (by decide), show zLs.length = 4 from rfl, show zDs.length = 4 from rfl, show zGs.length = 4 from rfl, map_idx l4, map_idx d4, map_idx g4]
theorem tapsRd_all : tapsRd x x.Taps.length = { z_Room with Dry := x.Dry, Wet := x.Wet, Taps := x.Taps } := by unfold tapsRd; rw [List.take_length]
theorem ReadRoom_ok (hok : x.ok = true) (A : RoomA x) (T : Txt h) : CALL prg f_impl_ReadRoom #[.string (mkB (linL x.lines))] (fun u h' => PairR rRoom h h' u x 0) h := by
  have B := A.b'
  have sz := B.size
  have ln := B.len
  have hl6 := A.t6
  have c2 := A.c2
  have hall := B.all
  have rl := rest_len c2
  have hLS : (x.lines ++ [[]]).length = x.Taps.length + 18 + 1 := by rw [List.length_append, ln]; rfl
  refine impl_ReadRoom.call ((Mem.start h).alc fun g1 h1 x1 M => goM M Count_c fun h2 M => as_i ?_)
  rw [mkB_data, count_lin fun l hl => (hall l hl).1, ln, wrap64 (n := ((x.Taps.length + 18 : Nat) : Int) - 18) (by omega) (by omega), show ((x.Taps.length + 18 : Nat) : Int) - 18 = ((x.Taps.length : Nat) : Int) by omega]
  refine goM M (within_c _ _ _ _) fun h3 M => as_b ?_
  rw [show inR ((x.Taps.length : Nat) : Int) 0 6 = true by simp only [inR, Bool.and_eq_true, decide_eq_true_eq]; omega]
  refine br_f rfl ?_
  rw [wrap64 (n := ((x.Taps.length : Nat) : Int) + 18) (by omega) (by omega), show ((x.Taps.length : Nat) : Int) + 18 = ((x.Taps.length + 18 : Nat) : Int) by omega]
  refine linesOf_ok (T.ext M.ext) (ls := x.lines) (m := x.Taps.length + 18) ln (by omega) (fun l hl => (hall l hl).1) (by omega) M fun g h4 x4 M => tup2 (as_l (as_b (br_f rfl ?_)))
  generalize hm : x.Taps.length + 18 = m at *
  refine M.alc fun gl h5 x5 M => ?_
  have S : LnS h h5 [(g1, T_impl_Room, ⟨Z_impl_Room⟩)] gl g (x.lines ++ [[]]) m 0 := M
  refine (nextL_c S (by omega) (by omega)).mono ?_
  rintro _ h6 ⟨rfl, S⟩
  have S : LnS h h6 [(g1, T_impl_Room, ⟨Z_impl_Room⟩)] gl g (x.lines ++ [[]]) m 1 := S
  rw [show (x.lines ++ [[]])[0]! = headL roomW [x.Dry, x.Wet] from rfl]
  have hh := head_size (w := roomW) A.b.b
  have hr4 : roomW.length = 4 := rfl
  simp only [List.length_cons, List.length_nil] at hh
  unfold LnS at S
  refine as_s (Split_c (c := 32) (T.ext S.ext).lb (by rw [mk_size]; omega) S fun gw h7 x7 M => as_l ?_)
  rw [mkB_data, head_cut (by decide) A.b.b (by simp)] at M ⊢
  have el : (roomW :: [x.Dry, x.Wet].map bitL).length = 3 := rfl
  rw [el]
  refine slb (by omega) (by omega) (by omega) ?_
  have S1 := slr_drop (n := 1) (strV_slr M .here (fun y hy => by
    have hbig : (1048576 : Nat) ≤ maxLen := by decide
    simp only [List.mem_cons, List.mem_map] at hy
    rcases hy with rfl | ⟨n, hn, rfl⟩
    · omega
    · have := bitL_len (A.b n (by simpa using hn)).lt; omega) (by rw [el]; decide)) (by rw [el]; omega)
  rw [el] at S1
  have eb : ((roomW :: [x.Dry, x.Wet].map bitL).map mkB).drop 1 = bitsS [x.Dry, x.Wet] := map_bits _
  rw [eb] at S1
  refine (readSamples_ok S1 A.b (by omega) (T.ext M.ext).br).mono ?_
  rintro _ h8 ⟨bn, cn, Bn, rfl, On, N⟩
  have M := (M.join N).cnt (W := Bn ++ Lj gl g g1 (x.lines ++ [[]]) m 1) (fun p => by unfold Lj; simp only [List.append_eq, cnt_app, cnt_cons, cnt_nil]; omega)
  refine tup2 (as_l (as_b (br_f rfl (br_f rfl ?_))))
  unfold impl_ReadRoom.J12
  obtain ⟨p1, y, z, rfl, C1, hy, hz⟩ := two_cells (On.look M (List.sublist_append_left _ _))
  have C1' := cells_drop C1 1
  refine idxs (by simp) (by simp) (o_f (C1.get0 rfl) (idxs (by simp) (by simp) (o_f (C1'.get0 rfl) ?_)))
  refine M.alc fun gx h9 x9 M => pin_cells C1' (by simp) x9 (pin_cells C1 (by simp) x9 ?_)
  have OZ := zroom_ow hy hz
  refine M.sta0 (vs := ⟨Z_impl_Room.take 45 ++ [.float .f32 y, .float .f32 z]⟩) .here rfl (rRoom.oone OZ) rfl .here fun h10 M => ?_
  have R0 : RmS h h10 gl g gx g1 (x.lines ++ [[]]) m 1 (tapsRd x 0) := ⟨_, [], OZ, M.cnt fun p => by unfold Lj; simp only [cnt_app, cnt_cons, cnt_nil]; omega⟩
  refine loop (fun y hh => ∃ n : Nat, y = (mkB (linL x.lines), ⟨g1, 0, none⟩, ⟨gl, 0, none⟩, ⟨gx, 0, none⟩, ((x.Taps.length : Nat) : Int), (n : Int)) ∧ n ≤ x.Taps.length ∧ RmS h hh gl g gx g1 (x.lines ++ [[]]) m (1 + n) (tapsRd x n)) (fun y => (((x.Taps.length : Nat) : Int) - y.2.2.2.2.2).toNat) ⟨0, rfl, by omega, R0⟩ ?_
  rintro y' hh ⟨n, rfl, hn, R⟩
  refine brd (fun hc => ?_) fun hc => ?_
  · have ht := A.t _ (mem_get (l := x.Taps) (i := n) (by omega))
    have tB : TapB x.Taps[n]! := ⟨ht.1, ht.2.1, ht.2.2.lt⟩
    have tsz := tB.size
    obtain ⟨cs, B, O, S⟩ := R
    have eln : (x.lines ++ [[]])[1 + n]! = x.Taps[n]!.line := tap_at (by omega)
    unfold LnS at S
    refine S.oL .here rfl (idxs (by omega) (by omega) (S.oS (.there .here) (strV_get (by omega)) ?_))
    rw [eln]
    refine Split_c (c := 32) (T.ext S.ext).lb (by rw [mk_size]; omega) S fun gw h11 x11 M => as_l ?_
    have ecut : cutL 32 x.Taps[n]!.line = [tapW, Lib.decDigits x.Taps[n]!.Back.toNat, bitL x.Taps[n]!.Gain] := words_cut tB.words
    rw [mkB_data, ecut] at M ⊢
    refine br_f (by simp) (idxs (by simp) (by simp) ?_)
    rw [add_none]
    refine M.oS .here (j := 1) rfl (goM M (readDec_ok (m := x.Taps[n]!.Back.toNat) (T.ext M.ext) (by omega)) fun h12 M => tup2 (as_i (as_b (M.oB (.there .here) rfl (br_f rfl (M.st1 (.there .here) (show 0 + 1 < 2 by decide) (.there .here) fun h13 M => ?_))))))
    have hbk : ((x.Taps[n]!.Back.toNat : Nat) : Int) = x.Taps[n]!.Back := by omega
    rw [hbk]
    unfold impl_ReadRoom.J20
    obtain ⟨pre, md, post, B1, Bm, B2, f1, f2, f3, ⟨b, l, c, f4, OT⟩, H⟩ := foc_Room_Taps.fo O
    obtain rfl : cs = ⟨pre ++ ([.slice b l c] ++ post)⟩ := by cases cs; rw [f4] at f2; exact congrArg Array.mk f2
    subst f3
    have hlt : (tapsRd x n).Taps.length = l := OT.len
    have hln : l = n := by rw [← hlt]; show (x.Taps.take n).length = n; rw [List.length_take]; omega
    have h2c : ∀ {hh : Heap} {W : List Blk}, Mem h hh W → Look W gx (⟨pre ++ ([.slice b l c] ++ post)⟩ : Array Value) → cell hh ⟨gx, 2, none⟩ = some (.slice b l c) := fun M lk => by
      rw [M.cell lk, List.getElem?_toArray, List.getElem?_append_right (by omega), f1]; rfl
    rw [add_g]
    have S2 : LnS h h13 ((gx, T_impl_Room, ⟨pre ++ ([.slice b l c] ++ post)⟩) :: ((B1 ++ (Bm ++ B2)) ++ [(g1, T_impl_Room, ⟨Z_impl_Room⟩)])) gl g (x.lines ++ [[]]) m (1 + n) := by
      have M : Mem h h13 ((gw, T_string, strV [tapW, Lib.decDigits x.Taps[n]!.Back.toNat, bitL x.Taps[n]!.Gain]) :: (gl, T_impl_roomLines, ⟨[.slice (some ⟨g, 1 + n, none⟩) (m - (1 + n)) (m + 1 - (1 + n)), .bool false]⟩) :: (g, T_string, strV (x.lines ++ [[]])) :: (gx, T_impl_Room, ⟨pre ++ ([.slice b l c] ++ post)⟩) :: ((B1 ++ (Bm ++ B2)) ++ [(g1, T_impl_Room, ⟨Z_impl_Room⟩)])) := M
      exact M.drop
    have S2m : Mem h h13 _ := S2
    refine o_l (h2c S2m (.there (.there .here))) ((number_c S2 (by omega) (by omega) (by rw [eln, tap_line]) (by
      have := dec_le (n := x.Taps[n]!.Back.toNat) (k := 9) (by omega)
      have h3 : tapW.length = 3 := rfl
      simp only [List.length_append, List.length_cons]; omega) ht.2.2 T).mono ?_)
    rintro _ h14 ⟨rfl, S3⟩
    have S3m : Mem h h14 ((gl, T_impl_roomLines, ⟨[.slice (some ⟨g, 1 + n + 1, none⟩) (m - (1 + n + 1)) (m + 1 - (1 + n + 1)), .bool false]⟩) :: (g, T_string, strV (x.lines ++ [[]])) :: (gx, T_impl_Room, ⟨pre ++ ([.slice b l c] ++ post)⟩) :: ((B1 ++ (Bm ++ B2)) ++ [(g1, T_impl_Room, ⟨Z_impl_Room⟩)])) := S3
    have pn : ∀ {hh : Heap}, cell hh ⟨gx, 2, none⟩ = some (.slice b l c) → stabA h13 ⟨gx, 2, none⟩ 1 hh := fun {hh} e j hj => by
      obtain rfl : j = 0 := by omega
      rw [add0, h2c S2m (.there (.there .here)), e]
    refine as_f ⟨pn (h2c S3m (.there (.there .here))), siz rfl (S3m.alc fun g75 h15 x15 M4 => ⟨pn (h2c M4 (.there (.there (.there .here)))), ?_⟩)⟩
    have Ot : rTap.ow [] [.int .i64 x.Taps[n]!.Back, .float .f32 x.Taps[n]!.Gain] x.Taps[n]! := tap_ow ht.2.2
    have ST : SlR rTap h15 (some ⟨g75, 0, none⟩) 1 1 [x.Taps[n]!] := ⟨rfl, Nat.le_refl _, by decide, [.int .i64 x.Taps[n]!.Back, .float .f32 x.Taps[n]!.Gain], fun i hi => ⟨_, rfl, by rw [add_none, M4.cell .here, Nat.zero_add, List.getElem?_toArray]⟩, _, [], (List.append_nil _).symm, rTap.look Ot M4 (List.nil_sublist _), rfl⟩
    have hmx : (1048576 : Nat) ≤ maxLen := by decide
    refine app_slr (L := (gx, T_impl_Room, ⟨pre ++ ([.slice b l c] ++ post)⟩) :: (B1 ++ (B2 ++ Lj gl g g1 (x.lines ++ [[]]) m (1 + n + 1)))) E_sl_impl_Tap tap_sz flat_Tap OT ST (M4.cnt fun p => by unfold Lj; simp only [cnt_app, cnt_cons, cnt_nil]; omega) (by omega) (by omega) fun b' c' h16 B' O' M5 => as_l ?_
    have M6 := M5.cnt (W := (gx, T_impl_Room, ⟨pre ++ ([.slice b l c] ++ post)⟩) :: (B1 ++ (B' ++ (B2 ++ Lj gl g g1 (x.lines ++ [[]]) m (1 + n + 1))))) fun p => by simp only [cnt_app, cnt_cons, cnt_nil]; omega
    rw [← f1]
    refine M6.st1M rfl fun h17 M7 => ?_
    have HO := H B' [.slice b' (l + 1) c'] _ ⟨b', l + 1, c', rfl, O'⟩
    have e : tapsRd x (n + 1) = { tapsRd x n with Taps := (tapsRd x n).Taps ++ [x.Taps[n]!] } := by
      unfold tapsRd
      dsimp only
      rw [take_snoc (by omega)]
    have RF : RmS h h17 gl g gx g1 (x.lines ++ [[]]) m (1 + n + 1) (tapsRd x (n + 1)) := by
      rw [e]
      exact ⟨⟨pre ++ ([.slice b' (l + 1) c'] ++ post)⟩, B1 ++ (B' ++ B2), HO, M7.cnt fun p => by unfold Lj; simp only [cnt_app, cnt_cons, cnt_nil]; omega⟩
    exact ⟨⟨n + 1, by rw [wrap64_succ (by omega)], by omega, RF⟩, by rw [wrap64_succ (by omega)]; show _ < _; simp; omega⟩
  obtain rfl : n = x.Taps.length := by omega
  have e1 : (x.lines ++ [[]])[1 + x.Taps.length]! = x.Early.line := by rw [rest_at (x := x) (k := 0) (n := 1 + x.Taps.length) (by omega) (by omega)]; rfl
  refine (R.ring (by omega) (by omega) e1 A.e T).mono ?_
  rintro _ h11 ⟨b, l, c, B11, rfl, O11, P⟩
  refine as_a (P.sts0 foc_Room_Early rfl O11 fun h12 P => ?_)
  have P : Pt rRoom h h12 ⟨gx, 0, none⟩ ⟨gx, T_impl_Room, [], []⟩ (Lj gl g g1 (x.lines ++ [[]]) m (1 + x.Taps.length + 1)) (combRd x 0) := by
    have e : combRd x 0 = { tapsRd x x.Taps.length with Early := x.Early } := by rw [tapsRd_all]; unfold combRd; rw [mapI_zero]; rfl
    rw [e]; exact P
  refine loop (fun y hh => ∃ n : Nat, y = (mkB (linL x.lines), ⟨g1, 0, none⟩, ⟨gl, 0, none⟩, ⟨gx, 0, none⟩, (n : Int)) ∧ n ≤ 2 ∧ RmS h hh gl g gx g1 (x.lines ++ [[]]) m (1 + x.Taps.length + 1 + 2 * n) (combRd x n)) (fun y => (2 - y.2.2.2.2).toNat) ⟨0, rfl, by omega, RmS.of P⟩ ?_
  clear P R hc
  rintro y' hh ⟨n, rfl, hn, R⟩
  refine brd (fun hc => ?_) fun hc => ?_
  · obtain ⟨q1, q2⟩ := comb_at c2 (i := n) (by omega)
    obtain ⟨ra, fg⟩ := A.c n (by omega)
    have e1 : (x.lines ++ [[]])[1 + x.Taps.length + 1 + 2 * n]! = combW ++ 32 :: bitL x.Combs[n]!.Gain := by rw [rest_at (x := x) (k := 1 + 2 * n) (by omega) (by omega), q1, head_one]
    have e2 : (x.lines ++ [[]])[1 + x.Taps.length + 1 + 2 * n + 1]! = x.Combs[n]!.Ring.line := by rw [rest_at (x := x) (k := 1 + 2 * n + 1) (by omega) (by omega), q2]
    refine (R.num (by omega) (by omega) e1 (by decide) fg T).mono ?_
    rintro _ h13 ⟨rfl, R⟩
    refine as_f (idx (by omega) (by omega) ?_)
    have P := R.pt
    have F1 : Foc rRoom (rF .f32) (3 + n * 3 + 2) (fun a => a.Combs[n]!.Gain) (fun a b => { a with Combs := a.Combs.set n { a.Combs[n]! with Gain := b } }) := (foc_comb n (by omega)).trans foc_Comb_Gain
    have ad : ((((⟨gx, 0, none⟩ : Addr).add 3).add ((Int.toNat (n : Int)) * 3)).add 2) = (⟨gx, 0, none⟩ : Addr).add (3 + n * 3 + 2) := by rw [Int.toNat_natCast, add_add', add_add', Nat.add_assoc]
    rw [ad]
    refine Pt.st (B' := []) P F1 rfl ⟨rfl, _, rfl, fg⟩ fun h14 P => ?_
    refine ((RmS.of P).ring (by omega) (by omega) e2 ra T).mono ?_
    rintro _ h15 ⟨b, l, c, B15, rfl, O15, P⟩
    have F2 : Foc rRoom rRing (3 + n * 3) (fun a => a.Combs[n]!.Ring) (fun a b => { a with Combs := a.Combs.set n { a.Combs[n]! with Ring := b } }) := ((foc_comb n (by omega)).trans foc_Comb_Ring).at (by omega)
    have ad2 : (((⟨gx, 0, none⟩ : Addr).add 3).add ((Int.toNat (n : Int)) * 3)) = (⟨gx, 0, none⟩ : Addr).add (3 + n * 3) := by rw [Int.toNat_natCast, add_add']
    refine as_a (idx (by omega) (by omega) ?_)
    rw [ad2]
    refine P.sts F2 rfl O15 fun h16 P => ⟨⟨n + 1, by rw [wrap64_succ (by omega)], by omega, ?_⟩, by rw [wrap64_succ (by omega)]; show _ < _; simp; omega⟩
    have hz : zCs.length = 2 := rfl
    have hml : n < (mapI (fun i => x.Combs[i]!) zCs n).length := by rw [mapI_len, hz]; omega
    have eC : ((mapI (fun i => x.Combs[i]!) zCs n).set n { (mapI (fun i => x.Combs[i]!) zCs n)[n]! with Gain := x.Combs[n]!.Gain }).set n { ((mapI (fun i => x.Combs[i]!) zCs n).set n { (mapI (fun i => x.Combs[i]!) zCs n)[n]! with Gain := x.Combs[n]!.Gain })[n]! with Ring := x.Combs[n]!.Ring } = mapI (fun i => x.Combs[i]!) zCs (n + 1) := by
      rw [List.set_set, ← mapI_set (f := fun i => x.Combs[i]!) (l := zCs) (by omega)]
      congr 1
      rw [setGet hml, if_pos rfl]
    have e : combRd x (n + 1) = { combRd x n with Combs := ((combRd x n).Combs.set n { (combRd x n).Combs[n]! with Gain := x.Combs[n]!.Gain }).set n { ((combRd x n).Combs.set n { (combRd x n).Combs[n]! with Gain := x.Combs[n]!.Gain })[n]! with Ring := x.Combs[n]!.Ring } } := by
      unfold combRd
      dsimp only
      rw [eC]
    rw [e, show 1 + x.Taps.length + 1 + 2 * (n + 1) = 1 + x.Taps.length + 1 + 2 * n + 1 + 1 by omega]
    exact RmS.of P
  obtain rfl : n = 2 := by omega
  rw [combRd_all c2] at R
  refine loop (fun y hh => ∃ n : Nat, y = (mkB (linL x.lines), ⟨g1, 0, none⟩, ⟨gl, 0, none⟩, ⟨gx, 0, none⟩, (n : Int)) ∧ n ≤ 4 ∧ RmS h hh gl g gx g1 (x.lines ++ [[]]) m (1 + x.Taps.length + 5 + 3 * n) (loopRd x n)) (fun y => (4 - y.2.2.2.2).toNat) ⟨0, rfl, by omega, R⟩ ?_
  clear R hc
  rintro y' hh ⟨n, rfl, hn, R⟩
  refine brd (fun hc => ?_) fun hc => ?_
  · obtain ⟨q1, q2, q3⟩ := loop_at c2 (i := n) (by omega)
    have ra := A.l n (by omega)
    have fd := A.d n (by omega)
    have fg := A.g n (by omega)
    have e1 : (x.lines ++ [[]])[1 + x.Taps.length + 5 + 3 * n]! = loopW ++ 32 :: bitL x.Gains[n]! := by rw [rest_at (x := x) (k := 5 + 3 * n) (by omega) (by omega), q1, head_one]
    have e2 : (x.lines ++ [[]])[1 + x.Taps.length + 5 + 3 * n + 1]! = x.Damps[n]!.line := by rw [rest_at (x := x) (k := 5 + 3 * n + 1) (by omega) (by omega), q2]
    have e3 : (x.lines ++ [[]])[1 + x.Taps.length + 5 + 3 * n + 1 + 1]! = x.Loops[n]!.line := by rw [rest_at (x := x) (k := 5 + 3 * n + 2) (by omega) (by omega), q3]
    refine (R.num (by omega) (by omega) e1 (by decide) fg T).mono ?_
    rintro _ h13 ⟨rfl, R⟩
    refine as_f (idx (by omega) (by omega) ?_)
    have P := R.pt
    have ad : (((⟨gx, 0, none⟩ : Addr).add 41).add ((Int.toNat (n : Int)) * 1)) = (⟨gx, 0, none⟩ : Addr).add (41 + n * 1) := by rw [Int.toNat_natCast, add_add']
    rw [ad]
    refine Pt.st (B' := []) P (foc_gain n (by omega)) rfl ⟨rfl, _, rfl, fg⟩ fun h14 P => ?_
    refine ((RmS.of P).next (by omega) (by omega)).mono ?_
    rintro _ h15 ⟨rfl, R⟩
    rw [e2]
    have TX := T.ext R.pt.ext
    refine as_s ((ReadFilter_ok fd.2 fd.1 TX).mono ?_)
    rintro _ h16 ⟨cd, rfl, Od, x16⟩
    obtain ⟨cs, B, O, S⟩ := R
    unfold LnS at S
    have M := S.grow x16
    refine tup2 (as_a (as_i (M.alc fun gf h17 x17 M => M.sta0 .here (osz Od rfl) (rFilter.oone Od) rfl .here fun h18 M => M.oB (.there .here) rfl (br_f rfl (M.st1 (.there .here) (show 0 + 1 < 2 by decide) (.there .here) fun h19 M => ?_)))))
    have M : Mem h h19 ((gf, T_impl_Filter, cd) :: (gl, T_impl_roomLines, ⟨[.slice (some ⟨g, 1 + x.Taps.length + 5 + 3 * n + 1 + 1, none⟩) (m - (1 + x.Taps.length + 5 + 3 * n + 1 + 1)) (m + 1 - (1 + x.Taps.length + 5 + 3 * n + 1 + 1)), .bool false]⟩) :: (g, T_string, strV (x.lines ++ [[]])) :: (gx, T_impl_Room, cs) :: (B ++ [(g1, T_impl_Room, ⟨Z_impl_Room⟩)])) := M
    unfold impl_ReadRoom.J35
    refine M.lda0 .here (osz Od rfl) (idx (by omega) (by omega) ?_)
    have P : Pt rRoom h h19 ⟨gx, 0, none⟩ ⟨gx, T_impl_Room, [], []⟩ (Lj gl g g1 (x.lines ++ [[]]) m (1 + x.Taps.length + 5 + 3 * n + 1 + 1)) _ := RmS.pt ⟨cs, B, O, M.cnt fun p => by simp only [cnt_app, cnt_cons, cnt_nil]; omega⟩
    have ad2 : (((⟨gx, 0, none⟩ : Addr).add 17).add ((Int.toNat (n : Int)) * 6)) = (⟨gx, 0, none⟩ : Addr).add (17 + n * 6) := by rw [Int.toNat_natCast, add_add']
    rw [ad2]
    refine Pt.sts (B' := []) P (foc_damp n (by omega)) rfl Od fun h20 P => ?_
    refine ((RmS.of P).ring (by omega) (by omega) e3 ra T).mono ?_
    rintro _ h21 ⟨b, l, c, B21, rfl, O21, P⟩
    have ad3 : (((⟨gx, 0, none⟩ : Addr).add 9).add ((Int.toNat (n : Int)) * 2)) = (⟨gx, 0, none⟩ : Addr).add (9 + n * 2) := by rw [Int.toNat_natCast, add_add']
    refine as_a (idx (by omega) (by omega) ?_)
    rw [ad3]
    refine P.sts (foc_loop n (by omega)) rfl O21 fun h22 P => ⟨⟨n + 1, by rw [wrap64_succ (by omega)], by omega, ?_⟩, by rw [wrap64_succ (by omega)]; show _ < _; simp; omega⟩
    have e : loopRd x (n + 1) = { loopRd x n with Gains := (loopRd x n).Gains.set n x.Gains[n]!, Damps := (loopRd x n).Damps.set n x.Damps[n]!, Loops := (loopRd x n).Loops.set n x.Loops[n]! } := by
      unfold loopRd
      dsimp only
      rw [mapI_set (f := fun i => x.Gains[i]!) (l := zGs) (show n < 4 by omega), mapI_set (f := fun i => x.Damps[i]!) (l := zDs) (show n < 4 by omega), mapI_set (f := fun i => x.Loops[i]!) (l := zLs) (show n < 4 by omega)]
    rw [e, show 1 + x.Taps.length + 5 + 3 * (n + 1) = 1 + x.Taps.length + 5 + 3 * n + 1 + 1 + 1 by omega]
    exact RmS.of P
  obtain rfl : n = 4 := by omega
  rw [loopRd_all A.l4 A.d4 A.g4] at R
  obtain ⟨cs, B, O, S⟩ := R
  unfold LnS at S
  refine S.oB .here rfl (br_f rfl (S.lda0 (.there (.there .here)) (osz O rfl) ?_))
  have RX : rRoom.rd hh cs.toList x := rRoom.look O S ((List.sublist_append_left _ _).trans ((List.sublist_cons_self _ _).trans ((List.sublist_cons_self _ _).trans (List.sublist_cons_self _ _))))
  refine goM S (RoomText_c RX hok (T.ext S.ext)) fun h20 M => as_s ?_
  unfold impl_ReadRoom.J39
  refine br_f (by simp) (M.lda0 (.there (.there .here)) (osz O rfl) ?_)
  have M := M.cnt (W := (g1, T_impl_Room, ⟨Z_impl_Room⟩) :: B) (fun p => by simp only [cnt_app, cnt_cons, cnt_nil]; omega)
  exact M.sta0 .here (osz O rfl) (rRoom.oone O) rfl .here fun h21 M => M.lda0 .here (osz O rfl) ⟨_, _, rfl, O, M.drop⟩
end
end Go.Sx
