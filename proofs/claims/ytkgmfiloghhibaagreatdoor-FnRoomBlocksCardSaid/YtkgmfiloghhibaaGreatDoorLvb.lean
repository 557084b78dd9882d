/- Rooms told. -/
import Derived.Test.YtkgmfiloghhibaaGreatDoorLvn
import Derived.Test.YtkgmfiloghhibaaGreatDoorLk90
import Derived.Test.YtkgmfiloghhibaaGreatDoorRT
import Derived.Test.YtkgmfiloghhibaaGreatDoorTL
set_option linter.unusedVariables false
set_option linter.unusedSimpArgs false
namespace Go.Sx
open Go.Proofs
set_option maxRecDepth 100000
set_option maxHeartbeats 2000000

theorem slo_one {g : Nat} {s : List UInt8} (hs : s.length ≤ maxLen) : SlO T_string rS [(g, T_string, ⟨[.string (mkB s)]⟩)] (some ⟨g, 0, none⟩) 1 1 [mkB s] :=
  ⟨rfl, [.string (mkB s)], [_], [], rfl, ⟨rfl, .inr ⟨g, ⟨[.string (mkB s)]⟩, rfl, rfl, Nat.le_refl _, by decide, rfl, rfl⟩⟩, [], [], [.string (mkB s)], [], rfl, rfl, str_ow (by rw [mk_size]; exact hs), rfl, rfl⟩
/-- Rooms as they are told and read again. -/
structure RoomA (x : GRoom) : Prop where
  e : RingA x.Early
  t : ∀ t ∈ x.Taps, 1 ≤ t.Back ∧ t.Back ≤ 1024 ∧ FW .f32 t.Gain t.Gain
  t6 : x.Taps.length ≤ 6
  c2 : x.Combs.length = 2
  c : ∀ i, i < 2 → RingA x.Combs[i]!.Ring ∧ FW .f32 x.Combs[i]!.Gain x.Combs[i]!.Gain
  l4 : x.Loops.length = 4
  d4 : x.Damps.length = 4
  g4 : x.Gains.length = 4
  l : ∀ i, i < 4 → RingA x.Loops[i]!
  d : ∀ i, i < 4 → FiltA x.Damps[i]! ∧ x.Damps[i]!.ok = true
  g : ∀ i, i < 4 → FW .f32 x.Gains[i]! x.Gains[i]!
  b : A32 [x.Dry, x.Wet]
theorem RoomA.b' {x : GRoom} (h : RoomA x) : RoomB x where
  e := h.e.b
  t := fun t ht => ⟨(h.t t ht).1, (h.t t ht).2.1, (h.t t ht).2.2.lt⟩
  t6 := h.t6
  c2 := h.c2
  c := fun c hc => by
    obtain ⟨i, hi, rfl⟩ := List.getElem_of_mem hc
    have := h.c i (by have := h.c2; omega)
    rw [getElem!_pos _ i hi] at this
    exact ⟨this.1.b, this.2.lt⟩
  l4 := h.l4
  l := fun i hi => (h.l i hi).b
  d := fun i hi => (h.d i hi).1.b
  g := fun i hi => (h.g i hi).lt
  b := h.b.b
theorem mem_a {α : Type} [Inhabited α] {l : List α} {p : α → Bool} (h : l.all p = true) {i : Nat} (hi : i < l.length) : p l[i]! = true := by
  rw [getElem!_pos _ i hi]; exact List.all_eq_true.1 h _ (List.getElem_mem hi)
theorem rds_tap {h : Heap} : ∀ {xs : List GTap} {vs : List Value}, rds rTap h vs xs → ∀ t ∈ xs, FW .f32 t.Gain t.Gain
  | [], _, _ => fun a ha => nomatch ha
  | x :: xs, vs, e => by
    obtain ⟨v1, v2, rfl, ⟨w1, w2, _, _, y, _, hy⟩, h2⟩ := e
    intro a ha
    rcases List.mem_cons.1 ha with rfl | ha
    · exact hy.both
    · exact rds_tap h2 a ha
theorem room_a {h : Heap} {q : Addr} {x : GRoom} (R : RdP rRoom h q x) (hok : x.ok = true) : RoomA x := by
  obtain ⟨vs, hv, R0⟩ := R
  obtain ⟨k1, k2, k3, k4⟩ := room_all R0
  have R : RdP rRoom h q x := ⟨vs, hv, R0⟩
  have ru := room_runs R0 hok
  have hok' := hok
  rw [room_ok] at hok
  simp only [Bool.and_eq_true, decide_eq_true_eq] at hok
  obtain ⟨⟨⟨⟨⟨⟨⟨⟨he, ht6⟩, hc⟩, hl⟩, hd⟩, ht⟩, hg⟩, hdry⟩, hwet⟩ := hok
  have el := at_lt ru.e
  refine ⟨⟨ru.e, ring_a (R.foc foc_Room_Early)⟩, fun t ht' => ?_, ht6, k1, fun i hi => ?_, k2, k3, k4, fun i hi => ?_, fun i hi => ?_, fun i hi => ?_, .two (f32_a (R.foc foc_Room_Dry)) (f32_a (R.foc foc_Room_Wet))⟩
  · have hb := ru.t t ht'
    simp only [inR, Bool.and_eq_true, decide_eq_true_eq] at hb
    have hlen : x.Early.len = (x.Early.Samples.length : Int) := rfl
    refine ⟨hb.1, by omega, ?_⟩
    obtain ⟨vs, _, b, l, c, _, _, _, _, ws, _, rd⟩ := R.foc foc_Room_Taps
    exact rds_tap rd t ht'
  · have C := (R.foc foc_Room_Combs).elem (i := i) hi
    have hco := mem_a hc (i := i) (by omega)
    unfold GComb.ok GRing.okf at hco
    simp only [Bool.and_eq_true] at hco
    exact ⟨⟨hco.1.1, ring_a (C.foc foc_Comb_Ring)⟩, f32_a (C.foc foc_Comb_Gain)⟩
  · exact ⟨ru.l _ (mem_get (l := x.Loops) (by omega)), ring_a ((R.foc foc_Room_Loops).elem (i := i) hi)⟩
  · have hdo := mem_a hd (i := i) (by omega)
    rw [Bool.and_eq_true] at hdo
    exact ⟨filt_a ((R.foc foc_Room_Damps).elem (i := i) hi) hdo.1, hdo.1⟩
  · exact f32_a ((R.foc foc_Room_Gains).elem (i := i) hi)
def tapLs (x : GRoom) (n : Nat) : List (List UInt8) := headL roomW [x.Dry, x.Wet] :: (x.Taps.take n).map GTap.line
def combLs (x : GRoom) (n : Nat) : List (List UInt8) := tapLs x x.Taps.length ++ x.Early.line :: ((x.Combs.take n).map GComb.lines).flatten
def loopLs (x : GRoom) (n : Nat) : List (List UInt8) := combLs x x.Combs.length ++ ((List.range n).map x.loopLines).flatten
theorem tapLs_step {x : GRoom} {n : Nat} (h : n < x.Taps.length) : tapLs x (n + 1) = tapLs x n ++ [x.Taps[n]!.line] := by
  unfold tapLs
  rw [take_snoc h, List.map_append]; rfl
theorem combLs_zero (x : GRoom) : combLs x 0 = tapLs x x.Taps.length ++ [x.Early.line] := by unfold combLs; simp
theorem combLs_step {x : GRoom} {n : Nat} (h : n < x.Combs.length) : combLs x (n + 1) = combLs x n ++ x.Combs[n]!.lines := by
  unfold combLs
  rw [take_snoc h, List.map_append, List.flatten_append, ← List.cons_append, ← List.append_assoc]
  simp
theorem loopLs_zero (x : GRoom) : loopLs x 0 = combLs x x.Combs.length := by unfold loopLs; simp
theorem loopLs_step (x : GRoom) (n : Nat) : loopLs x (n + 1) = loopLs x n ++ x.loopLines n := by
  unfold loopLs
  rw [List.range_succ, List.map_append, List.flatten_append, ← List.append_assoc]
  simp
theorem loopLs_all (x : GRoom) : loopLs x 4 = x.lines := by
  unfold loopLs combLs tapLs GRoom.lines
  rw [List.take_length, List.take_length]
  simp
theorem sl_map (a b : List (List UInt8)) : (a ++ b).map mkB = a.map mkB ++ b.map mkB := List.map_append
section
variable {h0 h : Heap} {L B : List Blk} {b : Option Addr} {l c : Nat} {xs : List ByteArray} {K : Value → Heap → Prop}
/-- Lines appended. -/
theorem appLs {ls : List (List UInt8)} {n ty : Nat} (O : SlO T_string rS B b l c xs) (M : Mem h0 h (B ++ L)) (hn : ls.length = n) (hs : ∀ y ∈ ls, y.length ≤ 1048576) (hl : l + n ≤ 10000)
    (H : ∀ b' c' h' B', SlO T_string rS B' b' (l + n) c' (xs ++ ls.map mkB) → Mem h0 h' (B' ++ L) → K (.slice b' (l + n) c') h') :
    ALC (strV ls) T_string (fun g h => SEMV prg (Builtin.append_ #[T_sl_string, T_sl_string] ty #[.slice b l c, .slice (some ⟨g, 0, none⟩) n n]) K h) h := by
  have hm : (1048576 : Nat) ≤ maxLen := by decide
  refine M.alc fun g h1 x1 M => ?_
  have S := strV_slr M .here (fun y hy => Nat.le_trans (hs y hy) hm) (by omega)
  rw [hn] at S
  refine app_slr (L := (g, T_string, strV ls) :: L) E_sl_string (by decide) flat_S O S (M.cnt fun p => by simp only [cnt_app, cnt_cons, cnt_nil]; omega) (by omega) (by omega) fun b' c' h' B' O' M' => H b' c' h' B' O' (M'.cnt fun p => by simp only [cnt_app, cnt_cons, cnt_nil]; omega)
end
section
variable {h : Heap} {x : GRoom} {cs : Array Value}
theorem RoomText_c (R0 : rRoom.rd h cs.toList x) (hok : x.ok = true) (T : Txt h) : CALL prg f_impl_RoomText #[.agg cs] (fun u h' => u = .string (mkB (linL x.lines)) ∧ Ext h h') h := by
  have hm : (1048576 : Nat) ≤ maxLen := by decide
  refine impl_RoomText.call (alcR R0 fun g h1 x1 R => R.lda1 rfl fun c1 R1 => goX (ValidRoom_c R1) fun h2 x2 => as_b ?_)
  rw [hok]
  have R := R.ext x2
  have A := room_a R hok
  have T := T.ext (x1.trans x2)
  have X0 := x1.trans x2
  have s1 := head_size (w := roomW) A.b.b
  have e4 : (⟨#[114, 111, 111, 109, 32]⟩ : ByteArray) = mkB (roomW ++ [32]) := rfl
  have tok : ∀ {hh : Heap}, Ext h2 hh → Txt hh := fun X => T.ext X
  refine br_f rfl (R.oF2 fun y hy => R.oF2 fun z hz => (Mem.start h2).alc fun g9 h3 x3 M => goM M (samplesText_c (two_slr M .here hy hz) (by decide) (T.ext M.ext).br) fun h4 M => as_s ⟨?_, ?_⟩)
  · have := smp_le A.b.b
    simp only [ba_len, mk_size, List.length_cons, List.length_nil] at this ⊢
    omega
  rw [e4, mkB_app]
  have eh : (roomW ++ [32]) ++ smpL [x.Dry, x.Wet] = headL roomW [x.Dry, x.Wet] := by unfold headL; simp
  rw [eh]
  have X4 := M.ext
  have R := R.ext X4
  have T := T.ext X4
  have X0 := X0.trans X4
  have hr4 : roomW.length = 4 := rfl
  simp only [List.length_cons, List.length_nil] at s1
  obtain ⟨vs, hcl, b, l, c, rfl, S⟩ := R.foc foc_Room_Taps
  have hce : cell h4 ⟨g, 2, none⟩ = some (.slice b l c) := by
    have := hcl 0 (.slice b l c) rfl
    rwa [add0, add_g] at this
  refine (Mem.start h4).alc fun g14 h5 x5 M => o_l (M.ext.cell hce) ?_
  have hl : x.Taps.length = l := S.len
  have hl6 := A.t6
  have two : ∀ {hh : Heap} {W : List Blk} {g' j m : Nat} {cv : Array Value} {p : Prop} {hz : Heap}, Mem h4 hh W → True := fun _ => trivial
  refine loop (fun y hh => ∃ (n : Nat) (b' : Option Addr) (l' c' : Nat) (B : List Blk), y = (⟨g, 0, none⟩, b', l', c', b, l, c, (l : Int), (n : Int)) ∧ n ≤ l ∧ SlO T_string rS B b' l' c' ((tapLs x n).map mkB) ∧ Mem h4 hh (B ++ [])) (fun y => (l - y.2.2.2.2.2.2.2.2).toNat)
    ⟨0, _, _, _, [(g14, T_string, ⟨[.string (mkB (headL roomW [x.Dry, x.Wet]))]⟩)], rfl, by omega, slo_one (by omega), M⟩ ?_
  clear M
  rintro y hh ⟨n, b', l', c', B, rfl, hn, O, M⟩
  have hl' : l' = n + 1 := by
    have e := O.len
    unfold tapLs at e
    simp only [List.length_cons, List.length_map, List.length_take] at e
    omega
  refine brd (fun hc => ?_) fun hc => ?_
  · have ht := A.t _ (mem_get (l := x.Taps) (i := n) (by omega))
    refine (S.ext M.ext).idx tap_sz (by omega) (by omega) fun p Rp => Rp.lda1 rfl fun ct Rt => ?_
    rw [Int.toNat_natCast] at Rt
    refine M.alc fun g21 h6 x6 M => M.sta0 .here (rsz Rt rfl) (rTap.rone Rt) rfl .here fun h7 M => ?_
    have RT : RdP rTap h7 ⟨g21, 0, none⟩ x.Taps[n]! := M.rdp .here (rTap.look (flat_Tap _ _ _ Rt) M (List.nil_sublist _))
    have tl := tapLs_step (x := x) (n := n) (by omega)
    unfold GTap.line at tl
    obtain ⟨k, hk⟩ : ∃ j : Nat, x.Taps[n]!.Back = (j : Int) := ⟨x.Taps[n]!.Back.toNat, by omega⟩
    rw [hk, Int.toNat_natCast] at tl
    have d1 := dec_le (n := k) (k := 9) (by omega)
    have d2 := bitL_len (ht.2.2.lt : x.Taps[n]!.Gain < 4294967296)
    refine RT.oI2 (RT.oF2 fun w hw => ?_)
    rw [hk]
    refine goX (decimal_c (m := k) (by omega) (T.ext M.ext).lb.tens) fun h8 x8 => as_s (M.pin1 .here (by rw [rsz Rt rfl]; decide) x8 ⟨?_, ?_, ?_⟩)
    · simp only [decB_mk, ba_len, mk_size, List.length_cons, List.length_nil]; omega
    · simp only [decB_mk, ba_len, mk_size, List.length_cons, List.length_nil]; omega
    refine goM (M.grow x8) (bitsText_c hw (T.ext (M.grow x8).ext).br) fun h9 M => as_s ⟨?_, ?_⟩
    · simp only [decB_mk, ba_len, mk_size, List.length_cons, List.length_nil]; omega
    have et : (⟨#[116, 97, 112, 32]⟩ : ByteArray) = mkB (tapW ++ [32]) := rfl
    have e32 : (⟨#[32]⟩ : ByteArray) = mkB [32] := rfl
    rw [et, e32, decB_mk, mkB_app, mkB_app, mkB_app]
    have ew : tapW ++ [32] ++ Lib.decDigits k ++ [32] ++ bitL x.Taps[n]!.Gain = wordsL [tapW, Lib.decDigits k, bitL x.Taps[n]!.Gain] := by simp [words_cons, words_one]
    rw [ew]
    refine appLs (ls := [wordsL [tapW, Lib.decDigits k, bitL x.Taps[n]!.Gain]]) (L := []) O (M.cnt fun p => by simp only [cnt_app, cnt_cons, cnt_nil]; omega) rfl (fun y hy => ?_) (by omega) fun b2 c2 h' B' O' M' => as_l ⟨⟨n + 1, b2, l' + 1, c2, B', by rw [wrap64_succ (by omega)], by omega, ?_, M'⟩, by rw [wrap64_succ (by omega)]; show _ < _; simp; omega⟩
    · rw [List.mem_singleton] at hy
      rw [hy, ← ew]
      have : tapW.length = 3 := rfl
      simp only [List.length_append, List.length_cons, List.length_nil]; omega
    · rw [tl, sl_map]; exact O'
  obtain rfl : n = l := by omega
  rw [← hl] at O
  have se := A.e.b.size
  refine ((R.ext M.ext).fst foc_Room_Early).lda1 rfl fun c1 R1 => goM M (ringText_c R1 A.e (T.ext M.ext)) fun h6 M => as_s ?_
  refine appLs (ls := [x.Early.line]) (L := []) O M rfl (fun y hy => by rw [List.mem_singleton] at hy; rw [hy]; omega) (by omega) fun b2 c2 h7 B2 O2 M2 => as_l ?_
  rw [← sl_map, ← combLs_zero] at O2
  obtain ⟨vc, hcc, RC⟩ := R.foc foc_Room_Combs
  have hvc : vc.length = 6 := (rArr 2 rComb).rlen RC
  have CC : ∀ {hh : Heap}, Ext h4 hh → Cells hh (some ⟨g, 3, none⟩) vc := fun X i hi => by
    have := hcc i vc[i] (List.getElem?_eq_getElem hi)
    rw [add_g] at this
    exact ⟨_, rfl, by rw [List.getElem?_eq_getElem hi]; exact X.cell this⟩
  rw [add_g]
  refine cells_lda (CC M2.ext) (by omega) ?_
  rw [List.take_of_length_le (by omega)]
  have c2 := A.c2
  have lc : ∀ {n l : Nat} {b : Option Addr} {c : Nat} {B : List Blk}, SlO T_string rS B b l c ((combLs x n).map mkB) → n ≤ 2 → l = x.Taps.length + 2 + 2 * n := fun {n l b c B} O hn => by
    have e := O.len
    have e2 : ∀ m, m ≤ 2 → (((x.Combs.take m).map GComb.lines).flatten).length = 2 * m := fun m hm => by
      rcases (show m = 0 ∨ m = 1 ∨ m = 2 by omega) with rfl | rfl | rfl
      · rfl
      · match x.Combs, c2 with
        | [a, b], _ => rfl
      · match x.Combs, c2 with
        | [a, b], _ => rfl
    unfold combLs tapLs at e
    simp only [List.length_cons, List.length_map, List.length_take, List.length_append, e2 n hn] at e
    omega
  refine loop (fun y hh => ∃ (n : Nat) (b' : Option Addr) (l' c' : Nat) (B : List Blk), y = (⟨g, 0, none⟩, b', l', c', ⟨vc⟩, (n : Int)) ∧ n ≤ 2 ∧ SlO T_string rS B b' l' c' ((combLs x n).map mkB) ∧ Mem h4 hh (B ++ [])) (fun y => (2 - y.2.2.2.2.2).toNat)
    ⟨0, _, _, _, B2, rfl, by omega, O2, M2⟩ ?_
  clear M2 O2
  rintro y hh ⟨n, b', l', c', B, rfl, hn, O, M⟩
  have hl' := lc O hn
  refine brd (fun hc => ?_) fun hc => ?_
  · obtain ⟨ra, fg⟩ := A.c n (by omega)
    have d2 := bitL_len (fg.lt : x.Combs[n]!.Gain < 4294967296)
    have sr := ra.b.size
    have Rn : rComb.rd h4 ((⟨vc⟩ : Array Value).extract (n * 3) (n * 3 + 3)).toList x.Combs[n]! := rd_part (cs := ⟨vc⟩) RC (Foc.arr rComb n (by omega)) rfl
    refine idx (by omega) (by omega) ?_
    rw [Int.toNat_natCast]
    refine M.alc fun g47 h6 x6 M => M.sta0 .here (rsz Rn rfl) (rComb.rone Rn) rfl .here fun h7 M => ?_
    have RK : RdP rComb h7 ⟨g47, 0, none⟩ x.Combs[n]! := M.rdp .here (rComb.ext M.ext Rn)
    refine RK.oF2 fun w hw => (RK.fst foc_Comb_Ring).lda1 rfl fun cr Rr => goX (bitsText_c hw (T.ext M.ext).br) fun h8 x8 => as_s (RK.pin0 (by decide) x8 ⟨?_, ?_⟩)
    · simp only [ba_len, mk_size, List.length_cons, List.length_nil]; omega
    have M := M.grow x8
    refine goM M (ringText_c (rRing.ext x8 Rr) ra (T.ext M.ext)) fun h9 M => as_s ?_
    have et : (⟨#[99, 111, 109, 98, 32]⟩ : ByteArray) = mkB (combW ++ [32]) := rfl
    rw [et, mkB_app]
    have ew : combW ++ [32] ++ bitL x.Combs[n]!.Gain = headL combW [x.Combs[n]!.Gain] := by
      unfold headL
      rw [smp_words]
      simp [words_one]
    rw [ew]
    refine appLs (ls := [headL combW [x.Combs[n]!.Gain], x.Combs[n]!.Ring.line]) (L := []) O (M.cnt fun p => by simp only [cnt_app, cnt_cons, cnt_nil]; omega) rfl (fun y hy => ?_) (by omega) fun b2 c2 h' B' O' M' => as_l ⟨⟨n + 1, b2, l' + 2, c2, B', by rw [wrap64_succ (by omega)], by omega, ?_, M'⟩, by rw [wrap64_succ (by omega)]; show _ < _; simp; omega⟩
    · simp only [List.mem_cons, List.not_mem_nil, or_false] at hy
      rcases hy with rfl | rfl
      · rw [← ew]
        have : combW.length = 4 := rfl
        simp only [List.length_append, List.length_cons, List.length_nil]; omega
      · omega
    · rw [combLs_step (by omega), sl_map]; exact O'
  obtain rfl : n = 2 := by omega
  obtain ⟨vl, hcl2, RL⟩ := R.foc foc_Room_Loops
  have hvl : vl.length = 8 := (rArr 4 rRing).rlen RL
  have CL : ∀ {hh : Heap}, Ext h4 hh → Cells hh (some ⟨g, 9, none⟩) vl := fun X i hi => by
    have := hcl2 i vl[i] (List.getElem?_eq_getElem hi)
    rw [add_g] at this
    exact ⟨_, rfl, by rw [List.getElem?_eq_getElem hi]; exact X.cell this⟩
  rw [add_g]
  refine cells_lda (CL M.ext) (by omega) ?_
  rw [List.take_of_length_le (by omega)]
  have O0 : SlO T_string rS B b' l' c' ((loopLs x 0).map mkB) := by rw [loopLs_zero, c2]; exact O
  have lc3 : ∀ {n l : Nat} {b : Option Addr} {c : Nat} {B : List Blk}, SlO T_string rS B b l c ((loopLs x n).map mkB) → n ≤ 4 → l = x.Taps.length + 6 + 3 * n := fun {n l b c B} O hn => by
    have e := O.len
    have e0 := O0.len
    have e1 : (((List.range n).map x.loopLines).flatten).length = 3 * n := by
      rcases (show n = 0 ∨ n = 1 ∨ n = 2 ∨ n = 3 ∨ n = 4 by omega) with rfl | rfl | rfl | rfl | rfl <;> rfl
    rw [loopLs_zero] at e0
    unfold loopLs at e
    rw [List.length_map] at e0 e
    rw [List.length_append, e1] at e
    omega
  refine loop (fun y hh => ∃ (n : Nat) (b' : Option Addr) (l' c' : Nat) (B : List Blk), y = (⟨g, 0, none⟩, b', l', c', ⟨vl⟩, (n : Int)) ∧ n ≤ 4 ∧ SlO T_string rS B b' l' c' ((loopLs x n).map mkB) ∧ Mem h4 hh (B ++ [])) (fun y => (4 - y.2.2.2.2.2).toNat)
    ⟨0, _, _, _, B, rfl, by omega, O0, M⟩ ?_
  clear M O
  rintro y hh ⟨n, b', l', c', B, rfl, hn, O, M⟩
  have hl' := lc3 O hn
  refine brd (fun hc => ?_) fun hc => ?_
  · have ra := A.l n (by omega)
    have fd := A.d n (by omega)
    have fg := A.g n (by omega)
    have d2 := bitL_len (fg.lt : x.Gains[n]! < 4294967296)
    have sr := ra.b.size
    have sf := fd.1.b.size
    have Rn : rRing.rd h4 ((⟨vl⟩ : Array Value).extract (n * 2) (n * 2 + 2)).toList x.Loops[n]! := rd_part (cs := ⟨vl⟩) RL (Foc.arr rRing n (by omega)) rfl
    refine idx (by omega) (by omega) ?_
    rw [Int.toNat_natCast]
    refine M.alc fun g47 h6 x6 M => M.sta0 .here (rsz Rn rfl) (rRing.rone Rn) rfl .here fun h7 M => ?_
    have RK : RdP rRing h7 ⟨g47, 0, none⟩ x.Loops[n]! := M.rdp .here (rRing.ext M.ext Rn)
    have RX := R.ext M.ext
    have Gn := (RX.foc foc_Room_Gains).elem (i := n) (by omega)
    have Dn := (RX.foc foc_Room_Damps).elem (i := n) (by omega)
    refine idx (by omega) (by omega) (Gn.oF1 fun w hw => idx (by omega) (by omega) (Dn.lda1 rfl fun cd Rd => RK.lda1 rfl fun cr Rr => goX (bitsText_c hw (T.ext M.ext).br) fun h8 x8 => as_s (RK.pin rfl x8 (Dn.pin rfl x8 ⟨?_, ?_⟩))))
    · simp only [ba_len, mk_size, List.length_cons, List.length_nil]; omega
    have M := M.grow x8
    refine goX (FilterText_c (rFilter.ext x8 Rd) fd.2 fd.1 (T.ext M.ext)) fun h9 x9 => as_s (RK.pin rfl (x8.trans x9) ?_)
    have M := M.grow x9
    refine goM M (ringText_c (rRing.ext (x8.trans x9) Rr) ra (T.ext M.ext)) fun h10 M => as_s ?_
    have et : (⟨#[108, 111, 111, 112, 32]⟩ : ByteArray) = mkB (loopW ++ [32]) := rfl
    rw [et, mkB_app]
    have ew : loopW ++ [32] ++ bitL x.Gains[n]! = headL loopW [x.Gains[n]!] := by
      unfold headL
      rw [smp_words]
      simp [words_one]
    rw [ew]
    refine appLs (ls := x.loopLines n) (L := []) O (M.cnt fun p => by simp only [cnt_app, cnt_cons, cnt_nil]; omega) rfl (fun y hy => ?_) (by omega) fun b2 c2 h' B' O' M' => as_l ⟨⟨n + 1, b2, l' + 3, c2, B', by rw [wrap64_succ (by omega)], by omega, ?_, M'⟩, by rw [wrap64_succ (by omega)]; show _ < _; simp; omega⟩
    · unfold GRoom.loopLines at hy
      simp only [List.mem_cons, List.not_mem_nil, or_false] at hy
      rcases hy with rfl | rfl | rfl
      · rw [← ew]
        have : loopW.length = 4 := rfl
        simp only [List.length_append, List.length_cons, List.length_nil]; omega
      · omega
      · omega
    · rw [loopLs_step, sl_map]; exact O'
  obtain rfl : n = 4 := by omega
  rw [loopLs_all] at O
  have sz := A.b'.size
  have hd : (x.lines.map mkB).map (·.data.toList) = x.lines := by
    rw [List.map_map]
    exact (List.map_congr_left fun l _ => mkB_data l).trans (List.map_id _)
  obtain ⟨l0, r0, el⟩ : ∃ l0 r0, x.lines = l0 :: r0 := ⟨_, _, rfl⟩
  have hj : Lib.join x.lines [10] ++ [10] = linL x.lines := by rw [el]; exact join_lin _ _
  have hjl : (Lib.join x.lines [10]).length + 1 = (linL x.lines).length := by rw [← hj, List.length_append]; rfl
  have jc := Join_c (sep := ⟨#[10]⟩) O M (List.sublist_append_left _ _) (by omega) (by rw [hd]; show (Lib.join x.lines [10]).length ≤ _; omega)
  rw [hd] at jc
  have jc : CALL prg f_strings_Join #[.slice b' l' c', .string ⟨#[10]⟩] (fun u h' => u = .string (mkB (Lib.join x.lines [10])) ∧ Ext hh h') hh := jc
  refine goM M jc fun h5 M => as_s ⟨?_, ?_, X0.trans M.ext⟩
  · simp only [ba_len, mk_size, List.length_cons, List.length_nil]; omega
  · have e10 : (⟨#[10]⟩ : ByteArray) = mkB [10] := rfl
    rw [e10, mkB_app, hj]
end
end Go.Sx
/- Lines read one after the other off a structure behind a pointer. -/
set_option linter.unusedVariables false
set_option linter.unusedSimpArgs false
namespace Go.Sx
open Go.Proofs
set_option maxRecDepth 100000
set_option maxHeartbeats 1000000

theorem count_lin : ∀ {ls : List (List UInt8)}, (∀ l ∈ ls, ∀ b ∈ l, b ≠ 10) → (linL ls).count 10 = ls.length
  | [], _ => by simp [linL]
  | l :: ls, h => by
    have h1 : l.count 10 = 0 := List.count_eq_zero.2 fun k => h l (List.mem_cons_self ..) 10 k rfl
    have h2 := count_lin (ls := ls) fun x hx => h x (List.mem_cons_of_mem _ hx)
    have e : linL (l :: ls) = l ++ 10 :: linL ls := by simp [linL]
    rw [e, List.count_append, h1, List.count_cons_self, h2, List.length_cons]
    omega
section
variable {h0 h : Heap}
theorem Count_c {s : ByteArray} {c : UInt8} : CALL prg f_strings_Count #[.string s, .string ⟨#[c]⟩] (fun u h' => u = .int .i64 (s.data.toList.count c : Int) ∧ Ext h h') h := by
  refine CALL_of_calls L138.f138 rfl rfl fun w hw => ?_
  subst hw
  refine (Any.strings_Count_one L138 s c w).mono ?_
  rintro e w' ⟨rfl, rfl⟩
  exact ⟨_, rfl, ⟨rfl, rfl, rfl⟩, rfl, Ext.refl _⟩
theorem LastIndex_c {s : ByteArray} (hs : s.size ≤ 1048576) : CALL prg f_strings_LastIndex #[.string s, .string ⟨#[32]⟩] (fun u h' => u = .int .i64 (Lib.lastIndexByte s 32) ∧ Ext h h') h := by
  refine CALL_of_calls L148.f148 rfl rfl fun w hw => ?_
  subst hw
  refine (Any.strings_LastIndex_one L148 s ⟨#[32]⟩ rfl (by omega) w).mono ?_
  rintro e w' ⟨rfl, rfl⟩
  exact ⟨_, rfl, ⟨rfl, rfl, rfl⟩, rfl, Ext.refl _⟩
theorem mk_get {l : List UInt8} {i : Nat} (hi : i < l.length) : (mkB l).data[i]! = l[i]! := by
  have e : (mkB l).data = ⟨l⟩ := by
    have := mkB_data l
    cases hh : (mkB l).data
    rw [hh] at this
    exact congrArg Array.mk this
  rw [e]
  simp [hi]
theorem last_at {p t : List UInt8} (h : ∀ b ∈ t, b ≠ 32) : Lib.lastIndexByte (mkB (p ++ 32 :: t)) 32 = (p.length : Int) := by
  have hlen : (p ++ 32 :: t).length = p.length + 1 + t.length := by simp; omega
  have at1 : ((mkB (p ++ 32 :: t)).data[p.length]!).toNat = 32 := by
    rw [mk_get (by omega), getElem!_pos _ _ (by omega), List.getElem_append_right (Nat.le_refl _)]
    simp
  have at2 : ∀ i, p.length < i → i < (p ++ 32 :: t).length → ((mkB (p ++ 32 :: t)).data[i]!).toNat ≠ 32 := fun i h1 h2 e => by
    rw [mk_get h2, getElem!_pos (p ++ 32 :: t) i h2, List.getElem_append_right (by omega)] at e
    obtain ⟨k, hk⟩ : ∃ k, i - p.length = k + 1 := ⟨i - p.length - 1, by omega⟩
    simp only [hk, List.getElem_cons_succ] at e
    exact h _ (List.getElem_mem (show k < t.length by omega)) (UInt8.toNat_inj.1 e)
  unfold Lib.lastIndexByte
  rw [mk_size]
  rcases Lib.lastIdx_spec (mkB (p ++ 32 :: t)) 32 (p ++ 32 :: t).length with ⟨_, k⟩ | ⟨i, hi, e, e1, k⟩
  · exact absurd (by rw [at1]; rfl) (k p.length (by omega))
  · rw [e]
    rcases Nat.lt_trichotomy i p.length with q | q | q
    · exact absurd (by rw [at1]; rfl) (k p.length q (by omega))
    · rw [q]
    · exact absurd (Int.ofNat.inj e1) (at2 i q hi)
theorem ext_at {p t : List UInt8} {n : Nat} (hn : n = p.length + 1) : (mkB (p ++ 32 :: t)).extract n (mkB (p ++ 32 :: t)).size = mkB t := by
  subst hn
  have e : ∀ l : List UInt8, mkB l = ⟨⟨l⟩⟩ := fun l => by
    have := mkB_data l
    cases hh : mkB l with
    | mk d => rw [hh] at this; cases d; exact congrArg (fun x => ByteArray.mk (Array.mk x)) this
  rw [mk_size, e, e]
  have := ByteArray.extract_mk (p ++ 32 :: t) (p.length + 1) (p ++ 32 :: t).length
  rw [this]
  congr 2
  have h1 : List.drop (p.length + 1) (p ++ 32 :: t) = t := by
    rw [← List.drop_drop, List.drop_left]; rfl
  rw [h1, List.take_of_length_le (by simp; omega)]
/-- Lines that are left to be read. -/
def LnS (h0 h : Heap) (W : List Blk) (gl g : Nat) (LS : List (List UInt8)) (m j : Nat) : Prop :=
  Mem h0 h ((gl, T_impl_roomLines, ⟨[.slice (some ⟨g, j, none⟩) (m - j) (m + 1 - j), .bool false]⟩) :: (g, T_string, strV LS) :: W)
variable {W : List Blk} {gl g m j : Nat} {LS : List (List UInt8)}
theorem nextL_c (S : LnS h0 h W gl g LS m j) (hj : j < m) (hl : m < LS.length) : CALL prg f_p_impl_roomLines_next #[.pointer (some ⟨gl, 0, none⟩)] (fun u h' => u = .string (mkB LS[j]!) ∧ LnS h0 h' W gl g LS m (j + 1)) h := by
  unfold LnS at S
  refine p_impl_roomLines_next.call (S.oL .here rfl (idxs (by omega) (by omega) (S.oS (.there .here) (strV_get (by omega)) (S.oL .here rfl (slb (by omega) (by omega) (by omega) ?_)))))
  rw [slA_n (by omega), add_none, Nat.mul_one]
  refine S.st1 .here (show 0 < 2 by decide) .here fun h' M => ⟨rfl, ?_⟩
  unfold LnS
  have e1 : m - (j + 1) = m - j - 1 := by omega
  have e2 : m + 1 - (j + 1) = m + 1 - j - 1 := by omega
  rw [e1, e2]
  exact M
theorem number_c {n : Nat} {p : List UInt8} (S : LnS h0 h W gl g LS m j) (hj : j < m) (hl : m < LS.length) (e : LS[j]! = p ++ 32 :: bitL n) (hp : p.length ≤ 1000) (hn : FW .f32 n n) (T : Txt h0) :
    CALL prg f_p_impl_roomLines_number #[.pointer (some ⟨gl, 0, none⟩)] (fun u h' => u = .float .f32 n ∧ LnS h0 h' W gl g LS m (j + 1)) h := by
  have d2 := bitL_len (hn.lt : n < 4294967296)
  refine p_impl_roomLines_number.call ((nextL_c S hj hl).mono ?_)
  rintro _ h1 ⟨rfl, S⟩
  rw [e]
  have hsz : (mkB (p ++ 32 :: bitL n)).size = p.length + 9 := by rw [mk_size]; simp [d2]
  unfold LnS at S
  refine as_s (goM S (LastIndex_c (by omega)) fun h2 S => as_i ?_)
  rw [last_at fun b hb => (word_bits hn.lt b hb).1, wrap64 (by omega) (by omega)]
  refine slb (by omega) (by omega) (by omega) ?_
  rw [ext_at (by omega)]
  refine goM S (readBits_ok hn (T.ext S.ext).br) fun h3 S => tup2 (as_f (as_b (S.oB .here rfl (br_f rfl (S.st1 .here (show 0 + 1 < 2 by decide) .here fun h4 S => ⟨rfl, S⟩)))))
theorem ringL_c {r : GRing} (S : LnS h0 h W gl g LS m j) (hj : j < m) (hl : m < LS.length) (e : LS[j]! = r.line) (A : RingA r) (T : Txt h0) :
    CALL prg f_p_impl_roomLines_ring #[.pointer (some ⟨gl, 0, none⟩)] (fun u h' => ∃ b l c B, u = .agg ⟨[.slice b l c, .int .i64 r.At]⟩ ∧ SlO T_float32 (rF .f32) B b l c r.Samples ∧ LnS h0 h' (B ++ W) gl g LS m (j + 1)) h := by
  unfold LnS at S
  refine p_impl_roomLines_ring.call (S.alc fun g1 h1 x1 M => ?_)
  have S1 : LnS h0 h1 ((g1, T_impl_Ring, ⟨Z_impl_Ring⟩) :: W) gl g LS m j := M.cnt fun p => by simp only [cnt_cons]; omega
  refine (nextL_c S1 hj hl).mono ?_
  rintro _ h2 ⟨rfl, S2⟩
  rw [e]
  unfold LnS at S2
  refine as_s ((readRing_ok A (T.ext S2.ext)).mono ?_)
  rintro _ h3 ⟨b, l, c, B, rfl, O, N⟩
  have M := (S2.join N).cnt (W := (gl, T_impl_roomLines, ⟨[.slice (some ⟨g, j + 1, none⟩) (m - (j + 1)) (m + 1 - (j + 1)), .bool false]⟩) :: (g1, T_impl_Ring, ⟨Z_impl_Ring⟩) :: (g, T_string, strV LS) :: (B ++ W)) fun p => by simp only [List.append_eq, cnt_app, cnt_cons, cnt_nil]; omega
  refine tup2 (as_a (as_b (M.alc fun g12 h4 x4 M => M.sta0 .here rfl (all_one rfl) rfl .here fun h5 M => M.oB (.there .here) rfl (br_f rfl (M.st1 (.there .here) (show 0 + 1 < 2 by decide) (.there .here) fun h6 M => M.lda0 .here rfl (M.sta0 (.there (.there .here)) rfl (all_one rfl) rfl (.there (.there .here)) fun h7 M => M.lda0 (.there (.there .here)) rfl ?_))))))
  have M : Mem h0 h7 ((g12, T_impl_Ring, ⟨[.slice b l c, .int .i64 r.At]⟩) :: (gl, T_impl_roomLines, ⟨[.slice (some ⟨g, j + 1, none⟩) (m - (j + 1)) (m + 1 - (j + 1)), .bool false]⟩) :: (g1, T_impl_Ring, ⟨[.slice b l c, .int .i64 r.At]⟩) :: (g, T_string, strV LS) :: (B ++ W)) := M
  exact ⟨b, l, c, B, rfl, O, M.cnt fun p => by simp only [cnt_app, cnt_cons]; omega⟩
end
end Go.Sx
