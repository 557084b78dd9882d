/- Rooms copied by the program; silent rings. -/
import Derived.Test.YtkgmfiloghhibaaGreatDoorLk5
import Derived.Test.YtkgmfiloghhibaaGreatDoorLk4
import Derived.Test.YtkgmfiloghhibaaGreatDoorLr3
set_option linter.unusedVariables false
set_option linter.unusedSimpArgs false
namespace Go.Sx
open Go.Proofs
set_option maxRecDepth 100000

section
variable {h : Heap} {q : Addr}
theorem Clone_Tap_c {b : Option Addr} {l c : Nat} {xs : List GTap} (S : SlR rTap h b l c xs) (hl : l ≤ 1048576) :
    CALL prg f_slices_Clone_sl_impl_Tap_impl_Tap #[.slice b l c] (fun u h' => ∃ b' c' B, u = .slice b' l c' ∧ SlO T_impl_Tap rTap B b' l c' xs ∧ Mem h h' B) h := by
  refine slices_Clone_sl_impl_Tap_impl_Tap.call (cmp_nil U_sl_impl_Tap (br (fun hb => ?_) fun hb => ?_))
  · obtain rfl : b = none := by simpa using hb
    obtain ⟨rfl, rfl⟩ := slr_none tap_sz S
    exact ⟨none, 0, [], rfl, SlO.nil, Mem.start h⟩
  · refine (Mem.start h).alc fun g h1 x1 M => ?_
    exact append_copy E_sl_impl_Tap tap_sz flat_Tap (S.ext x1) M (by omega) fun b' c' h' B' O' M' => as_l ⟨b', c', B', rfl, O', by simpa using M'⟩
theorem Room_clone_c {cs : Array Value} {x : GRoom} (R0 : rRoom.rd h cs.toList x) (hs : x.small) : CALL prg f_impl_Room_clone #[.agg cs] (fun u h' => NewR rRoom h h' u x) h := by
  obtain ⟨vE, v1, e1, RE, vT, v2, rfl, RT, vC, v3, rfl, RC, vL, vR, rfl, RL, RR⟩ := R0
  obtain ⟨bT, lT, cT, rfl, ST⟩ := RT
  dsimp only at RE ST RC RL RR
  have hE : vE.length = 2 := rRing.rlen RE
  have hC2 : x.Combs.length = 2 := RC.1
  have hL4 : x.Loops.length = 4 := RL.1
  have eC : cs = ⟨vE ++ ([.slice bT lT cT] ++ (vC ++ (vL ++ vR)))⟩ := by cases cs; simpa using e1
  have hlt := ST.len
  have lC : vC.length = 6 := (rArr 2 rComb).rlen RC
  have lL : vL.length = 8 := (rArr 4 rRing).rlen RL
  have oR := (flat_seq (flat_arr 4 (flat_via (flat_seq (flat_I .i64) (flat_seq (flat_arr 3 (flat_F .f32)) (flat_arr 2 (flat_F .f32)))))) (flat_seq (flat_arr 4 (flat_F .f32)) (flat_seq (flat_F .f32) (flat_F .f32)))) h vR (x.Damps, x.Gains, x.Dry, x.Wet) RR
  subst eC
  refine impl_Room_clone.call ((Mem.start h).alc fun g1 h1 x1 M => M.alc fun g3 h2 x2 M => ?_)
  have M1 : Mem h h2 ((g1, T_impl_Room, ⟨[] ++ (vE ++ ([.slice bT lT cT] ++ (vC ++ (vL ++ vR))))⟩) :: [(g3, T_impl_Room, ⟨Z_impl_Room⟩)]) := M.perm (.swap _ _ _)
  refine M1.ldaM rfl hE ?_
  have X2 := M1.ext
  refine o_l (M1.cellM (pre := vE) (u := .slice bT lT cT) hE) ?_
  refine NewR.go (Mem.start h2) (Ring_clone_c (rRing.ext X2 RE) hs.1) fun h3 cE BE N3 OE hsE => as_a (pin1 N3.ext (M1.cellM (pre := vE) (u := .slice bT lT cT) hE) ?_)
  have hsE : cE.size = 2 := hsE
  have M3 := M1.join N3
  have hT1 := hs.2.1
  refine (Clone_Tap_c (ST.ext M3.ext) (by omega)).mono ?_
  rintro _ h4 ⟨b', c', BT, rfl, OT, N⟩
  refine as_l ?_
  have M4 : Mem h h4 ((g1, T_impl_Room, ⟨[] ++ (vE ++ ([.slice bT lT cT] ++ (vC ++ (vL ++ vR))))⟩) :: (BE ++ (BT ++ [(g3, T_impl_Room, ⟨Z_impl_Room⟩)]))) := (M3.join N).cnt (fun p => by simp only [cnt_app, cnt_cons, cnt_nil] at *; omega)
  refine M4.staM rfl hE hsE (rRing.oone OE) fun h5 M5 => ?_
  have hcE : cE.toList.length = 2 := sizeL hsE
  refine M5.st1M (pre := cE.toList) (u := .slice bT lT cT) (post := vC ++ (vL ++ vR)) hcE fun h6 M6 => ?_
  refine loop (fun y hh => ∃ (n : Nat) (own rest : List Value) (BC : List Blk), y = (⟨g1, 0, none⟩, ⟨g3, 0, none⟩, (n : Int)) ∧ n ≤ 2 ∧ ows rComb BC own (x.Combs.take n) ∧ rds rComb h rest (x.Combs.drop n) ∧
    Mem h hh ((g1, T_impl_Room, ⟨cE.toList ++ ([.slice b' lT c'] ++ (own ++ (rest ++ (vL ++ vR))))⟩) :: (BC ++ (BE ++ (BT ++ [(g3, T_impl_Room, ⟨Z_impl_Room⟩)]))))) (fun y => (2 - y.2.2).toNat) ⟨0, [], vC, [], rfl, by omega, ⟨rfl, rfl⟩, by simpa using RC.2, by simpa using M6⟩ ?_
  rintro y hh ⟨n, own, rest, BC, rfl, hn, OC, RC', M⟩
  refine brd (fun hc => ?_) fun hc => ?_
  · have hown : own.length = n * 3 := by rw [OC.len, List.length_take, sz_Comb]; omega
    rw [drop_cons (by omega)] at RC'
    obtain ⟨v1, rest', rfl, RC1, RC2⟩ := RC'
    obtain ⟨vr, vg, rfl, Rr, Rg⟩ := RC1
    have hvr : vr.length = 2 := rRing.rlen Rr
    have M : Mem h hh ((g1, T_impl_Room, ⟨(cE.toList ++ ([.slice b' lT c'] ++ own)) ++ (vr ++ (vg ++ (rest' ++ (vL ++ vR))))⟩) :: (BC ++ (BE ++ (BT ++ [(g3, T_impl_Room, ⟨Z_impl_Room⟩)])))) := by simpa using M
    have hj : (cE.toList ++ ([Value.slice b' lT c'] ++ own)).length = 3 + n * 3 := by simp only [List.length_append, List.length_singleton]; omega
    refine idx (by omega) (by omega) ?_
    rw [add_none, add_none, Int.toNat_natCast, Nat.zero_add]
    refine M.ldaM hj hvr ?_
    refine NewR.go M (Ring_clone_c (rRing.ext M.ext Rr) (hs.2.2.1 _ (by rw [getElem!_pos _ n (by omega)]; exact List.getElem_mem _))) fun h7 c7 B7 M7 O7 hs7 => as_a (idx (by omega) (by omega) ?_)
    have hs7 : c7.size = 2 := hs7
    have M7 : Mem h h7 ((g1, T_impl_Room, ⟨(cE.toList ++ ([.slice b' lT c'] ++ own)) ++ (vr ++ (vg ++ (rest' ++ (vL ++ vR))))⟩) :: (B7 ++ (BC ++ (BE ++ (BT ++ [(g3, T_impl_Room, ⟨Z_impl_Room⟩)]))))) := M7.cnt (fun p => by simp only [cnt_app, cnt_cons, cnt_nil] at *; omega)
    refine M7.staM hj hvr hs7 (rRing.oone O7) fun h8 M8 => ?_
    rw [wrap64_succ (by omega)]
    refine ⟨⟨n + 1, own ++ (c7.toList ++ vg), rest', BC ++ B7, rfl, by omega, ?_, RC2, M8.cnt' ?_ (fun p => by simp only [cnt_app, cnt_cons, cnt_nil] at *; omega)⟩, by show _ < _; simp; omega⟩
    · rw [take_snoc (by omega)]
      refine OC.append ⟨B7, [], c7.toList ++ vg, [], by simp, by simp, ⟨B7, [], _, _, by simp, rfl, O7, flat_F _ _ _ _ Rg⟩, rfl, rfl⟩
    · simp
  obtain rfl : n = 2 := by omega
  have e2 : x.Combs.take 2 = x.Combs := by rw [← hC2]; exact List.take_length
  have e3 : rest = [] := by rw [List.drop_of_length_le (by omega)] at RC'; exact RC'
  subst e3
  rw [e2] at OC
  have hown : own.length = 6 := by rw [OC.len, sz_Comb]; omega
  rw [List.nil_append] at M
  refine loop (fun y hh => ∃ (n : Nat) (ol rest : List Value) (BL : List Blk), y = (⟨g1, 0, none⟩, ⟨g3, 0, none⟩, (n : Int)) ∧ n ≤ 4 ∧ ows rRing BL ol (x.Loops.take n) ∧ rds rRing h rest (x.Loops.drop n) ∧
    Mem h hh ((g1, T_impl_Room, ⟨cE.toList ++ ([.slice b' lT c'] ++ (own ++ (ol ++ (rest ++ vR))))⟩) :: (BL ++ (BC ++ (BE ++ (BT ++ [(g3, T_impl_Room, ⟨Z_impl_Room⟩)])))))) (fun y => (4 - y.2.2).toNat) ⟨0, [], vL, [], rfl, by omega, ⟨rfl, rfl⟩, by simpa using RL.2, by simpa using M⟩ ?_
  rintro y hh ⟨n, ol, rest, BL, rfl, hn, OL, RL', M⟩
  refine brd (fun hc => ?_) fun hc => ?_
  · have hol : ol.length = n * 2 := by rw [OL.len, List.length_take, sz_Ring]; omega
    rw [drop_cons (by omega)] at RL'
    obtain ⟨vr, rest', rfl, Rr, RL2⟩ := RL'
    have hvr : vr.length = 2 := rRing.rlen Rr
    have M : Mem h hh ((g1, T_impl_Room, ⟨(cE.toList ++ ([.slice b' lT c'] ++ (own ++ ol))) ++ (vr ++ (rest' ++ vR))⟩) :: (BL ++ (BC ++ (BE ++ (BT ++ [(g3, T_impl_Room, ⟨Z_impl_Room⟩)]))))) := by simpa using M
    have hj : (cE.toList ++ ([Value.slice b' lT c'] ++ (own ++ ol))).length = 9 + n * 2 := by simp only [List.length_append, List.length_singleton]; omega
    refine idx (by omega) (by omega) ?_
    rw [add_none, add_none, Int.toNat_natCast, Nat.zero_add]
    refine M.ldaM hj hvr ?_
    refine NewR.go M (Ring_clone_c (rRing.ext M.ext Rr) (hs.2.2.2 _ (by rw [getElem!_pos _ n (by omega)]; exact List.getElem_mem _))) fun h7 c7 B7 M7 O7 hs7 => as_a (idx (by omega) (by omega) ?_)
    have hs7 : c7.size = 2 := hs7
    have M7 : Mem h h7 ((g1, T_impl_Room, ⟨(cE.toList ++ ([.slice b' lT c'] ++ (own ++ ol))) ++ (vr ++ (rest' ++ vR))⟩) :: (B7 ++ (BL ++ (BC ++ (BE ++ (BT ++ [(g3, T_impl_Room, ⟨Z_impl_Room⟩)])))))) := M7.cnt (fun p => by simp only [cnt_app, cnt_cons, cnt_nil] at *; omega)
    refine M7.staM hj hvr hs7 (rRing.oone O7) fun h8 M8 => ?_
    rw [wrap64_succ (by omega)]
    refine ⟨⟨n + 1, ol ++ c7.toList, rest', BL ++ B7, rfl, by omega, ?_, RL2, M8.cnt' ?_ (fun p => by simp only [cnt_app, cnt_cons, cnt_nil] at *; omega)⟩, by show _ < _; simp; omega⟩
    · rw [take_snoc (by omega)]
      exact OL.append ⟨B7, [], c7.toList, [], by simp, by simp, O7, rfl, rfl⟩
    · simp
  obtain rfl : n = 4 := by omega
  have e4 : x.Loops.take 4 = x.Loops := by rw [← hL4]; exact List.take_length
  have e5 : rest = [] := by rw [List.drop_of_length_le (by omega)] at RL'; exact RL'
  subst e5
  rw [e4] at OL
  rw [List.nil_append] at M
  have O : rRoom.ow (BE ++ (BT ++ (BC ++ (BL ++ [])))) (cE.toList ++ ([.slice b' lT c'] ++ (own ++ (ol ++ vR)))) x :=
    ⟨BE, _, _, _, rfl, rfl, OE, BT, _, _, _, rfl, rfl, ⟨b', lT, c', rfl, OT⟩, BC, _, _, _, rfl, rfl, ⟨hC2, OC⟩, BL, [], _, _, rfl, rfl, ⟨hL4, OL⟩, oR⟩
  have hsz : (⟨cE.toList ++ ([.slice b' lT c'] ++ (own ++ (ol ++ vR)))⟩ : Array Value).size = 47 := osz (cs := ⟨_⟩) O rfl
  refine M.lda0 .here hsz ?_
  have M := M.cnt (W := (g3, T_impl_Room, ⟨Z_impl_Room⟩) :: (BE ++ (BT ++ (BC ++ (BL ++ []))))) (fun p => by simp only [cnt_app, cnt_cons, cnt_nil] at *; omega)
  refine M.sta0 .here hsz (rRoom.oone O) rfl .here fun h9 M => M.lda0 .here hsz ?_
  exact ⟨_, _, rfl, O, M.drop⟩
theorem l06Silence_c (n : Int) (hn : inR n 1 1024 = true) (h : Heap) : CALL prg f_spec_l06Silence #[.int .i64 n] (fun u h' => NewR rRing h h' u (silence n)) h := by
  have hr : 1 ≤ n ∧ n ≤ 1024 := by unfold inR at hn; simp only [Bool.and_eq_true, decide_eq_true_eq] at hn; exact hn
  obtain ⟨m, rfl⟩ := Int.eq_ofNat_of_zero_le (show 0 ≤ n by omega)
  refine spec_l06Silence.call ((Mem.start h).alc fun g1 h1 x1 M => make_floats M (by omega) fun g2 h2 x2 M O => ?_)
  have M := M.perm (.swap _ _ _)
  refine M.sta0 .here rfl (all_one rfl) rfl .here fun h3 M => M.lda0 .here rfl ?_
  exact ⟨_, _, rfl, ow_ring (r := silence m) O, M.drop⟩
theorem l05Muted_c {r : GRing} (R : RdP rRing h q r) (hl : r.Samples.length ≤ 1048576) : CALL prg f_spec_l05Muted #[.pointer (some q)] (fun u h' => NewR rRing h h' u r.mute) h := by
  refine spec_l05Muted.call ((Mem.start h).alc fun g1 h1 x1 M => ?_)
  have R1 := R.ext x1
  refine R1.oL1 fun b l c S => R1.oI ?_
  have hls := S.len
  refine make_floats M (by omega) fun g2 h2 x2 M O => R1.pinO (by decide) x2 ?_
  have M := M.perm (.swap _ _ _)
  refine M.sta0 .here rfl (all_one rfl) rfl .here fun h3 M => M.lda0 .here rfl ?_
  refine ⟨_, _, rfl, ow_ring (r := r.mute) (l := l) (c := l) ?_, M.drop⟩
  unfold GRing.mute
  rw [hls]
  exact O
end
end Go.Sx
/- The rings of a room, found one by one; rooms muted ring by ring. -/
set_option linter.unusedVariables false
set_option linter.unusedSimpArgs false
namespace Go.Sx
open Go.Proofs
set_option maxRecDepth 100000

theorem ok_small {x : GRoom} (h : x.ok = true) : x.small := by
  rw [room_ok] at h
  simp only [Bool.and_eq_true, decide_eq_true_eq, List.all_eq_true] at h
  obtain ⟨⟨⟨⟨⟨⟨⟨⟨h1, h2⟩, h3⟩, h4⟩, h5⟩, h6⟩, h7⟩, h8⟩, h9⟩ := h
  have k : ∀ r : GRing, r.okf = true → r.Samples.length ≤ 1048576 := fun r hr => by
    unfold GRing.okf at hr
    rw [Bool.and_eq_true] at hr
    have := at_lt hr.1
    omega
  refine ⟨k _ h1, by omega, fun c hc => ?_, fun r hr => k _ (h4 r hr)⟩
  have := h3 c hc
  unfold GComb.ok at this
  rw [Bool.and_eq_true] at this
  exact k _ this.1
def offR (n : Nat) : Nat := if n = 0 then 0 else if n < 3 then 3 + (n - 1) * 3 else 9 + (n - 3) * 2
def getR (x : GRoom) (n : Nat) : GRing := if n = 0 then x.Early else if n < 3 then x.Combs[n - 1]!.Ring else x.Loops[n - 3]!
def putR (x : GRoom) (n : Nat) (r : GRing) : GRoom := if n = 0 then { x with Early := r } else if n < 3 then { x with Combs := x.Combs.set (n - 1) { x.Combs[n - 1]! with Ring := r } } else { x with Loops := x.Loops.set (n - 3) r }
theorem foc_ring (n : Nat) (hn : n < 7) : Foc rRoom rRing (offR n) (fun a => getR a n) (fun a b => putR a n b) := by
  unfold offR getR putR
  by_cases h0 : n = 0
  · simp only [if_pos h0]; exact foc_Room_Early
  · by_cases h3 : n < 3
    · simp only [if_neg h0, if_pos h3]
      exact ((foc_comb (n - 1) (by omega)).trans foc_Comb_Ring).at (by omega)
    · simp only [if_neg h0, if_neg h3]
      exact foc_loop (n - 3) (by omega)
def muteN (x : GRoom) : Nat → GRoom
  | 0 => x
  | n + 1 => putR (muteN x n) n (getR (muteN x n) n).mute
theorem lt7 {n : Nat} (h : n < 7) : n = 0 ∨ n = 1 ∨ n = 2 ∨ n = 3 ∨ n = 4 ∨ n = 5 ∨ n = 6 := by omega
theorem muteN_get {x : GRoom} (hC : x.Combs.length = 2) (hL : x.Loops.length = 4) {n : Nat} (hn : n < 7) : getR (muteN x n) n = getR x n := by
  obtain ⟨a, b, e1⟩ := is2 hC
  obtain ⟨c, d, e, f, e2⟩ := is4 hL
  obtain ⟨E, T, C, Lo, D, G, dr, we⟩ := x
  subst e1 e2
  rcases lt7 hn with rfl | rfl | rfl | rfl | rfl | rfl | rfl <;> rfl
theorem muteN_all {x : GRoom} (hC : x.Combs.length = 2) (hL : x.Loops.length = 4) : muteN x 7 = { x with Early := x.Early.mute, Combs := x.Combs.map (fun c => { c with Ring := c.Ring.mute }), Loops := x.Loops.map GRing.mute } := by
  obtain ⟨a, b, e1⟩ := is2 hC
  obtain ⟨c, d, e, f, e2⟩ := is4 hL
  obtain ⟨E, T, C, Lo, D, G, dr, we⟩ := x
  subst e1 e2
  rfl
/-- Every ring of a room is of a size that can be copied. -/
theorem small_get {x : GRoom} (hs : x.small) (hC : x.Combs.length = 2) (hL : x.Loops.length = 4) {n : Nat} (hn : n < 7) : (getR x n).Samples.length ≤ 1048576 := by
  unfold getR
  split
  · exact hs.1
  · split
    · refine hs.2.2.1 _ ?_; rw [getElem!_pos _ (n - 1) (by omega)]; exact List.getElem_mem _
    · refine hs.2.2.2 _ ?_; rw [getElem!_pos _ (n - 3) (by omega)]; exact List.getElem_mem _
/-- The pointers to a room's rings. -/
def ringPs (q : Addr) : List Addr := q :: ((List.range 2).map (fun i => q.add (3 + i * 3)) ++ (List.range 4).map fun i => q.add (9 + i * 2))
theorem ringPs_get (q : Addr) {n : Nat} (hn : n < 7) : (ringPs q)[n]! = q.add (offR n) := by
  rcases lt7 hn with rfl | rfl | rfl | rfl | rfl | rfl | rfl <;> first | rfl | exact (add0 q).symm
theorem rings_c (h : Heap) (q : Addr) : CALL prg f_p_impl_Room_rings #[.pointer (some q)] (fun u h' => ∃ b c B, u = .slice b 7 c ∧ SlO T_p_impl_Ring rP B b 7 c (ringPs q) ∧ Mem h h' B) h := by
  have h7 : (7 : Nat) ≤ maxLen := by decide
  refine p_impl_Room_rings.call ((Mem.start h).alc fun g1 h1 x1 M => ?_)
  have O1 : SlO T_p_impl_Ring rP [(g1, T_p_impl_Ring, ⟨[.pointer (some q)]⟩)] (some ⟨g1, 0, none⟩) 1 1 [q] :=
    ⟨rfl, [.pointer (some q)], [_], [], rfl, ⟨rfl, .inr ⟨g1, _, rfl, rfl, Nat.le_refl _, by decide, rfl, rfl⟩⟩, [], [], [.pointer (some q)], [], rfl, rfl, ⟨rfl, rfl⟩, rfl, rfl⟩
  refine loop (fun y hh => ∃ (n : Nat) (b : Option Addr) (c : Nat) (B : List Blk), y = (q, b, 1 + n, c, (n : Int)) ∧ n ≤ 2 ∧ SlO T_p_impl_Ring rP B b (1 + n) c (q :: (List.range n).map fun i => q.add (3 + i * 3)) ∧ Mem h hh B) (fun y => (2 - y.2.2.2.2).toNat)
    ⟨0, _, _, _, rfl, by omega, O1, M⟩ ?_
  rintro y hh ⟨n, b, c, B, rfl, hn, O, M⟩
  refine brd (fun hc => ?_) fun hc => ?_
  · refine idx (by omega) (by omega) ?_
    rw [Int.toNat_natCast, add_add']
    refine push_own (Bn := []) (L := []) (x := q.add (3 + n * 3)) E_sl_p_impl_Ring O (by simpa using M) ⟨rfl, rfl⟩ (by omega) (by omega) fun b' c' h' B' O' M' => as_l ⟨⟨n + 1, b', c', B', ?_, by omega, ?_, by simpa using M'⟩, by rw [wrap64_succ (by omega)]; show _ < _; simp; omega⟩
    · rw [wrap64_succ (by omega)]; rfl
    · rw [List.range_succ, List.map_append]; exact O'
  obtain rfl : n = 2 := by omega
  refine loop (fun y hh => ∃ (n : Nat) (b : Option Addr) (c : Nat) (B : List Blk), y = (q, b, 3 + n, c, (n : Int)) ∧ n ≤ 4 ∧ SlO T_p_impl_Ring rP B b (3 + n) c (q :: ((List.range 2).map (fun i => q.add (3 + i * 3)) ++ (List.range n).map fun i => q.add (9 + i * 2))) ∧ Mem h hh B) (fun y => (4 - y.2.2.2.2).toNat)
    ⟨0, _, _, _, rfl, by omega, O, M⟩ ?_
  rintro y hh ⟨n, b, c, B, rfl, hn, O, M⟩
  refine brd (fun hc => ?_) fun hc => ?_
  · refine idx (by omega) (by omega) ?_
    rw [Int.toNat_natCast, add_add']
    refine push_own (Bn := []) (L := []) (x := q.add (9 + n * 2)) E_sl_p_impl_Ring O (by simpa using M) ⟨rfl, rfl⟩ (by omega) (by omega) fun b' c' h' B' O' M' => as_l ⟨⟨n + 1, b', c', B', ?_, by omega, ?_, by simpa using M'⟩, by rw [wrap64_succ (by omega)]; show _ < _; simp; omega⟩
    · rw [wrap64_succ (by omega)]; rfl
    · rw [List.range_succ (n := n), List.map_append, ← List.append_assoc]; exact O'
  obtain rfl : n = 4 := by omega
  exact ⟨b, c, B, rfl, O, M⟩
end Go.Sx
/- Rooms that run: what a step asks for, and that it leaves it so; lists changed place by place. -/
set_option linter.unusedVariables false
set_option linter.unusedSimpArgs false
namespace Go.Sx
open Go.Proofs
/-- What a step of a room asks for. -/
structure GRoom.Runs (x : GRoom) : Prop where
  e : x.Early.ok = true
  t : ∀ t ∈ x.Taps, inR t.Back 1 x.Early.len = true
  c : ∀ c ∈ x.Combs, c.Ring.ok = true
  l : ∀ r ∈ x.Loops, r.ok = true
  c2 : x.Combs.length = 2
  l4 : x.Loops.length = 4
  d4 : x.Damps.length = 4
  g4 : x.Gains.length = 4
theorem ok_runs {x : GRoom} (h : x.ok = true) (c2 : x.Combs.length = 2) (l4 : x.Loops.length = 4) (d4 : x.Damps.length = 4) (g4 : x.Gains.length = 4) : x.Runs := by
  rw [room_ok] at h
  simp only [Bool.and_eq_true, decide_eq_true_eq, List.all_eq_true] at h
  obtain ⟨⟨⟨⟨⟨⟨⟨⟨h1, h2⟩, h3⟩, h4⟩, h5⟩, h6⟩, h7⟩, h8⟩, h9⟩ := h
  have k : ∀ r : GRing, r.okf = true → r.ok = true := fun r hr => by
    unfold GRing.okf at hr
    rw [Bool.and_eq_true] at hr
    exact hr.1
  refine ⟨k _ h1, fun t ht => ?_, fun c hc => ?_, fun r hr => k _ (h4 r hr), c2, l4, d4, g4⟩
  · have := h6 t ht
    unfold GTap.ok at this
    rw [Bool.and_eq_true] at this
    exact this.1
  · have := h3 c hc
    unfold GComb.ok at this
    rw [Bool.and_eq_true] at this
    exact k _ this.1
theorem step_runs {x : GRoom} (R : x.Runs) (a : Nat) : (x.step a).1.Runs := by
  obtain ⟨re, rt, rc, rl, c2, l4, d4, g4⟩ := R
  have hp := push_ok (a := kept a) re
  refine ⟨hp.1, fun t ht => ?_, fun c hc => ?_, fun r hr => ?_, rfl, by simp [GRoom.step], by simp [GRoom.step], g4⟩
  · show inR t.Back 1 (x.Early.push (kept a)).len = true
    rw [hp.2]; exact rt t ht
  · have e : (x.step a).1.Combs = [(x.Combs[0]!.step (fadd .f32 a x.early)).1, (x.Combs[1]!.step (x.Combs[0]!.step (fadd .f32 a x.early)).2).1] := rfl
    rw [e] at hc
    have k : ∀ c : GComb, c.Ring.ok = true → ∀ b, (c.step b).1.Ring.ok = true := fun c hc b => (push_ok hc).1
    simp only [List.mem_cons, List.not_mem_nil, or_false] at hc
    rcases hc with rfl | rfl
    · exact k _ (rc _ (mem_get (by omega))) _
    · exact k _ (rc _ (mem_get (by omega))) _
  · unfold GRoom.step at hr
    simp only [List.mem_map, List.mem_range] at hr
    obtain ⟨i, hi, rfl⟩ := hr
    exact (push_ok (rl _ (mem_get (by omega)))).1
theorem play_runs {x : GRoom} (R : x.Runs) : ∀ l : List Nat, (x.play l).1.Runs
  | [] => R
  | a :: l => by
    induction l generalizing x a with
    | nil => exact step_runs R a
    | cons b l ih => exact ih (step_runs R a) b
theorem play_append (x : GRoom) (l : List Nat) (a : Nat) : x.play (l ++ [a]) = (((x.play l).1.step a).1, (x.play l).2 ++ [((x.play l).1.step a).2]) := by
  induction l generalizing x with
  | nil => rfl
  | cons b l ih => rw [List.cons_append]; simp only [GRoom.play]; rw [ih]; rfl
end Go.Sx
/- Rings that fall silent: the newest samples, how many of them are zero. -/
set_option linter.unusedVariables false
set_option linter.unusedSimpArgs false
namespace Go.Sx
open Go.Proofs
def isZ (a : Nat) : Bool := feq .f32 a 0
/-- The samples of a ring, the newest first. -/
def GRing.recent (r : GRing) : List Nat := (List.range r.Samples.length).map fun i : Nat => r.back ((i : Int) + 1)
/-- How many of the newest samples are zero. -/
def runL : List Nat → Nat
  | [] => 0
  | a :: l => if isZ a then runL l + 1 else 0
def GRing.quiet (r : GRing) : Nat := runL r.recent
theorem runL_le : ∀ l : List Nat, runL l ≤ l.length
  | [] => Nat.le_refl _
  | a :: l => by
    have := runL_le l
    unfold runL
    split
    · simp only [List.length_cons]; omega
    · simp
theorem runL_all : ∀ l : List Nat, (runL l = l.length) ↔ ∀ a ∈ l, isZ a = true
  | [] => by simp [runL]
  | a :: l => by
    have ih := runL_all l
    have hle := runL_le l
    unfold runL
    constructor
    · intro h
      split at h
      · next hz =>
        intro b hb
        rcases List.mem_cons.1 hb with rfl | hb
        · exact hz
        · exact ih.1 (by simp only [List.length_cons] at h; omega) b hb
      · simp at h
    · intro h
      rw [if_pos (h a (List.mem_cons_self ..)), ih.2 fun b hb => h b (List.mem_cons_of_mem _ hb)]
      rfl
theorem recent_len (r : GRing) : r.recent.length = r.Samples.length := by simp [GRing.recent]
/-- The place of the sample that came k samples ago. -/
theorem back_place {r : GRing} (h : r.ok = true) {i : Nat} (hi : i < r.Samples.length) : r.back ((i : Int) + 1) = r.Samples[(if i < r.At.toNat then r.At.toNat - 1 - i else r.At.toNat + r.Samples.length - 1 - i)]! := by
  obtain ⟨k1, k2, k3, k4, k5⟩ := at_lt h
  unfold GRing.back
  have hl : r.len = r.Samples.length := rfl
  congr 1
  rw [hl]
  split
  · next hlt =>
    rw [show r.At - ((i : Int) + 1) + (r.Samples.length : Int) = (r.At - 1 - i) + r.Samples.length by omega, Int.add_emod_right, Int.emod_eq_of_lt (by omega) (by omega)]
    omega
  · next hge =>
    rw [Int.emod_eq_of_lt (by omega) (by omega)]
    omega
theorem recent_mem {r : GRing} (h : r.ok = true) (a : Nat) : a ∈ r.recent ↔ a ∈ r.Samples := by
  obtain ⟨k1, k2, k3, k4, k5⟩ := at_lt h
  unfold GRing.recent
  simp only [List.mem_map, List.mem_range]
  constructor
  · rintro ⟨i, hi, rfl⟩
    rw [back_place h hi]
    refine mem_get ?_
    split <;> omega
  · intro ha
    obtain ⟨j, hj, rfl⟩ := List.mem_iff_getElem.1 ha
    by_cases hlt : j < r.At.toNat
    · refine ⟨r.At.toNat - 1 - j, by omega, ?_⟩
      rw [back_place h (by omega), if_pos (by omega), show r.At.toNat - 1 - (r.At.toNat - 1 - j) = j by omega, getElem!_pos _ j hj]
    · refine ⟨r.At.toNat + r.Samples.length - 1 - j, by omega, ?_⟩
      rw [back_place h (by omega), if_neg (by omega), show r.At.toNat + r.Samples.length - 1 - (r.At.toNat + r.Samples.length - 1 - j) = j by omega, getElem!_pos _ j hj]
theorem quiet_zero {r : GRing} (h : r.ok = true) : (r.quiet = r.Samples.length) ↔ r.zero = true := by
  unfold GRing.quiet GRing.zero
  rw [← recent_len r, runL_all, List.all_eq_true]
  exact ⟨fun H a ha => H a ((recent_mem h a).2 ha), fun H a ha => H a ((recent_mem h a).1 ha)⟩
end Go.Sx
/- Steps: rings read back, combs, four samples mixed; blocks written beside own data. -/
set_option linter.unusedVariables false
set_option linter.unusedSimpArgs false
namespace Go.Sx
open Go.Proofs
set_option maxRecDepth 100000
set_option maxHeartbeats 400000

section
variable {h0 h : Heap} {q : Addr} {F : Fr} {L : List Blk} {x a : Nat}
theorem tmod_back {r : GRing} (hr : r.ok = true) {k : Int} (hk : inR k 1 r.len = true) {l : Nat} (hl : r.Samples.length = l) :
    Int.tmod (IntKind.i64.wrap (IntKind.i64.wrap (r.At + (l : Int)) - k)) (l : Int) = (r.At - k + r.len) % r.len ∧ 0 ≤ (r.At - k + r.len) % r.len ∧ (r.At - k + r.len) % r.len < (l : Int) := by
  have := at_lt hr
  have e : r.len = (l : Int) := by unfold GRing.len; rw [hl]
  rw [e] at hk ⊢
  unfold inR at hk
  simp only [Bool.and_eq_true, decide_eq_true_eq] at hk
  refine ⟨?_, Int.emod_nonneg _ (by omega), Int.emod_lt_of_pos _ (by omega)⟩
  rw [wrap64 (n := r.At + l) (by omega) (by omega), wrap64 (by omega) (by omega), Int.tmod_eq_emod_of_nonneg (by omega), show r.At + (l : Int) - k = r.At - k + l by omega]
theorem tmod_back' {r : GRing} (hr : r.ok = true) {k : Int} (hk : inR k 1 r.len = true) {l : Nat} (hl : r.Samples.length = l) :
    Int.tmod (IntKind.i64.wrap (IntKind.i64.wrap (r.At - k) + (l : Int))) (l : Int) = (r.At - k + r.len) % r.len := by
  have := at_lt hr
  have e : r.len = (l : Int) := by unfold GRing.len; rw [hl]
  rw [e] at hk ⊢
  unfold inR at hk
  simp only [Bool.and_eq_true, decide_eq_true_eq] at hk
  rw [wrap64 (n := r.At - k) (by omega) (by omega), wrap64 (by omega) (by omega), Int.tmod_eq_emod_of_nonneg (by omega)]
theorem l02Back_c {r : GRing} (R : RdP rRing h q r) (hr : r.ok = true) {k : Int} (hk : inR k 1 r.len = true) :
    CALL prg f_spec_l02Back #[.pointer (some q), .int .i64 k] (fun u h' => (∃ y, u = .float .f32 y ∧ FW .f32 y (r.back k)) ∧ Ext h h') h := by
  have h1 := at_lt hr
  refine spec_l02Back.call (R.oL1 fun b l c S => R.oL1 fun b' l' c' S' => R.oI ?_)
  obtain ⟨e, e1, e2⟩ := tmod_back hr hk S.len
  have hl := S.len
  have hl' := S'.len
  refine nz (by omega) ?_
  rw [e]
  exact S'.idx (by decide) e1 (by omega) fun p Rp => Rp.oF1 fun y hy => ⟨⟨y, rfl, hy⟩, Ext.refl _⟩
theorem Ring_back_c {cs : Array Value} {r : GRing} (R0 : rRing.rd h cs.toList r) (hr : r.ok = true) {k : Int} (hk : inR k 1 r.len = true) :
    CALL prg f_impl_Ring_back #[.agg cs, .int .i64 k] (fun u h' => (∃ y, u = .float .f32 y ∧ FW .f32 y (r.back k)) ∧ Ext h h') h := by
  have h1 := at_lt hr
  refine impl_Ring_back.call (alcR R0 fun g h1 x1 R => R.oL2 fun b l c S => goX (length_f32_c _ _ _ _) fun h2 x2 => as_i ((R.ext x2).oL2 fun b' l' c' S' => (R.ext x2).oI2 ?_))
  have e := tmod_back' hr hk S.len
  obtain ⟨_, e1, e2⟩ := tmod_back hr hk S.len
  have hl := S.len
  have hl' := S'.len
  refine nz (by omega) ?_
  rw [e]
  exact S'.idx (by decide) e1 (by omega) fun p Rp => Rp.oF1 fun y hy => ⟨⟨y, rfl, hy⟩, x1.trans x2⟩
/-- What a step of a comb leaves. -/
def CStep (h0 h' : Heap) (q : Addr) (F : Fr) (L : List Blk) (c : GComb) (a : Nat) (u : Value) : Prop := (∃ y, u = .float .f32 y ∧ FW .f32 y (c.step a).2) ∧ Pt rComb h0 h' q F L (c.step a).1
theorem CStep.of {c c' : GComb} {b y : Nat} (e : c.step a = (c', b)) (hy : FW .f32 y b) (P : Pt rComb h0 h q F L c') : CStep h0 h q F L c a (.float .f32 y) := by
  unfold CStep
  rw [e]
  exact ⟨⟨y, rfl, hy⟩, P⟩
theorem comb_eq (c : GComb) (a : Nat) : c.step a = ({ c with Ring := c.Ring.push (kept (fadd .f32 a (fmul .f32 c.Gain c.Ring.old))) }, fsub .f32 c.Ring.old (fmul .f32 c.Gain (fadd .f32 a (fmul .f32 c.Gain c.Ring.old)))) := rfl
theorem l06StepComb_c {c : GComb} (P : Pt rComb h0 h q F L c) (hr : c.Ring.ok = true) (hx : FW .f32 x a) : CALL prg f_spec_l06StepComb #[.pointer (some q), .float .f32 x] (fun u h' => CStep h0 h' q F L c a u) h := by
  have R := P.rd
  obtain ⟨k1, k2, k3, k4, k5⟩ := at_lt hr
  refine spec_l06StepComb.call (R.oL1 fun b l cc S => R.oI ?_)
  have hl := S.len
  refine S.idx (by decide) k1 (by omega) fun p Rp => Rp.oF1 fun y hy => R.oF fun z hz => fM hz hy fun w1 hw1 => fA hx hw1 fun w2 hw2 => ?_
  refine (l02Kept_c hw2).go fun h1 y1 x1 hy1 => as_f ?_
  obtain ⟨F', L', P', hs, close⟩ := (P.grow x1).foc foc_Comb_Ring
  rw [add0] at P' close
  refine (l02Push_c P' hr hy1).mono ?_
  rintro _ h2 ⟨⟨y2, rfl, hy2⟩, P2⟩
  have P3 := close _ _ _ P2
  refine as_f (P3.rd.oF fun z2 hz2 => fM hz2 hw2 fun w3 hw3 => fS hy hw3 fun w4 hw4 => ?_)
  exact CStep.of (comb_eq c a) hw4 P3
theorem Comb_step_c {c : GComb} (P : Pt rComb h0 h q F L c) (hr : c.Ring.ok = true) (hx : FW .f32 x a) : CALL prg f_p_impl_Comb_step #[.pointer (some q), .float .f32 x] (fun u h' => CStep h0 h' q F L c a u) h := by
  have R := P.rd
  refine p_impl_Comb_step.call ((R.fst foc_Comb_Ring).lda1 rfl fun cs Rc => (oldest_c Rc hr).mono ?_)
  rintro _ h1 ⟨⟨y, rfl, hy⟩, x1⟩
  have P := P.grow x1
  have R := P.rd
  refine as_f (R.oF fun z hz => fM hz hy fun w1 hw1 => fA hx hw1 fun w2 hw2 => ?_)
  refine (kept_c hw2).go fun h1 y1 x1 hy1 => as_f ?_
  obtain ⟨F', L', P', hs, close⟩ := (P.grow x1).foc foc_Comb_Ring
  rw [add0] at P' close
  refine (Ring_push_c P' hr hy1).mono ?_
  rintro _ h2 ⟨⟨y2, rfl, hy2⟩, P2⟩
  have P3 := close _ _ _ P2
  refine as_f (P3.rd.oF fun z2 hz2 => fM hz2 hw2 fun w3 hw3 => fS hy hw3 fun w4 hw4 => ?_)
  exact CStep.of (comb_eq c a) hw4 P3
/-- Four samples answered. -/
def Four (h h' : Heap) (u : Value) (xs : List Nat) : Prop := ∃ cs : Array Value, u = .agg cs ∧ (rArr 4 (rF .f32)).rd h' cs.toList xs ∧ Ext h h'
theorem four_rd {y0 y1 y2 y3 a0 a1 a2 a3 : Nat} (h0 : FW .f32 y0 a0) (h1 : FW .f32 y1 a1) (h2 : FW .f32 y2 a2) (h3 : FW .f32 y3 a3) : (rArr 4 (rF .f32)).rd h [.float .f32 y0, .float .f32 y1, .float .f32 y2, .float .f32 y3] [a0, a1, a2, a3] :=
  ⟨rfl, [_], _, rfl, ⟨_, rfl, h0⟩, [_], _, rfl, ⟨_, rfl, h1⟩, [_], _, rfl, ⟨_, rfl, h2⟩, [_], _, rfl, ⟨_, rfl, h3⟩, rfl⟩
theorem fwhalf : FW .f32 1056964608 half := fw_c32 (by decide) (by decide)
theorem four_out {g3 : Nat} {r0 : List Blk} {xs : List Nat} {y0 y1 y2 y3 : Nat} (M : Mem h0 h ((g3, T_4_float32, ⟨Z_4_float32⟩) :: r0)) (e : ∀ h, (rArr 4 (rF .f32)).rd h [.float .f32 y0, .float .f32 y1, .float .f32 y2, .float .f32 y3] xs) :
    STA 4 h ⟨g3, 0, none⟩ ⟨[.float .f32 y0, .float .f32 y1, .float .f32 y2, .float .f32 y3]⟩ fun h25 => LDA 4 h25 ⟨g3, 0, none⟩ fun a26 => Four h0 h25 (.agg a26) xs :=
  M.sta0 .here rfl (all_one rfl) rfl .here fun h3 M => M.lda0 .here rfl ⟨_, rfl, e _, M.ext⟩
theorem spec_MixFour_c {cs : Array Value} {xs : List Nat} (R0 : (rArr 4 (rF .f32)).rd h cs.toList xs) : CALL prg f_spec_MixFour #[.agg cs] (fun u h' => Four h h' u (mixFour xs)) h := by
  refine spec_MixFour.call ((Mem.start h).alc fun g1 h1 x1 M => M.alc fun g3 h2 x2 M => ?_)
  have R : RdP (rArr 4 (rF .f32)) h2 ⟨g1, 0, none⟩ xs := M.rdp (.there .here) ((rArr 4 (rF .f32)).ext M.ext R0)
  refine idx (by omega) (by omega) (R.oF1 fun y1 k1 => idx (by omega) (by omega) (R.oF2 fun y2 k2 => fA k1 k2 fun z1 j1 => idx (by omega) (by omega) (R.oF1 fun y3 k3 => idx (by omega) (by omega) (R.oF2 fun y4 k4 => fS k3 k4 fun z2 j2 => ?_))))
  refine idx (by omega) (by omega) (R.oF2 fun y5 k5 => idx (by omega) (by omega) (R.oF2 fun y6 k6 => fA k5 k6 fun z3 j3 => idx (by omega) (by omega) (R.oF2 fun y7 k7 => idx (by omega) (by omega) (R.oF2 fun y8 k8 => fS k7 k8 fun z4 j4 => ?_))))
  exact fA j1 j3 fun z5 j5 => fM fwhalf j5 fun z6 j6 => fA j2 j4 fun z7 j7 => fM fwhalf j7 fun z8 j8 => fS j1 j3 fun z9 j9 => fM fwhalf j9 fun z10 j10 => fS j2 j4 fun z11 j11 => fM fwhalf j11 fun z12 j12 => four_out M fun _ => four_rd j6 j8 j10 j12
theorem impl_MixFour_c {cs : Array Value} {xs : List Nat} (R0 : (rArr 4 (rF .f32)).rd h cs.toList xs) : CALL prg f_impl_MixFour #[.agg cs] (fun u h' => Four h h' u (mixFour xs)) h := by
  refine impl_MixFour.call ((Mem.start h).alc fun g1 h1 x1 M => M.alc fun g3 h2 x2 M => ?_)
  have R : RdP (rArr 4 (rF .f32)) h2 ⟨g1, 0, none⟩ xs := M.rdp (.there .here) ((rArr 4 (rF .f32)).ext M.ext R0)
  refine idx (by omega) (by omega) (R.oF1 fun y1 k1 => idx (by omega) (by omega) (R.oF2 fun y2 k2 => idx (by omega) (by omega) (R.oF1 fun y3 k3 => idx (by omega) (by omega) (R.oF2 fun y4 k4 => ?_))))
  refine idx (by omega) (by omega) (R.oF2 fun y5 k5 => idx (by omega) (by omega) (R.oF2 fun y6 k6 => idx (by omega) (by omega) (R.oF2 fun y7 k7 => idx (by omega) (by omega) (R.oF2 fun y8 k8 => ?_))))
  have fin : ∀ {z1 z2 z3 z4 : Nat}, FW .f32 z1 (fadd .f32 xs[0]! xs[1]!) → FW .f32 z2 (fsub .f32 xs[0]! xs[1]!) → FW .f32 z3 (fadd .f32 xs[2]! xs[3]!) → FW .f32 z4 (fsub .f32 xs[2]! xs[3]!) →
      FOP .f32 (FloatKind.f32.format.add z1 z3) fun r17 => FOP .f32 (FloatKind.f32.format.mul 1056964608 r17) fun r18 => FOP .f32 (FloatKind.f32.format.add z2 z4) fun r19 => FOP .f32 (FloatKind.f32.format.mul 1056964608 r19) fun r20 =>
      FOP .f32 (FloatKind.f32.format.sub z1 z3) fun r21 => FOP .f32 (FloatKind.f32.format.mul 1056964608 r21) fun r22 => FOP .f32 (FloatKind.f32.format.sub z2 z4) fun r23 => FOP .f32 (FloatKind.f32.format.mul 1056964608 r23) fun r24 =>
      STA 4 h2 ⟨g3, 0, none⟩ ⟨[.float .f32 r18, .float .f32 r20, .float .f32 r22, .float .f32 r24]⟩ fun h25 => LDA 4 h25 ⟨g3, 0, none⟩ fun a26 => Four h h25 (.agg a26) (mixFour xs) := fun j1 j2 j3 j4 =>
    fA j1 j3 fun z5 j5 => fM fwhalf j5 fun z6 j6 => fA j2 j4 fun z7 j7 => fM fwhalf j7 fun z8 j8 => fS j1 j3 fun z9 j9 => fM fwhalf j9 fun z10 j10 => fS j2 j4 fun z11 j11 => fM fwhalf j11 fun z12 j12 => four_out M fun _ => four_rd j6 j8 j10 j12
  (repeat' (first
    | refine pin_same ?_
    | refine And.intro ?_ ?_
    | exact fin (by assumption) (by assumption) (by assumption) (by assumption)
    | refine fA (by assumption) (by assumption) fun _ _ => ?_
    | refine fS (by assumption) (by assumption) fun _ _ => ?_))
end
end Go.Sx
/- Rings and filters that are silent, as the program tells them. -/
set_option linter.unusedVariables false
set_option linter.unusedSimpArgs false
namespace Go.Sx
open Go.Proofs
set_option maxRecDepth 100000
set_option maxHeartbeats 1000000

section
variable {h : Heap} {q : Addr}
theorem ordZ {y a : Nat} (hy : FW .f32 y a) : (FloatKind.f32.format.order y 0 == some .eq) = isZ a := by rw [ord_eq hy fw0]; rfl
theorem ordN {y a : Nat} (hy : FW .f32 y a) : (FloatKind.f32.format.order y 0 != some .eq) = !isZ a := by rw [bne, ordZ hy]
theorem Filter_isStill_c {cs : Array Value} {f : GFilter} (R0 : rFilter.rd h cs.toList f) : CALL prg f_impl_Filter_isStill #[.agg cs] (fun u h' => u = .bool f.still ∧ Ext h h') h := by
  refine impl_Filter_isStill.call (alcR R0 fun g h1 x1 R => idx (by omega) (by omega) (R.oF2 fun y hy => ?_))
  rw [ordZ hy]
  refine br (fun hb => idx (by omega) (by omega) (R.oF2 fun z hz => ?_)) fun hb => ?_
  · rw [ordZ hz]
    refine ⟨?_, x1⟩
    have hb : feq .f32 f.S[0]! 0 = true := hb
    unfold GFilter.still; rw [hb]; rfl
  · refine ⟨?_, x1⟩
    have hb : feq .f32 f.S[0]! 0 = false := hb
    unfold GFilter.still; rw [hb]; rfl
theorem runL_lt {l : List Nat} {n : Nat} (hn : n < l.length) (h1 : ∀ i, i < n → isZ l[i]! = true) (h2 : isZ l[n]! = false) : runL l = n := by
  induction l generalizing n with
  | nil => simp at hn
  | cons a l ih =>
    cases n with
    | zero => unfold runL; rw [show isZ a = false from h2]; rfl
    | succ n =>
      unfold runL
      rw [if_pos (show isZ a = true from h1 0 (by omega)), ih (by simpa using hn) (fun i hi => h1 (i + 1) (by omega)) h2]
theorem recent_get {r : GRing} {i : Nat} (hi : i < r.Samples.length) : r.recent[i]! = r.back ((i : Int) + 1) := by
  rw [List.getElem!_eq_getElem?_getD]
  unfold GRing.recent
  rw [List.getElem?_map, List.getElem?_range hi]; rfl
theorem Ring_quiet_c {cs : Array Value} {r : GRing} (R0 : rRing.rd h cs.toList r) (hr : r.ok = true) : CALL prg f_impl_Ring_quiet #[.agg cs] (fun u h' => u = .int .i64 (r.quiet : Int) ∧ Ext h h') h := by
  have h1 := at_lt hr
  have hlen : r.len = r.Samples.length := rfl
  refine impl_Ring_quiet.call (alcR R0 fun g h1 x1 R => R.oL2 fun b l c S => goX (length_f32_c _ _ _ _) fun h2 x2 => as_i ?_)
  have hl : r.Samples.length = l := S.len
  have R := R.ext x2
  refine loop (fun y hh => ∃ n : Nat, y = (⟨g, 0, none⟩, (l : Int), (n : Int) + 1) ∧ n ≤ l ∧ Ext h2 hh ∧ ∀ i, i < n → isZ r.recent[i]! = true) (fun y => (l + 1 - y.2.2).toNat) ⟨0, rfl, by omega, Ext.refl _, fun i hi => by omega⟩ ?_
  rintro y hh ⟨n, rfl, hn, X, hz⟩
  refine brd (fun hc => ?_) fun hc => ?_
  · refine (R.ext X).lda1 rfl fun cs' Rc => (Ring_back_c Rc hr (k := (n : Int) + 1) (by unfold inR; simp only [Bool.and_eq_true, decide_eq_true_eq]; omega)).mono ?_
    rintro _ h3 ⟨⟨y, rfl, hy⟩, x3⟩
    refine as_f ?_
    rw [ordN hy]
    refine br (fun hb => ?_) fun hb => ?_
    · refine ⟨?_, ((x1.trans x2).trans X).trans x3⟩
      have : r.quiet = n := runL_lt (by rw [recent_len]; omega) hz (by rw [recent_get (by omega)]; exact nt hb)
      rw [this, wrap64 (by omega) (by omega)]
      congr 1; omega
    · refine ⟨⟨n + 1, by rw [wrap64 (n := (n : Int) + 1 + 1) (by omega) (by omega)]; rfl, by omega, X.trans x3, fun i hi => ?_⟩, by rw [wrap64 (n := (n : Int) + 1 + 1) (by omega) (by omega)]; show _ < _; simp; omega⟩
      by_cases e : i = n
      · subst e; rw [recent_get (by omega)]; exact nf hb
      · exact hz i (by omega)
  · obtain rfl : n = l := by omega
    refine ⟨?_, (x1.trans x2).trans X⟩
    have : r.quiet = n := by
      rw [← hl]
      unfold GRing.quiet
      rw [← recent_len r, runL_all]
      intro a ha
      obtain ⟨j, hj, rfl⟩ := List.mem_iff_getElem.1 ha
      have := hz j (by rw [recent_len] at hj; omega)
      rwa [getElem!_pos _ j hj] at this
    rw [this]
end
end Go.Sx
/- Rooms that are silent, as the program tells them. -/
set_option linter.unusedVariables false
set_option linter.unusedSimpArgs false
namespace Go.Sx
open Go.Proofs
set_option maxRecDepth 100000
set_option maxHeartbeats 1000000

section
variable {h : Heap} {q : Addr} {x : GRoom}
def GRoom.stillD (x : GRoom) : Bool := x.Damps.all GFilter.still
def GRoom.zeroR (x : GRoom) : Bool := x.Early.zero && x.Combs.all (fun c => c.Ring.zero) && x.Loops.all GRing.zero
theorem zero_eq (x : GRoom) : x.zero = (x.zeroR && x.stillD) := rfl
theorem Room_isStill_c (R : RdP rRoom h q x) : CALL prg f_p_impl_Room_isStill #[.pointer (some q)] (fun u h' => u = .bool x.stillD ∧ Ext h h') h := by
  have hD : x.Damps.length = 4 := (R.foc foc_Room_Damps).len
  refine p_impl_Room_isStill.call (R.lda foc_Room_Damps rfl fun cD RD => ?_)
  refine loop (fun y hh => ∃ n : Nat, y = (cD, (n : Int)) ∧ n ≤ 4 ∧ Ext h hh ∧ ∀ i, i < n → x.Damps[i]!.still = true) (fun y => (4 - y.2).toNat) ⟨0, rfl, by omega, Ext.refl _, fun i hi => by omega⟩ ?_
  rintro y hh ⟨n, rfl, hn, X, hz⟩
  refine brd (fun hc => ?_) fun hc => ?_
  · have Rn : rFilter.rd h (cD.extract (n * 6) (n * 6 + 6)).toList x.Damps[n]! := rd_part RD (Foc.arr rFilter n (by omega)) rfl
    refine idx (by omega) (by omega) ((Mem.start hh).alc fun g2 h8 x8 M => M.sta0 .here (rsz Rn rfl) (rFilter.rone Rn) rfl .here fun h9 M => M.lda0 .here (rsz Rn rfl) ?_)
    have X9 := X.trans M.ext
    refine goX (Filter_isStill_c (rFilter.ext X9 Rn)) fun h10 x10 => as_b (br (fun hb => ⟨?_, X9.trans x10⟩) fun hb => ?_)
    · have : x.stillD = false := by unfold GRoom.stillD; rw [all_range, all_false (f := fun i => x.Damps[i]!.still) (i := n) (by omega) (nt hb)]
      rw [this]
    · refine ⟨⟨n + 1, by rw [wrap64_succ (by omega)], by omega, X9.trans x10, fun i hi => ?_⟩, by rw [wrap64_succ (by omega)]; show _ < _; simp; omega⟩
      by_cases e : i = n
      · subst e; exact nf hb
      · exact hz i (by omega)
  · refine ⟨?_, X⟩
    unfold GRoom.stillD; rw [all_range, all_true fun i hi => hz i (by omega)]
end
end Go.Sx
