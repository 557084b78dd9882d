/- Rooms copied by the program; silent rings. -/
import Derived.Test.YthgnpepchedpbaaGreatLk7
set_option linter.unusedVariables false
set_option linter.unusedSimpArgs false
namespace Go.Sx
open Go.Proofs
set_option maxRecDepth 100000

section
variable {h : Heap} {q : Addr}
theorem Clone_Tap_c {b : Option Addr} {l c : Nat} {xs : List GTap} (S : SlR rTap h b l c xs) (hl : l ≤ 1048576) :
    CALL prg f_slices_Clone_sl_impl_Tap_impl_Tap #[.slice b l c] (fun u h' => ∃ b' c' B, u = .slice b' l c' ∧ SlO T_impl_Tap rTap B b' l c' xs ∧ Mem h h' B) h := by
  refine slices_Clone_sl_impl_Tap_impl_Tap.call (cmp_nil U_sl_impl_Tap (br (fun hb => ?_) fun hb => ?_))
  · obtain rfl : b = none := by simpa using hb
    obtain ⟨rfl, rfl⟩ := slr_none tap_sz S
    exact ⟨none, 0, [], rfl, SlO.nil, Mem.start h⟩
  · refine (Mem.start h).alc fun g h1 x1 M => ?_
    exact append_copy E_sl_impl_Tap tap_sz flat_Tap (S.ext x1) M (by omega) fun b' c' h' B' O' M' => as_l ⟨b', c', B', rfl, O', by simpa using M'⟩
theorem Room_clone_c {cs : Array Value} {x : GRoom} (R0 : rRoom.rd h cs.toList x) (hs : x.small) : CALL prg f_impl_Room_clone #[.agg cs] (fun u h' => NewR rRoom h h' u x) h := by
  obtain ⟨vE, v1, e1, RE, vT, v2, rfl, RT, vC, v3, rfl, RC, vL, vR, rfl, RL, RR⟩ := R0
  obtain ⟨bT, lT, cT, rfl, ST⟩ := RT
  dsimp only at RE ST RC RL RR
  have hE : vE.length = 2 := rRing.rlen RE
  have hC2 : x.Combs.length = 2 := RC.1
  have hL4 : x.Loops.length = 4 := RL.1
  have eC : cs = ⟨vE ++ ([.slice bT lT cT] ++ (vC ++ (vL ++ vR)))⟩ := by cases cs; simpa using e1
  have hlt := ST.len
  have lC : vC.length = 6 := (rArr 2 rComb).rlen RC
  have lL : vL.length = 8 := (rArr 4 rRing).rlen RL
  have oR := (flat_seq (flat_arr 4 (flat_via (flat_seq (flat_I .i64) (flat_seq (flat_arr 3 (flat_F .f32)) (flat_arr 2 (flat_F .f32)))))) (flat_seq (flat_arr 4 (flat_F .f32)) (flat_seq (flat_F .f32) (flat_F .f32)))) h vR (x.Damps, x.Gains, x.Dry, x.Wet) RR
  subst eC
  refine impl_Room_clone.call ((Mem.start h).alc fun g1 h1 x1 M => M.alc fun g3 h2 x2 M => ?_)
  have M1 : Mem h h2 ((g1, T_impl_Room, ⟨[] ++ (vE ++ ([.slice bT lT cT] ++ (vC ++ (vL ++ vR))))⟩) :: [(g3, T_impl_Room, ⟨Z_impl_Room⟩)]) := M.perm (.swap _ _ _)
  refine M1.ldaM rfl hE ?_
  have X2 := M1.ext
  refine o_l (M1.cellM (pre := vE) (u := .slice bT lT cT) hE) ?_
  refine NewR.go (Mem.start h2) (Ring_clone_c (rRing.ext X2 RE) hs.1) fun h3 cE BE N3 OE hsE => as_a (pin1 N3.ext (M1.cellM (pre := vE) (u := .slice bT lT cT) hE) ?_)
  have hsE : cE.size = 2 := hsE
  have M3 := M1.join N3
  have hT1 := hs.2.1
  refine (Clone_Tap_c (ST.ext M3.ext) (by omega)).mono ?_
  rintro _ h4 ⟨b', c', BT, rfl, OT, N⟩
  refine as_l ?_
  have M4 : Mem h h4 ((g1, T_impl_Room, ⟨[] ++ (vE ++ ([.slice bT lT cT] ++ (vC ++ (vL ++ vR))))⟩) :: (BE ++ (BT ++ [(g3, T_impl_Room, ⟨Z_impl_Room⟩)]))) := (M3.join N).cnt (fun p => by simp only [cnt_app, cnt_cons, cnt_nil] at *; omega)
  refine M4.staM rfl hE hsE (rRing.oone OE) fun h5 M5 => ?_
  have hcE : cE.toList.length = 2 := sizeL hsE
  refine M5.st1M (pre := cE.toList) (u := .slice bT lT cT) (post := vC ++ (vL ++ vR)) hcE fun h6 M6 => ?_
  refine loop (fun y hh => ∃ (n : Nat) (own rest : List Value) (BC : List Blk), y = (⟨g1, 0, none⟩, ⟨g3, 0, none⟩, (n : Int)) ∧ n ≤ 2 ∧ ows rComb BC own (x.Combs.take n) ∧ rds rComb h rest (x.Combs.drop n) ∧
    Mem h hh ((g1, T_impl_Room, ⟨cE.toList ++ ([.slice b' lT c'] ++ (own ++ (rest ++ (vL ++ vR))))⟩) :: (BC ++ (BE ++ (BT ++ [(g3, T_impl_Room, ⟨Z_impl_Room⟩)]))))) (fun y => (2 - y.2.2).toNat) ⟨0, [], vC, [], rfl, by omega, ⟨rfl, rfl⟩, by simpa using RC.2, by simpa using M6⟩ ?_
  rintro y hh ⟨n, own, rest, BC, rfl, hn, OC, RC', M⟩
  refine brd (fun hc => ?_) fun hc => ?_
  · have hown : own.length = n * 3 := by rw [OC.len, List.length_take, sz_Comb]; omega
    rw [drop_cons (by omega)] at RC'
    obtain ⟨v1, rest', rfl, RC1, RC2⟩ := RC'
    obtain ⟨vr, vg, rfl, Rr, Rg⟩ := RC1
    have hvr : vr.length = 2 := rRing.rlen Rr
    have M : Mem h hh ((g1, T_impl_Room, ⟨(cE.toList ++ ([.slice b' lT c'] ++ own)) ++ (vr ++ (vg ++ (rest' ++ (vL ++ vR))))⟩) :: (BC ++ (BE ++ (BT ++ [(g3, T_impl_Room, ⟨Z_impl_Room⟩)])))) := by simpa using M
    have hj : (cE.toList ++ ([Value.slice b' lT c'] ++ own)).length = 3 + n * 3 := by simp only [List.length_append, List.length_singleton]; omega
    refine idx (by omega) (by omega) ?_
    rw [add_none, add_none, Int.toNat_natCast, Nat.zero_add]
    refine M.ldaM hj hvr ?_
    refine NewR.go M (Ring_clone_c (rRing.ext M.ext Rr) (hs.2.2.1 _ (by rw [getElem!_pos _ n (by omega)]; exact List.getElem_mem _))) fun h7 c7 B7 M7 O7 hs7 => as_a (idx (by omega) (by omega) ?_)
    have hs7 : c7.size = 2 := hs7
    have M7 : Mem h h7 ((g1, T_impl_Room, ⟨(cE.toList ++ ([.slice b' lT c'] ++ own)) ++ (vr ++ (vg ++ (rest' ++ (vL ++ vR))))⟩) :: (B7 ++ (BC ++ (BE ++ (BT ++ [(g3, T_impl_Room, ⟨Z_impl_Room⟩)]))))) := M7.cnt (fun p => by simp only [cnt_app, cnt_cons, cnt_nil] at *; omega)
    refine M7.staM hj hvr hs7 (rRing.oone O7) fun h8 M8 => ?_
    rw [wrap64_succ (by omega)]
    refine ⟨⟨n + 1, own ++ (c7.toList ++ vg), rest', BC ++ B7, rfl, by omega, ?_, RC2, M8.cnt' ?_ (fun p => by simp only [cnt_app, cnt_cons, cnt_nil] at *; omega)⟩, by show _ < _; simp; omega⟩
    · rw [take_snoc (by omega)]
      refine OC.append ⟨B7, [], c7.toList ++ vg, [], by simp, by simp, ⟨B7, [], _, _, by simp, rfl, O7, flat_F _ _ _ _ Rg⟩, rfl, rfl⟩
    · simp
  obtain rfl : n = 2 := by omega
  have e2 : x.Combs.take 2 = x.Combs := by rw [← hC2]; exact List.take_length
  have e3 : rest = [] := by rw [List.drop_of_length_le (by omega)] at RC'; exact RC'
  subst e3
  rw [e2] at OC
  have hown : own.length = 6 := by rw [OC.len, sz_Comb]; omega
  rw [List.nil_append] at M
  refine loop (fun y hh => ∃ (n : Nat) (ol rest : List Value) (BL : List Blk), y = (⟨g1, 0, none⟩, ⟨g3, 0, none⟩, (n : Int)) ∧ n ≤ 4 ∧ ows rRing BL ol (x.Loops.take n) ∧ rds rRing h rest (x.Loops.drop n) ∧
    Mem h hh ((g1, T_impl_Room, ⟨cE.toList ++ ([.slice b' lT c'] ++ (own ++ (ol ++ (rest ++ vR))))⟩) :: (BL ++ (BC ++ (BE ++ (BT ++ [(g3, T_impl_Room, ⟨Z_impl_Room⟩)])))))) (fun y => (4 - y.2.2).toNat) ⟨0, [], vL, [], rfl, by omega, ⟨rfl, rfl⟩, by simpa using RL.2, by simpa using M⟩ ?_
  rintro y hh ⟨n, ol, rest, BL, rfl, hn, OL, RL', M⟩
  refine brd (fun hc => ?_) fun hc => ?_
  · have hol : ol.length = n * 2 := by rw [OL.len, List.length_take, sz_Ring]; omega
    rw [drop_cons (by omega)] at RL'
    obtain ⟨vr, rest', rfl, Rr, RL2⟩ := RL'
    have hvr : vr.length = 2 := rRing.rlen Rr
    have M : Mem h hh ((g1, T_impl_Room, ⟨(cE.toList ++ ([.slice b' lT c'] ++ (own ++ ol))) ++ (vr ++ (rest' ++ vR))⟩) :: (BL ++ (BC ++ (BE ++ (BT ++ [(g3, T_impl_Room, ⟨Z_impl_Room⟩)]))))) := by simpa using M
    have hj : (cE.toList ++ ([Value.slice b' lT c'] ++ (own ++ ol))).length = 9 + n * 2 := by simp only [List.length_append, List.length_singleton]; omega
    refine idx (by omega) (by omega) ?_
    rw [add_none, add_none, Int.toNat_natCast, Nat.zero_add]
    refine M.ldaM hj hvr ?_
    refine NewR.go M (Ring_clone_c (rRing.ext M.ext Rr) (hs.2.2.2 _ (by rw [getElem!_pos _ n (by omega)]; exact List.getElem_mem _))) fun h7 c7 B7 M7 O7 hs7 => as_a (idx (by omega) (by omega) ?_)
    have hs7 : c7.size = 2 := hs7
    have M7 : Mem h h7 ((g1, T_impl_Room, ⟨(cE.toList ++ ([.slice b' lT c'] ++ (own ++ ol))) ++ (vr ++ (rest' ++ vR))⟩) :: (B7 ++ (BL ++ (BC ++ (BE ++ (BT ++ [(g3, T_impl_Room, ⟨Z_impl_Room⟩)])))))) := M7.cnt (fun p => by simp only [cnt_app, cnt_cons, cnt_nil] at *; omega)
    refine M7.staM hj hvr hs7 (rRing.oone O7) fun h8 M8 => ?_
    rw [wrap64_succ (by omega)]
    refine ⟨⟨n + 1, ol ++ c7.toList, rest', BL ++ B7, rfl, by omega, ?_, RL2, M8.cnt' ?_ (fun p => by simp only [cnt_app, cnt_cons, cnt_nil] at *; omega)⟩, by show _ < _; simp; omega⟩
    · rw [take_snoc (by omega)]
      exact OL.append ⟨B7, [], c7.toList, [], by simp, by simp, O7, rfl, rfl⟩
    · simp
  obtain rfl : n = 4 := by omega
  have e4 : x.Loops.take 4 = x.Loops := by rw [← hL4]; exact List.take_length
  have e5 : rest = [] := by rw [List.drop_of_length_le (by omega)] at RL'; exact RL'
  subst e5
  rw [e4] at OL
  rw [List.nil_append] at M
  have O : rRoom.ow (BE ++ (BT ++ (BC ++ (BL ++ [])))) (cE.toList ++ ([.slice b' lT c'] ++ (own ++ (ol ++ vR)))) x :=
    ⟨BE, _, _, _, rfl, rfl, OE, BT, _, _, _, rfl, rfl, ⟨b', lT, c', rfl, OT⟩, BC, _, _, _, rfl, rfl, ⟨hC2, OC⟩, BL, [], _, _, rfl, rfl, ⟨hL4, OL⟩, oR⟩
  have hsz : (⟨cE.toList ++ ([.slice b' lT c'] ++ (own ++ (ol ++ vR)))⟩ : Array Value).size = 47 := osz (cs := ⟨_⟩) O rfl
  refine M.lda0 .here hsz ?_
  have M := M.cnt (W := (g3, T_impl_Room, ⟨Z_impl_Room⟩) :: (BE ++ (BT ++ (BC ++ (BL ++ []))))) (fun p => by simp only [cnt_app, cnt_cons, cnt_nil] at *; omega)
  refine M.sta0 .here hsz (rRoom.oone O) rfl .here fun h9 M => M.lda0 .here hsz ?_
  exact ⟨_, _, rfl, O, M.drop⟩
theorem l06Silence_c (n : Int) (hn : inR n 1 1024 = true) (h : Heap) : CALL prg f_spec_l06Silence #[.int .i64 n] (fun u h' => NewR rRing h h' u (silence n)) h := by
  have hr : 1 ≤ n ∧ n ≤ 1024 := by unfold inR at hn; simp only [Bool.and_eq_true, decide_eq_true_eq] at hn; exact hn
  obtain ⟨m, rfl⟩ := Int.eq_ofNat_of_zero_le (show 0 ≤ n by omega)
  refine spec_l06Silence.call ((Mem.start h).alc fun g1 h1 x1 M => make_floats M (by omega) fun g2 h2 x2 M O => ?_)
  have M := M.perm (.swap _ _ _)
  refine M.sta0 .here rfl (all_one rfl) rfl .here fun h3 M => M.lda0 .here rfl ?_
  exact ⟨_, _, rfl, ow_ring (r := silence m) O, M.drop⟩
theorem NewRing_c (n : Int) (h : Heap) : CALL prg f_impl_NewRing #[.int .i64 n] (fun u h' => ∃ cs B, u = .tuple ⟨[.agg cs, .int .i64 (if inR n 1 1024 then 0 else 2)]⟩ ∧ rRing.ow B cs.toList (if inR n 1 1024 then silence n else z_Ring) ∧ Mem h h' B) h := by
  refine impl_NewRing.call ((Mem.start h).alc fun g1 h1 x1 M => goM M (within_c _ _ _ _) fun h2 M => as_b (br (fun hb => ?_) fun hb => ?_))
  · have hb := nt hb
    rw [hb]
    exact M.sta0 .here rfl (all_one rfl) rfl .here fun h3 M => M.lda0 .here rfl ⟨_, [], rfl, zow_Ring, M.drop⟩
  · have hn := nf hb
    rw [hn]
    have hr : 1 ≤ n ∧ n ≤ 1024 := by unfold inR at hn; simp only [Bool.and_eq_true, decide_eq_true_eq] at hn; exact hn
    obtain ⟨m, rfl⟩ := Int.eq_ofNat_of_zero_le (show 0 ≤ n by omega)
    refine make_floats M (by omega) fun g2 h2 x2 M O => ?_
    have M := M.perm (.swap _ _ _)
    refine M.sta0 .here rfl (all_one rfl) rfl .here fun h3 M => M.lda0 .here rfl ?_
    exact ⟨_, _, rfl, ow_ring (r := silence m) O, M.drop⟩
end
end Go.Sx
