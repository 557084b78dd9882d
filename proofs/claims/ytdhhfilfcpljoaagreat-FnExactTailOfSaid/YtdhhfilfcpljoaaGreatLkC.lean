/- Rooms copied by the program; silent rings. -/
import Derived.Test.YtdhhfilfcpljoaaGreatLk7
set_option linter.unusedVariables false
set_option linter.unusedSimpArgs false
namespace Go.Sx
open Go.Proofs
set_option maxRecDepth 100000

section
variable {h : Heap} {q : Addr}
theorem slr_none {α : Type} {r : Rep α} {l c : Nat} {xs : List α} (hz : 0 < r.sz) (S : SlR r h none l c xs) : l = 0 ∧ xs = [] := by
  obtain ⟨h1, h2, h3, ws, C, R⟩ := S
  have hw : ws = [] := by
    cases ws with
    | nil => rfl
    | cons w ws => obtain ⟨a, e, _⟩ := C 0 (by simp); cases e
  subst hw
  have hx : xs.length * r.sz = 0 := by rw [← R.len]; rfl
  rcases Nat.mul_eq_zero.1 hx with h | h
  · exact ⟨by omega, List.eq_nil_of_length_eq_zero h⟩
  · omega
theorem Clone_Tap_c {b : Option Addr} {l c : Nat} {xs : List GTap} (S : SlR rTap h b l c xs) (hl : l ≤ 1048576) :
    CALL prg f_slices_Clone_sl_impl_Tap_impl_Tap #[.slice b l c] (fun u h' => ∃ b' c' B, u = .slice b' l c' ∧ SlO T_impl_Tap rTap B b' l c' xs ∧ Mem h h' B) h := by
  refine slices_Clone_sl_impl_Tap_impl_Tap.call (cmp_nil U_sl_impl_Tap (br (fun hb => ?_) fun hb => ?_))
  · obtain rfl : b = none := by simpa using hb
    obtain ⟨rfl, rfl⟩ := slr_none tap_sz S
    exact ⟨none, 0, [], rfl, SlO.nil, Mem.start h⟩
  · refine (Mem.start h).alc fun g h1 x1 M => ?_
    exact append_copy E_sl_impl_Tap tap_sz flat_Tap (S.ext x1) M (by omega) fun b' c' h' B' O' M' => as_l ⟨b', c', B', rfl, O', by simpa using M'⟩
theorem drop_cons {α : Type} [Inhabited α] {l : List α} {n : Nat} (h : n < l.length) : l.drop n = l[n]! :: l.drop (n + 1) := by
  rw [List.drop_eq_getElem_cons h, getElem!_pos l n h]
theorem take_snoc {α : Type} [Inhabited α] {l : List α} {n : Nat} (h : n < l.length) : l.take (n + 1) = l.take n ++ [l[n]!] := by
  rw [List.take_succ_eq_append_getElem h, getElem!_pos l n h]
theorem Room_clone_c {cs : Array Value} {x : GRoom} (R0 : rRoom.rd h cs.toList x) (hs : x.small) : CALL prg f_impl_Room_clone #[.agg cs] (fun u h' => NewR rRoom h h' u x) h := by
  obtain ⟨vE, v1, e1, RE, vT, v2, rfl, RT, vC, v3, rfl, RC, vL, vR, rfl, RL, RR⟩ := R0
  obtain ⟨bT, lT, cT, rfl, ST⟩ := RT
  dsimp only at RE ST RC RL RR
  have hE : vE.length = 2 := rRing.rlen RE
  have hC2 : x.Combs.length = 2 := RC.1
  have hL4 : x.Loops.length = 4 := RL.1
  have eC : cs = ⟨vE ++ ([.slice bT lT cT] ++ (vC ++ (vL ++ vR)))⟩ := by cases cs; simpa using e1
  have hlt := ST.len
  have lC : vC.length = 6 := (rArr 2 rComb).rlen RC
  have lL : vL.length = 8 := (rArr 4 rRing).rlen RL
  have oR := (flat_seq (flat_arr 4 (flat_via (flat_seq (flat_I .i64) (flat_seq (flat_arr 3 (flat_F .f32)) (flat_arr 2 (flat_F .f32)))))) (flat_seq (flat_arr 4 (flat_F .f32)) (flat_seq (flat_F .f32) (flat_F .f32)))) h vR (x.Damps, x.Gains, x.Dry, x.Wet) RR
  subst eC
  refine impl_Room_clone.call ((Mem.start h).alc fun g1 h1 x1 M => M.alc fun g3 h2 x2 M => ?_)
  have M1 : Mem h h2 ((g1, T_impl_Room, ⟨[] ++ (vE ++ ([.slice bT lT cT] ++ (vC ++ (vL ++ vR))))⟩) :: [(g3, T_impl_Room, ⟨Z_impl_Room⟩)]) := M.perm (.swap _ _ _)
  refine M1.ldaM rfl hE ?_
  have X2 := M1.ext
  refine o_l (M1.cellM (pre := vE) (u := .slice bT lT cT) hE) ?_
  refine NewR.go (Mem.start h2) (Ring_clone_c (rRing.ext X2 RE) hs.1) fun h3 cE BE N3 OE hsE => as_a (pin1 N3.ext (M1.cellM (pre := vE) (u := .slice bT lT cT) hE) ?_)
  have hsE : cE.size = 2 := hsE
  have M3 := M1.join N3
  have hT1 := hs.2.1
  refine (Clone_Tap_c (ST.ext M3.ext) (by omega)).mono ?_
  rintro _ h4 ⟨b', c', BT, rfl, OT, N⟩
  refine as_l ?_
  have M4 : Mem h h4 ((g1, T_impl_Room, ⟨[] ++ (vE ++ ([.slice bT lT cT] ++ (vC ++ (vL ++ vR))))⟩) :: (BE ++ (BT ++ [(g3, T_impl_Room, ⟨Z_impl_Room⟩)]))) := (M3.join N).cnt (fun p => by simp only [cnt_app, cnt_cons, cnt_nil] at *; omega)
  refine M4.staM rfl hE hsE (rRing.oone OE) fun h5 M5 => ?_
  have hcE : cE.toList.length = 2 := sizeL hsE
  refine M5.st1M (pre := cE.toList) (u := .slice bT lT cT) (post := vC ++ (vL ++ vR)) hcE fun h6 M6 => ?_
  refine loop (fun y hh => ∃ (n : Nat) (own rest : List Value) (BC : List Blk), y = (⟨g1, 0, none⟩, ⟨g3, 0, none⟩, (n : Int)) ∧ n ≤ 2 ∧ ows rComb BC own (x.Combs.take n) ∧ rds rComb h rest (x.Combs.drop n) ∧
    Mem h hh ((g1, T_impl_Room, ⟨cE.toList ++ ([.slice b' lT c'] ++ (own ++ (rest ++ (vL ++ vR))))⟩) :: (BC ++ (BE ++ (BT ++ [(g3, T_impl_Room, ⟨Z_impl_Room⟩)]))))) (fun y => (2 - y.2.2).toNat) ⟨0, [], vC, [], rfl, by omega, ⟨rfl, rfl⟩, by simpa using RC.2, by simpa using M6⟩ ?_
  rintro y hh ⟨n, own, rest, BC, rfl, hn, OC, RC', M⟩
  refine brd (fun hc => ?_) fun hc => ?_
  · have hown : own.length = n * 3 := by rw [OC.len, List.length_take, sz_Comb]; omega
    rw [drop_cons (by omega)] at RC'
    obtain ⟨v1, rest', rfl, RC1, RC2⟩ := RC'
    obtain ⟨vr, vg, rfl, Rr, Rg⟩ := RC1
    have hvr : vr.length = 2 := rRing.rlen Rr
    have M : Mem h hh ((g1, T_impl_Room, ⟨(cE.toList ++ ([.slice b' lT c'] ++ own)) ++ (vr ++ (vg ++ (rest' ++ (vL ++ vR))))⟩) :: (BC ++ (BE ++ (BT ++ [(g3, T_impl_Room, ⟨Z_impl_Room⟩)])))) := by simpa using M
    have hj : (cE.toList ++ ([Value.slice b' lT c'] ++ own)).length = 3 + n * 3 := by simp only [List.length_append, List.length_singleton]; omega
    refine idx (by omega) (by omega) ?_
    rw [add_none, add_none, Int.toNat_natCast, Nat.zero_add]
    refine M.ldaM hj hvr ?_
    refine NewR.go M (Ring_clone_c (rRing.ext M.ext Rr) (hs.2.2.1 _ (by rw [getElem!_pos _ n (by omega)]; exact List.getElem_mem _))) fun h7 c7 B7 M7 O7 hs7 => as_a (idx (by omega) (by omega) ?_)
    have hs7 : c7.size = 2 := hs7
    have M7 : Mem h h7 ((g1, T_impl_Room, ⟨(cE.toList ++ ([.slice b' lT c'] ++ own)) ++ (vr ++ (vg ++ (rest' ++ (vL ++ vR))))⟩) :: (B7 ++ (BC ++ (BE ++ (BT ++ [(g3, T_impl_Room, ⟨Z_impl_Room⟩)]))))) := M7.cnt (fun p => by simp only [cnt_app, cnt_cons, cnt_nil] at *; omega)
    refine M7.staM hj hvr hs7 (rRing.oone O7) fun h8 M8 => ?_
    rw [wrap64_succ (by omega)]
    refine ⟨⟨n + 1, own ++ (c7.toList ++ vg), rest', BC ++ B7, rfl, by omega, ?_, RC2, M8.cnt' ?_ (fun p => by simp only [cnt_app, cnt_cons, cnt_nil] at *; omega)⟩, by show _ < _; simp; omega⟩
    · rw [take_snoc (by omega)]
      refine OC.append ⟨B7, [], c7.toList ++ vg, [], by simp, by simp, ⟨B7, [], _, _, by simp, rfl, O7, flat_F _ _ _ _ Rg⟩, rfl, rfl⟩
    · simp
  obtain rfl : n = 2 := by omega
  have e2 : x.Combs.take 2 = x.Combs := by rw [← hC2]; exact List.take_length
  have e3 : rest = [] := by rw [List.drop_of_length_le (by omega)] at RC'; exact RC'
  subst e3
  rw [e2] at OC
  have hown : own.length = 6 := by rw [OC.len, sz_Comb]; omega
  rw [List.nil_append] at M
  refine loop (fun y hh => ∃ (n : Nat) (ol rest : List Value) (BL : List Blk), y = (⟨g1, 0, none⟩, ⟨g3, 0, none⟩, (n : Int)) ∧ n ≤ 4 ∧ ows rRing BL ol (x.Loops.take n) ∧ rds rRing h rest (x.Loops.drop n) ∧
    Mem h hh ((g1, T_impl_Room, ⟨cE.toList ++ ([.slice b' lT c'] ++ (own ++ (ol ++ (rest ++ vR))))⟩) :: (BL ++ (BC ++ (BE ++ (BT ++ [(g3, T_impl_Room, ⟨Z_impl_Room⟩)])))))) (fun y => (4 - y.2.2).toNat) ⟨0, [], vL, [], rfl, by omega, ⟨rfl, rfl⟩, by simpa using RL.2, by simpa using M⟩ ?_
  rintro y hh ⟨n, ol, rest, BL, rfl, hn, OL, RL', M⟩
  refine brd (fun hc => ?_) fun hc => ?_
  · have hol : ol.length = n * 2 := by rw [OL.len, List.length_take, sz_Ring]; omega
    rw [drop_cons (by omega)] at RL'
    obtain ⟨vr, rest', rfl, Rr, RL2⟩ := RL'
    have hvr : vr.length = 2 := rRing.rlen Rr
    have M : Mem h hh ((g1, T_impl_Room, ⟨(cE.toList ++ ([.slice b' lT c'] ++ (own ++ ol))) ++ (vr ++ (rest' ++ vR))⟩) :: (BL ++ (BC ++ (BE ++ (BT ++ [(g3, T_impl_Room, ⟨Z_impl_Room⟩)]))))) := by simpa using M
    have hj : (cE.toList ++ ([Value.slice b' lT c'] ++ (own ++ ol))).length = 9 + n * 2 := by simp only [List.length_append, List.length_singleton]; omega
    refine idx (by omega) (by omega) ?_
    rw [add_none, add_none, Int.toNat_natCast, Nat.zero_add]
    refine M.ldaM hj hvr ?_
    refine NewR.go M (Ring_clone_c (rRing.ext M.ext Rr) (hs.2.2.2 _ (by rw [getElem!_pos _ n (by omega)]; exact List.getElem_mem _))) fun h7 c7 B7 M7 O7 hs7 => as_a (idx (by omega) (by omega) ?_)
    have hs7 : c7.size = 2 := hs7
    have M7 : Mem h h7 ((g1, T_impl_Room, ⟨(cE.toList ++ ([.slice b' lT c'] ++ (own ++ ol))) ++ (vr ++ (rest' ++ vR))⟩) :: (B7 ++ (BL ++ (BC ++ (BE ++ (BT ++ [(g3, T_impl_Room, ⟨Z_impl_Room⟩)])))))) := M7.cnt (fun p => by simp only [cnt_app, cnt_cons, cnt_nil] at *; omega)
    refine M7.staM hj hvr hs7 (rRing.oone O7) fun h8 M8 => ?_
    rw [wrap64_succ (by omega)]
    refine ⟨⟨n + 1, ol ++ c7.toList, rest', BL ++ B7, rfl, by omega, ?_, RL2, M8.cnt' ?_ (fun p => by simp only [cnt_app, cnt_cons, cnt_nil] at *; omega)⟩, by show _ < _; simp; omega⟩
    · rw [take_snoc (by omega)]
      exact OL.append ⟨B7, [], c7.toList, [], by simp, by simp, O7, rfl, rfl⟩
    · simp
  obtain rfl : n = 4 := by omega
  have e4 : x.Loops.take 4 = x.Loops := by rw [← hL4]; exact List.take_length
  have e5 : rest = [] := by rw [List.drop_of_length_le (by omega)] at RL'; exact RL'
  subst e5
  rw [e4] at OL
  rw [List.nil_append] at M
  have O : rRoom.ow (BE ++ (BT ++ (BC ++ (BL ++ [])))) (cE.toList ++ ([.slice b' lT c'] ++ (own ++ (ol ++ vR)))) x :=
    ⟨BE, _, _, _, rfl, rfl, OE, BT, _, _, _, rfl, rfl, ⟨b', lT, c', rfl, OT⟩, BC, _, _, _, rfl, rfl, ⟨hC2, OC⟩, BL, [], _, _, rfl, rfl, ⟨hL4, OL⟩, oR⟩
  have hsz : (⟨cE.toList ++ ([.slice b' lT c'] ++ (own ++ (ol ++ vR)))⟩ : Array Value).size = 47 := osz (cs := ⟨_⟩) O rfl
  refine M.lda0 .here hsz ?_
  have M := M.cnt (W := (g3, T_impl_Room, ⟨Z_impl_Room⟩) :: (BE ++ (BT ++ (BC ++ (BL ++ []))))) (fun p => by simp only [cnt_app, cnt_cons, cnt_nil] at *; omega)
  refine M.sta0 .here hsz (rRoom.oone O) rfl .here fun h9 M => M.lda0 .here hsz ?_
  exact ⟨_, _, rfl, O, M.drop⟩
theorem zeros_fl (n : Nat) : ows (rF .f32) [] (List.replicate n (.float .f32 0)) (List.replicate n 0) := by
  induction n with
  | zero => exact ⟨rfl, rfl⟩
  | succ n ih => exact ⟨[], [], [.float .f32 0], List.replicate n (.float .f32 0), rfl, rfl, ⟨rfl, 0, rfl, fw0⟩, ih⟩
/-- A slice of zeros, made. -/
theorem make_floats {h0 : Heap} {L : List Blk} {n : Nat} {F : Nat → Heap → Prop} (M : Mem h0 h L) (hn : n ≤ 1048576)
    (H : ∀ g h', Ext h h' → Mem h0 h' ((g, T_float32, ⟨List.replicate n (.float .f32 0)⟩) :: L) → SlO T_float32 (rF .f32) [(g, T_float32, ⟨List.replicate n (.float .f32 0)⟩)] (some ⟨g, 0, none⟩) n n (List.replicate n 0) → F g h') : MKS ti_float32 T_float32 (n : Int) (n : Int) F h := by
  refine mks1 M rfl rfl (by show 4 * n ≤ 2 ^ 48; omega) (by omega) fun g h' x' M' => H g h' x' M' ?_
  have : n ≤ maxLen := by have : (1048576 : Nat) ≤ maxLen := by decide
                          omega
  exact ⟨by simp, List.replicate n (.float .f32 0), [_], [], rfl, ⟨by rw [List.length_replicate, show (rF .f32).sz = 1 from rfl, Nat.mul_one], .inr ⟨g, _, rfl, rfl, Nat.le_refl _, this, by rw [List.size_toArray, List.length_replicate, show (rF .f32).sz = 1 from rfl, Nat.mul_one], by
    rw [List.take_of_length_le]
    show (List.replicate n (Value.float .f32 0)).length ≤ n * 1
    simp⟩⟩, zeros_fl n⟩
theorem l06Silence_c (n : Int) (hn : inR n 1 1024 = true) (h : Heap) : CALL prg f_spec_l06Silence #[.int .i64 n] (fun u h' => NewR rRing h h' u (silence n)) h := by
  have hr : 1 ≤ n ∧ n ≤ 1024 := by unfold inR at hn; simp only [Bool.and_eq_true, decide_eq_true_eq] at hn; exact hn
  obtain ⟨m, rfl⟩ := Int.eq_ofNat_of_zero_le (show 0 ≤ n by omega)
  refine spec_l06Silence.call ((Mem.start h).alc fun g1 h1 x1 M => make_floats M (by omega) fun g2 h2 x2 M O => ?_)
  have M := M.perm (.swap _ _ _)
  refine M.sta0 .here rfl (all_one rfl) rfl .here fun h3 M => M.lda0 .here rfl ?_
  exact ⟨_, _, rfl, ow_ring (r := silence m) O, M.drop⟩
theorem NewRing_c (n : Int) (h : Heap) : CALL prg f_impl_NewRing #[.int .i64 n] (fun u h' => ∃ cs B, u = .tuple ⟨[.agg cs, .int .i64 (if inR n 1 1024 then 0 else 2)]⟩ ∧ rRing.ow B cs.toList (if inR n 1 1024 then silence n else z_Ring) ∧ Mem h h' B) h := by
  refine impl_NewRing.call ((Mem.start h).alc fun g1 h1 x1 M => goM M (within_c _ _ _ _) fun h2 M => as_b (br (fun hb => ?_) fun hb => ?_))
  · have hb := nt hb
    rw [hb]
    exact M.sta0 .here rfl (all_one rfl) rfl .here fun h3 M => M.lda0 .here rfl ⟨_, [], rfl, zow_Ring, M.drop⟩
  · have hn := nf hb
    rw [hn]
    have hr : 1 ≤ n ∧ n ≤ 1024 := by unfold inR at hn; simp only [Bool.and_eq_true, decide_eq_true_eq] at hn; exact hn
    obtain ⟨m, rfl⟩ := Int.eq_ofNat_of_zero_le (show 0 ≤ n by omega)
    refine make_floats M (by omega) fun g2 h2 x2 M O => ?_
    have M := M.perm (.swap _ _ _)
    refine M.sta0 .here rfl (all_one rfl) rfl .here fun h3 M => M.lda0 .here rfl ?_
    exact ⟨_, _, rfl, ow_ring (r := silence m) O, M.drop⟩
theorem l05Muted_c {r : GRing} (R : RdP rRing h q r) (hl : r.Samples.length ≤ 1048576) : CALL prg f_spec_l05Muted #[.pointer (some q)] (fun u h' => NewR rRing h h' u r.mute) h := by
  refine spec_l05Muted.call ((Mem.start h).alc fun g1 h1 x1 M => ?_)
  have R1 := R.ext x1
  refine R1.oL1 fun b l c S => R1.oI ?_
  have hls := S.len
  refine make_floats M (by omega) fun g2 h2 x2 M O => R1.pinO (by decide) x2 ?_
  have M := M.perm (.swap _ _ _)
  refine M.sta0 .here rfl (all_one rfl) rfl .here fun h3 M => M.lda0 .here rfl ?_
  refine ⟨_, _, rfl, ow_ring (r := r.mute) (l := l) (c := l) ?_, M.drop⟩
  unfold GRing.mute
  rw [hls]
  exact O
theorem Pt.stL {α β : Type} {r : Rep α} {h0 : Heap} {F : Fr} {L B : List Blk} {a : α} {e : Nat} {s : Rep β} {get : α → List β} {put : α → List β → α} {b : Option Addr} {l c : Nat} {xs : List β} {K : Heap → Prop} (P : Pt r h0 h q F (B ++ L) a) [Fc : FocC r 0 (rSl e s) get put] (O : SlO e s B b l c xs)
    (H : ∀ h', Pt r h0 h' q F L (put a xs) → K h') : ST1 h q (.slice b l c) K := by
  have := Pt.st P Fc.f rfl ⟨b, l, c, rfl, O⟩ H
  rwa [add0] at this
end
end Go.Sx
/- The rings of a room, found one by one; rooms muted ring by ring. -/
set_option linter.unusedVariables false
set_option linter.unusedSimpArgs false
namespace Go.Sx
open Go.Proofs
set_option maxRecDepth 100000

/-- A pair of a value and a code, told by a call. -/
def PairR {α : Type} (r : Rep α) (h h' : Heap) (u : Value) (a : α) (code : Int) : Prop := ∃ cs B, u = .tuple ⟨[.agg cs, .int .i64 code]⟩ ∧ r.ow B cs.toList a ∧ Mem h h' B
theorem ok_small {x : GRoom} (h : x.ok = true) : x.small := by
  rw [room_ok] at h
  simp only [Bool.and_eq_true, decide_eq_true_eq, List.all_eq_true] at h
  obtain ⟨⟨⟨⟨⟨⟨⟨⟨h1, h2⟩, h3⟩, h4⟩, h5⟩, h6⟩, h7⟩, h8⟩, h9⟩ := h
  have k : ∀ r : GRing, r.okf = true → r.Samples.length ≤ 1048576 := fun r hr => by
    unfold GRing.okf at hr
    rw [Bool.and_eq_true] at hr
    have := at_lt hr.1
    omega
  refine ⟨k _ h1, by omega, fun c hc => ?_, fun r hr => k _ (h4 r hr)⟩
  have := h3 c hc
  unfold GComb.ok at this
  rw [Bool.and_eq_true] at this
  exact k _ this.1
section
variable {α β : Type} {r : Rep α} {h0 h : Heap} {q : Addr} {F : Fr} {L : List Blk} {a : α} {off : Nat}
theorem Pt.sts0 {p : Rep β} {get : α → β} {put : α → β → α} {b : β} {n : Nat} {vs : Array Value} {B' : List Blk} {K : Heap → Prop} (P : Pt r h0 h q F (B' ++ L) a) (Fc : Foc r p 0 get put) (hp : p.sz = n) (O : p.ow B' vs.toList b)
    (H : ∀ h', Pt r h0 h' q F L (put a b) → K h') : STA n h q vs K := by
  have := P.sts Fc hp O H
  rwa [add0] at this
end
/-- Pointers. -/
def rP : Rep Addr := rOne (fun a => .pointer (some a)) fun _ => rfl
theorem RdP.oP1 {h : Heap} {q a : Addr} {K : Addr → Prop} (R : RdP rP h q a) (H : K a) : Sx.oP (Sx.cell h q) K := by
  obtain ⟨vs, h1, e⟩ := R
  have := h1 0 (.pointer (some a)) (by rw [show vs = [.pointer (some a)] from e]; rfl)
  rw [add0] at this
  rw [this]; exact H
def offR (n : Nat) : Nat := if n = 0 then 0 else if n < 3 then 3 + (n - 1) * 3 else 9 + (n - 3) * 2
def getR (x : GRoom) (n : Nat) : GRing := if n = 0 then x.Early else if n < 3 then x.Combs[n - 1]!.Ring else x.Loops[n - 3]!
def putR (x : GRoom) (n : Nat) (r : GRing) : GRoom := if n = 0 then { x with Early := r } else if n < 3 then { x with Combs := x.Combs.set (n - 1) { x.Combs[n - 1]! with Ring := r } } else { x with Loops := x.Loops.set (n - 3) r }
theorem foc_ring (n : Nat) (hn : n < 7) : Foc rRoom rRing (offR n) (fun a => getR a n) (fun a b => putR a n b) := by
  unfold offR getR putR
  by_cases h0 : n = 0
  · simp only [if_pos h0]; exact foc_Room_Early
  · by_cases h3 : n < 3
    · simp only [if_neg h0, if_pos h3]
      exact ((foc_comb (n - 1) (by omega)).trans foc_Comb_Ring).at (by omega)
    · simp only [if_neg h0, if_neg h3]
      exact foc_loop (n - 3) (by omega)
def muteN (x : GRoom) : Nat → GRoom
  | 0 => x
  | n + 1 => putR (muteN x n) n (getR (muteN x n) n).mute
theorem is2 {α : Type} {l : List α} (h : l.length = 2) : ∃ a b, l = [a, b] := by
  match l, h with
  | [a, b], _ => exact ⟨a, b, rfl⟩
theorem is4 {α : Type} {l : List α} (h : l.length = 4) : ∃ a b c d, l = [a, b, c, d] := by
  match l, h with
  | [a, b, c, d], _ => exact ⟨a, b, c, d, rfl⟩
theorem lt7 {n : Nat} (h : n < 7) : n = 0 ∨ n = 1 ∨ n = 2 ∨ n = 3 ∨ n = 4 ∨ n = 5 ∨ n = 6 := by omega
theorem muteN_get {x : GRoom} (hC : x.Combs.length = 2) (hL : x.Loops.length = 4) {n : Nat} (hn : n < 7) : getR (muteN x n) n = getR x n := by
  obtain ⟨a, b, e1⟩ := is2 hC
  obtain ⟨c, d, e, f, e2⟩ := is4 hL
  obtain ⟨E, T, C, Lo, D, G, dr, we⟩ := x
  subst e1 e2
  rcases lt7 hn with rfl | rfl | rfl | rfl | rfl | rfl | rfl <;> rfl
theorem muteN_all {x : GRoom} (hC : x.Combs.length = 2) (hL : x.Loops.length = 4) : muteN x 7 = { x with Early := x.Early.mute, Combs := x.Combs.map (fun c => { c with Ring := c.Ring.mute }), Loops := x.Loops.map GRing.mute } := by
  obtain ⟨a, b, e1⟩ := is2 hC
  obtain ⟨c, d, e, f, e2⟩ := is4 hL
  obtain ⟨E, T, C, Lo, D, G, dr, we⟩ := x
  subst e1 e2
  rfl
/-- Every ring of a room is of a size that can be copied. -/
theorem small_get {x : GRoom} (hs : x.small) (hC : x.Combs.length = 2) (hL : x.Loops.length = 4) {n : Nat} (hn : n < 7) : (getR x n).Samples.length ≤ 1048576 := by
  unfold getR
  split
  · exact hs.1
  · split
    · refine hs.2.2.1 _ ?_; rw [getElem!_pos _ (n - 1) (by omega)]; exact List.getElem_mem _
    · refine hs.2.2.2 _ ?_; rw [getElem!_pos _ (n - 3) (by omega)]; exact List.getElem_mem _
/-- A list of which the first n elements have been changed. -/
def mapN {α : Type} (f : α → α) (l : List α) (n : Nat) : List α := (l.take n).map f ++ l.drop n
section
variable {α : Type} {f : α → α} {l : List α} {n : Nat}
theorem mapN_zero : mapN f l 0 = l := by simp [mapN]
theorem mapN_all (h : n = l.length) : mapN f l n = l.map f := by subst h; simp [mapN]
theorem mapN_len : (mapN f l n).length = l.length := by simp only [mapN, List.length_append, List.length_map, List.length_take, List.length_drop]; omega
theorem mapN_get [Inhabited α] (hn : n < l.length) : (mapN f l n)[n]! = l[n]! := by
  rw [getElem!_pos _ n (by rw [mapN_len]; exact hn), getElem!_pos l n hn]
  unfold mapN
  have hl : ((l.take n).map f).length = n := by rw [List.length_map, List.length_take]; omega
  rw [List.getElem_append_right (by omega)]
  simp only [hl, Nat.sub_self, List.getElem_drop, Nat.add_zero]
theorem mapN_step [Inhabited α] (hn : n < l.length) : (mapN f l n).set n (f l[n]!) = mapN f l (n + 1) := by
  unfold mapN
  have hl : ((l.take n).map f).length = n := by rw [List.length_map, List.length_take]; omega
  rw [List.set_append_right _ _ (by omega), hl, Nat.sub_self, drop_cons hn, List.set_cons_zero, take_snoc hn, List.map_append]
  simp
end
/-- The pointers to a room's rings. -/
def ringPs (q : Addr) : List Addr := q :: ((List.range 2).map (fun i => q.add (3 + i * 3)) ++ (List.range 4).map fun i => q.add (9 + i * 2))
theorem ringPs_get (q : Addr) {n : Nat} (hn : n < 7) : (ringPs q)[n]! = q.add (offR n) := by
  rcases lt7 hn with rfl | rfl | rfl | rfl | rfl | rfl | rfl <;> first | rfl | exact (add0 q).symm
theorem rings_c (h : Heap) (q : Addr) : CALL prg f_p_impl_Room_rings #[.pointer (some q)] (fun u h' => ∃ b c B, u = .slice b 7 c ∧ SlO T_p_impl_Ring rP B b 7 c (ringPs q) ∧ Mem h h' B) h := by
  have h7 : (7 : Nat) ≤ maxLen := by decide
  refine p_impl_Room_rings.call ((Mem.start h).alc fun g1 h1 x1 M => ?_)
  have O1 : SlO T_p_impl_Ring rP [(g1, T_p_impl_Ring, ⟨[.pointer (some q)]⟩)] (some ⟨g1, 0, none⟩) 1 1 [q] :=
    ⟨rfl, [.pointer (some q)], [_], [], rfl, ⟨rfl, .inr ⟨g1, _, rfl, rfl, Nat.le_refl _, by decide, rfl, rfl⟩⟩, [], [], [.pointer (some q)], [], rfl, rfl, ⟨rfl, rfl⟩, rfl, rfl⟩
  refine loop (fun y hh => ∃ (n : Nat) (b : Option Addr) (c : Nat) (B : List Blk), y = (q, b, 1 + n, c, (n : Int)) ∧ n ≤ 2 ∧ SlO T_p_impl_Ring rP B b (1 + n) c (q :: (List.range n).map fun i => q.add (3 + i * 3)) ∧ Mem h hh B) (fun y => (2 - y.2.2.2.2).toNat)
    ⟨0, _, _, _, rfl, by omega, O1, M⟩ ?_
  rintro y hh ⟨n, b, c, B, rfl, hn, O, M⟩
  refine brd (fun hc => ?_) fun hc => ?_
  · refine idx (by omega) (by omega) ?_
    rw [Int.toNat_natCast, add_add']
    refine push_own (Bn := []) (L := []) (x := q.add (3 + n * 3)) E_sl_p_impl_Ring O (by simpa using M) ⟨rfl, rfl⟩ (by omega) (by omega) fun b' c' h' B' O' M' => as_l ⟨⟨n + 1, b', c', B', ?_, by omega, ?_, by simpa using M'⟩, by rw [wrap64_succ (by omega)]; show _ < _; simp; omega⟩
    · rw [wrap64_succ (by omega)]; rfl
    · rw [List.range_succ, List.map_append]; exact O'
  obtain rfl : n = 2 := by omega
  refine loop (fun y hh => ∃ (n : Nat) (b : Option Addr) (c : Nat) (B : List Blk), y = (q, b, 3 + n, c, (n : Int)) ∧ n ≤ 4 ∧ SlO T_p_impl_Ring rP B b (3 + n) c (q :: ((List.range 2).map (fun i => q.add (3 + i * 3)) ++ (List.range n).map fun i => q.add (9 + i * 2))) ∧ Mem h hh B) (fun y => (4 - y.2.2.2.2).toNat)
    ⟨0, _, _, _, rfl, by omega, O, M⟩ ?_
  rintro y hh ⟨n, b, c, B, rfl, hn, O, M⟩
  refine brd (fun hc => ?_) fun hc => ?_
  · refine idx (by omega) (by omega) ?_
    rw [Int.toNat_natCast, add_add']
    refine push_own (Bn := []) (L := []) (x := q.add (9 + n * 2)) E_sl_p_impl_Ring O (by simpa using M) ⟨rfl, rfl⟩ (by omega) (by omega) fun b' c' h' B' O' M' => as_l ⟨⟨n + 1, b', c', B', ?_, by omega, ?_, by simpa using M'⟩, by rw [wrap64_succ (by omega)]; show _ < _; simp; omega⟩
    · rw [wrap64_succ (by omega)]; rfl
    · rw [List.range_succ (n := n), List.map_append, ← List.append_assoc]; exact O'
  obtain rfl : n = 4 := by omega
  exact ⟨b, c, B, rfl, O, M⟩
end Go.Sx
