/- The law FnRoomBlocks, as the program tells it. -/
import Derived.Test.YtkgmfiloghhibaaGreatDoorLvf
import Derived.Test.YtkgmfiloghhibaaGreatDoorLk90
import Derived.Test.YtkgmfiloghhibaaGreatDoorLk21
import Derived.Test.YtkgmfiloghhibaaGreatDoorLwk
import Derived.Test.YtkgmfiloghhibaaGreatDoorLx1
import Derived.Lib.LaidTab
import Derived.Test.YtkgmfiloghhibaaGreatDoorTF
set_option linter.unusedVariables false
set_option linter.unusedSimpArgs false
namespace Go.Sx
open Go.Proofs
set_option maxRecDepth 100000
set_option maxHeartbeats 2000000

theorem runs_p {h : Heap} {q : Addr} {x : GRoom} (R : RdP rRoom h q x) (hok : x.ok = true) : x.Runs := by
  obtain ⟨vs, _, R0⟩ := R
  exact room_runs R0 hok
section
variable {h hh : Heap} {x due : GRoom} {ys zs : List Nat} {k : Nat} {px pa pd pk : Addr} {bb ob mb ab lb : Option Addr} {bc oc mc ac lc : Nat}
/-- What is there behind the plays. -/
structure RBs (hh : Heap) (x due : GRoom) (ys zs : List Nat) (k : Nat) (px pa pd pk : Addr) (bb ob mb ab lb : Option Addr) (bc oc mc ac lc : Nat) : Prop where
  X : RdP rRoom hh px x
  A : RdP rRoom hh pa due
  D : RdP rRoom hh pd due
  K : RdP rRoom hh pk due
  S : SlR (rF .f32) hh bb 16 bc ys
  O : SlR (rF .f32) hh ob 16 oc zs
  M : SlR (rF .f32) hh mb 16 mc zs
  F : SlR (rF .f32) hh ab k ac (zs.take k)
  L : SlR (rF .f32) hh lb (16 - k) lc (zs.drop k)
theorem RBs.ext {h' : Heap} (G : RBs hh x due ys zs k px pa pd pk bb ob mb ab lb bc oc mc ac lc) (X : Ext hh h') : RBs h' x due ys zs k px pa pd pk bb ob mb ab lb bc oc mc ac lc :=
  ⟨G.X.ext X, G.A.ext X, G.D.ext X, G.K.ext X, G.S.ext X, G.O.ext X, G.M.ext X, G.F.ext X, G.L.ext X⟩
theorem fr18 (X : Ext h hh) (T : Txt hh) (D : RdP rRoom hh pd due) (hok : due.ok = true) : laws_FnRoomBlocks.J18 (TB2 h) pd hh := by
  unfold laws_FnRoomBlocks.J18
  have hA := room_a D hok
  obtain ⟨hmk, hmn⟩ := room_mute_ok hok hA.c2 hA.l4 hA.d4 hA.g4
  have hmu : due.muted = (due.mute, 0) := by unfold GRoom.muted; rw [hok]; rfl
  have hnn : Nng (enX 0 due.Loops) := nn_enX nn_zero (loops_fin hok)
  refine D.lda1 rfl fun c1 R1 => goX (RoomText_c R1 hok T) fun h1 x1 => as_s ((ReadRoom_ok hok hA (T.ext x1)).mono ?_)
  rintro _ h2 ⟨c2, B2, rfl, O2, M2⟩
  refine tup2 (as_a (as_i (keepR O2 rfl rfl M2 fun g3 h3 x3 RB => ?_)))
  have X3 := x1.trans x3
  refine (D.ext X3).lda1 rfl fun c4 R4 => (impl_EnergyOfRoom_c R4 hok).mono ?_
  rintro _ h4 ⟨r4, rfl, q4, x4⟩
  have X4 := X3.trans x4
  refine tup2 (as_f (as_i ((D.ext X4).lda1 rfl fun c5 R5 => (spec_EnergyOfRoom_c R5 hok).mono ?_)))
  rintro _ h5 ⟨r5, rfl, q5, x5⟩
  have X5 := X4.trans x5
  refine tup2 (as_f (as_i ((D.ext X5).lda1 rfl fun c6 R6 => (impl_MuteRoom_c R6).mono ?_)))
  rw [hmu]
  rintro _ h6 ⟨c7, B7, rfl, O7, M7⟩
  refine tup2 (as_a (as_i (keepR O7 rfl rfl M7 fun g7 h7 x7 MI => ?_)))
  have X7 := X5.trans x7
  refine (D.ext X7).lda1 rfl fun c8 R8 => (spec_MuteRoom_c R8).mono ?_
  rw [hmu]
  rintro _ h8 ⟨c9, B9, rfl, O9, M9⟩
  refine tup2 (as_a (as_i (keepR O9 rfl rfl M9 fun g9 h9 x9 MS => ?_)))
  have X9 := X7.trans x9
  refine MS.lda1 rfl fun c10 R10 => goX (IsSilentRoom_c R10 hmk) fun h10 x10 => tup2 (as_b (as_i (br_t rfl ?_)))
  have X10 := X9.trans x10
  have RB := RB.ext (x4.trans (x5.trans (x7.trans (x9.trans x10))))
  refine RB.lda1 rfl fun c11 R11 => (D.ext X10).lda1 rfl fun c12 R12 => goX (SameRoom_c R11 R12) fun h11 x11 => as_b (br_t rfl (br_t rfl (br_t rfl (br_t ?_ (br_t ?_ (br_t rfl (br_t rfl ?_)))))))
  · rw [ord_eq q4 q5, order_self, hnn.num]; rfl
  · rw [ord_eq q4 (fw_c64 (by decide) (by decide))]; exact nn_order hnn
  refine (MI.ext (x9.trans (x10.trans x11))).lda1 rfl fun c13 R13 => (MS.ext (x10.trans x11)).lda1 rfl fun c14 R14 => goX (SameRoom_c R13 R14) fun h12 x12 => as_b (br_t rfl (br_t rfl (br_t (room_nil_zero hmn) ?_)))
  have X12 := X10.trans (x11.trans x12)
  refine (D.ext X12).lda1 rfl fun c15 R15 => goX (ValidRoom_c R15) fun h13 x13 => as_b (br_t hok ?_)
  refine (D.ext (X12.trans x13)).lda1 rfl fun c16 R16 => (RB.ext (x11.trans (x12.trans x13))).lda1 rfl fun c17 R17 => goX (impl_SameRoom_c R16 R17) fun h14 x14 => as_b ⟨rfl, X.trans (X12.trans (x13.trans x14))⟩
theorem fr10 (X : Ext h hh) (T : Txt hh) (G : RBs hh x due ys zs k px pa pd pk bb ob mb ab lb bc oc mc ac lc) (hx : x.ok = true) (hk : k ≤ 16) (hd : due = (playG GRoom.step x ys).1) (hz : zs = (playG GRoom.step x ys).2) :
    laws_FnRoomBlocks.J10 (TB2 h) px bb 16 bc pa ob 16 oc 0 pd mb 16 mc 0 ab k ac 0 pk lb (16 - k) lc 0 hh := by
  have hdk : due.ok = true := by rw [hd]; exact playGR_ok hx (runs_p G.X hx) ys
  have ly := G.S.len
  have lz := G.M.len
  have hm : (4097 : Nat) ≤ maxLen := by decide
  unfold laws_FnRoomBlocks.J10
  refine (Mem.start hh).alc fun g1 h1 x1 M => M.sta0 .here rfl (all_one rfl) rfl .here fun h2 M => ?_
  refine loop (fun y h3 => ∃ (n : Nat) (co : Array Value), y = (px, bb, 16, bc, pa, ob, 16, oc, 0, pd, mb, 16, mc, 0, ab, k, ac, 0, pk, lb, 16 - k, lc, 0, ⟨g1, 0, none⟩, (n : Int)) ∧ n ≤ 16 ∧ FA 16 co (mapI (fun i => ys[i]!) zeros16 n) ∧ Mem hh h3 [(g1, T_impl_Block, co)]) (fun y => (16 - y.2.2.2.2.2.2.2.2.2.2.2.2.2.2.2.2.2.2.2.2.2.2.2.2).toNat)
    ⟨0, _, rfl, by omega, by rw [mapI_zero]; exact FA.zero, M⟩ ?_
  rintro y h3 ⟨n, co, rfl, hn, Fo, M⟩
  have G3 := G.ext M.ext
  refine brd (fun hc => ?_) fun hc => ?_
  · refine G3.S.idx (by decide) (by omega) (by omega) fun p Rp => Rp.oF1 fun w hw => idx (by omega) (by omega) ?_
    rw [Int.toNat_natCast] at hw ⊢
    rw [add_none, Nat.zero_add, Nat.mul_one]
    refine M.st1 .here (by rw [Fo.size]; omega) .here fun h4 M => ⟨⟨n + 1, _, by rw [wrap64_succ (by omega)], by omega, ?_, M⟩, by rw [wrap64_succ (by omega)]; show _ < _; simp; omega⟩
    rw [← mapI16 (fun i => ys[i]!) (by omega)]
    exact arr_set hw Fo
  obtain rfl : n = 16 := by omega
  have ey : mapI (fun i => ys[i]!) zeros16 16 = ys := by
    rw [mapI_all (by decide)]
    apply List.ext_getElem
    · rw [List.length_map, List.length_range, ly]; rfl
    · intro i h1 h2
      rw [List.getElem_map, List.getElem_range, getElem!_pos ys i h2]
  rw [ey] at Fo
  have T3 := T.ext M.ext
  have X3 := X.trans M.ext
  refine G3.X.lda1 rfl fun c1 R1 => M.lda0 .here Fo.size ((impl_BlockOfRoomG R1 Fo hx).mono ?_)
  rintro _ h4 ⟨c2, B2, cb, rfl, O2, Fb, N⟩
  rw [← hd, ← hz] at *
  refine tup3 (as_a (as_a (as_i (N.alc fun g5 h5 x5 N => N.alc fun g6 h6 x6 N => N.sta0 (.there .here) (osz O2 rfl) (rRoom.oone O2) rfl (.there .here) fun h7 N => N.sta0 .here Fb.size Fb.one rfl .here fun h8 N => ?_))))
  have W : RdP rRoom h8 ⟨g5, 0, none⟩ due := N.rdp (.there .here) (rRoom.look O2 N ((List.sublist_cons_self _ _).trans (List.sublist_cons_self _ _)))
  have C : SlR (rF .f32) h8 (some ⟨g6, 0, none⟩) 16 16 zs := (N.rdp .here (Fb.rd _)).arr (by decide)
  have G8 := G3.ext N.ext
  have T8 := T3.ext N.ext
  have X8 := X3.trans N.ext
  refine br_f rfl (br_f rfl (G8.A.lda1 rfl fun c3 R3 => G8.D.lda1 rfl fun c4 R4 => goX (SameRoom_c R3 R4) fun h9 x9 => as_b (br_f rfl ?_)))
  have G9 := G8.ext x9
  refine same_t (SameReals_c G9.O G9.M) fun h10 x10 => as_b (br_f rfl (br_f rfl (br_f rfl ?_)))
  have G10 := G9.ext x10
  refine G10.K.lda1 rfl fun c5 R5 => G10.D.lda1 rfl fun c6 R6 => goX (SameRoom_c R5 R6) fun h11 x11 => as_b (br_f rfl ?_)
  have G11 := G10.ext x11
  refine (Mem.start h11).alc fun g7 h12 x12 N2 => append_copy E_sl_float32 (by decide) (flat_F _) (G11.F.ext x12) N2 (by omega) fun b13 c13 h13 B13 O13 N13 => as_l ?_
  refine app_slr (L := []) E_sl_float32 (by decide) (flat_F _) O13 (G11.L.ext N13.ext) (by simpa using N13) (by omega) (by omega) fun b14 c14 h14 B14 O14 N14 => as_l ?_
  rw [List.take_append_drop] at O14
  have G14 := G11.ext N14.ext
  refine same_t (SameReals_c (O14.look N14 (List.sublist_append_left _ _)) G14.M) fun h15 x15 => as_b (br_f rfl (br_f rfl ?_))
  have XX := x9.trans (x10.trans (x11.trans (N14.ext.trans x15)))
  refine (W.ext XX).lda1 rfl fun c7 R7 => (G8.ext XX).D.lda1 rfl fun c8 R8 => goX (SameRoom_c R7 R8) fun h16 x16 => as_b (br_f rfl ?_)
  have XX := XX.trans x16
  refine slb (by decide) (by decide) (by decide) ?_
  rw [slP_zero]
  refine same_t (SameReals_c (C.ext XX) (G8.ext XX).M) fun h17 x17 => as_b (br_f rfl ?_)
  have XX := XX.trans x17
  exact fr18 (X8.trans XX) (T8.ext XX) (G8.ext XX).D hdk
theorem fr9 {front : Addr} (X : Ext h hh) (T : Txt hh) (hx : x.ok = true) (hk : k ≤ 16) (X0 : RdP rRoom hh px x) (A : RdP rRoom hh pa (playG GRoom.step x ys).1) (D : RdP rRoom hh pd (playG GRoom.step x ys).1) (Fr : RdP rRoom hh front (playG GRoom.step x (ys.take k)).1)
    (S : SlR (rF .f32) hh bb 16 bc ys) (O : SlR (rF .f32) hh ob 16 oc (playG GRoom.step x ys).2) (M : SlR (rF .f32) hh mb 16 mc (playG GRoom.step x ys).2) (F : SlR (rF .f32) hh ab k ac (playG GRoom.step x (ys.take k)).2) :
    laws_FnRoomBlocks.J9 (TB2 h) px bb 16 bc pa ob 16 oc 0 pd mb 16 mc 0 (k : Int) front ab k ac 0 hh := by
  unfold laws_FnRoomBlocks.J9
  have hcap := S.2.1
  have hfk : (playG GRoom.step x (ys.take k)).1.ok = true := playGR_ok hx (runs_p X0 hx) _
  refine Fr.lda1 rfl fun cf Rf => slb (by omega) (by omega) (by omega) ?_
  rw [Int.toNat_natCast]
  have SD := slr_drop S hk
  have e := playG_append GRoom.step x (ys.take k) (ys.drop k)
  rw [List.take_append_drop] at e
  have hl : (ys.drop k).length ≤ 4096 := by rw [List.length_drop, S.len]; omega
  have P := impl_PlayRoomG Rf SD hfk hl
  have e1 : (playG GRoom.step (playG GRoom.step x (ys.take k)).1 (ys.drop k)).1 = (playG GRoom.step x ys).1 := by rw [e]
  have e2 : (playG GRoom.step (playG GRoom.step x (ys.take k)).1 (ys.drop k)).2 = (playG GRoom.step x ys).2.drop k := by
    rw [e]
    show _ = List.drop k (_ ++ _)
    rw [List.drop_left' (by rw [playG_len', List.length_take, S.len]; omega)]
  rw [e1, e2] at P
  rw [playG_take] at F
  have ly := S.len
  have l2 : ((playG GRoom.step x ys).2.drop k).length = 16 - k := by rw [List.length_drop, playG_len', ly]
  have fin : ∀ {h2 : Heap} {g : Nat} {b l c : _}, Ext hh h2 → RdP rRoom h2 ⟨g, 0, none⟩ (playG GRoom.step x ys).1 → SlR (rF .f32) h2 b l c ((playG GRoom.step x ys).2.drop k) → laws_FnRoomBlocks.J10 (TB2 h) px bb 16 bc pa ob 16 oc 0 pd mb 16 mc 0 ab k ac 0 ⟨g, 0, none⟩ b l c 0 h2 := fun {h2 g b l c} x2 RK SL => by
    obtain rfl : l = 16 - k := by rw [← SL.len, l2]
    exact fr10 (X.trans x2) (T.ext x2) ⟨X0.ext x2, A.ext x2, D.ext x2, RK, S.ext x2, O.ext x2, M.ext x2, F.ext x2, SL⟩ hx hk rfl rfl
  refine ⟨P.mono ?_, (Mem.start hh).alc fun g1 h1 x1 M1 => Fr.pin rfl x1 ?_⟩
  · rintro _ h2 ⟨c2, B2, b2, l2, k2, C2, rfl, O2, S2, M2⟩
    refine tup3 (as_a (as_l (as_i (M2.alc fun g3 h3 x3 M3 => Fr.pin rfl M3.ext (M3.sta0 .here (osz O2 rfl) (rRoom.oone O2) rfl .here fun h4 M4 => ?_)))))
    exact fin M4.ext (M4.rdp .here (rRoom.look O2 M4 ((List.sublist_append_left _ _).trans (List.sublist_cons_self _ _)))) (S2.look M4 ((List.sublist_append_right _ _).trans (List.sublist_cons_self _ _)))
  · have P1 := impl_PlayRoomG (rRoom.ext x1 Rf) (SD.ext x1) hfk hl
    rw [e1, e2] at P1
    refine P1.mono ?_
    rintro _ h2 ⟨c2, B2, b2, l2, k2, C2, rfl, O2, S2, M2⟩
    have M3 := M1.join M2
    refine tup3 (as_a (as_l (as_i ?_)))
    have M3 := M3.cnt (W := (g1, T_impl_Room, ⟨Z_impl_Room⟩) :: (B2 ++ C2)) fun p => by simp only [List.append_eq, cnt_app, cnt_cons, cnt_nil]; omega
    refine M3.sta0 .here (osz O2 rfl) (rRoom.oone O2) rfl .here fun h4 M4 => ?_
    exact fin M4.ext (M4.rdp .here (rRoom.look O2 M4 ((List.sublist_append_left _ _).trans (List.sublist_cons_self _ _)))) (S2.look M4 ((List.sublist_append_right _ _).trans (List.sublist_cons_self _ _)))
end
section
variable {h : Heap} {cb mb : Option Addr} {cc mc : Nat} {code more : List Int}
theorem FnRoomBlocks_c (T : Txt h) (C : Cells h cb (iv .u8 code)) (Cm : Cells h mb (iv .u8 more)) (hbc : Byt' code) (hbm : Byt' more) :
    CALL prg f_laws_FnRoomBlocks #[.slice cb code.length cc, .slice mb more.length mc] (fun u h' => u = .bool true ∧ Ext h h') h := by
  have G : Reads h cb mb code more := ⟨C, Cm, hbc, hbm⟩
  refine laws_FnRoomBlocks.call (goX f6big_c fun h1 x1 => as_b (br (fun _ => ⟨rfl, x1⟩) fun _ => goX f6big_c fun h2 x2 => as_b (br (fun _ => ⟨rfl, x1.trans x2⟩) fun _ => ?_)))
  unfold laws_FnRoomBlocks.J3
  have X := x1.trans x2
  have G := G.ext X
  refine (P6Room_c (Mem.start h2) G.c G.bc).mono ?_
  rintro _ h3 ⟨c3, B3, x, rfl, O3, hx, M3⟩
  refine as_a (keepR O3 rfl rfl (by simpa using M3) fun g4 h4 x4 A => ?_)
  have X := X.trans x4
  have G := G.ext x4
  refine (P6Plains_c (Mem.start h4) G.m G.bm (k := 16) (by decide)).mono ?_
  rintro _ h5 ⟨b5, c5, B5, ys, rfl, O5, M5⟩
  have S := O5.look M5 (List.sublist_append_left _ _)
  have ly := S.len
  have X := X.trans M5.ext
  have G := G.ext M5.ext
  have A := A.ext M5.ext
  have hys : ys.length ≤ 4096 := by omega
  have lz : (playG GRoom.step x ys).2.length = 16 := by rw [playG_len', ly]
  refine as_l (A.lda1 rfl fun c6 R6 => (impl_PlayRoomG R6 S hx hys).mono ?_)
  rintro _ h7 ⟨c7, B7, b7, l7, k7, C7, rfl, O7, S7, M7⟩
  refine tup3 (as_a (as_l (as_i (keepS O7 S7 rfl rfl M7 fun g8 h8 x8 A8 S8 => ?_))))
  have X := X.trans x8
  have G := G.ext x8
  have A := A.ext x8
  have S := S.ext x8
  refine A.lda1 rfl fun c9 R9 => (spec_PlayRoomG R9 S hx hys).mono ?_
  rintro _ h10 ⟨c10, B10, b10, l10, k10, C10, rfl, O10, S10, M10⟩
  refine tup3 (as_a (as_l (as_i (keepS O10 S10 rfl rfl M10 fun g11 h11 x11 A11 S11 => ?_))))
  have X := X.trans x11
  have G := G.ext x11
  have A := A.ext x11
  have S := S.ext x11
  have A8 := A8.ext x11
  have S8 := S8.ext x11
  obtain rfl : l7 = 16 := by rw [← S8.len, lz]
  obtain rfl : l10 = 16 := by rw [← S11.len, lz]
  refine (P6Pick_c (Mem.start h11) G.m G.bm).mono ?_
  rintro _ h12 ⟨v, rfl, v1, v2, v3, M12⟩
  obtain ⟨k, rfl⟩ := Int.eq_ofNat_of_zero_le v1
  have hk : k ≤ 16 := by omega
  have X := X.trans M12.ext
  have A := A.ext M12.ext
  have S := S.ext M12.ext
  have A8 := A8.ext M12.ext
  have S8 := S8.ext M12.ext
  have A11 := A11.ext M12.ext
  have S11 := S11.ext M12.ext
  have T := T.ext X
  have hcap := S.2.1
  refine as_i (A.lda1 rfl fun c13 R13 => slb (by omega) (by omega) (by omega) ?_)
  rw [Int.toNat_natCast, slA_0, Nat.sub_zero, Nat.sub_zero]
  have ST := slr_take S hk
  have hl : (ys.take k).length ≤ 4096 := by rw [List.length_take]; omega
  have P := impl_PlayRoomG R13 ST hx hl
  have lk : (playG GRoom.step x (ys.take k)).2.length = k := by rw [playG_len', List.length_take]; omega
  have fin : ∀ {h2 : Heap} {g : Nat} {b l c : _}, Ext h12 h2 → RdP rRoom h2 ⟨g, 0, none⟩ (playG GRoom.step x (ys.take k)).1 → SlR (rF .f32) h2 b l c (playG GRoom.step x (ys.take k)).2 → laws_FnRoomBlocks.J9 (TB2 h) ⟨g4, 0, none⟩ b5 16 c5 ⟨g8, 0, none⟩ b7 16 k7 0 ⟨g11, 0, none⟩ b10 16 k10 0 (k : Int) ⟨g, 0, none⟩ b l c 0 h2 := fun {h2 g b l c} x2 RK SL => by
    obtain rfl : l = k := by rw [← SL.len, lk]
    exact fr9 (X.trans x2) (T.ext x2) hx hk (A.ext x2) (A8.ext x2) (A11.ext x2) RK (S.ext x2) (S8.ext x2) (S11.ext x2) SL
  refine ⟨P.mono ?_, (Mem.start h12).alc fun g1 h1 x1 M1 => A.pin rfl x1 ?_⟩
  · rintro _ h2 ⟨c2, B2, b2, l2, k2, C2, rfl, O2, S2, M2⟩
    refine tup3 (as_a (as_l (as_i (M2.alc fun g3 h3 x3 M3 => A.pin rfl M3.ext (M3.sta0 .here (osz O2 rfl) (rRoom.oone O2) rfl .here fun h4 M4 => ?_)))))
    exact fin M4.ext (M4.rdp .here (rRoom.look O2 M4 ((List.sublist_append_left _ _).trans (List.sublist_cons_self _ _)))) (S2.look M4 ((List.sublist_append_right _ _).trans (List.sublist_cons_self _ _)))
  · have P1 := impl_PlayRoomG (rRoom.ext x1 R13) (ST.ext x1) hx hl
    refine P1.mono ?_
    rintro _ h2 ⟨c2, B2, b2, l2, k2, C2, rfl, O2, S2, M2⟩
    have M3 := M1.join M2
    refine tup3 (as_a (as_l (as_i ?_)))
    have M3 := M3.cnt (W := (g1, T_impl_Room, ⟨Z_impl_Room⟩) :: (B2 ++ C2)) fun p => by simp only [List.append_eq, cnt_app, cnt_cons, cnt_nil]; omega
    refine M3.sta0 .here (osz O2 rfl) (rRoom.oone O2) rfl .here fun h4 M4 => ?_
    exact fin M4.ext (M4.rdp .here (rRoom.look O2 M4 ((List.sublist_append_left _ _).trans (List.sublist_cons_self _ _)))) (S2.look M4 ((List.sublist_append_right _ _).trans (List.sublist_cons_self _ _)))
end
end Go.Sx
/- From what a law's call answers to the given row, where the row lists tables that the call reads. -/
namespace Go.Sx
open Go.ChangeShapes Go.WideShapes Go.ChangeAt Go.RowKit
set_option linter.unusedVariables false
/-- The same, where the call finds the program's variables as their types have them. -/
theorem law_returns_libs {H : Type} {enc : TypeId × Value → H} {C : Checked} {os : Os} {f : FuncId} {fn : Func} {s : ChangeSpec} {conds : List PathCond} {tb : TypeId} {laidL : List (String × DataW Unit)}
    (own : ownKnob C.prog.godebug = none) (started : os.Started) (noInit : C.prog.inits.idxOf? f = none) (hfn : C.prog.funcs[f]? = some fn) (hb : fn.body.isNone = false)
    (hn : (fn.name == "runtime.NumGoroutine") = false) (hvars : s.vars = []) (hspec : ∀ ds : List (DataW H), ds.length = fn.params.toList.length → s.fn H ds = { results := [.lit (.bool true)], args := ds })
    (hres : fn.resultTypes = #[tb]) (htb : C.prog.underlying tb = some .bool) (laid : laidOutB C.prog = true) (hread : ∀ t ∈ fn.params.toList, C.prog.readableRec t = true ∧ t < C.prog.types.size)
    (witness : ∃ (w : World) (tape : Tape) (i : Input), w.os = os ∧ (w.forCall tape i).Shaped C.prog ∧ i.vars = [] ∧ Input.okWide C.prog (w.forCall tape i) .any w.heap.size f i ∧
      ((s.pre enc C.prog fn conds false (w.forCall tape i).memory i.args ∧ laidMetH C.prog laidL (w.forCall tape i).memory) ∧ sizedMet enc C.prog fn (OpenSpec.ofChange s) false (w.forCall tape i).memory i.args) ∧ ({} : Assume).holds C.prog (lone (Frame.enter C.prog f i.args .normal) [] (w.forCall tape i)))
    (walk : ∀ (W : World) (base : Nat) (args : Array Value) (ds : List (DataW H)) (p : List MemPlace), DataW.TrodAll enc C.prog W 0 (fun _ => true) true fn.params.toList args.toList ds p →
      (∀ (j : Nat) t v, fn.params[j]? = some t → args[j]? = some v → Value.okWide C.prog W .any base t v) →
      (DataW.weightsEach C.prog (fn.params.toList ++ s.plain.varTypes C.prog) (ds ++ [])).all (· ≤ reachBytes) = true → laidMetH C.prog laidL W → W.ShapedOpen C.prog →
      CALL C.prog f args (fun u h' => u = .bool true ∧ Ext W.heap h') W.heap) :
    ReturnsInHanded {} C os f .any (fun w args => (s.pre enc C.prog fn conds false w args ∧ laidMetH C.prog laidL w) ∧ sizedMet enc C.prog fn (OpenSpec.ofChange s) false w args) (s.post enc C.prog fn false true false false) := by
  refine returnsInHanded_of_calls own started noInit witness ?_
  intro w tape i _ hS _ hok hpre hholds
  obtain ⟨_, _, _, fn', hfn', _, _, _, _, hval⟩ := hok
  have e : fn' = fn := Option.some.inj (hfn'.symm.trans hfn)
  subst e
  obtain ⟨⟨⟨ds, gs, before, hw, hc⟩, hx⟩, hz⟩ := hpre
  have hW := DataW.Whole.of_heap (w' := w.forCall tape i) (by rfl) hw
  have hL : laidMetH C.prog laidL (w.forCall tape i) := hx.of_heap (by rfl)
  have hsz := hz.weights hw
  have hW' := hW
  obtain ⟨p, q, hA, hV, rfl, hfz, hnd⟩ := hW
  rw [hvars] at hV
  obtain ⟨rfl, rfl⟩ := trodVars_none hV
  refine (calls_of_CALL hfn hb hn (walk (w.forCall tape i) w.heap.size i.args ds p hA hval hsz hL hS)).mono fun e W' ⟨v, he, hs, hv, hx⟩ => ?_
  subst he; subst hv
  refine ChangeSpec.post_blind ?_
  have bel := below_of hs hx
  have hl := trodAll_length hA
  refine ⟨ds, [], _, [], p, [], hW', ?_, ?_, ?_, bel.frame _, fun h => by cases h⟩
  · rw [List.append_nil, hspec ds hl, hres]; exact trodAll_mk1 (shut_bool htb true)
  · rw [List.append_nil, hspec ds hl]; exact trodAll_back laid bel hread hA
  · rw [List.append_nil, hspec ds hl, hvars]; rfl
/-- A table on the list is where the program has it, in every later world. -/
theorem laid_var {P : Program} {W : World} : ∀ {l : List (String × DataW Unit)} {ps : List MemPlace}, DataW.LaidVars P W l ps → ∀ n d, (n, d) ∈ l →
    ∃ g t cs fuel p, P.globalNamed n = some g ∧ (P.globals[g]?).map (·.type) = some t ∧ W.var? P n = some cs ∧ DataW.trod (fun _ => ()) P W 0 (fun _ => true) false fuel t cs.toList = some (d, p)
  | [], _, _, _, _, hm => by cases hm
  | (n', d') :: r, ps, h, n, d, hm => by
    obtain ⟨g, t, cs, fuel, p, q, h1, h2, h3, h4, h5, _⟩ := h
    rcases List.mem_cons.1 hm with e | e
    · cases e
      exact ⟨g, t, cs, fuel, p, h1, h2, h3, h4⟩
    · exact laid_var h5 n d e
theorem var_ext {P : Program} {W w : World} {n : String} {cs : Array Value} (h : W.var? P n = some cs) (X : Ext W.heap w.heap) : w.var? P n = some cs := by
  unfold World.var? at *
  cases hg : P.globalNamed n with
  | none => rw [hg] at h; cases h
  | some g =>
    rw [hg] at h
    simp only [Option.bind_some] at h ⊢
    cases ho : W.heap[g]? with
    | none => rw [ho] at h; cases h
    | some o =>
      rw [X.eq g (Array.getElem?_eq_some_iff.1 ho).1]
      exact h
theorem laid_tab {P : Program} {W : World} {l : List (String × DataW Unit)} {name : String} {k : IntKind} {zs : List Int} {g : Nat} {t e : TypeId} {n : Nat}
    (hg : P.globalNamed name = some g) (hty : (P.globals[g]?).map (·.type) = some t) (ht : P.underlying t = some (.array n e)) (he : P.underlying e = some (.int k)) (hce : P.cellsOf e = 1) (hct : P.cellsOf t = n)
    (h : laidMet P l W) (hm : (name, Lib.tabData k zs) ∈ l) : ∀ w : World, Ext W.heap w.heap → Lib.TabIs P w name k zs := by
  obtain ⟨ps, hv, _⟩ := h
  obtain ⟨g', t', cs, fuel, p, hg', ht', hvar, hd⟩ := laid_var hv _ _ hm
  obtain rfl := Option.some.inj (hg.symm.trans hg')
  obtain rfl := Option.some.inj (hty.symm.trans ht')
  intro w X
  unfold Lib.TabIs
  rw [var_ext hvar X, ← Lib.cells_of_tab ht he hce hct hd]
/-- A variable on the list that holds an interface's value. -/
theorem laid_iface {P : Program} {W : World} {l : List (String × DataW Unit)} {name nm : String} {d : DataW Unit} {g : Nat} {ti : TypeId} {ms : Array (String × TypeId)}
    (hg : P.globalNamed name = some g) (hty : (P.globals[g]?).map (·.type) = some ti) (hi : P.underlying ti = some (.interface ms)) (h : laidMet P l W) (hm : (name, .iface nm d) ∈ l) : ∃ ev, cell W.heap ⟨g, 0, none⟩ = some ev ∧ (ev = .nilIface ∨ ∃ te pe, ev = .iface te pe) := by
  obtain ⟨ps, hv, _⟩ := h
  obtain ⟨g', t', cs, fuel, p, hg', ht', hvar, hd⟩ := laid_var hv _ _ hm
  obtain rfl := Option.some.inj (hg.symm.trans hg')
  obtain rfl := Option.some.inj (hty.symm.trans ht')
  obtain ⟨f1, u, v, e, hn, h1⟩ := iface_of_trod hi hd
  have h0 := World.var?_cell hg hvar 0
  rw [← Array.getElem?_toList, e] at h0
  exact ⟨_, h0, .inr ⟨u, v, rfl⟩⟩
end Go.Sx
/- The table that the counting of zeros reads, off a row's list. -/
namespace Go.Sx
open Go.Proofs
theorem laid_bru {W : World} {l : List (String × DataW Unit)} {t e : TypeId} (hg : prg.globalNamed "math/bits.deBruijn64tab" = some (R27.g 1)) (hty : (prg.globals[R27.g 1]?).map (·.type) = some t) (ht : prg.underlying t = some (.array 64 e)) (he : prg.underlying e = some (.int .u8)) (hce : prg.cellsOf e = 1) (hct : prg.cellsOf t = 64)
    (h : laidMet prg l W) (hm : ("math/bits.deBruijn64tab", Lib.tabData .u8 (Lib.deBruijn64tab.map fun n : Nat => (n : Int))) ∈ l) : Bru W.heap := by
  intro w X j hj
  have := Lib.TabIs.cell (laid_tab hg hty ht he hce hct h hm w X) hg j (by simpa using hj)
  rw [this]
  simp [List.getD, hj]
end Go.Sx
