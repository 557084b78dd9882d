/- Rooms: played, as a block, the same, their energy. -/
import Derived.Test.YtkgmfiloghhibaaGreatDoorLvn
import Derived.Test.YtkgmfiloghhibaaGreatDoorLk21
import Derived.Test.YtkgmfiloghhibaaGreatDoorPlayRoom
import Derived.Test.YtkgmfiloghhibaaGreatDoorLm17
import Derived.Test.YtkgmfiloghhibaaGreatDoorLp4
set_option linter.unusedVariables false
set_option linter.unusedSimpArgs false
namespace Go.Sx
open Go.Proofs
set_option maxRecDepth 100000
set_option maxHeartbeats 2000000

theorem play_playG (x : GRoom) : ∀ l, x.play l = playG GRoom.step x l
  | [] => rfl
  | a :: l => by
    show (((x.step a).1.play l).1, (x.step a).2 :: ((x.step a).1.play l).2) = _
    rw [play_playG (x.step a).1 l]; rfl
theorem playGR_ok {x : GRoom} (hx : x.ok = true) (R : x.Runs) (l : List Nat) : (playG GRoom.step x l).1.ok = true := by
  induction l generalizing x with
  | nil => exact hx
  | cons a l ih => exact ih (room_step_ok hx R.c2 R.l4 R.d4 a) (step_runs R a)
theorem playGR_runs {x : GRoom} (R : x.Runs) (l : List Nat) : (playG GRoom.step x l).1.Runs := by rw [← play_playG]; exact play_runs R l
section
variable {h0 h : Heap} {L : List Blk} {g : Nat} {x : GRoom} {b : Option Addr} {l c : Nat} {xs : List Nat} {cs : Array Value}
theorem spec_PlayRoomG (R0 : rRoom.rd h cs.toList x) (S0 : SlR (rF .f32) h b l c xs) (hok : x.ok = true) (hxs : xs.length ≤ 4096) : CALL prg f_spec_PlayRoom #[.agg cs, .slice b l c] (fun u h' => TriG rRoom h h' u (playG GRoom.step x xs).1 (playG GRoom.step x xs).2 0) h := by
  have P := spec_PlayRoom_c R0 S0
  rw [played0 hok hxs, play_playG] at P
  exact P
theorem impl_PlayRoomG (R0 : rRoom.rd h cs.toList x) (S0 : SlR (rF .f32) h b l c xs) (hok : x.ok = true) (hxs : xs.length ≤ 4096) : CALL prg f_impl_PlayRoom #[.agg cs, .slice b l c] (fun u h' => TriG rRoom h h' u (playG GRoom.step x xs).1 (playG GRoom.step x xs).2 0) h := by
  have P := impl_PlayRoom_c R0 S0
  rw [played0 hok hxs, play_playG] at P
  exact P
theorem impl_BlockOfRoomG {ca : Array Value} (R0 : rRoom.rd h cs.toList x) (Rb : FA 16 ca xs) (hok : x.ok = true) : CALL prg f_impl_BlockOfRoom #[.agg cs, .agg ca] (fun u h' => TriBk rRoom h h' u (playG GRoom.step x xs).1 (playG GRoom.step x xs).2) h := by
  have hx16 : xs.length = 16 := Rb.1
  have hr := room_runs R0 hok
  refine impl_BlockOfRoom.call ((Mem.start h).alc fun g1 h1 x1 M => M.alc fun g2 h2 x2 M => M.alc fun g3 h2 x2 M => M.alc fun g4 h2 x2 M => M.lda0 (.there (.there (.there .here))) (rsz R0 rfl) ?_)
  refine goM M (ValidRoom_c (rRoom.ext M.ext R0)) fun h3 M => as_b ?_
  rw [hok]
  refine br_f rfl (M.lda0 (.there (.there (.there .here))) (rsz R0 rfl) (NewR.go M (Room_clone_c (rRoom.ext M.ext R0) (ok_small hok)) fun h4 c4 B4 M O4 s4 => as_a ?_))
  have M := M.cnt (W := (g1, T_impl_Room, cs) :: (B4 ++ [(g4, T_impl_Block, ⟨Z_impl_Block⟩), (g3, T_impl_Room, ⟨Z_impl_Room⟩), (g2, T_impl_Block, ca)])) (fun p => by simp only [cnt_app, cnt_cons, cnt_nil] at *; omega)
  refine M.sta0 .here s4 (rRoom.oone O4) (rsz R0 rfl) .here fun h6 M => ?_
  have P : Pt rRoom h h6 ⟨g1, 0, none⟩ ⟨g1, T_impl_Room, [], []⟩ [(g4, T_impl_Block, ⟨Z_impl_Block⟩), (g3, T_impl_Room, ⟨Z_impl_Room⟩), (g2, T_impl_Block, ca)] (gN GRoom.step x xs 0) := Pt.new O4 M
  refine (made_c (X := gN GRoom.step x xs) (f := outN GRoom.step x xs) P fun n hh W hn P => ?_).mono ?_
  · show CALL prg f_impl_BlockOfRoom_c1 #[.int .i64 (n : Int), .pointer (some ⟨g1, 0, none⟩), .pointer (some ⟨g2, 0, none⟩)] _ hh
    refine impl_BlockOfRoom_c1.call (idx (by omega) (by omega) ((Look.skip (.there (.there .here))).oA P.mem Rb (i := n) hn fun w hw => (Room_step_c P (playGR_runs hr (xs.take n)) hw).mono ?_))
    rintro _ h8 ⟨⟨y, rfl, hy⟩, P⟩
    refine as_f ⟨⟨y, rfl, hy⟩, ?_⟩
    rw [gN_step (by omega)]; exact P
  rintro _ h7 ⟨co, rfl, Fo, P⟩
  rw [outN_all hx16] at Fo
  rw [gN_all hx16] at P
  refine as_a ((Mem.start h7).alc fun g5 h8 x8 N => N.sta0 .here Fo.size Fo.one rfl .here fun h9 N => ?_)
  have P := P.join N
  obtain ⟨cs', B, M, O⟩ := P.out
  refine M.lda0 .here (osz O rfl) (M.lda0 (.there (Look.skip .here)) Fo.size ?_)
  have M := M.cnt (W := (g3, T_impl_Room, ⟨Z_impl_Room⟩) :: (g4, T_impl_Block, ⟨Z_impl_Block⟩) :: (g5, T_impl_Block, co) :: B) (fun p => by simp only [cnt_app, cnt_cons, cnt_nil] at *; omega)
  refine M.sta0 .here (osz O rfl) (rRoom.oone O) rfl .here fun h3 M2 => M.pin2 (.there (.there .here)) M2 (.there (.there .here)) (M2.sta0 (.there .here) Fo.size Fo.one rfl (.there .here) fun h4 M => ?_)
  refine M.lda0 .here (osz O rfl) (M.lda0 (.there .here) Fo.size ?_)
  exact ⟨_, B, _, rfl, O, Fo, M.drop.drop.drop⟩
end
def sqW (a : Nat) : Nat := fmul .f64 (wid a) (wid a)
def enL (s : Nat) (l : List Nat) : Nat := l.foldl (fun s a => fadd .f64 s (sqW a)) s
def enX (s : Nat) (rs : List GRing) : Nat := rs.foldl (fun s r => enL s r.Samples) s
theorem fin_num {a : Nat} (h : fin a = true) : nan .f32 a = false := by
  cases e : nan .f32 a with
  | false => rfl
  | true =>
    exfalso
    unfold fin at h
    have h2 : feq .f32 (fsub .f32 a a) 0 = false := by
      unfold feq fsub
      rw [sub_nl a a e, Option.getD_none]
      decide +kernel
    rw [h2] at h; cases h
theorem wid_num {a : Nat} (h : fin a = true) : nan .f64 (wid a) = false := by
  have h1 := wide_not_nan (fin_num h)
  have : wid a = wide a := by unfold wid cn; rw [h1]; rfl
  rw [this]; exact h1
theorem nn_sqW {a : Nat} (h : fin a = true) : Nng (sqW a) := nn_sq (wid_num h)
theorem nn_zero : Nng 0 := Nat.zero_le _
theorem nn_enL {l : List Nat} : ∀ {s : Nat}, Nng s → (∀ a ∈ l, fin a = true) → Nng (enL s l) := by
  induction l with
  | nil => exact fun hs _ => hs
  | cons a l ih => exact fun hs h => ih (nn_add hs (nn_sqW (h a (List.mem_cons_self ..)))) fun b hb => h b (List.mem_cons_of_mem _ hb)
theorem nn_enX {rs : List GRing} : ∀ {s : Nat}, Nng s → (∀ r ∈ rs, ∀ a ∈ r.Samples, fin a = true) → Nng (enX s rs) := by
  induction rs with
  | nil => exact fun hs _ => hs
  | cons r rs ih => exact fun hs h => ih (nn_enL hs (h r (List.mem_cons_self ..))) fun b hb => h b (List.mem_cons_of_mem _ hb)
theorem en_take {l : List Nat} {s n : Nat} (hn : n < l.length) : enL s (l.take (n + 1)) = fadd .f64 (enL s (l.take n)) (sqW l[n]!) := by
  unfold enL
  rw [take_snoc hn, List.foldl_append]; rfl
theorem enX_take {rs : List GRing} {n : Nat} (hn : n < rs.length) : enX 0 (rs.take (n + 1)) = enL (enX 0 (rs.take n)) rs[n]!.Samples := by
  unfold enX
  rw [take_snoc hn, List.foldl_append]; rfl
theorem loops_fin {x : GRoom} (h : x.ok = true) : ∀ r ∈ x.Loops, ∀ a ∈ r.Samples, fin a = true := by
  intro r hr a ha
  rw [room_ok] at h
  simp only [Bool.and_eq_true] at h
  have h1 := List.all_eq_true.1 h.1.1.1.1.1.2 r hr
  unfold GRing.okf at h1
  rw [Bool.and_eq_true] at h1
  unfold allFin at h1
  exact List.all_eq_true.1 h1.2 a ha
section
variable {h : Heap} {x : GRoom} {cs : Array Value}
def EnR (h h' : Heap) (u : Value) (s : Nat) : Prop := ∃ r, u = .tuple ⟨[.float .f64 r, .int .i64 (0 : Int)]⟩ ∧ FW .f64 r s ∧ Ext h h'
theorem impl_EnergyOfRoom_c (R0 : rRoom.rd h cs.toList x) (hok : x.ok = true) : CALL prg f_impl_EnergyOfRoom #[.agg cs] (fun u h' => EnR h h' u (enX 0 x.Loops)) h := by
  have hl4 : x.Loops.length = 4 := (room_runs R0 hok).l4
  refine impl_EnergyOfRoom.call (alcR R0 fun g h1 x1 R => R.lda1 rfl fun c1 R1 => goX (ValidRoom_c R1) fun h2 x2 => as_b ?_)
  rw [hok]
  refine br_f rfl ((R.ext x2).lda2 foc_Room_Loops rfl fun cL RL => ?_)
  have X0 := x1.trans x2
  refine loop (fun y hh => ∃ (n s : Nat), y = (s, cL, (n : Int)) ∧ n ≤ 4 ∧ FW .f64 s (enX 0 (x.Loops.take n)) ∧ Ext h2 hh) (fun y => (4 - y.2.2).toNat) ⟨0, 0, rfl, by omega, fw_c64 (by decide) (by decide), Ext.refl _⟩ ?_
  rintro y hh ⟨n, s, rfl, hn, hs, X⟩
  refine brd (fun hc => ?_) fun hc => ?_
  · have Rn : rRing.rd h2 (cL.extract (n * 2) (n * 2 + 2)).toList x.Loops[n]! := rd_part RL (Foc.arr rRing n (by omega)) rfl
    refine idx (by omega) (by omega) ?_
    rw [Int.toNat_natCast]
    refine (Mem.start hh).alc fun g2 h8 x8 M => M.sta0 .here (rsz Rn rfl) (rRing.rone Rn) rfl .here fun h9 M => ?_
    have X9 := X.trans M.ext
    have R9 : RdP rRing h9 ⟨g2, 0, none⟩ x.Loops[n]! := M.rdp .here (rRing.ext X9 Rn)
    refine R9.oL1 fun b l c S => ?_
    have hl : x.Loops[n]!.Samples.length = l := S.len
    refine loop (fun y hh => ∃ (m s : Nat), y = (s, cL, (n : Int), b, l, c, (l : Int), (m : Int)) ∧ m ≤ l ∧ FW .f64 s (enL (enX 0 (x.Loops.take n)) (x.Loops[n]!.Samples.take m)) ∧ Ext h9 hh) (fun y => (l - y.2.2.2.2.2.2.2).toNat) ⟨0, s, rfl, by omega, hs, Ext.refl _⟩ ?_
    rintro y hh ⟨m, s, rfl, hm, hs, Y⟩
    refine brd (fun hc => ?_) fun hc => ?_
    · refine (S.ext Y).idx (by decide) (by omega) (by omega) fun p Rp => Rp.oF1 fun w hw => ?_
      rw [Int.toNat_natCast] at hw
      refine ffc_wide hw fun r1 q1 => ffc_wide hw fun r2 q2 => fM q1 q2 fun r3 q3 => fA hs q3 fun r4 q4 => ?_
      have q4 : FW .f64 r4 (fadd .f64 (enL (enX 0 (x.Loops.take n)) (x.Loops[n]!.Samples.take m)) (sqW x.Loops[n]!.Samples[m]!)) := q4
      rw [← en_take (by omega)] at q4
      have S2 := S.2.2.1
      have S1 := S.2.1
      have hmx := maxLen_lt
      exact ⟨⟨m + 1, r4, by rw [wrap64_succ (by omega)], by omega, q4, Y⟩, by rw [wrap64_succ (by omega)]; show _ < _; simp; omega⟩
    obtain rfl : m = l := by omega
    rw [← hl, List.take_length, ← enX_take (by omega)] at hs
    exact ⟨⟨n + 1, s, by rw [wrap64_succ (by omega)], by omega, hs, X9.trans Y⟩, by rw [wrap64_succ (by omega)]; show _ < _; simp; omega⟩
  obtain rfl : n = 4 := by omega
  rw [← hl4, List.take_length] at hs
  exact ⟨s, rfl, hs, X0.trans X⟩
theorem spec_EnergyOfRoom_c (R0 : rRoom.rd h cs.toList x) (hok : x.ok = true) : CALL prg f_spec_EnergyOfRoom #[.agg cs] (fun u h' => EnR h h' u (enX 0 x.Loops)) h := by
  have hl4 : x.Loops.length = 4 := (room_runs R0 hok).l4
  have hf := loops_fin hok
  refine spec_EnergyOfRoom.call (alcR R0 fun g h1 x1 R => goX (l06Ok_c R) fun h2 x2 => as_b ?_)
  rw [hok]
  have X0 := x1.trans x2
  have R := R.ext x2
  refine br_f rfl (loop (fun y hh => ∃ (n s : Nat) (f : Bool), y = (⟨g, 0, none⟩, s, f, (n : Int)) ∧ n ≤ 4 ∧ FW .f64 s (enX 0 (x.Loops.take n)) ∧ (f = true → enX 0 (x.Loops.take n) = 0) ∧ hh = h2) (fun y => (4 - y.2.2.2).toNat) ⟨0, 0, true, rfl, by omega, fw_c64 (by decide) (by decide), fun _ => rfl, rfl⟩ ?_)
  rintro y hh ⟨n, s, f, rfl, hn, hs, hfst, rfl⟩
  refine brd (fun hc => ?_) fun hc => ?_
  · have Rn := (R.foc foc_Room_Loops).elem (i := n) (by omega)
    refine loop (fun y h' => ∃ (m s : Nat) (f : Bool), y = (⟨g, 0, none⟩, s, f, (n : Int), (m : Int)) ∧ m ≤ x.Loops[n]!.Samples.length ∧ FW .f64 s (enL (enX 0 (x.Loops.take n)) (x.Loops[n]!.Samples.take m)) ∧ (f = true → enL (enX 0 (x.Loops.take n)) (x.Loops[n]!.Samples.take m) = 0) ∧ h' = hh) (fun y => (x.Loops[n]!.Samples.length - y.2.2.2.2).toNat) ⟨0, s, f, rfl, by omega, hs, hfst, rfl⟩ ?_
    rintro y h' ⟨m, s, f, rfl, hm, hs, hfst, rfl⟩
    refine idx (by omega) (by omega) (Rn.oL1 fun b l c S => ?_)
    have hl : x.Loops[n]!.Samples.length = l := S.len
    have S2 := S.2.2.1
    have S1 := S.2.1
    have hmx := maxLen_lt
    refine brd (fun hc => ?_) fun hc => ?_
    · have hfa : fin x.Loops[n]!.Samples[m]! = true := hf _ (mem_get (l := x.Loops) (i := n) (by omega)) _ (mem_get (l := x.Loops[n]!.Samples) (i := m) (by omega))
      refine idx (by omega) (by omega) (Rn.oL1 fun b2 l2 c2 Sb => ?_)
      have hl2 : x.Loops[n]!.Samples.length = l2 := Sb.len
      refine Sb.idx (by decide) (by omega) (by omega) fun p Rp => Rp.oF1 fun w hw => ?_
      rw [Int.toNat_natCast] at hw
      refine ffc_wide hw fun r1 q1 => br (fun hb => ?_) fun hb => ?_
      · refine fM q1 q1 fun r3 q3 => ?_
        have q3 : FW .f64 r3 (sqW x.Loops[n]!.Samples[m]!) := q3
        rw [← zero_add64 (nn_sqW hfa), ← hfst hb, ← en_take (by omega)] at q3
        exact ⟨⟨m + 1, r3, false, by rw [wrap64_succ (by omega)], by omega, q3, fun h => (by cases h), rfl⟩, by rw [wrap64_succ (by omega)]; show (((x.Loops[n]!.Samples.length : Nat) : Int) - ((m + 1 : Nat) : Int)).toNat < (((x.Loops[n]!.Samples.length : Nat) : Int) - ((m : Nat) : Int)).toNat; omega⟩
      · refine fM q1 q1 fun r3 q3 => fA hs q3 fun r4 q4 => ?_
        have q4 : FW .f64 r4 (fadd .f64 (enL (enX 0 (x.Loops.take n)) (x.Loops[n]!.Samples.take m)) (sqW x.Loops[n]!.Samples[m]!)) := q4
        rw [← en_take (by omega)] at q4
        exact ⟨⟨m + 1, r4, false, by rw [wrap64_succ (by omega)], by omega, q4, fun h => (by cases h), rfl⟩, by rw [wrap64_succ (by omega)]; show (((x.Loops[n]!.Samples.length : Nat) : Int) - ((m + 1 : Nat) : Int)).toNat < (((x.Loops[n]!.Samples.length : Nat) : Int) - ((m : Nat) : Int)).toNat; omega⟩
    obtain rfl : m = x.Loops[n]!.Samples.length := by omega
    rw [List.take_length, ← enX_take (by omega)] at hs hfst
    exact ⟨⟨n + 1, s, f, by rw [wrap64_succ (by omega)], by omega, hs, hfst, rfl⟩, by rw [wrap64_succ (by omega)]; show _ < _; simp; omega⟩
  obtain rfl : n = 4 := by omega
  rw [← hl4, List.take_length] at hs
  exact ⟨s, rfl, hs, X0⟩
end
end Go.Sx
/- Rooms compared by the program: the same with itself. -/
set_option linter.unusedVariables false
set_option linter.unusedSimpArgs false
namespace Go.Sx
open Go.Proofs
set_option maxRecDepth 100000
set_option maxHeartbeats 1000000

section
variable {h : Heap} {x : GRoom}
theorem tap_same {ca cb : Array Value} {t : GTap} (Ra : rTap.rd h ca.toList t) (Rb : rTap.rd h cb.toList t) : CALL prg f_impl_SameRoom_c1 #[.agg ca, .agg cb] (fun u h' => u = .bool true ∧ Ext h h') h :=
  impl_SameRoom_c1.call (alcR Ra fun g1 h1 x1 A => alcR (rTap.ext x1 Rb) fun g3 h3 x3 B => (A.ext x3).oI2 (B.oI2 (br_t (by simp) ((A.ext x3).oF2 fun y hy => B.oF2 fun z hz => goX (SameSample_c hy hz _) fun h4 x4 => as_b ⟨by simp, x1.trans (x3.trans x4)⟩))))
theorem EqualFunc_Tap_c {b1 b2 : Option Addr} {l1 c1 l2 c2 : Nat} {ts : List GTap} (S1 : SlR rTap h b1 l1 c1 ts) (S2 : SlR rTap h b2 l2 c2 ts) :
    CALL prg f_slices_EqualFunc_sl_impl_Tap_sl_impl_Tap_impl_Tap_impl_Tap #[.slice b1 l1 c1, .slice b2 l2 c2, .func (.func f_impl_SameRoom_c1) #[] #[]] (fun u h' => u = .bool true ∧ Ext h h') h := by
  have e1 := S1.len
  have e2 := S2.len
  have k1 := S1.2.1
  have k2 := S1.2.2.1
  have hm := maxLen_lt
  refine slices_EqualFunc_sl_impl_Tap_sl_impl_Tap_impl_Tap_impl_Tap.call (br_f (by simp; omega) ?_)
  refine loop (fun y hh => ∃ n : Nat, y = (b2, l2, c2, .func (.func f_impl_SameRoom_c1) #[] #[], b1, l1, c1, (l1 : Int), (n : Int)) ∧ n ≤ l1 ∧ Ext h hh) (fun y => (l1 - y.2.2.2.2.2.2.2.2).toNat) ⟨0, rfl, by omega, Ext.refl _⟩ ?_
  rintro y hh ⟨n, rfl, hn, X⟩
  refine brd (fun hc => ?_) fun hc => ⟨rfl, X⟩
  refine (S1.ext X).idx tap_sz (by omega) (by omega) fun a Ra => Ra.lda1 rfl fun ca Rc => ?_
  refine (Mem.start hh).alc fun g1 h1 x1 M => M.sta0 .here (rsz Rc rfl) (rTap.rone Rc) rfl .here fun h2 M => ?_
  refine (S2.ext (X.trans M.ext)).idx tap_sz (by omega) (by omega) fun a2 Ra2 => Ra2.lda1 rfl fun cb Rd => ?_
  refine M.alc fun g2 h3 x3 M => M.sta0 .here (rsz Rd rfl) (rTap.rone Rd) rfl .here fun h4 M => ?_
  refine M.lda0 (.there .here) (rsz Rc rfl) (M.lda0 .here (rsz Rd rfl) ?_)
  have Rd4 : rTap.rd h4 cb.toList ts[(n : Int).toNat]! := (flat_Tap _ _ _ Rd) |> fun O => rTap.look O (Mem.start h4) (List.Sublist.refl _)
  show CALL prg f_impl_SameRoom_c1 #[.agg ca, .agg cb] _ h4
  refine goM M (tap_same (rTap.ext M.ext Rc) Rd4) fun h5 M => as_b (br_f rfl ⟨⟨n + 1, by rw [wrap64_succ (by omega)], by omega, X.trans M.ext⟩, by rw [wrap64_succ (by omega)]; show _ < _; simp; omega⟩)
theorem impl_SameRoom_c {ca cb : Array Value} (Ra : rRoom.rd h ca.toList x) (Rb : rRoom.rd h cb.toList x) : CALL prg f_impl_SameRoom #[.agg ca, .agg cb] (fun u h' => u = .bool true ∧ Ext h h') h := by
  refine impl_SameRoom.call (alcR Ra fun g1 h1 x1 A => alcR (rRoom.ext x1 Rb) fun g3 h3 x3 B => ?_)
  have A := A.ext x3
  have X0 := x1.trans x3
  refine loop (fun y hh => ∃ n : Nat, y = (⟨g1, 0, none⟩, ⟨g3, 0, none⟩, (n : Int)) ∧ n ≤ 2 ∧ Ext h3 hh) (fun y => (2 - y.2.2).toNat) ⟨0, rfl, by omega, Ext.refl _⟩ ?_
  rintro y hh ⟨n, rfl, hn, X⟩
  refine brd (fun hc => ?_) fun hc => ?_
  · have CA := ((A.ext X).foc foc_Room_Combs).elem (i := n) (by omega)
    have CB := ((B.ext X).foc foc_Room_Combs).elem (i := n) (by omega)
    refine idx (by omega) (by omega) ((CA.fst foc_Comb_Ring).lda1 rfl fun c1 R1 => idx (by omega) (by omega) ((CB.fst foc_Comb_Ring).lda1 rfl fun c2 R2 => goX (SameRing_c R1 R2) fun h4 x4 => as_b ?_))
    rw [same_refl]
    refine br_f rfl (idx (by omega) (by omega) ((CA.ext x4).oF fun y hy => idx (by omega) (by omega) ((CB.ext x4).oF fun z hz => goX (SameSample_c hy hz _) fun h5 x5 => as_b (br_f (by simp) ?_))))
    exact ⟨⟨n + 1, by rw [wrap64_succ (by omega)], by omega, X.trans (x4.trans x5)⟩, by rw [wrap64_succ (by omega)]; show _ < _; simp; omega⟩
  refine loop (fun y hh => ∃ n : Nat, y = (⟨g1, 0, none⟩, ⟨g3, 0, none⟩, (n : Int)) ∧ n ≤ 4 ∧ Ext h3 hh) (fun y => (4 - y.2.2).toNat) ⟨0, rfl, by omega, X⟩ ?_
  clear X hc hn n hh
  rintro y hh ⟨n, rfl, hn, X⟩
  refine brd (fun hc => ?_) fun hc => ?_
  · have LA := ((A.ext X).foc foc_Room_Loops).elem (i := n) (by omega)
    have LB := ((B.ext X).foc foc_Room_Loops).elem (i := n) (by omega)
    refine idx (by omega) (by omega) (LA.lda1 rfl fun c1 R1 => idx (by omega) (by omega) (LB.lda1 rfl fun c2 R2 => goX (SameRing_c R1 R2) fun h4 x4 => as_b ?_))
    rw [same_refl]
    have DA := ((A.ext (X.trans x4)).foc foc_Room_Damps).elem (i := n) (by omega)
    have DB := ((B.ext (X.trans x4)).foc foc_Room_Damps).elem (i := n) (by omega)
    refine br_f rfl (idx (by omega) (by omega) (DA.lda1 rfl fun c1 R1 => idx (by omega) (by omega) (DB.lda1 rfl fun c2 R2 => goX (SameFilter_c R1 R2) fun h5 x5 => as_b ?_)))
    rw [same_refl]
    have X5 := X.trans (x4.trans x5)
    have GA := ((A.ext X5).foc foc_Room_Gains).elem (i := n) (by omega)
    have GB := ((B.ext X5).foc foc_Room_Gains).elem (i := n) (by omega)
    refine br_f rfl (idx (by omega) (by omega) (GA.oF1 fun y hy => idx (by omega) (by omega) (GB.oF1 fun z hz => goX (SameSample_c hy hz _) fun h6 x6 => as_b (br_f (by simp) ?_))))
    exact ⟨⟨n + 1, by rw [wrap64_succ (by omega)], by omega, X5.trans x6⟩, by rw [wrap64_succ (by omega)]; show _ < _; simp; omega⟩
  refine (A.ext X).oL fun b1 l1 c1 S1 => (B.ext X).oL fun b2 l2 c2 S2 => goX (EqualFunc_Tap_c S1 S2) fun h4 x4 => as_b (br_t rfl ?_)
  have X4 := X.trans x4
  refine ((A.ext X4).fst foc_Room_Early).lda1 rfl fun c1 R1 => ((B.ext X4).fst foc_Room_Early).lda1 rfl fun c2 R2 => goX (SameRing_c R1 R2) fun h5 x5 => as_b ?_
  rw [same_refl]
  have X5 := X4.trans x5
  refine br_t rfl ((A.ext X5).oF fun y hy => (B.ext X5).oF fun z hz => goX (SameSample_c hy hz _) fun h6 x6 => as_b (br_t (by simp) ?_))
  have X6 := X5.trans x6
  exact (A.ext X6).oF fun y hy => (B.ext X6).oF fun z hz => goX (SameSample_c hy hz _) fun h7 x7 => as_b ⟨by simp, X0.trans (X6.trans x7)⟩
end
end Go.Sx
/- A slice that is read, appended to an own one. -/
set_option linter.unusedVariables false
set_option linter.unusedSimpArgs false
namespace Go.Sx
section
variable {α : Type} {P : Program} {r : Rep α} {h0 h : Heap} {L : List Blk} {t e bytes ty : Nat} {b b2 : Option Addr} {l c l2 c2 : Nat} {xs ys : List α} {K : Value → Heap → Prop}
theorem app_slr {B : List Blk} (E : ElemT P t e r.sz bytes) (hz : 0 < r.sz) (hf : Flat r) (O : SlO e r B b l c xs) (S : SlR r h b2 l2 c2 ys) (M : Mem h0 h (B ++ L)) (hm : l + l2 ≤ maxLen) (hb : (l + l2) * bytes ≤ 140737488355328)
    (H : ∀ b' c' h' B', SlO e r B' b' (l + l2) c' (xs ++ ys) → Mem h0 h' (B' ++ L) → K (.slice b' (l + l2) c') h') : SEMV P (Builtin.append_ #[t, t] ty #[.slice b l c, .slice b2 l2 c2]) K h := by
  obtain ⟨h1, h2, h3, ws, C, R⟩ := S
  cases b2 with
  | some a => exact O.app (Bn := []) E (by simpa using M) h1 (flat_rds hf R) (fun j v hj => C.get hj) hm hb fun b' c' h' B' O' M' => H b' c' h' B' O' M'
  | none =>
    have hw : ws = [] := by
      cases ws with
      | nil => rfl
      | cons w ws => obtain ⟨a, e, _⟩ := C 0 (by simp); cases e
    subst hw
    have hx : ys.length * r.sz = 0 := by rw [← R.len]; rfl
    have hl : l2 = 0 := by
      rcases Nat.mul_eq_zero.1 hx with h | h <;> omega
    subst hl
    obtain rfl : ys = [] := List.eq_nil_of_length_eq_zero h1
    obtain ⟨i, z, hi, hz', e1, e2, hzs⟩ := E.hi
    have hlc : l ≤ c := by
      obtain ⟨_, _, _, _, _, O1, _⟩ := O
      exact O1.le
    have HH := H b c h B (by rw [List.append_nil]; exact O) M
    rw [Nat.add_zero] at HH
    refine semv fun w hw => ⟨.slice b l c, w, ?_, Same.refl _, by rw [hw]; exact HH⟩
    simp [Builtin.append_, run_underlying E.ht, sizeOf, typeInfo, hi, Builtin.lenOf, Builtin.firstCells, loadCells, loadCellsFrom, storeCells, hlc]
    cases b <;> rfl
end
end Go.Sx
