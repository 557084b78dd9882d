/- Rooms given taps, as the program does it. -/
import Derived.Test.YthgnpepchedpbaaGreatLk9
import Derived.Test.YthgnpepchedpbaaGreatWithTaps
import Derived.Test.YthgnpepchedpbaaGreatLq3
set_option linter.unusedVariables false
set_option linter.unusedSimpArgs false
namespace Go.Sx
open Go.Proofs
set_option maxRecDepth 100000

def GRoom.withTaps (x : GRoom) (n : Int) (ts : List GTap) : GRoom × Int :=
  if x.ok then if ts.length ≤ 6 then if inR n 1 1024 && ts.all (fun t => t.ok n) then ({ x with Early := silence n, Taps := ts }, 0) else (z_Room, 2) else (z_Room, 3) else (z_Room, 1)
section
variable {h : Heap} {x : GRoom} {n : Int} {ts : List GTap}
theorem withTaps1 (h1 : x.ok = false) : x.withTaps n ts = (z_Room, 1) := by unfold GRoom.withTaps; rw [h1]; rfl
theorem withTaps3 (h1 : x.ok = true) (h2 : 6 < ts.length) : x.withTaps n ts = (z_Room, 3) := by unfold GRoom.withTaps; rw [h1, if_pos rfl, if_neg (by omega)]
theorem withTaps2 (h1 : x.ok = true) (h2 : ts.length ≤ 6) (h3 : (inR n 1 1024 && ts.all (fun t => t.ok n)) = false) : x.withTaps n ts = (z_Room, 2) := by unfold GRoom.withTaps; rw [h1, if_pos rfl, if_pos h2, h3]; rfl
theorem withTaps0 (h1 : x.ok = true) (h2 : ts.length ≤ 6) (h3 : (inR n 1 1024 && ts.all (fun t => t.ok n)) = true) : x.withTaps n ts = ({ x with Early := silence n, Taps := ts }, 0) := by unfold GRoom.withTaps; rw [h1, if_pos rfl, if_pos h2, h3]; rfl
theorem all_take {p : GTap → Bool} {n : Nat} (hn : n < ts.length) : (ts.take (n + 1)).all p = ((ts.take n).all p && p ts[n]!) := by rw [take_snoc hn, List.all_append]; simp
theorem spec_WithTaps_c {cs : Array Value} {b : Option Addr} {l c : Nat} (R0 : rRoom.rd h cs.toList x) (S0 : SlR rTap h b l c ts) :
    CALL prg f_spec_WithTaps #[.agg cs, .int .i64 n, .slice b l c] (fun u h' => PairR rRoom h h' u (x.withTaps n ts).1 (x.withTaps n ts).2) h := by
  have hl := S0.len
  refine spec_WithTaps.call ((Mem.start h).alc fun g1 h1 x1 M => M.alc fun g3 h2 x2 M => ?_)
  have R : RdP rRoom h2 ⟨g1, 0, none⟩ x := M.rdp (.there .here) (rRoom.ext M.ext R0)
  have bad : ∀ {hh : Heap} {k : Int}, Mem h hh [(g3, T_impl_Room, ⟨Z_impl_Room⟩), (g1, T_impl_Room, cs)] → x.withTaps n ts = (z_Room, k) →
      STA 47 hh ⟨g3, 0, none⟩ ⟨Z_impl_Room⟩ fun h8 => LDA 47 h8 ⟨g3, 0, none⟩ fun a9 => PairR rRoom h h8 (.tuple ⟨[.agg a9, .int .i64 k]⟩) (x.withTaps n ts).1 (x.withTaps n ts).2 := fun M e => by
    rw [e]
    exact M.sta0 .here rfl (all_one rfl) rfl .here fun h3 M => M.lda0 .here rfl ⟨_, [], rfl, zow_Room, M.drop.drop⟩
  refine goM M (l06Ok_c R) fun h3 M => as_b (br (fun hb => bad M (withTaps1 (nt hb))) fun hb => ?_)
  have hok := nf hb
  have hs := ok_small hok
  refine brd (fun hc => bad M (withTaps3 hok (by omega))) fun hc => ?_
  have h6 : ts.length ≤ 6 := by omega
  refine goM M (l00In_c _ _ _ _) fun h4 M => as_b ?_
  refine loop (fun y hh => ∃ m : Nat, y = (n, b, l, c, ⟨g1, 0, none⟩, ⟨g3, 0, none⟩, inR n 1 1024 && (ts.take m).all (fun t => t.ok n), (m : Int)) ∧ m ≤ l ∧ Mem h hh [(g3, T_impl_Room, ⟨Z_impl_Room⟩), (g1, T_impl_Room, cs)]) (fun y => (l - y.2.2.2.2.2.2.2).toNat)
    ⟨0, by simp, by omega, M⟩ ?_
  rintro y hh ⟨m, rfl, hm, M⟩
  refine brd (fun hc => br (fun hok1 => ?_) fun hok1 => br (fun hb => bad M (withTaps2 hok h6 ?_)) fun hb => ?_) fun hc => br (fun hb => bad M (withTaps2 hok h6 ?_)) fun hb => ?_
  · have e : (inR n 1 1024 && (ts.take (m + 1)).all (fun t => t.ok n)) = ts[m]!.ok n := by
      rw [all_take (by omega), ← Bool.and_assoc, hok1, Bool.true_and]
    have S := S0.ext M.ext
    refine S.idx tap_sz (by omega) (by omega) fun p Rp => Rp.oI1 ?_
    refine goM M (l00In_c _ _ _ _) fun h5 M => as_b (br (fun hb => ?_) fun hb => ?_)
    · refine (S0.ext M.ext).idx tap_sz (by omega) (by omega) fun p Rp => Rp.oF fun z hz => ?_
      refine goM M (l01Finite_c hz _) fun h7 M => as_b ⟨⟨m + 1, ?_, by omega, M⟩, by rw [wrap64_succ (by omega)]; show _ < _; simp; omega⟩
      rw [wrap64_succ (by omega), e, GTap.ok]
      rw [Int.toNat_natCast] at hb ⊢
      rw [hb]; rfl
    · refine ⟨⟨m + 1, ?_, by omega, M⟩, by rw [wrap64_succ (by omega)]; show _ < _; simp; omega⟩
      rw [wrap64_succ (by omega), e, GTap.ok]
      rw [Int.toNat_natCast] at hb
      rw [hb]; rfl
  · have e : ts.all (fun t => t.ok n) = ((ts.take m).all (fun t => t.ok n) && (ts.drop m).all (fun t => t.ok n)) := by rw [← List.all_append, List.take_append_drop]
    rw [e, ← Bool.and_assoc, hok1, Bool.false_and]
  · exact absurd (nf hb) (by rw [hok1]; simp)
  · obtain rfl : m = l := by omega
    rw [← hl, List.take_length] at hb
    exact nt hb
  obtain rfl : m = l := by omega
  rw [← hl, List.take_length] at hb
  have hg := nf hb
  rw [withTaps0 hok h6 hg]
  rw [Bool.and_eq_true] at hg
  have R : RdP rRoom hh ⟨g1, 0, none⟩ x := M.rdp (.there .here) (rRoom.ext M.ext R0)
  refine NewR.go M (l06Copy_c R hs) fun h5 c5 B5 M O5 s5 => as_a (M.alc fun g h6 x6 M => M.sta0 .here s5 (rRoom.oone O5) rfl .here fun h7 M => ?_)
  have P : Pt rRoom h h7 ⟨g, 0, none⟩ ⟨g, T_impl_Room, [], []⟩ [(g3, T_impl_Room, ⟨Z_impl_Room⟩), (g1, T_impl_Room, cs)] x := Pt.new O5 M
  refine NewR.pt P (l06Silence_c n hg.1 _) fun h8 c8 B8 P O8 s8 => as_a (P.sts0 foc_Room_Early rfl O8 fun h9 P => ?_)
  refine (Mem.start h9).alc fun g2 h10 x10 N => append_copyM E_sl_impl_Tap tap_sz flat_Tap (S0.ext P.ext) N .here (by omega) fun b' c' h11 B' O' N => as_l ?_
  refine (P.join N).cnt (W := B' ++ [(g3, T_impl_Room, ⟨Z_impl_Room⟩)]) (fun p => by simp only [cnt_app, cnt_cons, cnt_nil] at *; omega) |>.stLg O' fun h12 P => ?_
  obtain ⟨cs, B, M, O⟩ := P.out
  refine M.lda0 .here (osz O rfl) ?_
  have M := M.cnt (W := (g3, T_impl_Room, ⟨Z_impl_Room⟩) :: B) (fun p => by simp only [cnt_app, cnt_cons, cnt_nil] at *; omega)
  refine M.sta0 .here (osz O rfl) (rRoom.oone O) rfl .here fun h3 M => M.lda0 .here (osz O rfl) ?_
  exact ⟨_, B, rfl, O, M.drop⟩
theorem WithTaps_tells {hb : Heap} {a : Addr} (R : RdP (rI .i64) hb a n) : TellsT prg hb (.func (.func f_impl_WithTaps_c1) #[] #[.pointer (some a)]) fun t => !t.ok n := fun cs t h X Rt => by
  show CALL prg f_impl_WithTaps_c1 #[.agg cs, .pointer (some a)] _ h
  refine impl_WithTaps_c1.call (alcR Rt fun g h1 x1 R1 => R1.lda1 rfl fun cs' Rc => (R.ext (X.trans x1)).oI1 (goX (isTap_c Rc _) fun h2 x2 => as_b ⟨rfl, x1.trans x2⟩))
theorem impl_WithTaps_c {cs : Array Value} {b : Option Addr} {l c : Nat} (R0 : rRoom.rd h cs.toList x) (S0 : SlR rTap h b l c ts) :
    CALL prg f_impl_WithTaps #[.agg cs, .int .i64 n, .slice b l c] (fun u h' => PairR rRoom h h' u (x.withTaps n ts).1 (x.withTaps n ts).2) h := by
  have hl := S0.len
  refine impl_WithTaps.call ((Mem.start h).alc fun g1 h1 x1 M => M.alc fun g3 h2 x2 M => M.alc fun g5 h3 x3 M => M.lda0 (.there (.there .here)) (rsz R0 rfl) ?_)
  have bad : ∀ {hh : Heap} {k : Int}, Mem h hh [(g5, T_impl_Room, ⟨Z_impl_Room⟩), (g3, T_int64, #[.int .i64 n]), (g1, T_impl_Room, cs)] → x.withTaps n ts = (z_Room, k) →
      STA 47 hh ⟨g5, 0, none⟩ ⟨Z_impl_Room⟩ fun h8 => LDA 47 h8 ⟨g5, 0, none⟩ fun a9 => PairR rRoom h h8 (.tuple ⟨[.agg a9, .int .i64 k]⟩) (x.withTaps n ts).1 (x.withTaps n ts).2 := fun M e => by
    rw [e]
    exact M.sta0 .here rfl (all_one rfl) rfl .here fun h3 M => M.lda0 .here rfl ⟨_, [], rfl, zow_Room, M.drop.drop.drop⟩
  refine goM M (ValidRoom_c (rRoom.ext M.ext R0)) fun h4 M => as_b (br (fun hb => bad M (withTaps1 (nt hb))) fun hb => ?_)
  have hok := nf hb
  have hs := ok_small hok
  refine brd (fun hc => bad M (withTaps3 hok (by omega))) fun hc => ?_
  have h6 : ts.length ≤ 6 := by omega
  refine o_i (M.cell (.there .here) 0) ?_
  refine goM M (within_c _ _ _ _) fun h5 M => as_b (br (fun hb => bad M (withTaps2 hok h6 ?_)) fun hb => ?_)
  · rw [nt hb]; rfl
  have hr := nf hb
  have Rn : RdP (rI .i64) h5 ⟨g3, 0, none⟩ n := M.rdp (.there .here) rfl
  refine goM M (ContainsFunc_Tap_c (S0.ext M.ext) (WithTaps_tells Rn)) fun h7 M => as_b (br (fun hb => bad M (withTaps2 hok h6 ?_)) fun hb => ?_)
  · have e := any_not (fun t : GTap => t.ok n) ts
    rw [hb] at e; rw [← e, hr]; rfl
  have e := any_not (fun t : GTap => t.ok n) ts
  rw [hb] at e
  rw [withTaps0 hok h6 (by rw [hr, ← e]; rfl)]
  refine M.lda0 (.there (.there .here)) (rsz R0 rfl) (NewR.go M (Room_clone_c (rRoom.ext M.ext R0) hs) fun h8 c8 B8 M O8 s8 => as_a ?_)
  have M := M.cnt (W := (g1, T_impl_Room, cs) :: (B8 ++ [(g5, T_impl_Room, ⟨Z_impl_Room⟩), (g3, T_int64, #[.int .i64 n])])) (fun p => by simp only [cnt_app, cnt_cons, cnt_nil] at *; omega)
  refine M.sta0 .here s8 (rRoom.oone O8) (rsz R0 rfl) .here fun h9 M => ?_
  have P : Pt rRoom h h9 ⟨g1, 0, none⟩ ⟨g1, T_impl_Room, [], []⟩ [(g5, T_impl_Room, ⟨Z_impl_Room⟩), (g3, T_int64, #[.int .i64 n])] x := Pt.new O8 M
  refine o_i (P.mem.cell (.there .here) 0) ?_
  refine (NewRing_c n _).mono ?_
  rintro _ h10 ⟨cR, BR, rfl, OR, N⟩
  rw [hr, if_pos rfl] at OR
  refine tup2 (as_a (as_i ?_))
  refine (P.join N).sts0 foc_Room_Early rfl OR fun h11 P => ?_
  refine (Clone_Tap_c (S0.ext P.ext) (by omega)).mono ?_
  rintro _ h12 ⟨b', c', BT, rfl, OT, N⟩
  refine as_l (Pt.st (P.join N) lf_Room_2.f rfl ⟨b', l, c', rfl, OT⟩ fun h13 P => ?_)
  obtain ⟨cs, B, M, O⟩ := P.out
  refine M.lda0 .here (osz O rfl) ?_
  have M := M.cnt (W := (g5, T_impl_Room, ⟨Z_impl_Room⟩) :: B) (fun p => by simp only [cnt_app, cnt_cons, cnt_nil] at *; omega)
  refine M.sta0 .here (osz O rfl) (rRoom.oone O) rfl .here fun h3 M => M.lda0 .here (osz O rfl) ?_
  exact ⟨_, B, rfl, O, M.drop⟩
end
end Go.Sx
