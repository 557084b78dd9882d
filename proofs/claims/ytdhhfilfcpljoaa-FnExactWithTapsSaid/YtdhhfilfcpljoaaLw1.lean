/- Rooms muted, as the program does it. -/
import Derived.Test.YtdhhfilfcpljoaaLkC
import Derived.Test.YtdhhfilfcpljoaaMuteRoom
set_option linter.unusedVariables false
set_option linter.unusedSimpArgs false
namespace Go.Sx
open Go.Proofs
set_option maxRecDepth 100000

def GRoom.muted (x : GRoom) : GRoom × Int := if x.ok then (x.mute, 0) else (z_Room, 1)
section
variable {h : Heap}
theorem foc_damp (i : Nat) (hi : i < 4) : Foc rRoom rFilter (17 + i * 6) (fun a => a.Damps[i]!) (fun a b => { a with Damps := a.Damps.set i b }) := (foc_Room_Damps.trans (Foc.arr rFilter i hi)).at rfl
theorem foc_dampS (i : Nat) (hi : i < 4) : Foc rRoom (rArr 2 (rF .f32)) (17 + i * 6 + 4) (fun a => a.Damps[i]!.S) (fun a b => { a with Damps := a.Damps.set i { a.Damps[i]! with S := b } }) := ((foc_damp i hi).trans foc_Filter_S).at rfl
def CR (c : GComb) : GComb := { c with Ring := c.Ring.mute }
theorem spec_MuteRoom_c {cs : Array Value} {x : GRoom} (R0 : rRoom.rd h cs.toList x) : CALL prg f_spec_MuteRoom #[.agg cs] (fun u h' => PairR rRoom h h' u x.muted.1 x.muted.2) h := by
  refine spec_MuteRoom.call ((Mem.start h).alc fun g1 h1 x1 M => M.alc fun g3 h2 x2 M => ?_)
  have R : RdP rRoom h2 ⟨g1, 0, none⟩ x := M.rdp (.there .here) (rRoom.ext M.ext R0)
  refine goM M (l06Ok_c R) fun h3 M => as_b (br (fun hb => ?_) fun hb => ?_)
  · have e : x.muted = (z_Room, 1) := by unfold GRoom.muted; rw [nt hb]; rfl
    rw [e]
    exact M.sta0 .here rfl (all_one rfl) rfl .here fun h3 M => M.lda0 .here rfl ⟨_, [], rfl, zow_Room, M.drop.drop⟩
  have hok := nf hb
  have e : x.muted = (x.mute, 0) := by unfold GRoom.muted; rw [hok]; rfl
  rw [e]
  have hs := ok_small hok
  have R : RdP rRoom h3 ⟨g1, 0, none⟩ x := M.rdp (.there .here) (rRoom.ext M.ext R0)
  have hC := combs2 R
  have hL : x.Loops.length = 4 := (R.foc foc_Room_Loops).len
  have hD : x.Damps.length = 4 := (R.foc foc_Room_Damps).len
  refine NewR.go M (l06Copy_c R hs) fun h4 c4 B4 M O4 s4 => as_a (M.alc fun g13 h5 x5 M => ?_)
  refine M.sta0 .here s4 (rRoom.oone O4) rfl .here fun h6 M => ?_
  have X6 := M.ext
  have P : Pt rRoom h h6 ⟨g13, 0, none⟩ ⟨g13, T_impl_Room, [], []⟩ [(g3, T_impl_Room, ⟨Z_impl_Room⟩), (g1, T_impl_Room, cs)] x := Pt.new O4 M
  have R : RdP rRoom h6 ⟨g1, 0, none⟩ x := P.mem.rdp (.there .here) (rRoom.ext P.ext R0)
  refine NewR.pt P (l05Muted_c (R.fst foc_Room_Early) hs.1) fun h7 c7 B7 P O7 s7 => as_a (P.sts0 foc_Room_Early rfl O7 fun h8 P => ?_)
  refine loop (fun y hh => ∃ n : Nat, y = (⟨g1, 0, none⟩, ⟨g3, 0, none⟩, ⟨g13, 0, none⟩, (n : Int)) ∧ n ≤ 2 ∧ Pt rRoom h hh ⟨g13, 0, none⟩ ⟨g13, T_impl_Room, [], []⟩ [(g3, T_impl_Room, ⟨Z_impl_Room⟩), (g1, T_impl_Room, cs)] { x with Early := x.Early.mute, Combs := mapN CR x.Combs n })
    (fun y => (2 - y.2.2.2).toNat) ⟨0, rfl, by omega, by rw [mapN_zero]; exact P⟩ ?_
  rintro y hh ⟨n, rfl, hn, P⟩
  have R : RdP rRoom hh ⟨g1, 0, none⟩ x := P.mem.rdp (.there .here) (rRoom.ext P.ext R0)
  refine brd (fun hc => ?_) fun hc => ?_
  · have Rc := ((R.foc foc_Room_Combs).elem (i := n) (by omega)).fst foc_Comb_Ring
    refine idx (by omega) (by omega) (NewR.pt P (l05Muted_c Rc (hs.2.2.1 _ (by rw [getElem!_pos _ n (by omega)]; exact List.getElem_mem _))) fun h' cs' B P O ho => as_a (idx (by omega) (by omega) ?_))
    rw [add_add', Int.toNat_natCast]
    refine P.sts (((foc_comb n (by omega)).trans foc_Comb_Ring).at (Nat.add_zero _)) rfl O fun h'' P => ⟨⟨n + 1, by rw [wrap64_succ (by omega)], by omega, ?_⟩, by rw [wrap64_succ (by omega)]; show _ < _; simp; omega⟩
    have e1 : (mapN CR x.Combs n).set n { (mapN CR x.Combs n)[n]! with Ring := (x.Combs[n]!).Ring.mute } = mapN CR x.Combs (n + 1) := by
      rw [mapN_get (by omega)]; exact mapN_step (by omega)
    rw [← e1]
    exact P
  obtain rfl : n = 2 := by omega
  rw [mapN_all (by omega)] at P
  refine loop (fun y hh => ∃ n : Nat, y = (⟨g1, 0, none⟩, ⟨g3, 0, none⟩, ⟨g13, 0, none⟩, (n : Int)) ∧ n ≤ 4 ∧ Pt rRoom h hh ⟨g13, 0, none⟩ ⟨g13, T_impl_Room, [], []⟩ [(g3, T_impl_Room, ⟨Z_impl_Room⟩), (g1, T_impl_Room, cs)] { x with Early := x.Early.mute, Combs := x.Combs.map CR, Loops := mapN GRing.mute x.Loops n, Damps := mapN GFilter.mute x.Damps n })
    (fun y => (4 - y.2.2.2).toNat) ⟨0, rfl, by omega, by rw [mapN_zero, mapN_zero]; exact P⟩ ?_
  rintro y hh ⟨n, rfl, hn, P⟩
  have R : RdP rRoom hh ⟨g1, 0, none⟩ x := P.mem.rdp (.there .here) (rRoom.ext P.ext R0)
  refine brd (fun hc => ?_) fun hc => ?_
  · have Rc := (R.foc foc_Room_Loops).elem (i := n) (by omega)
    refine idx (by omega) (by omega) (NewR.pt P (l05Muted_c Rc (hs.2.2.2 _ (by rw [getElem!_pos _ n (by omega)]; exact List.getElem_mem _))) fun h' cs' B P O ho => as_a (idx (by omega) (by omega) ?_))
    rw [add_add', Int.toNat_natCast]
    refine P.sts (foc_loop n (by omega)) rfl O fun h'' P => idx (by omega) (by omega) ?_
    rw [add_add', add_add']
    refine P.stF2 (foc_dampS n (by omega)) fw0 fw0 fun h3 P => ⟨⟨n + 1, by rw [wrap64_succ (by omega)], by omega, ?_⟩, by rw [wrap64_succ (by omega)]; show _ < _; simp; omega⟩
    have e1 : (mapN GRing.mute x.Loops n).set n (x.Loops[n]!).mute = mapN GRing.mute x.Loops (n + 1) := mapN_step (by omega)
    have e2 : (mapN GFilter.mute x.Damps n).set n { (mapN GFilter.mute x.Damps n)[n]! with S := [0, 0] } = mapN GFilter.mute x.Damps (n + 1) := by
      rw [mapN_get (by omega)]; exact mapN_step (by omega)
    rw [← e1, ← e2]
    exact P
  obtain rfl : n = 4 := by omega
  rw [mapN_all (by omega), mapN_all (by omega)] at P
  obtain ⟨cs, B, M, O⟩ := P.out
  refine M.lda0 .here (osz O rfl) ?_
  have M := M.cnt (W := (g3, T_impl_Room, ⟨Z_impl_Room⟩) :: B) (fun p => by simp only [cnt_app, cnt_cons, cnt_nil] at *; omega)
  refine M.sta0 .here (osz O rfl) (rRoom.oone O) rfl .here fun h3 M => M.lda0 .here (osz O rfl) ?_
  exact ⟨_, B, rfl, O, M.drop⟩
theorem impl_MuteRoom_c {cs : Array Value} {x : GRoom} (R0 : rRoom.rd h cs.toList x) : CALL prg f_impl_MuteRoom #[.agg cs] (fun u h' => PairR rRoom h h' u x.muted.1 x.muted.2) h := by
  refine impl_MuteRoom.call ((Mem.start h).alc fun g1 h1 x1 M => M.alc fun g3 h2 x2 M => M.lda0 (.there .here) (rsz R0 rfl) ?_)
  refine goM M (ValidRoom_c (rRoom.ext M.ext R0)) fun h3 M => as_b (br (fun hb => ?_) fun hb => ?_)
  · have e : x.muted = (z_Room, 1) := by unfold GRoom.muted; rw [nt hb]; rfl
    rw [e]
    exact M.sta0 .here rfl (all_one rfl) rfl .here fun h3 M => M.lda0 .here rfl ⟨_, [], rfl, zow_Room, M.drop.drop⟩
  have hok := nf hb
  have e : x.muted = (x.mute, 0) := by unfold GRoom.muted; rw [hok]; rfl
  rw [e]
  have hs := ok_small hok
  have R : RdP rRoom h3 ⟨g1, 0, none⟩ x := M.rdp (.there .here) (rRoom.ext M.ext R0)
  have hC := combs2 R
  have hL : x.Loops.length = 4 := (R.foc foc_Room_Loops).len
  have hD : x.Damps.length = 4 := (R.foc foc_Room_Damps).len
  refine M.lda0 (.there .here) (rsz R0 rfl) (NewR.go M (Room_clone_c (rRoom.ext M.ext R0) hs) fun h4 c4 B4 M O4 s4 => as_a ?_)
  have M := M.cnt (W := (g1, T_impl_Room, cs) :: (B4 ++ [(g3, T_impl_Room, ⟨Z_impl_Room⟩)])) (fun p => by simp only [cnt_app, cnt_cons, cnt_nil] at *; omega)
  refine M.sta0 .here s4 (rRoom.oone O4) (rsz R0 rfl) .here fun h6 M => ?_
  have P : Pt rRoom h h6 ⟨g1, 0, none⟩ ⟨g1, T_impl_Room, [], []⟩ [(g3, T_impl_Room, ⟨Z_impl_Room⟩)] x := Pt.new O4 M
  refine (rings_c _ _).mono ?_
  rintro _ h7 ⟨bR, cR, BR, rfl, OR, N⟩
  refine as_l ?_
  have P := P.join N
  refine loop (fun y hh => ∃ n : Nat, y = (⟨g1, 0, none⟩, ⟨g3, 0, none⟩, bR, 7, cR, ((7 : Nat) : Int), (n : Int)) ∧ n ≤ 7 ∧ Pt rRoom h hh ⟨g1, 0, none⟩ ⟨g1, T_impl_Room, [], []⟩ (BR ++ [(g3, T_impl_Room, ⟨Z_impl_Room⟩)]) (muteN x n))
    (fun y => (7 - y.2.2.2.2.2.2).toNat) ⟨0, rfl, by omega, P⟩ ?_
  rintro y hh ⟨n, rfl, hn, P⟩
  refine brd (fun hc => ?_) fun hc => ?_
  · have SR := OR.look P.mem (List.sublist_append_left _ _)
    refine SR.idx (by decide) (by omega) (by omega) fun p Rp => Rp.oP1 ?_
    rw [Int.toNat_natCast, ringPs_get _ (by omega)]
    obtain ⟨F', L', P', hsL, close⟩ := P.foc (foc_ring n (by omega))
    refine (Ring_mute_c P' (by rw [muteN_get hC hL (by omega)]; exact small_get hs hC hL (by omega))).mono ?_
    rintro _ h' ⟨_, P'⟩
    exact ⟨⟨n + 1, by rw [wrap64_succ (by omega)], by omega, close _ _ _ P'⟩, by rw [wrap64_succ (by omega)]; show _ < _; simp; omega⟩
  obtain rfl : n = 7 := by omega
  rw [muteN_all hC hL] at P
  refine loop (fun y hh => ∃ n : Nat, y = (⟨g1, 0, none⟩, ⟨g3, 0, none⟩, (n : Int)) ∧ n ≤ 4 ∧ Pt rRoom h hh ⟨g1, 0, none⟩ ⟨g1, T_impl_Room, [], []⟩ (BR ++ [(g3, T_impl_Room, ⟨Z_impl_Room⟩)]) { x with Early := x.Early.mute, Combs := x.Combs.map (fun c => { c with Ring := c.Ring.mute }), Loops := x.Loops.map GRing.mute, Damps := mapN GFilter.mute x.Damps n })
    (fun y => (4 - y.2.2).toNat) ⟨0, rfl, by omega, by rw [mapN_zero]; exact P⟩ ?_
  rintro y hh ⟨n, rfl, hn, P⟩
  refine brd (fun hc => ?_) fun hc => ?_
  · refine idx (by omega) (by omega) ?_
    rw [add_add', add_add', Int.toNat_natCast]
    refine P.stF2 (foc_dampS n (by omega)) fw0 fw0 fun h3 P => ⟨⟨n + 1, by rw [wrap64_succ (by omega)], by omega, ?_⟩, by rw [wrap64_succ (by omega)]; show _ < _; simp; omega⟩
    have e2 : (mapN GFilter.mute x.Damps n).set n { (mapN GFilter.mute x.Damps n)[n]! with S := [0, 0] } = mapN GFilter.mute x.Damps (n + 1) := by
      rw [mapN_get (by omega)]; exact mapN_step (by omega)
    rw [← e2]
    exact P
  obtain rfl : n = 4 := by omega
  rw [mapN_all (by omega)] at P
  obtain ⟨cs, B, M, O⟩ := P.out
  refine M.lda0 .here (osz O rfl) ?_
  have M := M.cnt (W := (g3, T_impl_Room, ⟨Z_impl_Room⟩) :: B) (fun p => by simp only [cnt_app, cnt_cons, cnt_nil] at *; omega)
  refine M.sta0 .here (osz O rfl) (rRoom.oone O) rfl .here fun h3 M => M.lda0 .here (osz O rfl) ?_
  exact ⟨_, B, rfl, O, M.drop⟩
end
end Go.Sx
