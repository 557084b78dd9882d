/- PlayRoom: the rule, the program, and the law. -/
import Derived.Test.YtdhhfilfcpljoaaGreatLs4
import Derived.Test.YtdhhfilfcpljoaaGreatLw0
import Derived.Test.YtdhhfilfcpljoaaGreatPlayRoom
set_option linter.unusedVariables false
set_option linter.unusedSimpArgs false
namespace Go.Sx
open Go.Proofs
set_option maxRecDepth 100000
set_option maxHeartbeats 1000000

section
variable {α β : Type} {r : Rep α} {s : Rep β} {P : Program} {h0 h : Heap} {q : Addr} {F : Fr} {B L : List Blk} {d : α} {t e bytes ty : Nat} {b : Option Addr} {l c : Nat} {xs : List β} {K : Value → Heap → Prop}
/-- One element appended to an own slice beside own data. -/
theorem Pt.push {cs : Array Value} {x : β} (Pa : Pt r h0 h q F (B ++ L) d) (E : ElemT P t e s.sz bytes) (O : SlO e s B b l c xs) (Ox : s.ow [] cs.toList x) (hmax : l + 1 ≤ maxLen) (hbytes : (l + 1) * bytes ≤ 140737488355328)
    (H : ∀ b' c' h' B', SlO e s B' b' (l + 1) c' (xs ++ [x]) → Pt r h0 h' q F (B' ++ L) d → K (.slice b' (l + 1) c') h') :
    ALC cs e (fun g h => SEMV P (Builtin.append_ #[t, t] ty #[.slice b l c, .slice (some ⟨g, 0, none⟩) 1 1]) K h) h := by
  obtain ⟨e1, mid, BR, M, OR⟩ := Pa
  refine push_own (Bn := []) (L := (F.g, F.T, ⟨F.pre ++ (mid ++ F.post)⟩) :: (BR ++ L)) E O (M.cnt fun p => by simp only [cnt_app, cnt_cons, cnt_nil]; omega) Ox hmax hbytes fun b' c' h' B' O' M' => H b' c' h' B' O' ⟨e1, mid, BR, M'.cnt fun p => ?_, OR⟩
  simp only [cnt_app, cnt_cons, cnt_nil]; omega
end
/-- A room, a slice of floats and a code, told by a call. -/
def TriL (h h' : Heap) (u : Value) (x : GRoom) (ys : List Nat) (code : Int) : Prop := ∃ cs B b l c C, u = .tuple ⟨[.agg cs, .slice b l c, .int .i64 code]⟩ ∧ rRoom.ow B cs.toList x ∧ SlO T_float32 (rF .f32) C b l c ys ∧ Mem h h' (B ++ C)
theorem TriL.go {P : Program} {f : FuncId} {args : Array Value} {x : GRoom} {ys : List Nat} {code : Int} {hb h : Heap} {L : List Blk} {K : Value → Heap → Prop} (M : Mem hb h L) (k : CALL P f args (fun u h' => TriL h h' u x ys code) h)
    (H : ∀ h' cs B b l c C, Mem hb h' ((B ++ C) ++ L) → rRoom.ow B cs.toList x → cs.size = rRoom.sz → SlO T_float32 (rF .f32) C b l c ys → K (.tuple ⟨[.agg cs, .slice b l c, .int .i64 code]⟩) h') : CALL P f args K h :=
  k.mono fun u h' ⟨cs, B, b, l, c, C, e, O, S, N⟩ => by subst e; exact H h' cs B b l c C (M.join N) O (by simpa using rRoom.olen O) S
def GRoom.played (x : GRoom) (xs : List Nat) : GRoom × List Nat × Int := if x.ok then if xs.length ≤ 4096 then ((x.play xs).1, (x.play xs).2, 0) else (z_Room, [], 3) else (z_Room, [], 1)
theorem play_len (x : GRoom) : ∀ xs : List Nat, (x.play xs).2.length = xs.length
  | [] => rfl
  | a :: xs => by simp only [GRoom.play, List.length_cons]; rw [play_len]
theorem play_taps (x : GRoom) : ∀ xs : List Nat, (x.play xs).1.Taps = x.Taps
  | [] => rfl
  | a :: xs => by simp only [GRoom.play]; rw [play_taps]; rfl
section
variable {h : Heap} {x : GRoom} {xs : List Nat} {b : Option Addr} {l c : Nat}
theorem played1 (h1 : x.ok = false) : x.played xs = (z_Room, [], 1) := by unfold GRoom.played; rw [h1]; rfl
theorem played3 (h1 : x.ok = true) (h2 : 4096 < xs.length) : x.played xs = (z_Room, [], 3) := by unfold GRoom.played; rw [h1, if_pos rfl, if_neg (by omega)]
theorem played0 (h1 : x.ok = true) (h2 : xs.length ≤ 4096) : x.played xs = ((x.play xs).1, (x.play xs).2, 0) := by unfold GRoom.played; rw [h1, if_pos rfl, if_pos h2]
theorem play_step {n : Nat} (hn : n < xs.length) : x.play (xs.take (n + 1)) = (((x.play (xs.take n)).1.step xs[n]!).1, (x.play (xs.take n)).2 ++ [((x.play (xs.take n)).1.step xs[n]!).2]) := by rw [take_snoc hn, play_append]
theorem spec_PlayRoom_c {cs : Array Value} (R0 : rRoom.rd h cs.toList x) (S0 : SlR (rF .f32) h b l c xs) : CALL prg f_spec_PlayRoom #[.agg cs, .slice b l c] (fun u h' => TriL h h' u (x.played xs).1 (x.played xs).2.1 (x.played xs).2.2) h := by
  have hl := S0.len
  have hm : (4097 : Nat) ≤ maxLen := by decide
  refine spec_PlayRoom.call ((Mem.start h).alc fun g1 h1 x1 M => M.alc fun g3 h2 x2 M => ?_)
  have R : RdP rRoom h2 ⟨g1, 0, none⟩ x := M.rdp (.there .here) (rRoom.ext M.ext R0)
  refine goM M (l06Ok_c R) fun h3 M => as_b (br (fun hb => ?_) fun hb => ?_)
  · rw [played1 (nt hb)]
    refine M.alc fun g8 h4 x4 M => ?_
    have M := M.cnt (W := (g3, T_impl_Room, ⟨Z_impl_Room⟩) :: [(g8, T_float32, ⟨[]⟩)]) (fun p => by simp only [cnt_app, cnt_cons, cnt_nil] at *; omega)
    exact M.sta0 .here rfl (all_one rfl) rfl .here fun h3 M => M.lda0 .here rfl ⟨_, [], _, _, _, _, rfl, zow_Room, SlO.empty g8, M.drop⟩
  have hok := nf hb
  refine brd (fun hc => ?_) fun hc => ?_
  · rw [played3 hok (by omega)]
    refine M.alc fun g8 h4 x4 M => ?_
    have M := M.cnt (W := (g3, T_impl_Room, ⟨Z_impl_Room⟩) :: [(g8, T_float32, ⟨[]⟩)]) (fun p => by simp only [cnt_app, cnt_cons, cnt_nil] at *; omega)
    exact M.sta0 .here rfl (all_one rfl) rfl .here fun h3 M => M.lda0 .here rfl ⟨_, [], _, _, _, _, rfl, zow_Room, SlO.empty g8, M.drop⟩
  rw [played0 hok (by omega)]
  have hr := room_runs R0 hok
  have R : RdP rRoom h3 ⟨g1, 0, none⟩ x := M.rdp (.there .here) (rRoom.ext M.ext R0)
  refine NewR.go M (l06Copy_c R (ok_small hok)) fun h4 c4 B4 M O4 s4 => as_a (M.alc fun g13 h5 x5 M => ?_)
  refine M.sta0 .here s4 (rRoom.oone O4) rfl .here fun h6 M => ?_
  have P : Pt rRoom h h6 ⟨g13, 0, none⟩ ⟨g13, T_impl_Room, [], []⟩ [(g3, T_impl_Room, ⟨Z_impl_Room⟩), (g1, T_impl_Room, cs)] x := Pt.new O4 M
  refine (Mem.start h6).alc fun g24 h7 x7 N => ?_
  refine loop (fun y hh => ∃ (n : Nat) (b' : Option Addr) (c' : Nat) (B : List Blk), y = (b, l, c, ⟨g3, 0, none⟩, ⟨g13, 0, none⟩, b', n, c', (n : Int)) ∧ n ≤ l ∧ SlO T_float32 (rF .f32) B b' n c' (x.play (xs.take n)).2 ∧
    Pt rRoom h hh ⟨g13, 0, none⟩ ⟨g13, T_impl_Room, [], []⟩ (B ++ [(g3, T_impl_Room, ⟨Z_impl_Room⟩)]) (x.play (xs.take n)).1) (fun y => (l - y.2.2.2.2.2.2.2.2).toNat)
    ⟨0, _, _, _, rfl, by omega, SlO.empty g24, (P.join N).cnt (fun p => by simp only [cnt_app, cnt_cons, cnt_nil] at *; omega)⟩ ?_
  rintro y hh ⟨n, b', c', B, rfl, hn, O, P⟩
  refine brd (fun hc => ?_) fun hc => ?_
  · refine (S0.ext P.ext).idx (by decide) (by omega) (by omega) fun p Rp => Rp.oF1 fun w hw => ((l06Step_c P (play_runs hr _) hw).mono ?_)
    rintro _ h8 ⟨⟨y, rfl, hy⟩, P⟩
    refine as_f (Pt.push P E_sl_float32 O ⟨rfl, _, rfl, hy⟩ (by omega) (by omega) fun b2 c2 h9 B2 O2 P2 => as_l ⟨⟨n + 1, b2, c2, B2, by rw [wrap64_succ (by omega)], by omega, ?_, ?_⟩, by rw [wrap64_succ (by omega)]; show _ < _; simp; omega⟩)
    · rw [play_step (by omega)]; exact O2
    · rw [play_step (by omega)]; exact P2
  obtain rfl : n = l := by omega
  rw [← hl, List.take_length] at O P
  obtain ⟨cs, BR, M, OR⟩ := P.out
  refine M.lda0 .here (osz OR rfl) ?_
  have M := M.cnt (W := (g3, T_impl_Room, ⟨Z_impl_Room⟩) :: (BR ++ B)) (fun p => by simp only [cnt_app, cnt_cons, cnt_nil] at *; omega)
  refine M.sta0 .here (osz OR rfl) (rRoom.oone OR) rfl .here fun h3 M => M.lda0 .here (osz OR rfl) ?_
  rw [← hl]
  exact ⟨_, BR, _, _, _, B, rfl, OR, O, M.drop⟩
theorem impl_PlayRoom_c {cs : Array Value} (R0 : rRoom.rd h cs.toList x) (S0 : SlR (rF .f32) h b l c xs) : CALL prg f_impl_PlayRoom #[.agg cs, .slice b l c] (fun u h' => TriL h h' u (x.played xs).1 (x.played xs).2.1 (x.played xs).2.2) h := by
  have hl := S0.len
  have hm : (4097 : Nat) ≤ maxLen := by decide
  refine impl_PlayRoom.call ((Mem.start h).alc fun g1 h1 x1 M => M.alc fun g3 h2 x2 M => M.lda0 (.there .here) (rsz R0 rfl) ?_)
  refine goM M (ValidRoom_c (rRoom.ext M.ext R0)) fun h3 M => as_b (br (fun hb => ?_) fun hb => ?_)
  · rw [played1 (nt hb)]
    exact M.sta0 .here rfl (all_one rfl) rfl .here fun h3 M => M.lda0 .here rfl ⟨_, [], _, _, _, [], rfl, zow_Room, SlO.nil, M.drop.drop⟩
  have hok := nf hb
  refine brd (fun hc => ?_) fun hc => ?_
  · rw [played3 hok (by omega)]
    exact M.sta0 .here rfl (all_one rfl) rfl .here fun h3 M => M.lda0 .here rfl ⟨_, [], _, _, _, [], rfl, zow_Room, SlO.nil, M.drop.drop⟩
  rw [played0 hok (by omega)]
  have hr := room_runs R0 hok
  refine M.lda0 (.there .here) (rsz R0 rfl) (NewR.go M (Room_clone_c (rRoom.ext M.ext R0) (ok_small hok)) fun h4 c4 B4 M O4 s4 => as_a ?_)
  have M := M.cnt (W := (g1, T_impl_Room, cs) :: (B4 ++ [(g3, T_impl_Room, ⟨Z_impl_Room⟩)])) (fun p => by simp only [cnt_app, cnt_cons, cnt_nil] at *; omega)
  refine M.sta0 .here s4 (rRoom.oone O4) (rsz R0 rfl) .here fun h6 M => ?_
  have P : Pt rRoom h h6 ⟨g1, 0, none⟩ ⟨g1, T_impl_Room, [], []⟩ [(g3, T_impl_Room, ⟨Z_impl_Room⟩)] x := Pt.new O4 M
  refine loop (fun y hh => ∃ (n : Nat) (b' : Option Addr) (c' : Nat) (B : List Blk), y = (⟨g1, 0, none⟩, ⟨g3, 0, none⟩, b', n, c', b, l, c, (l : Int), (n : Int)) ∧ n ≤ l ∧ SlO T_float32 (rF .f32) B b' n c' (x.play (xs.take n)).2 ∧
    Pt rRoom h hh ⟨g1, 0, none⟩ ⟨g1, T_impl_Room, [], []⟩ (B ++ [(g3, T_impl_Room, ⟨Z_impl_Room⟩)]) (x.play (xs.take n)).1) (fun y => (l - y.2.2.2.2.2.2.2.2.2).toNat)
    ⟨0, _, _, [], rfl, by omega, SlO.nil, P⟩ ?_
  rintro y hh ⟨n, b', c', B, rfl, hn, O, P⟩
  refine brd (fun hc => ?_) fun hc => ?_
  · refine (S0.ext P.ext).idx (by decide) (by omega) (by omega) fun p Rp => Rp.oF1 fun w hw => ((Room_step_c P (play_runs hr _) hw).mono ?_)
    rintro _ h8 ⟨⟨y, rfl, hy⟩, P⟩
    refine as_f (Pt.push P E_sl_float32 O ⟨rfl, _, rfl, hy⟩ (by omega) (by omega) fun b2 c2 h9 B2 O2 P2 => as_l ⟨⟨n + 1, b2, c2, B2, by rw [wrap64_succ (by omega)], by omega, ?_, ?_⟩, by rw [wrap64_succ (by omega)]; show _ < _; simp; omega⟩)
    · rw [play_step (by omega)]; exact O2
    · rw [play_step (by omega)]; exact P2
  obtain rfl : n = l := by omega
  rw [← hl, List.take_length] at O P
  obtain ⟨cs, BR, M, OR⟩ := P.out
  refine M.lda0 .here (osz OR rfl) ?_
  have M := M.cnt (W := (g3, T_impl_Room, ⟨Z_impl_Room⟩) :: (BR ++ B)) (fun p => by simp only [cnt_app, cnt_cons, cnt_nil] at *; omega)
  refine M.sta0 .here (osz OR rfl) (rRoom.oone OR) rfl .here fun h3 M => M.lda0 .here (osz OR rfl) ?_
  rw [← hl]
  exact ⟨_, BR, _, _, _, B, rfl, OR, O, M.drop⟩
theorem w_played {cs : List Value} (R0 : rRoom.rd h cs x) : w_Room (x.played xs).1 ≤ 1048576 := by
  unfold GRoom.played
  split
  · next hok =>
    split
    · have ht : (x.play xs).1.Taps.length ≤ 6 := by rw [play_taps]; exact ok_taps hok
      exact w_runs (play_runs (room_runs R0 hok) xs) ht
    · exact w_zero
  · exact w_zero
theorem l_played : (x.played xs).2.1.length ≤ 4096 := by
  unfold GRoom.played
  split
  · split
    · rw [show ((x.play xs).1, (x.play xs).2, (0 : Int)).2.1 = (x.play xs).2 from rfl, play_len]; assumption
    · exact Nat.zero_le _
  · exact Nat.zero_le _
end
end Go.Sx
