/- What functions of this seat's program compute, told in words (a predicate over heaps for each), and the proofs that the words are no more than the code's own weakest precondition. -/
import Derived.Test.YthgnpepchedpbaaGreatTab
import Derived.Test.YthgnpepchedpbaaGreatLs4
import Derived.Test.YthgnpepchedpbaaGreatLk60
namespace Go.Sx
open Go.Proofs
set_option linter.unusedVariables false
set_option maxRecDepth 100000

def impl_PlayRoom.B8 (Post : Value → Heap → Prop) (N8 : (Addr × Addr × Option Addr × Nat × Nat × Option Addr × Nat × Nat × Int × Int) → Heap → Prop) : Addr × Addr × Option Addr × Nat × Nat × Option Addr × Nat × Nat × Int × Int → Heap → Prop
  | (x_2, t4, out_7b, out_7l, out_7c, t22b, t22l, t22c, t23, t24), h =>
    BIF (decide (t24 < t23)) (
    IDXS t22b t24 t22l fun p22 =>
    oF .f32 (cell h ((Addr.add p22 ((Int.toNat t24) * 1)))) fun r23 =>
    CALL prg f_p_impl_Room_step #[.pointer (some x_2), .float .f32 r23] (fun q24 h25 =>
    asF .f32 q24 fun r26 =>
    ALC ⟨[.float .f32 r26]⟩ T_float32 (fun g27 h28 =>
    SEMV prg (Builtin.append_ #[T_sl_float32, T_sl_float32] T_sl_float32 #[.slice out_7b out_7l out_7c, .slice (some ⟨g27, 0, none⟩) 1 1]) (fun q29 h30 =>
    asL q29 fun l31b l31l l31c =>
    N8 (x_2, t4, l31b, l31l, l31c, t22b, t22l, t22c, t23, ((IntKind.i64.wrap (t24 + (1 : Int))))) h30) h28) h25) h) (
    LDA 47 h x_2 fun a32 =>
    STA 47 h t4 a32 fun h33 =>
    LDA 47 h33 t4 fun a34 =>
    Post (.tuple ⟨[.agg a34, .slice out_7b out_7l out_7c, .int .i64 (0 : Int)]⟩) h33)
def impl_PlayRoom.g8 (fr : Frame) : Addr × Addr × Option Addr × Nat × Nat × Option Addr × Nat × Nat × Int × Int := ((gP (lget fr 2)), (gP (lget fr 4)), (gLb (lget fr 7)), (gLl (lget fr 7)), (gLc (lget fr 7)), (gLb (lget fr 22)), (gLl (lget fr 22)), (gLc (lget fr 22)), (gI (lget fr 23)), (gI (lget fr 24)))
def impl_PlayRoom.l8 (Post : Value → Heap → Prop) : Frame → Heap → Prop := fun fr h => GRD (shape (kds 36 [(2, .p), (4, .p), (7, .l), (22, .l), (23, .i .i64), (24, .i .i64)]) fr) (LOOP (impl_PlayRoom.B8 Post) (impl_PlayRoom.g8 fr) h)
def impl_PlayRoom.S (x_0 : Array Value) (in_1b : Option Addr) (in_1l in_1c : Nat) (Post : Value → Heap → Prop) (h : Heap) : Prop :=
    ALC x_0 T_impl_Room (fun g1 h2 =>
    ALC ⟨Z_impl_Room⟩ T_impl_Room (fun g3 h4 =>
    LDA 47 h4 ⟨g1, 0, none⟩ fun a5 =>
    CALL prg f_impl_ValidRoom #[.agg a5] (fun q6 h7 =>
    asB q6 fun b8 =>
    BIF (!b8) (
    STA 47 h7 ⟨g3, 0, none⟩ (⟨[.slice none 0 0, .int .i64 (0 : Int), .slice none 0 0, .slice none 0 0, .int .i64 (0 : Int), .float .f32 0, .slice none 0 0, .int .i64 (0 : Int), .float .f32 0, .slice none 0 0, .int .i64 (0 : Int), .slice none 0 0, .int .i64 (0 : Int), .slice none 0 0, .int .i64 (0 : Int), .slice none 0 0, .int .i64 (0 : Int), .int .i64 (0 : Int), .float .f32 0, .float .f32 0, .float .f32 0, .float .f32 0, .float .f32 0, .int .i64 (0 : Int), .float .f32 0, .float .f32 0, .float .f32 0, .float .f32 0, .float .f32 0, .int .i64 (0 : Int), .float .f32 0, .float .f32 0, .float .f32 0, .float .f32 0, .float .f32 0, .int .i64 (0 : Int), .float .f32 0, .float .f32 0, .float .f32 0, .float .f32 0, .float .f32 0, .float .f32 0, .float .f32 0, .float .f32 0, .float .f32 0, .float .f32 0, .float .f32 0]⟩ : Array Value) fun h9 =>
    LDA 47 h9 ⟨g3, 0, none⟩ fun a10 =>
    Post (.tuple ⟨[.agg a10, .slice none 0 0, .int .i64 (1 : Int)]⟩) h9) (
    BIF ((decide ((4096 : Int) < (in_1l : Int)))) (
    STA 47 h7 ⟨g3, 0, none⟩ (⟨[.slice none 0 0, .int .i64 (0 : Int), .slice none 0 0, .slice none 0 0, .int .i64 (0 : Int), .float .f32 0, .slice none 0 0, .int .i64 (0 : Int), .float .f32 0, .slice none 0 0, .int .i64 (0 : Int), .slice none 0 0, .int .i64 (0 : Int), .slice none 0 0, .int .i64 (0 : Int), .slice none 0 0, .int .i64 (0 : Int), .int .i64 (0 : Int), .float .f32 0, .float .f32 0, .float .f32 0, .float .f32 0, .float .f32 0, .int .i64 (0 : Int), .float .f32 0, .float .f32 0, .float .f32 0, .float .f32 0, .float .f32 0, .int .i64 (0 : Int), .float .f32 0, .float .f32 0, .float .f32 0, .float .f32 0, .float .f32 0, .int .i64 (0 : Int), .float .f32 0, .float .f32 0, .float .f32 0, .float .f32 0, .float .f32 0, .float .f32 0, .float .f32 0, .float .f32 0, .float .f32 0, .float .f32 0, .float .f32 0]⟩ : Array Value) fun h13 =>
    LDA 47 h13 ⟨g3, 0, none⟩ fun a14 =>
    Post (.tuple ⟨[.agg a14, .slice none 0 0, .int .i64 (3 : Int)]⟩) h13) (
    LDA 47 h7 ⟨g1, 0, none⟩ fun a15 =>
    CALL prg f_impl_Room_clone #[.agg a15] (fun q16 h17 =>
    asA q16 fun a18 =>
    STA 47 h17 ⟨g1, 0, none⟩ a18 fun h19 =>
    LOOP (impl_PlayRoom.B8 Post) (⟨g1, 0, none⟩, ⟨g3, 0, none⟩, none, 0, 0, in_1b, in_1l, in_1c, (in_1l : Int), (0 : Int)) h19) h7))) h4) h2) h
noncomputable def impl_PlayRoom.code : Code := (Tryz.f10.body).getD .skip
theorem impl_PlayRoom.call {x_0 : Array Value} {in_1b : Option Addr} {in_1l in_1c : Nat} {Post : Value → Heap → Prop} {h : Heap} (H : impl_PlayRoom.S x_0 in_1b in_1l in_1c Post h) : CALL prg f_impl_PlayRoom #[.agg x_0, .slice in_1b in_1l in_1c] Post h :=
  fn_call tau_ok mixed (c := impl_PlayRoom.code) (Λ := lookL [(1000008, impl_PlayRoom.l8 Post)]) Tryz.func10 (by kernel_rfl) (by kernel_rfl)
    (Rq.seq (by kernel_rfl) (Rq.free (by kernel_rfl)) (Rq.seq (by kernel_rfl) (Rq.free (by kernel_rfl)) (Rq.seq (by kernel_rfl) (Rq.free (by kernel_rfl)) (Rq.seq (by kernel_rfl) (Rq.free (by kernel_rfl)) (Rq.seq (by kernel_rfl) (Rq.seq (by kernel_rfl) (Rq.free (by kernel_rfl)) (Rq.block (Rq.loop (impl_PlayRoom.l8 Post) (by kernel_rfl) (segL (g := impl_PlayRoom.g8) tau_ok mixed (Λ := fun N8 => lookL []) (fun _ _ _ => by kernel_rfl) (fun N8 => (Rq.free (by kernel_rfl))))))) (Rq.free (by kernel_rfl)))))))
    (Eq.mp (by kernel_rfl) H)

end Go.Sx
/- PlayRoom: the rule, the program, and the law. -/
set_option linter.unusedVariables false
set_option linter.unusedSimpArgs false
namespace Go.Sx
open Go.Proofs
set_option maxRecDepth 100000
set_option maxHeartbeats 1000000

/-- A room, a slice of floats and a code, told by a call. -/
def TriL (h h' : Heap) (u : Value) (x : GRoom) (ys : List Nat) (code : Int) : Prop := ∃ cs B b l c C, u = .tuple ⟨[.agg cs, .slice b l c, .int .i64 code]⟩ ∧ rRoom.ow B cs.toList x ∧ SlO T_float32 (rF .f32) C b l c ys ∧ Mem h h' (B ++ C)
theorem TriL.go {P : Program} {f : FuncId} {args : Array Value} {x : GRoom} {ys : List Nat} {code : Int} {hb h : Heap} {L : List Blk} {K : Value → Heap → Prop} (M : Mem hb h L) (k : CALL P f args (fun u h' => TriL h h' u x ys code) h)
    (H : ∀ h' cs B b l c C, Mem hb h' ((B ++ C) ++ L) → rRoom.ow B cs.toList x → cs.size = rRoom.sz → SlO T_float32 (rF .f32) C b l c ys → K (.tuple ⟨[.agg cs, .slice b l c, .int .i64 code]⟩) h') : CALL P f args K h :=
  k.mono fun u h' ⟨cs, B, b, l, c, C, e, O, S, N⟩ => by subst e; exact H h' cs B b l c C (M.join N) O (by simpa using rRoom.olen O) S
def GRoom.played (x : GRoom) (xs : List Nat) : GRoom × List Nat × Int := if x.ok then if xs.length ≤ 4096 then ((x.play xs).1, (x.play xs).2, 0) else (z_Room, [], 3) else (z_Room, [], 1)
theorem play_len (x : GRoom) : ∀ xs : List Nat, (x.play xs).2.length = xs.length
  | [] => rfl
  | a :: xs => by simp only [GRoom.play, List.length_cons]; rw [play_len]
section
variable {h : Heap} {x : GRoom} {xs : List Nat} {b : Option Addr} {l c : Nat}
theorem played1 (h1 : x.ok = false) : x.played xs = (z_Room, [], 1) := by unfold GRoom.played; rw [h1]; rfl
theorem played3 (h1 : x.ok = true) (h2 : 4096 < xs.length) : x.played xs = (z_Room, [], 3) := by unfold GRoom.played; rw [h1, if_pos rfl, if_neg (by omega)]
theorem played0 (h1 : x.ok = true) (h2 : xs.length ≤ 4096) : x.played xs = ((x.play xs).1, (x.play xs).2, 0) := by unfold GRoom.played; rw [h1, if_pos rfl, if_pos h2]
theorem play_step {n : Nat} (hn : n < xs.length) : x.play (xs.take (n + 1)) = (((x.play (xs.take n)).1.step xs[n]!).1, (x.play (xs.take n)).2 ++ [((x.play (xs.take n)).1.step xs[n]!).2]) := by rw [take_snoc hn, play_append]
theorem impl_PlayRoom_c {cs : Array Value} (R0 : rRoom.rd h cs.toList x) (S0 : SlR (rF .f32) h b l c xs) : CALL prg f_impl_PlayRoom #[.agg cs, .slice b l c] (fun u h' => TriL h h' u (x.played xs).1 (x.played xs).2.1 (x.played xs).2.2) h := by
  have hl := S0.len
  have hm : (4097 : Nat) ≤ maxLen := by decide
  refine impl_PlayRoom.call ((Mem.start h).alc fun g1 h1 x1 M => M.alc fun g3 h2 x2 M => M.lda0 (.there .here) (rsz R0 rfl) ?_)
  refine goM M (ValidRoom_c (rRoom.ext M.ext R0)) fun h3 M => as_b (br (fun hb => ?_) fun hb => ?_)
  · rw [played1 (nt hb)]
    exact M.sta0 .here rfl (all_one rfl) rfl .here fun h3 M => M.lda0 .here rfl ⟨_, [], _, _, _, [], rfl, zow_Room, SlO.nil, M.drop.drop⟩
  have hok := nf hb
  refine brd (fun hc => ?_) fun hc => ?_
  · rw [played3 hok (by omega)]
    exact M.sta0 .here rfl (all_one rfl) rfl .here fun h3 M => M.lda0 .here rfl ⟨_, [], _, _, _, [], rfl, zow_Room, SlO.nil, M.drop.drop⟩
  rw [played0 hok (by omega)]
  have hr := room_runs R0 hok
  refine M.lda0 (.there .here) (rsz R0 rfl) (NewR.go M (Room_clone_c (rRoom.ext M.ext R0) (ok_small hok)) fun h4 c4 B4 M O4 s4 => as_a ?_)
  have M := M.cnt (W := (g1, T_impl_Room, cs) :: (B4 ++ [(g3, T_impl_Room, ⟨Z_impl_Room⟩)])) (fun p => by simp only [cnt_app, cnt_cons, cnt_nil] at *; omega)
  refine M.sta0 .here s4 (rRoom.oone O4) (rsz R0 rfl) .here fun h6 M => ?_
  have P : Pt rRoom h h6 ⟨g1, 0, none⟩ ⟨g1, T_impl_Room, [], []⟩ [(g3, T_impl_Room, ⟨Z_impl_Room⟩)] x := Pt.new O4 M
  refine loop (fun y hh => ∃ (n : Nat) (b' : Option Addr) (c' : Nat) (B : List Blk), y = (⟨g1, 0, none⟩, ⟨g3, 0, none⟩, b', n, c', b, l, c, (l : Int), (n : Int)) ∧ n ≤ l ∧ SlO T_float32 (rF .f32) B b' n c' (x.play (xs.take n)).2 ∧
    Pt rRoom h hh ⟨g1, 0, none⟩ ⟨g1, T_impl_Room, [], []⟩ (B ++ [(g3, T_impl_Room, ⟨Z_impl_Room⟩)]) (x.play (xs.take n)).1) (fun y => (l - y.2.2.2.2.2.2.2.2.2).toNat)
    ⟨0, _, _, [], rfl, by omega, SlO.nil, P⟩ ?_
  rintro y hh ⟨n, b', c', B, rfl, hn, O, P⟩
  refine brd (fun hc => ?_) fun hc => ?_
  · refine (S0.ext P.ext).idx (by decide) (by omega) (by omega) fun p Rp => Rp.oF1 fun w hw => ((Room_step_c P (play_runs hr _) hw).mono ?_)
    rintro _ h8 ⟨⟨y, rfl, hy⟩, P⟩
    refine as_f (Pt.push P E_sl_float32 O ⟨rfl, _, rfl, hy⟩ (by omega) (by omega) fun b2 c2 h9 B2 O2 P2 => as_l ⟨⟨n + 1, b2, c2, B2, by rw [wrap64_succ (by omega)], by omega, ?_, ?_⟩, by rw [wrap64_succ (by omega)]; show _ < _; simp; omega⟩)
    · rw [play_step (by omega)]; exact O2
    · rw [play_step (by omega)]; exact P2
  obtain rfl : n = l := by omega
  rw [← hl, List.take_length] at O P
  obtain ⟨cs, BR, M, OR⟩ := P.out
  refine M.lda0 .here (osz OR rfl) ?_
  have M := M.cnt (W := (g3, T_impl_Room, ⟨Z_impl_Room⟩) :: (BR ++ B)) (fun p => by simp only [cnt_app, cnt_cons, cnt_nil] at *; omega)
  refine M.sta0 .here (osz OR rfl) (rRoom.oone OR) rfl .here fun h3 M => M.lda0 .here (osz OR rfl) ?_
  rw [← hl]
  exact ⟨_, BR, _, _, _, B, rfl, OR, O, M.drop⟩
end
end Go.Sx
/- What functions of this seat's program compute, told in words (a predicate over heaps for each), and the proofs that the words are no more than the code's own weakest precondition. -/
namespace Go.Sx
open Go.Proofs
set_option linter.unusedVariables false
set_option maxRecDepth 100000

def laws_FnSilentStays.B14 (Post : Value → Heap → Prop) (N14 : (Option Addr × Nat × Nat × Addr × Int × Addr × Option Addr × Nat × Nat × Addr × Option Addr × Nat × Nat × Addr × Option Addr × Nat × Nat × Int) → Heap → Prop) : Option Addr × Nat × Nat × Addr × Int × Addr × Option Addr × Nat × Nat × Addr × Option Addr × Nat × Nat × Addr × Option Addr × Nat × Nat × Int → Heap → Prop
  | (more_1b, more_1l, more_1c, x_5, n_11, a_13, p_14b, p_14l, p_14c, b_16, q_17b, q_17l, q_17c, c_19, r_20b, r_20l, r_20c, i_22), h =>
    BIF (decide (i_22 < n_11)) (
    IDXS p_14b i_22 p_14l fun p90 =>
    oF .f32 (cell h ((Addr.add p90 ((Int.toNat i_22) * 1)))) fun r91 =>
    BIF (FloatKind.f32.format.order r91 0 != some .eq) (
    Post (.bool false) h) (
    IDXS q_17b i_22 q_17l fun p92 =>
    oF .f32 (cell h ((Addr.add p92 ((Int.toNat i_22) * 1)))) fun r93 =>
    BIF (FloatKind.f32.format.order r93 0 != some .eq) (
    Post (.bool false) h) (
    IDXS r_20b i_22 r_20l fun p94 =>
    oF .f32 (cell h ((Addr.add p94 ((Int.toNat i_22) * 1)))) fun r95 =>
    BIF (FloatKind.f32.format.order r95 0 != some .eq) (
    Post (.bool false) h) (
    N14 (more_1b, more_1l, more_1c, x_5, n_11, a_13, p_14b, p_14l, p_14c, b_16, q_17b, q_17l, q_17c, c_19, r_20b, r_20l, r_20c, ((IntKind.i64.wrap (i_22 + (1 : Int))))) h)))) (
    LDA 12 h a_13 fun a96 =>
    CALL prg f_impl_IsSilentBow #[.agg a96] (fun q97 h98 =>
    TUP2 q97 fun q99 q100 =>
    asB q99 fun b101 =>
    asI .i64 q100 fun n102 =>
    LDA 18 h98 b_16 fun a103 =>
    CALL prg f_impl_IsSilentJet #[.agg a103] (fun q104 h105 =>
    TUP2 q104 fun q106 q107 =>
    asB q106 fun b108 =>
    asI .i64 q107 fun n109 =>
    LDA 47 h105 c_19 fun a110 =>
    CALL prg f_impl_IsSilentRoom #[.agg a110] (fun q111 h112 =>
    TUP2 q111 fun q113 q114 =>
    asB q113 fun b115 =>
    asI .i64 q114 fun n116 =>
    CALL prg f_spec_P6Plain #[.slice more_1b more_1l more_1c] (fun q117 h118 =>
    asF .f32 q117 fun r119 =>
    LDA 12 h118 x_5 fun a120 =>
    CALL prg f_impl_PullBow #[.agg a120, .float .f32 r119] (fun q121 h122 =>
    TUP2 q121 fun q123 q124 =>
    asA q123 fun a125 =>
    asI .i64 q124 fun n126 =>
    ALC ⟨Z_impl_Bow⟩ T_impl_Bow (fun g127 h128 =>
    STA 12 h128 ⟨g127, 0, none⟩ a125 fun h129 =>
    LDA 12 h129 ⟨g127, 0, none⟩ fun a130 =>
    CALL prg f_impl_StepBow #[.agg a130, .float .f32 0] (fun q131 h132 =>
    TUP3 q131 fun q133 q134 q135 =>
    asA q133 fun a136 =>
    asF .f32 q134 fun r137 =>
    asI .i64 q135 fun n138 =>
    ALC ⟨Z_impl_Bow⟩ T_impl_Bow (fun g139 h140 =>
    STA 12 h140 ⟨g139, 0, none⟩ a136 fun h141 =>
    BIF (n102 == (0 : Int)) (
    BIF b101 (
    BIF (n109 == (0 : Int)) (
    BIF b108 (
    BIF (n116 == (0 : Int)) (
    BIF b115 (
    BIF (n126 == (0 : Int)) (
    BIF (n138 == (0 : Int)) (
    Post (.bool (FloatKind.f32.format.order r137 r119 == some .eq)) h141) (
    Post (.bool false) h141)) (
    Post (.bool false) h141)) (
    Post (.bool false) h141)) (
    Post (.bool false) h141)) (
    Post (.bool false) h141)) (
    Post (.bool false) h141)) (
    Post (.bool false) h141)) (
    Post (.bool false) h141)) h132) h129) h122) h118) h112) h105) h98) h)
def laws_FnSilentStays.g14 (fr : Frame) : Option Addr × Nat × Nat × Addr × Int × Addr × Option Addr × Nat × Nat × Addr × Option Addr × Nat × Nat × Addr × Option Addr × Nat × Nat × Int := ((gLb (lget fr 1)), (gLl (lget fr 1)), (gLc (lget fr 1)), (gP (lget fr 5)), (gI (lget fr 11)), (gP (lget fr 13)), (gLb (lget fr 14)), (gLl (lget fr 14)), (gLc (lget fr 14)), (gP (lget fr 16)), (gLb (lget fr 17)), (gLl (lget fr 17)), (gLc (lget fr 17)), (gP (lget fr 19)), (gLb (lget fr 20)), (gLl (lget fr 20)), (gLc (lget fr 20)), (gI (lget fr 22)))
def laws_FnSilentStays.l14 (Post : Value → Heap → Prop) : Frame → Heap → Prop := fun fr h => GRD (shape (kds 209 [(1, .l), (5, .p), (11, .i .i64), (13, .p), (14, .l), (16, .p), (17, .l), (19, .p), (20, .l), (22, .i .i64)]) fr) (LOOP (laws_FnSilentStays.B14 Post) (laws_FnSilentStays.g14 fr) h)
def laws_FnSilentStays.J13 (Post : Value → Heap → Prop) (more_1b : Option Addr) (more_1l : Nat) (more_1c : Nat) (x_5 : Addr) (n_11 : Int) (a_13 : Addr) (p_14b : Option Addr) (p_14l : Nat) (p_14c : Nat) (b_16 : Addr) (q_17b : Option Addr) (q_17l : Nat) (q_17c : Nat) (c_19 : Addr) (r_20b : Option Addr) (r_20l : Nat) (r_20c : Nat) (h : Heap) : Prop :=
    LOOP (laws_FnSilentStays.B14 Post) (more_1b, more_1l, more_1c, x_5, n_11, a_13, p_14b, p_14l, p_14c, b_16, q_17b, q_17l, q_17c, c_19, r_20b, r_20l, r_20c, (0 : Int)) h
def laws_FnSilentStays.j13 (Post : Value → Heap → Prop) : Frame → Heap → Prop := fun fr h => GRD (shape (kds 209 [(1, .l), (5, .p), (11, .i .i64), (13, .p), (14, .l), (16, .p), (17, .l), (19, .p), (20, .l)]) fr) (laws_FnSilentStays.J13 Post (gLb (lget fr 1)) (gLl (lget fr 1)) (gLc (lget fr 1)) (gP (lget fr 5)) (gI (lget fr 11)) (gP (lget fr 13)) (gLb (lget fr 14)) (gLl (lget fr 14)) (gLc (lget fr 14)) (gP (lget fr 16)) (gLb (lget fr 17)) (gLl (lget fr 17)) (gLc (lget fr 17)) (gP (lget fr 19)) (gLb (lget fr 20)) (gLl (lget fr 20)) (gLc (lget fr 20)) h)
def laws_FnSilentStays.J3 (Post : Value → Heap → Prop) (code_0b : Option Addr) (code_0l : Nat) (code_0c : Nat) (more_1b : Option Addr) (more_1l : Nat) (more_1c : Nat) (h : Heap) : Prop :=
    CALL prg f_spec_P6Bow #[.slice code_0b code_0l code_0c] (fun q7 h8 =>
    asA q7 fun a9 =>
    CALL prg f_spec_MuteBow #[.agg a9] (fun q10 h11 =>
    TUP2 q10 fun q12 q13 =>
    asA q12 fun a14 =>
    asI .i64 q13 fun n15 =>
    ALC ⟨Z_impl_Bow⟩ T_impl_Bow (fun g16 h17 =>
    STA 12 h17 ⟨g16, 0, none⟩ a14 fun h18 =>
    CALL prg f_spec_P6Jet #[.slice code_0b code_0l code_0c] (fun q19 h20 =>
    asA q19 fun a21 =>
    CALL prg f_spec_MuteJet #[.agg a21] (fun q22 h23 =>
    TUP2 q22 fun q24 q25 =>
    asA q24 fun a26 =>
    asI .i64 q25 fun n27 =>
    ALC ⟨Z_impl_Jet⟩ T_impl_Jet (fun g28 h29 =>
    STA 18 h29 ⟨g28, 0, none⟩ a26 fun h30 =>
    CALL prg f_spec_P6Room #[.slice code_0b code_0l code_0c] (fun q31 h32 =>
    asA q31 fun a33 =>
    CALL prg f_spec_MuteRoom #[.agg a33] (fun q34 h35 =>
    TUP2 q34 fun q36 q37 =>
    asA q36 fun a38 =>
    asI .i64 q37 fun n39 =>
    ALC ⟨Z_impl_Room⟩ T_impl_Room (fun g40 h41 =>
    STA 47 h41 ⟨g40, 0, none⟩ a38 fun h42 =>
    CALL prg f_spec_P6Pick #[.slice more_1b more_1l more_1c, .int .i64 (40 : Int)] (fun q43 h44 =>
    asI .i64 q43 fun n45 =>
    MKS ti_float32 T_float32 n45 n45 (fun g46 h47 =>
    LDA 12 h47 ⟨g16, 0, none⟩ fun a48 =>
    CALL prg f_impl_PlayBow #[.agg a48, .slice (some ⟨g46, 0, none⟩) (Int.toNat n45) (Int.toNat n45)] (fun q49 h50 =>
    TUP3 q49 fun q51 q52 q53 =>
    asA q51 fun a54 =>
    asL q52 fun l55b l55l l55c =>
    asI .i64 q53 fun n56 =>
    ALC ⟨Z_impl_Bow⟩ T_impl_Bow (fun g57 h58 =>
    STA 12 h58 ⟨g57, 0, none⟩ a54 fun h59 =>
    LDA 18 h59 ⟨g28, 0, none⟩ fun a60 =>
    CALL prg f_impl_PlayJet #[.agg a60, .slice (some ⟨g46, 0, none⟩) (Int.toNat n45) (Int.toNat n45)] (fun q61 h62 =>
    TUP3 q61 fun q63 q64 q65 =>
    asA q63 fun a66 =>
    asL q64 fun l67b l67l l67c =>
    asI .i64 q65 fun n68 =>
    ALC ⟨Z_impl_Jet⟩ T_impl_Jet (fun g69 h70 =>
    STA 18 h70 ⟨g69, 0, none⟩ a66 fun h71 =>
    LDA 47 h71 ⟨g40, 0, none⟩ fun a72 =>
    CALL prg f_impl_PlayRoom #[.agg a72, .slice (some ⟨g46, 0, none⟩) (Int.toNat n45) (Int.toNat n45)] (fun q73 h74 =>
    TUP3 q73 fun q75 q76 q77 =>
    asA q75 fun a78 =>
    asL q76 fun l79b l79l l79c =>
    asI .i64 q77 fun n80 =>
    ALC ⟨Z_impl_Room⟩ T_impl_Room (fun g81 h82 =>
    STA 47 h82 ⟨g81, 0, none⟩ a78 fun h83 =>
    BIF (n15 != (0 : Int)) (
    Post (.bool false) h83) (
    BIF (n27 != (0 : Int)) (
    Post (.bool false) h83) (
    BIF (n39 != (0 : Int)) (
    Post (.bool false) h83) (
    BIF (n56 != (0 : Int)) (
    Post (.bool false) h83) (
    BIF (n68 != (0 : Int)) (
    Post (.bool false) h83) (
    BIF (n80 != (0 : Int)) (
    Post (.bool false) h83) (
    BIF ((l55l : Int) != n45) (
    Post (.bool false) h83) (
    BIF ((l67l : Int) != n45) (
    Post (.bool false) h83) (
    BIF ((l79l : Int) != n45) (
    Post (.bool false) h83) (
    laws_FnSilentStays.J13 Post more_1b more_1l more_1c ⟨g16, 0, none⟩ n45 ⟨g57, 0, none⟩ l55b l55l l55c ⟨g69, 0, none⟩ l67b l67l l67c ⟨g81, 0, none⟩ l79b l79l l79c h83)))))))))) h74) h71) h62) h59) h50) h47) h44) h42) h35) h32) h30) h23) h20) h18) h11) h8) h
def laws_FnSilentStays.j3 (Post : Value → Heap → Prop) : Frame → Heap → Prop := fun fr h => GRD (shape (kds 209 [(0, .l), (1, .l)]) fr) (laws_FnSilentStays.J3 Post (gLb (lget fr 0)) (gLl (lget fr 0)) (gLc (lget fr 0)) (gLb (lget fr 1)) (gLl (lget fr 1)) (gLc (lget fr 1)) h)
def laws_FnSilentStays.S (code_0b : Option Addr) (code_0l code_0c : Nat) (more_1b : Option Addr) (more_1l more_1c : Nat) (Post : Value → Heap → Prop) (h : Heap) : Prop :=
    CALL prg f_laws_f6big #[.slice code_0b code_0l code_0c] (fun q1 h2 =>
    asB q1 fun b3 =>
    BIF b3 (
    Post (.bool true) h2) (
    CALL prg f_laws_f6big #[.slice more_1b more_1l more_1c] (fun q4 h5 =>
    asB q4 fun b6 =>
    BIF b6 (
    Post (.bool true) h5) (
    laws_FnSilentStays.J3 Post code_0b code_0l code_0c more_1b more_1l more_1c h5)) h2)) h
noncomputable def laws_FnSilentStays.code : Code := (Tryz.f4.body).getD .skip
theorem laws_FnSilentStays.call {code_0b : Option Addr} {code_0l code_0c : Nat} {more_1b : Option Addr} {more_1l more_1c : Nat} {Post : Value → Heap → Prop} {h : Heap} (H : laws_FnSilentStays.S code_0b code_0l code_0c more_1b more_1l more_1c Post h) : CALL prg f_laws_FnSilentStays #[.slice code_0b code_0l code_0c, .slice more_1b more_1l more_1c] Post h :=
  fn_call tau_ok mixed (c := laws_FnSilentStays.code) (Λ := lookL [(3, laws_FnSilentStays.j3 Post), (13, laws_FnSilentStays.j13 Post), (1000014, laws_FnSilentStays.l14 Post)]) Tryz.func4 (by kernel_rfl) (by kernel_rfl)
    (Rq.seq (by kernel_rfl) (Rq.free (by kernel_rfl)) (Rq.seqJ (laws_FnSilentStays.j3 Post) (by kernel_rfl) (seg (fun _ _ => by kernel_rfl)) (Rq.free (by kernel_rfl))
(Rq.seq (by kernel_rfl) (Rq.free (by kernel_rfl)) (Rq.seq (by kernel_rfl) (Rq.free (by kernel_rfl)) (Rq.seq (by kernel_rfl) (Rq.free (by kernel_rfl)) (Rq.seq (by kernel_rfl) (Rq.free (by kernel_rfl)) (Rq.seq (by kernel_rfl) (Rq.free (by kernel_rfl)) (Rq.seq (by kernel_rfl) (Rq.free (by kernel_rfl)) (Rq.seq (by kernel_rfl) (Rq.free (by kernel_rfl)) (Rq.seq (by kernel_rfl) (Rq.free (by kernel_rfl)) (Rq.seqJ (laws_FnSilentStays.j13 Post) (by kernel_rfl) (seg (fun _ _ => by kernel_rfl)) (Rq.free (by kernel_rfl))
(Rq.seq (by kernel_rfl) (Rq.seq (by kernel_rfl) (Rq.free (by kernel_rfl)) (Rq.block (Rq.loop (laws_FnSilentStays.l14 Post) (by kernel_rfl) (segL (g := laws_FnSilentStays.g14) tau_ok mixed (Λ := fun N14 => lookL []) (fun _ _ _ => by kernel_rfl) (fun N14 => (Rq.free (by kernel_rfl))))))) (Rq.free (by kernel_rfl))))))))))))))
    (Eq.mp (by kernel_rfl) H)

end Go.Sx
