/- What functions of this seat's program compute, told in words (a predicate over heaps for each), and the proofs that the words are no more than the code's own weakest precondition. -/
import Derived.Test.YtkgmfiloghhibaaGreatDoorTab
import Derived.Test.YtkgmfiloghhibaaGreatDoorLs3
import Derived.Test.YtkgmfiloghhibaaGreatDoorLvp
namespace Go.Sx
open Go.Proofs
set_option linter.unusedVariables false
set_option maxRecDepth 100000

def spec_PlayRoom.B8 (Post : Value → Heap → Prop) (N8 : (Option Addr × Nat × Nat × Addr × Addr × Option Addr × Nat × Nat × Int) → Heap → Prop) : Option Addr × Nat × Nat × Addr × Addr × Option Addr × Nat × Nat × Int → Heap → Prop
  | (in_1b, in_1l, in_1c, t4, y_7, out_8b, out_8l, out_8c, i_9), h =>
    BIF ((decide (i_9 < (in_1l : Int)))) (
    IDXS in_1b i_9 in_1l fun p28 =>
    oF .f32 (cell h ((Addr.add p28 ((Int.toNat i_9) * 1)))) fun r29 =>
    CALL prg f_spec_l06Step #[.pointer (some y_7), .float .f32 r29] (fun q30 h31 =>
    asF .f32 q30 fun r32 =>
    ALC ⟨[.float .f32 r32]⟩ T_float32 (fun g33 h34 =>
    SEMV prg (Builtin.append_ #[T_sl_float32, T_sl_float32] T_sl_float32 #[.slice out_8b out_8l out_8c, .slice (some ⟨g33, 0, none⟩) 1 1]) (fun q35 h36 =>
    asL q35 fun l37b l37l l37c =>
    N8 (in_1b, in_1l, in_1c, t4, y_7, l37b, l37l, l37c, ((IntKind.i64.wrap (i_9 + (1 : Int))))) h36) h34) h31) h) (
    LDA 47 h y_7 fun a38 =>
    STA 47 h t4 a38 fun h39 =>
    LDA 47 h39 t4 fun a40 =>
    Post (.tuple ⟨[.agg a40, .slice out_8b out_8l out_8c, .int .i64 (0 : Int)]⟩) h39)
def spec_PlayRoom.g8 (fr : Frame) : Option Addr × Nat × Nat × Addr × Addr × Option Addr × Nat × Nat × Int := ((gLb (lget fr 1)), (gLl (lget fr 1)), (gLc (lget fr 1)), (gP (lget fr 4)), (gP (lget fr 7)), (gLb (lget fr 8)), (gLl (lget fr 8)), (gLc (lget fr 8)), (gI (lget fr 9)))
def spec_PlayRoom.l8 (Post : Value → Heap → Prop) : Frame → Heap → Prop := fun fr h => GRD (shape (kds 37 [(1, .l), (4, .p), (7, .p), (8, .l), (9, .i .i64)]) fr) (LOOP (spec_PlayRoom.B8 Post) (spec_PlayRoom.g8 fr) h)
def spec_PlayRoom.S (x_0 : Array Value) (in_1b : Option Addr) (in_1l in_1c : Nat) (Post : Value → Heap → Prop) (h : Heap) : Prop :=
    ALC x_0 T_impl_Room (fun g1 h2 =>
    ALC ⟨Z_impl_Room⟩ T_impl_Room (fun g3 h4 =>
    CALL prg f_spec_l06Ok #[.pointer (some ⟨g1, 0, none⟩)] (fun q5 h6 =>
    asB q5 fun b7 =>
    BIF (!b7) (
    ALC ⟨[]⟩ T_float32 (fun g8 h9 =>
    STA 47 h9 ⟨g3, 0, none⟩ (⟨[.slice none 0 0, .int .i64 (0 : Int), .slice none 0 0, .slice none 0 0, .int .i64 (0 : Int), .float .f32 0, .slice none 0 0, .int .i64 (0 : Int), .float .f32 0, .slice none 0 0, .int .i64 (0 : Int), .slice none 0 0, .int .i64 (0 : Int), .slice none 0 0, .int .i64 (0 : Int), .slice none 0 0, .int .i64 (0 : Int), .int .i64 (0 : Int), .float .f32 0, .float .f32 0, .float .f32 0, .float .f32 0, .float .f32 0, .int .i64 (0 : Int), .float .f32 0, .float .f32 0, .float .f32 0, .float .f32 0, .float .f32 0, .int .i64 (0 : Int), .float .f32 0, .float .f32 0, .float .f32 0, .float .f32 0, .float .f32 0, .int .i64 (0 : Int), .float .f32 0, .float .f32 0, .float .f32 0, .float .f32 0, .float .f32 0, .float .f32 0, .float .f32 0, .float .f32 0, .float .f32 0, .float .f32 0, .float .f32 0]⟩ : Array Value) fun h10 =>
    LDA 47 h10 ⟨g3, 0, none⟩ fun a11 =>
    Post (.tuple ⟨[.agg a11, .slice (some ⟨g8, 0, none⟩) 0 0, .int .i64 (1 : Int)]⟩) h10) h6) (
    BIF ((decide ((4096 : Int) < (in_1l : Int)))) (
    ALC ⟨[]⟩ T_float32 (fun g14 h15 =>
    STA 47 h15 ⟨g3, 0, none⟩ (⟨[.slice none 0 0, .int .i64 (0 : Int), .slice none 0 0, .slice none 0 0, .int .i64 (0 : Int), .float .f32 0, .slice none 0 0, .int .i64 (0 : Int), .float .f32 0, .slice none 0 0, .int .i64 (0 : Int), .slice none 0 0, .int .i64 (0 : Int), .slice none 0 0, .int .i64 (0 : Int), .slice none 0 0, .int .i64 (0 : Int), .int .i64 (0 : Int), .float .f32 0, .float .f32 0, .float .f32 0, .float .f32 0, .float .f32 0, .int .i64 (0 : Int), .float .f32 0, .float .f32 0, .float .f32 0, .float .f32 0, .float .f32 0, .int .i64 (0 : Int), .float .f32 0, .float .f32 0, .float .f32 0, .float .f32 0, .float .f32 0, .int .i64 (0 : Int), .float .f32 0, .float .f32 0, .float .f32 0, .float .f32 0, .float .f32 0, .float .f32 0, .float .f32 0, .float .f32 0, .float .f32 0, .float .f32 0, .float .f32 0]⟩ : Array Value) fun h16 =>
    LDA 47 h16 ⟨g3, 0, none⟩ fun a17 =>
    Post (.tuple ⟨[.agg a17, .slice (some ⟨g14, 0, none⟩) 0 0, .int .i64 (3 : Int)]⟩) h16) h6) (
    CALL prg f_spec_l06Copy #[.pointer (some ⟨g1, 0, none⟩)] (fun q18 h19 =>
    asA q18 fun a20 =>
    ALC ⟨Z_impl_Room⟩ T_impl_Room (fun g21 h22 =>
    STA 47 h22 ⟨g21, 0, none⟩ a20 fun h23 =>
    ALC ⟨[]⟩ T_float32 (fun g24 h25 =>
    LOOP (spec_PlayRoom.B8 Post) (in_1b, in_1l, in_1c, ⟨g3, 0, none⟩, ⟨g21, 0, none⟩, (some ⟨g24, 0, none⟩), 0, 0, (0 : Int)) h25) h23) h19) h6))) h4) h2) h
noncomputable def spec_PlayRoom.code : Code := (Tryz.f20.body).getD .skip
theorem spec_PlayRoom.call {x_0 : Array Value} {in_1b : Option Addr} {in_1l in_1c : Nat} {Post : Value → Heap → Prop} {h : Heap} (H : spec_PlayRoom.S x_0 in_1b in_1l in_1c Post h) : CALL prg f_spec_PlayRoom #[.agg x_0, .slice in_1b in_1l in_1c] Post h :=
  fn_call tau_ok mixed (c := spec_PlayRoom.code) (Λ := lookL [(1000008, spec_PlayRoom.l8 Post)]) Tryz.func20 (by kernel_rfl) (by kernel_rfl)
    (Rq.seq (by kernel_rfl) (Rq.free (by kernel_rfl)) (Rq.seq (by kernel_rfl) (Rq.free (by kernel_rfl)) (Rq.seq (by kernel_rfl) (Rq.free (by kernel_rfl)) (Rq.seq (by kernel_rfl) (Rq.free (by kernel_rfl)) (Rq.seq (by kernel_rfl) (Rq.free (by kernel_rfl)) (Rq.seq (by kernel_rfl) (Rq.seq (by kernel_rfl) (Rq.free (by kernel_rfl)) (Rq.block (Rq.loop (spec_PlayRoom.l8 Post) (by kernel_rfl) (segL (g := spec_PlayRoom.g8) tau_ok mixed (Λ := fun N8 => lookL []) (fun _ _ _ => by kernel_rfl) (fun N8 => (Rq.free (by kernel_rfl))))))) (Rq.free (by kernel_rfl))))))))
    (Eq.mp (by kernel_rfl) H)

def impl_PlayRoom.B8 (Post : Value → Heap → Prop) (N8 : (Addr × Addr × Option Addr × Nat × Nat × Option Addr × Nat × Nat × Int × Int) → Heap → Prop) : Addr × Addr × Option Addr × Nat × Nat × Option Addr × Nat × Nat × Int × Int → Heap → Prop
  | (x_2, t4, out_7b, out_7l, out_7c, t22b, t22l, t22c, t23, t24), h =>
    BIF (decide (t24 < t23)) (
    IDXS t22b t24 t22l fun p22 =>
    oF .f32 (cell h ((Addr.add p22 ((Int.toNat t24) * 1)))) fun r23 =>
    CALL prg f_p_impl_Room_step #[.pointer (some x_2), .float .f32 r23] (fun q24 h25 =>
    asF .f32 q24 fun r26 =>
    ALC ⟨[.float .f32 r26]⟩ T_float32 (fun g27 h28 =>
    SEMV prg (Builtin.append_ #[T_sl_float32, T_sl_float32] T_sl_float32 #[.slice out_7b out_7l out_7c, .slice (some ⟨g27, 0, none⟩) 1 1]) (fun q29 h30 =>
    asL q29 fun l31b l31l l31c =>
    N8 (x_2, t4, l31b, l31l, l31c, t22b, t22l, t22c, t23, ((IntKind.i64.wrap (t24 + (1 : Int))))) h30) h28) h25) h) (
    LDA 47 h x_2 fun a32 =>
    STA 47 h t4 a32 fun h33 =>
    LDA 47 h33 t4 fun a34 =>
    Post (.tuple ⟨[.agg a34, .slice out_7b out_7l out_7c, .int .i64 (0 : Int)]⟩) h33)
def impl_PlayRoom.g8 (fr : Frame) : Addr × Addr × Option Addr × Nat × Nat × Option Addr × Nat × Nat × Int × Int := ((gP (lget fr 2)), (gP (lget fr 4)), (gLb (lget fr 7)), (gLl (lget fr 7)), (gLc (lget fr 7)), (gLb (lget fr 22)), (gLl (lget fr 22)), (gLc (lget fr 22)), (gI (lget fr 23)), (gI (lget fr 24)))
def impl_PlayRoom.l8 (Post : Value → Heap → Prop) : Frame → Heap → Prop := fun fr h => GRD (shape (kds 36 [(2, .p), (4, .p), (7, .l), (22, .l), (23, .i .i64), (24, .i .i64)]) fr) (LOOP (impl_PlayRoom.B8 Post) (impl_PlayRoom.g8 fr) h)
def impl_PlayRoom.S (x_0 : Array Value) (in_1b : Option Addr) (in_1l in_1c : Nat) (Post : Value → Heap → Prop) (h : Heap) : Prop :=
    ALC x_0 T_impl_Room (fun g1 h2 =>
    ALC ⟨Z_impl_Room⟩ T_impl_Room (fun g3 h4 =>
    LDA 47 h4 ⟨g1, 0, none⟩ fun a5 =>
    CALL prg f_impl_ValidRoom #[.agg a5] (fun q6 h7 =>
    asB q6 fun b8 =>
    BIF (!b8) (
    STA 47 h7 ⟨g3, 0, none⟩ (⟨[.slice none 0 0, .int .i64 (0 : Int), .slice none 0 0, .slice none 0 0, .int .i64 (0 : Int), .float .f32 0, .slice none 0 0, .int .i64 (0 : Int), .float .f32 0, .slice none 0 0, .int .i64 (0 : Int), .slice none 0 0, .int .i64 (0 : Int), .slice none 0 0, .int .i64 (0 : Int), .slice none 0 0, .int .i64 (0 : Int), .int .i64 (0 : Int), .float .f32 0, .float .f32 0, .float .f32 0, .float .f32 0, .float .f32 0, .int .i64 (0 : Int), .float .f32 0, .float .f32 0, .float .f32 0, .float .f32 0, .float .f32 0, .int .i64 (0 : Int), .float .f32 0, .float .f32 0, .float .f32 0, .float .f32 0, .float .f32 0, .int .i64 (0 : Int), .float .f32 0, .float .f32 0, .float .f32 0, .float .f32 0, .float .f32 0, .float .f32 0, .float .f32 0, .float .f32 0, .float .f32 0, .float .f32 0, .float .f32 0]⟩ : Array Value) fun h9 =>
    LDA 47 h9 ⟨g3, 0, none⟩ fun a10 =>
    Post (.tuple ⟨[.agg a10, .slice none 0 0, .int .i64 (1 : Int)]⟩) h9) (
    BIF ((decide ((4096 : Int) < (in_1l : Int)))) (
    STA 47 h7 ⟨g3, 0, none⟩ (⟨[.slice none 0 0, .int .i64 (0 : Int), .slice none 0 0, .slice none 0 0, .int .i64 (0 : Int), .float .f32 0, .slice none 0 0, .int .i64 (0 : Int), .float .f32 0, .slice none 0 0, .int .i64 (0 : Int), .slice none 0 0, .int .i64 (0 : Int), .slice none 0 0, .int .i64 (0 : Int), .slice none 0 0, .int .i64 (0 : Int), .int .i64 (0 : Int), .float .f32 0, .float .f32 0, .float .f32 0, .float .f32 0, .float .f32 0, .int .i64 (0 : Int), .float .f32 0, .float .f32 0, .float .f32 0, .float .f32 0, .float .f32 0, .int .i64 (0 : Int), .float .f32 0, .float .f32 0, .float .f32 0, .float .f32 0, .float .f32 0, .int .i64 (0 : Int), .float .f32 0, .float .f32 0, .float .f32 0, .float .f32 0, .float .f32 0, .float .f32 0, .float .f32 0, .float .f32 0, .float .f32 0, .float .f32 0, .float .f32 0]⟩ : Array Value) fun h13 =>
    LDA 47 h13 ⟨g3, 0, none⟩ fun a14 =>
    Post (.tuple ⟨[.agg a14, .slice none 0 0, .int .i64 (3 : Int)]⟩) h13) (
    LDA 47 h7 ⟨g1, 0, none⟩ fun a15 =>
    CALL prg f_impl_Room_clone #[.agg a15] (fun q16 h17 =>
    asA q16 fun a18 =>
    STA 47 h17 ⟨g1, 0, none⟩ a18 fun h19 =>
    LOOP (impl_PlayRoom.B8 Post) (⟨g1, 0, none⟩, ⟨g3, 0, none⟩, none, 0, 0, in_1b, in_1l, in_1c, (in_1l : Int), (0 : Int)) h19) h7))) h4) h2) h
noncomputable def impl_PlayRoom.code : Code := (Tryz.f19.body).getD .skip
theorem impl_PlayRoom.call {x_0 : Array Value} {in_1b : Option Addr} {in_1l in_1c : Nat} {Post : Value → Heap → Prop} {h : Heap} (H : impl_PlayRoom.S x_0 in_1b in_1l in_1c Post h) : CALL prg f_impl_PlayRoom #[.agg x_0, .slice in_1b in_1l in_1c] Post h :=
  fn_call tau_ok mixed (c := impl_PlayRoom.code) (Λ := lookL [(1000008, impl_PlayRoom.l8 Post)]) Tryz.func19 (by kernel_rfl) (by kernel_rfl)
    (Rq.seq (by kernel_rfl) (Rq.free (by kernel_rfl)) (Rq.seq (by kernel_rfl) (Rq.free (by kernel_rfl)) (Rq.seq (by kernel_rfl) (Rq.free (by kernel_rfl)) (Rq.seq (by kernel_rfl) (Rq.free (by kernel_rfl)) (Rq.seq (by kernel_rfl) (Rq.seq (by kernel_rfl) (Rq.free (by kernel_rfl)) (Rq.block (Rq.loop (impl_PlayRoom.l8 Post) (by kernel_rfl) (segL (g := impl_PlayRoom.g8) tau_ok mixed (Λ := fun N8 => lookL []) (fun _ _ _ => by kernel_rfl) (fun N8 => (Rq.free (by kernel_rfl))))))) (Rq.free (by kernel_rfl)))))))
    (Eq.mp (by kernel_rfl) H)

end Go.Sx
/- PlayRoom: the rule, the program, and the law. -/
set_option linter.unusedVariables false
set_option linter.unusedSimpArgs false
namespace Go.Sx
open Go.Proofs
set_option maxRecDepth 100000
set_option maxHeartbeats 1000000

/-- A room, a slice of floats and a code, told by a call. -/
def TriL (h h' : Heap) (u : Value) (x : GRoom) (ys : List Nat) (code : Int) : Prop := ∃ cs B b l c C, u = .tuple ⟨[.agg cs, .slice b l c, .int .i64 code]⟩ ∧ rRoom.ow B cs.toList x ∧ SlO T_float32 (rF .f32) C b l c ys ∧ Mem h h' (B ++ C)
theorem TriL.go {P : Program} {f : FuncId} {args : Array Value} {x : GRoom} {ys : List Nat} {code : Int} {hb h : Heap} {L : List Blk} {K : Value → Heap → Prop} (M : Mem hb h L) (k : CALL P f args (fun u h' => TriL h h' u x ys code) h)
    (H : ∀ h' cs B b l c C, Mem hb h' ((B ++ C) ++ L) → rRoom.ow B cs.toList x → cs.size = rRoom.sz → SlO T_float32 (rF .f32) C b l c ys → K (.tuple ⟨[.agg cs, .slice b l c, .int .i64 code]⟩) h') : CALL P f args K h :=
  k.mono fun u h' ⟨cs, B, b, l, c, C, e, O, S, N⟩ => by subst e; exact H h' cs B b l c C (M.join N) O (by simpa using rRoom.olen O) S
def GRoom.played (x : GRoom) (xs : List Nat) : GRoom × List Nat × Int := if x.ok then if xs.length ≤ 4096 then ((x.play xs).1, (x.play xs).2, 0) else (z_Room, [], 3) else (z_Room, [], 1)
section
variable {h : Heap} {x : GRoom} {xs : List Nat} {b : Option Addr} {l c : Nat}
theorem played1 (h1 : x.ok = false) : x.played xs = (z_Room, [], 1) := by unfold GRoom.played; rw [h1]; rfl
theorem played3 (h1 : x.ok = true) (h2 : 4096 < xs.length) : x.played xs = (z_Room, [], 3) := by unfold GRoom.played; rw [h1, if_pos rfl, if_neg (by omega)]
theorem played0 (h1 : x.ok = true) (h2 : xs.length ≤ 4096) : x.played xs = ((x.play xs).1, (x.play xs).2, 0) := by unfold GRoom.played; rw [h1, if_pos rfl, if_pos h2]
theorem play_step {n : Nat} (hn : n < xs.length) : x.play (xs.take (n + 1)) = (((x.play (xs.take n)).1.step xs[n]!).1, (x.play (xs.take n)).2 ++ [((x.play (xs.take n)).1.step xs[n]!).2]) := by rw [take_snoc hn, play_append]
theorem spec_PlayRoom_c {cs : Array Value} (R0 : rRoom.rd h cs.toList x) (S0 : SlR (rF .f32) h b l c xs) : CALL prg f_spec_PlayRoom #[.agg cs, .slice b l c] (fun u h' => TriL h h' u (x.played xs).1 (x.played xs).2.1 (x.played xs).2.2) h := by
  have hl := S0.len
  have hm : (4097 : Nat) ≤ maxLen := by decide
  refine spec_PlayRoom.call ((Mem.start h).alc fun g1 h1 x1 M => M.alc fun g3 h2 x2 M => ?_)
  have R : RdP rRoom h2 ⟨g1, 0, none⟩ x := M.rdp (.there .here) (rRoom.ext M.ext R0)
  refine goM M (l06Ok_c R) fun h3 M => as_b (br (fun hb => ?_) fun hb => ?_)
  · rw [played1 (nt hb)]
    refine M.alc fun g8 h4 x4 M => ?_
    have M := M.cnt (W := (g3, T_impl_Room, ⟨Z_impl_Room⟩) :: [(g8, T_float32, ⟨[]⟩)]) (fun p => by simp only [cnt_app, cnt_cons, cnt_nil] at *; omega)
    exact M.sta0 .here rfl (all_one rfl) rfl .here fun h3 M => M.lda0 .here rfl ⟨_, [], _, _, _, _, rfl, zow_Room, SlO.empty g8, M.drop⟩
  have hok := nf hb
  refine brd (fun hc => ?_) fun hc => ?_
  · rw [played3 hok (by omega)]
    refine M.alc fun g8 h4 x4 M => ?_
    have M := M.cnt (W := (g3, T_impl_Room, ⟨Z_impl_Room⟩) :: [(g8, T_float32, ⟨[]⟩)]) (fun p => by simp only [cnt_app, cnt_cons, cnt_nil] at *; omega)
    exact M.sta0 .here rfl (all_one rfl) rfl .here fun h3 M => M.lda0 .here rfl ⟨_, [], _, _, _, _, rfl, zow_Room, SlO.empty g8, M.drop⟩
  rw [played0 hok (by omega)]
  have hr := room_runs R0 hok
  have R : RdP rRoom h3 ⟨g1, 0, none⟩ x := M.rdp (.there .here) (rRoom.ext M.ext R0)
  refine NewR.go M (l06Copy_c R (ok_small hok)) fun h4 c4 B4 M O4 s4 => as_a (M.alc fun g13 h5 x5 M => ?_)
  refine M.sta0 .here s4 (rRoom.oone O4) rfl .here fun h6 M => ?_
  have P : Pt rRoom h h6 ⟨g13, 0, none⟩ ⟨g13, T_impl_Room, [], []⟩ [(g3, T_impl_Room, ⟨Z_impl_Room⟩), (g1, T_impl_Room, cs)] x := Pt.new O4 M
  refine (Mem.start h6).alc fun g24 h7 x7 N => ?_
  refine loop (fun y hh => ∃ (n : Nat) (b' : Option Addr) (c' : Nat) (B : List Blk), y = (b, l, c, ⟨g3, 0, none⟩, ⟨g13, 0, none⟩, b', n, c', (n : Int)) ∧ n ≤ l ∧ SlO T_float32 (rF .f32) B b' n c' (x.play (xs.take n)).2 ∧
    Pt rRoom h hh ⟨g13, 0, none⟩ ⟨g13, T_impl_Room, [], []⟩ (B ++ [(g3, T_impl_Room, ⟨Z_impl_Room⟩)]) (x.play (xs.take n)).1) (fun y => (l - y.2.2.2.2.2.2.2.2).toNat)
    ⟨0, _, _, _, rfl, by omega, SlO.empty g24, (P.join N).cnt (fun p => by simp only [cnt_app, cnt_cons, cnt_nil] at *; omega)⟩ ?_
  rintro y hh ⟨n, b', c', B, rfl, hn, O, P⟩
  refine brd (fun hc => ?_) fun hc => ?_
  · refine (S0.ext P.ext).idx (by decide) (by omega) (by omega) fun p Rp => Rp.oF1 fun w hw => ((l06Step_c P (play_runs hr _) hw).mono ?_)
    rintro _ h8 ⟨⟨y, rfl, hy⟩, P⟩
    refine as_f (Pt.push P E_sl_float32 O ⟨rfl, _, rfl, hy⟩ (by omega) (by omega) fun b2 c2 h9 B2 O2 P2 => as_l ⟨⟨n + 1, b2, c2, B2, by rw [wrap64_succ (by omega)], by omega, ?_, ?_⟩, by rw [wrap64_succ (by omega)]; show _ < _; simp; omega⟩)
    · rw [play_step (by omega)]; exact O2
    · rw [play_step (by omega)]; exact P2
  obtain rfl : n = l := by omega
  rw [← hl, List.take_length] at O P
  obtain ⟨cs, BR, M, OR⟩ := P.out
  refine M.lda0 .here (osz OR rfl) ?_
  have M := M.cnt (W := (g3, T_impl_Room, ⟨Z_impl_Room⟩) :: (BR ++ B)) (fun p => by simp only [cnt_app, cnt_cons, cnt_nil] at *; omega)
  refine M.sta0 .here (osz OR rfl) (rRoom.oone OR) rfl .here fun h3 M => M.lda0 .here (osz OR rfl) ?_
  rw [← hl]
  exact ⟨_, BR, _, _, _, B, rfl, OR, O, M.drop⟩
theorem impl_PlayRoom_c {cs : Array Value} (R0 : rRoom.rd h cs.toList x) (S0 : SlR (rF .f32) h b l c xs) : CALL prg f_impl_PlayRoom #[.agg cs, .slice b l c] (fun u h' => TriL h h' u (x.played xs).1 (x.played xs).2.1 (x.played xs).2.2) h := by
  have hl := S0.len
  have hm : (4097 : Nat) ≤ maxLen := by decide
  refine impl_PlayRoom.call ((Mem.start h).alc fun g1 h1 x1 M => M.alc fun g3 h2 x2 M => M.lda0 (.there .here) (rsz R0 rfl) ?_)
  refine goM M (ValidRoom_c (rRoom.ext M.ext R0)) fun h3 M => as_b (br (fun hb => ?_) fun hb => ?_)
  · rw [played1 (nt hb)]
    exact M.sta0 .here rfl (all_one rfl) rfl .here fun h3 M => M.lda0 .here rfl ⟨_, [], _, _, _, [], rfl, zow_Room, SlO.nil, M.drop.drop⟩
  have hok := nf hb
  refine brd (fun hc => ?_) fun hc => ?_
  · rw [played3 hok (by omega)]
    exact M.sta0 .here rfl (all_one rfl) rfl .here fun h3 M => M.lda0 .here rfl ⟨_, [], _, _, _, [], rfl, zow_Room, SlO.nil, M.drop.drop⟩
  rw [played0 hok (by omega)]
  have hr := room_runs R0 hok
  refine M.lda0 (.there .here) (rsz R0 rfl) (NewR.go M (Room_clone_c (rRoom.ext M.ext R0) (ok_small hok)) fun h4 c4 B4 M O4 s4 => as_a ?_)
  have M := M.cnt (W := (g1, T_impl_Room, cs) :: (B4 ++ [(g3, T_impl_Room, ⟨Z_impl_Room⟩)])) (fun p => by simp only [cnt_app, cnt_cons, cnt_nil] at *; omega)
  refine M.sta0 .here s4 (rRoom.oone O4) (rsz R0 rfl) .here fun h6 M => ?_
  have P : Pt rRoom h h6 ⟨g1, 0, none⟩ ⟨g1, T_impl_Room, [], []⟩ [(g3, T_impl_Room, ⟨Z_impl_Room⟩)] x := Pt.new O4 M
  refine loop (fun y hh => ∃ (n : Nat) (b' : Option Addr) (c' : Nat) (B : List Blk), y = (⟨g1, 0, none⟩, ⟨g3, 0, none⟩, b', n, c', b, l, c, (l : Int), (n : Int)) ∧ n ≤ l ∧ SlO T_float32 (rF .f32) B b' n c' (x.play (xs.take n)).2 ∧
    Pt rRoom h hh ⟨g1, 0, none⟩ ⟨g1, T_impl_Room, [], []⟩ (B ++ [(g3, T_impl_Room, ⟨Z_impl_Room⟩)]) (x.play (xs.take n)).1) (fun y => (l - y.2.2.2.2.2.2.2.2.2).toNat)
    ⟨0, _, _, [], rfl, by omega, SlO.nil, P⟩ ?_
  rintro y hh ⟨n, b', c', B, rfl, hn, O, P⟩
  refine brd (fun hc => ?_) fun hc => ?_
  · refine (S0.ext P.ext).idx (by decide) (by omega) (by omega) fun p Rp => Rp.oF1 fun w hw => ((Room_step_c P (play_runs hr _) hw).mono ?_)
    rintro _ h8 ⟨⟨y, rfl, hy⟩, P⟩
    refine as_f (Pt.push P E_sl_float32 O ⟨rfl, _, rfl, hy⟩ (by omega) (by omega) fun b2 c2 h9 B2 O2 P2 => as_l ⟨⟨n + 1, b2, c2, B2, by rw [wrap64_succ (by omega)], by omega, ?_, ?_⟩, by rw [wrap64_succ (by omega)]; show _ < _; simp; omega⟩)
    · rw [play_step (by omega)]; exact O2
    · rw [play_step (by omega)]; exact P2
  obtain rfl : n = l := by omega
  rw [← hl, List.take_length] at O P
  obtain ⟨cs, BR, M, OR⟩ := P.out
  refine M.lda0 .here (osz OR rfl) ?_
  have M := M.cnt (W := (g3, T_impl_Room, ⟨Z_impl_Room⟩) :: (BR ++ B)) (fun p => by simp only [cnt_app, cnt_cons, cnt_nil] at *; omega)
  refine M.sta0 .here (osz OR rfl) (rRoom.oone OR) rfl .here fun h3 M => M.lda0 .here (osz OR rfl) ?_
  rw [← hl]
  exact ⟨_, BR, _, _, _, B, rfl, OR, O, M.drop⟩
end
end Go.Sx
