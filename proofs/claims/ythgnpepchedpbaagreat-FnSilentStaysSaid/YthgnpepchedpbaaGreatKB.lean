/- What functions of this seat's program compute, told in words (a predicate over heaps for each), and the proofs that the words are no more than the code's own weakest precondition. -/
import Derived.Test.YthgnpepchedpbaaGreatTab
namespace Go.Sx
open Go.Proofs
set_option linter.unusedVariables false
set_option maxRecDepth 100000

def spec_MuteBow.S (x_0 : Array Value) (Post : Value → Heap → Prop) (h : Heap) : Prop :=
    ALC x_0 T_impl_Bow (fun g1 h2 =>
    ALC ⟨Z_impl_Bow⟩ T_impl_Bow (fun g3 h4 =>
    CALL prg f_spec_l05Bow #[.pointer (some ⟨g1, 0, none⟩)] (fun q5 h6 =>
    asB q5 fun b7 =>
    BIF (!b7) (
    STA 12 h6 ⟨g3, 0, none⟩ (⟨[.slice none 0 0, .int .i64 (0 : Int), .slice none 0 0, .int .i64 (0 : Int), .int .i64 (0 : Int), .float .f32 0, .float .f32 0, .float .f32 0, .float .f32 0, .float .f32 0, .float .f32 0, .float .f32 0]⟩ : Array Value) fun h8 =>
    LDA 12 h8 ⟨g3, 0, none⟩ fun a9 =>
    Post (.tuple ⟨[.agg a9, .int .i64 (1 : Int)]⟩) h8) (
    CALL prg f_spec_l05CopyBow #[.pointer (some ⟨g1, 0, none⟩)] (fun q10 h11 =>
    asA q10 fun a12 =>
    ALC ⟨Z_impl_Bow⟩ T_impl_Bow (fun g13 h14 =>
    STA 12 h14 ⟨g13, 0, none⟩ a12 fun h15 =>
    CALL prg f_spec_l05Muted #[.pointer (some ⟨g1, 0, none⟩)] (fun q16 h17 =>
    asA q16 fun a18 =>
    STA 2 h17 ⟨g13, 0, none⟩ a18 fun h19 =>
    CALL prg f_spec_l05Muted #[.pointer (some ⟨g1, 2, none⟩)] (fun q20 h21 =>
    asA q20 fun a22 =>
    STA 2 h21 ⟨g13, 2, none⟩ a22 fun h23 =>
    STA 2 h23 ⟨g13, 8, none⟩ (⟨[.float .f32 0, .float .f32 0]⟩ : Array Value) fun h24 =>
    LDA 12 h24 ⟨g13, 0, none⟩ fun a25 =>
    STA 12 h24 ⟨g3, 0, none⟩ a25 fun h26 =>
    LDA 12 h26 ⟨g3, 0, none⟩ fun a27 =>
    Post (.tuple ⟨[.agg a27, .int .i64 (0 : Int)]⟩) h26) h19) h15) h11) h6)) h4) h2) h
noncomputable def spec_MuteBow.code : Code := (Tryz.f16.body).getD .skip
theorem spec_MuteBow.call {x_0 : Array Value} {Post : Value → Heap → Prop} {h : Heap} (H : spec_MuteBow.S x_0 Post h) : CALL prg f_spec_MuteBow #[.agg x_0] Post h :=
  fn_call tau_ok mixed (c := spec_MuteBow.code) (Λ := lookL []) Tryz.func16 (by kernel_rfl) (by kernel_rfl)
    (Rq.free (by kernel_rfl))
    (Eq.mp (by kernel_rfl) H)

def spec_l05DrawnBow.B6 (Post : Value → Heap → Prop) (N6 : (Addr × Addr × Addr × Int) → Heap → Prop) : Addr × Addr × Addr × Int → Heap → Prop
  | (s_0, t2, x_6, k_8), h =>
    BIF ((decide ((0 : Int) < k_8))) (
    CALL prg f_spec_l01Plain #[.pointer (some s_0)] (fun q34 h35 =>
    asF .f32 q34 fun r36 =>
    CALL prg f_spec_l05StepBow #[.pointer (some x_6), .float .f32 r36] (fun q37 h38 =>
    asF .f32 q37 fun r39 =>
    N6 (s_0, t2, x_6, ((IntKind.i64.wrap (k_8 - (1 : Int))))) h38) h35) h) (
    LDA 12 h x_6 fun a40 =>
    STA 12 h t2 a40 fun h41 =>
    LDA 12 h41 t2 fun a42 =>
    Post (.agg a42) h41)
def spec_l05DrawnBow.g6 (fr : Frame) : Addr × Addr × Addr × Int := ((gP (lget fr 0)), (gP (lget fr 2)), (gP (lget fr 6)), (gI (lget fr 8)))
def spec_l05DrawnBow.l6 (Post : Value → Heap → Prop) : Frame → Heap → Prop := fun fr h => GRD (shape (kds 45 [(0, .p), (2, .p), (6, .p), (8, .i .i64)]) fr) (LOOP (spec_l05DrawnBow.B6 Post) (spec_l05DrawnBow.g6 fr) h)
def spec_l05DrawnBow.S (s_0 : Addr) (Post : Value → Heap → Prop) (h : Heap) : Prop :=
    ALC ⟨Z_impl_Bow⟩ T_impl_Bow (fun g1 h2 =>
    CALL prg f_p_spec_l00Src_pick #[.pointer (some s_0), .int .i64 (9 : Int)] (fun q3 h4 =>
    asI .i64 q3 fun n5 =>
    FOP .f32 (FloatKind.f32.format.div (FloatKind.f32.nearest n5) 1090519040) fun r6 =>
    CALL prg f_p_spec_l00Src_pick #[.pointer (some s_0), .int .i64 (8 : Int)] (fun q7 h8 =>
    asI .i64 q7 fun n9 =>
    FOP .f32 (FloatKind.f32.format.div (FloatKind.f32.nearest n9) 1090519040) fun r10 =>
    CALL prg f_p_spec_l00Src_pick #[.pointer (some s_0), .int .i64 (17 : Int)] (fun q11 h12 =>
    asI .i64 q11 fun n13 =>
    FOP .f32 (FloatKind.f32.format.div (FloatKind.f32.nearest n13) 1098907648) fun r14 =>
    CALL prg f_p_spec_l00Src_pick #[.pointer (some s_0), .int .i64 (8 : Int)] (fun q15 h16 =>
    asI .i64 q15 fun n17 =>
    CALL prg f_p_spec_l00Src_pick #[.pointer (some s_0), .int .i64 (33 : Int)] (fun q18 h19 =>
    asI .i64 q18 fun n20 =>
    FOP .f32 (FloatKind.f32.format.div (FloatKind.f32.nearest n20) 1090519040) fun r21 =>
    CALL prg f_spec_NewBow #[.int .i64 ((IntKind.i64.wrap ((2 : Int) + n17))), .float .f32 r6, .float .f32 r10, .float .f32 r14, .float .f32 r21] (fun q22 h23 =>
    TUP2 q22 fun q24 q25 =>
    asA q24 fun a26 =>
    asI .i64 q25 fun n27 =>
    ALC ⟨Z_impl_Bow⟩ T_impl_Bow (fun g28 h29 =>
    STA 12 h29 ⟨g28, 0, none⟩ a26 fun h30 =>
    CALL prg f_p_spec_l00Src_pick #[.pointer (some s_0), .int .i64 (12 : Int)] (fun q31 h32 =>
    asI .i64 q31 fun n33 =>
    LOOP (spec_l05DrawnBow.B6 Post) (s_0, ⟨g1, 0, none⟩, ⟨g28, 0, none⟩, n33) h32) h30) h23) h19) h16) h12) h8) h4) h2) h
noncomputable def spec_l05DrawnBow.code : Code := (Tryz.f56.body).getD .skip
theorem spec_l05DrawnBow.call {s_0 : Addr} {Post : Value → Heap → Prop} {h : Heap} (H : spec_l05DrawnBow.S s_0 Post h) : CALL prg f_spec_l05DrawnBow #[.pointer (some s_0)] Post h :=
  fn_call tau_ok mixed (c := spec_l05DrawnBow.code) (Λ := lookL [(1000006, spec_l05DrawnBow.l6 Post)]) Tryz.func56 (by kernel_rfl) (by kernel_rfl)
    (Rq.seq (by kernel_rfl) (Rq.free (by kernel_rfl)) (Rq.seq (by kernel_rfl) (Rq.free (by kernel_rfl)) (Rq.seq (by kernel_rfl) (Rq.free (by kernel_rfl)) (Rq.seq (by kernel_rfl) (Rq.free (by kernel_rfl)) (Rq.seq (by kernel_rfl) (Rq.free (by kernel_rfl)) (Rq.seq (by kernel_rfl) (Rq.seq (by kernel_rfl) (Rq.free (by kernel_rfl)) (Rq.block (Rq.loop (spec_l05DrawnBow.l6 Post) (by kernel_rfl) (segL (g := spec_l05DrawnBow.g6) tau_ok mixed (Λ := fun N6 => lookL []) (fun _ _ _ => by kernel_rfl) (fun N6 => (Rq.free (by kernel_rfl))))))) (Rq.free (by kernel_rfl))))))))
    (Eq.mp (by kernel_rfl) H)

def spec_P6Bow.S (code_0b : Option Addr) (code_0l code_0c : Nat) (Post : Value → Heap → Prop) (h : Heap) : Prop :=
    ALC ⟨Z_impl_Bow⟩ T_impl_Bow (fun g1 h2 =>
    CALL prg f_spec_l00From #[.slice code_0b code_0l code_0c] (fun q3 h4 =>
    asP q3 fun p5 =>
    CALL prg f_spec_l05DrawnBow #[.pointer (some p5)] (fun q6 h7 =>
    asA q6 fun a8 =>
    STA 12 h7 ⟨g1, 0, none⟩ a8 fun h9 =>
    LDA 12 h9 ⟨g1, 0, none⟩ fun a10 =>
    Post (.agg a10) h9) h4) h2) h
noncomputable def spec_P6Bow.code : Code := (Tryz.f17.body).getD .skip
theorem spec_P6Bow.call {code_0b : Option Addr} {code_0l code_0c : Nat} {Post : Value → Heap → Prop} {h : Heap} (H : spec_P6Bow.S code_0b code_0l code_0c Post h) : CALL prg f_spec_P6Bow #[.slice code_0b code_0l code_0c] Post h :=
  fn_call tau_ok mixed (c := spec_P6Bow.code) (Λ := lookL []) Tryz.func17 (by kernel_rfl) (by kernel_rfl)
    (Rq.free (by kernel_rfl))
    (Eq.mp (by kernel_rfl) H)

def impl_PlayBow.B8 (Post : Value → Heap → Prop) (N8 : (Addr × Addr × Option Addr × Nat × Nat × Option Addr × Nat × Nat × Int × Int) → Heap → Prop) : Addr × Addr × Option Addr × Nat × Nat × Option Addr × Nat × Nat × Int × Int → Heap → Prop
  | (x_2, t4, out_7b, out_7l, out_7c, t22b, t22l, t22c, t23, t24), h =>
    BIF (decide (t24 < t23)) (
    IDXS t22b t24 t22l fun p22 =>
    oF .f32 (cell h ((Addr.add p22 ((Int.toNat t24) * 1)))) fun r23 =>
    CALL prg f_p_impl_Bow_step #[.pointer (some x_2), .float .f32 r23] (fun q24 h25 =>
    asF .f32 q24 fun r26 =>
    ALC ⟨[.float .f32 r26]⟩ T_float32 (fun g27 h28 =>
    SEMV prg (Builtin.append_ #[T_sl_float32, T_sl_float32] T_sl_float32 #[.slice out_7b out_7l out_7c, .slice (some ⟨g27, 0, none⟩) 1 1]) (fun q29 h30 =>
    asL q29 fun l31b l31l l31c =>
    N8 (x_2, t4, l31b, l31l, l31c, t22b, t22l, t22c, t23, ((IntKind.i64.wrap (t24 + (1 : Int))))) h30) h28) h25) h) (
    LDA 12 h x_2 fun a32 =>
    STA 12 h t4 a32 fun h33 =>
    LDA 12 h33 t4 fun a34 =>
    Post (.tuple ⟨[.agg a34, .slice out_7b out_7l out_7c, .int .i64 (0 : Int)]⟩) h33)
def impl_PlayBow.g8 (fr : Frame) : Addr × Addr × Option Addr × Nat × Nat × Option Addr × Nat × Nat × Int × Int := ((gP (lget fr 2)), (gP (lget fr 4)), (gLb (lget fr 7)), (gLl (lget fr 7)), (gLc (lget fr 7)), (gLb (lget fr 22)), (gLl (lget fr 22)), (gLc (lget fr 22)), (gI (lget fr 23)), (gI (lget fr 24)))
def impl_PlayBow.l8 (Post : Value → Heap → Prop) : Frame → Heap → Prop := fun fr h => GRD (shape (kds 36 [(2, .p), (4, .p), (7, .l), (22, .l), (23, .i .i64), (24, .i .i64)]) fr) (LOOP (impl_PlayBow.B8 Post) (impl_PlayBow.g8 fr) h)
def impl_PlayBow.S (x_0 : Array Value) (speeds_1b : Option Addr) (speeds_1l speeds_1c : Nat) (Post : Value → Heap → Prop) (h : Heap) : Prop :=
    ALC x_0 T_impl_Bow (fun g1 h2 =>
    ALC ⟨Z_impl_Bow⟩ T_impl_Bow (fun g3 h4 =>
    LDA 12 h4 ⟨g1, 0, none⟩ fun a5 =>
    CALL prg f_impl_ValidBow #[.agg a5] (fun q6 h7 =>
    asB q6 fun b8 =>
    BIF (!b8) (
    STA 12 h7 ⟨g3, 0, none⟩ (⟨[.slice none 0 0, .int .i64 (0 : Int), .slice none 0 0, .int .i64 (0 : Int), .int .i64 (0 : Int), .float .f32 0, .float .f32 0, .float .f32 0, .float .f32 0, .float .f32 0, .float .f32 0, .float .f32 0]⟩ : Array Value) fun h9 =>
    LDA 12 h9 ⟨g3, 0, none⟩ fun a10 =>
    Post (.tuple ⟨[.agg a10, .slice none 0 0, .int .i64 (1 : Int)]⟩) h9) (
    BIF ((decide ((4096 : Int) < (speeds_1l : Int)))) (
    STA 12 h7 ⟨g3, 0, none⟩ (⟨[.slice none 0 0, .int .i64 (0 : Int), .slice none 0 0, .int .i64 (0 : Int), .int .i64 (0 : Int), .float .f32 0, .float .f32 0, .float .f32 0, .float .f32 0, .float .f32 0, .float .f32 0, .float .f32 0]⟩ : Array Value) fun h13 =>
    LDA 12 h13 ⟨g3, 0, none⟩ fun a14 =>
    Post (.tuple ⟨[.agg a14, .slice none 0 0, .int .i64 (3 : Int)]⟩) h13) (
    LDA 12 h7 ⟨g1, 0, none⟩ fun a15 =>
    CALL prg f_impl_Bow_clone #[.agg a15] (fun q16 h17 =>
    asA q16 fun a18 =>
    STA 12 h17 ⟨g1, 0, none⟩ a18 fun h19 =>
    LOOP (impl_PlayBow.B8 Post) (⟨g1, 0, none⟩, ⟨g3, 0, none⟩, none, 0, 0, speeds_1b, speeds_1l, speeds_1c, (speeds_1l : Int), (0 : Int)) h19) h7))) h4) h2) h
noncomputable def impl_PlayBow.code : Code := (Tryz.f21.body).getD .skip
theorem impl_PlayBow.call {x_0 : Array Value} {speeds_1b : Option Addr} {speeds_1l speeds_1c : Nat} {Post : Value → Heap → Prop} {h : Heap} (H : impl_PlayBow.S x_0 speeds_1b speeds_1l speeds_1c Post h) : CALL prg f_impl_PlayBow #[.agg x_0, .slice speeds_1b speeds_1l speeds_1c] Post h :=
  fn_call tau_ok mixed (c := impl_PlayBow.code) (Λ := lookL [(1000008, impl_PlayBow.l8 Post)]) Tryz.func21 (by kernel_rfl) (by kernel_rfl)
    (Rq.seq (by kernel_rfl) (Rq.free (by kernel_rfl)) (Rq.seq (by kernel_rfl) (Rq.free (by kernel_rfl)) (Rq.seq (by kernel_rfl) (Rq.free (by kernel_rfl)) (Rq.seq (by kernel_rfl) (Rq.free (by kernel_rfl)) (Rq.seq (by kernel_rfl) (Rq.seq (by kernel_rfl) (Rq.free (by kernel_rfl)) (Rq.block (Rq.loop (impl_PlayBow.l8 Post) (by kernel_rfl) (segL (g := impl_PlayBow.g8) tau_ok mixed (Λ := fun N8 => lookL []) (fun _ _ _ => by kernel_rfl) (fun N8 => (Rq.free (by kernel_rfl))))))) (Rq.free (by kernel_rfl)))))))
    (Eq.mp (by kernel_rfl) H)

def impl_IsSilentBow.S (x_0 : Array Value) (Post : Value → Heap → Prop) (h : Heap) : Prop :=
    ALC x_0 T_impl_Bow (fun g1 h2 =>
    LDA 12 h2 ⟨g1, 0, none⟩ fun a3 =>
    CALL prg f_impl_ValidBow #[.agg a3] (fun q4 h5 =>
    asB q4 fun b6 =>
    BIF (!b6) (
    Post (.tuple ⟨[.bool false, .int .i64 (1 : Int)]⟩) h5) (
    LDA 2 h5 ⟨g1, 0, none⟩ fun a7 =>
    CALL prg f_impl_Ring_isQuiet #[.agg a7] (fun q8 h9 =>
    asB q8 fun b10 =>
    BIF b10 (
    LDA 2 h9 ⟨g1, 2, none⟩ fun a11 =>
    CALL prg f_impl_Ring_isQuiet #[.agg a11] (fun q12 h13 =>
    asB q12 fun b14 =>
    BIF b14 (
    LDA 6 h13 ⟨g1, 4, none⟩ fun a15 =>
    CALL prg f_impl_Filter_isStill #[.agg a15] (fun q16 h17 =>
    asB q16 fun b18 =>
    Post (.tuple ⟨[.bool b18, .int .i64 (0 : Int)]⟩) h17) h13) (
    Post (.tuple ⟨[.bool false, .int .i64 (0 : Int)]⟩) h13)) h9) (
    Post (.tuple ⟨[.bool false, .int .i64 (0 : Int)]⟩) h9)) h5)) h2) h
noncomputable def impl_IsSilentBow.code : Code := (Tryz.f23.body).getD .skip
theorem impl_IsSilentBow.call {x_0 : Array Value} {Post : Value → Heap → Prop} {h : Heap} (H : impl_IsSilentBow.S x_0 Post h) : CALL prg f_impl_IsSilentBow #[.agg x_0] Post h :=
  fn_call tau_ok mixed (c := impl_IsSilentBow.code) (Λ := lookL []) Tryz.func23 (by kernel_rfl) (by kernel_rfl)
    (Rq.free (by kernel_rfl))
    (Eq.mp (by kernel_rfl) H)

def impl_PullBow.B7 (Post : Value → Heap → Prop) (N7 : (Nat × Addr × Addr × Option Addr × Nat × Nat × Int × Int) → Heap → Prop) : Nat × Addr × Addr × Option Addr × Nat × Nat × Int × Int → Heap → Prop
  | (force_1, x_2, t4, t22b, t22l, t22c, t23, t24), h =>
    BIF (decide (t24 < t23)) (
    IDXS t22b t24 t22l fun p24 =>
    oF .f32 (cell h ((Addr.add p24 ((Int.toNat t24) * 1)))) fun r25 =>
    oL (cell h (Addr.add x_2 2)) fun l26b l26l l26c =>
    FOP .f32 (FloatKind.f32.format.add r25 force_1) fun r27 =>
    PIN h (Addr.add x_2 2) 1 h <|
    CALL prg f_impl_kept #[.float .f32 r27] (fun q28 h29 =>
    asF .f32 q28 fun r30 =>
    PIN h (Addr.add x_2 2) 1 h29 <|
    IDXS l26b t24 l26l fun p31 =>
    ST1 h29 ((Addr.add p31 ((Int.toNat t24) * 1))) (.float .f32 r30) fun h32 =>
    N7 (force_1, x_2, t4, t22b, t22l, t22c, t23, ((IntKind.i64.wrap (t24 + (1 : Int))))) h32) h) (
    LDA 12 h x_2 fun a33 =>
    STA 12 h t4 a33 fun h34 =>
    LDA 12 h34 t4 fun a35 =>
    Post (.tuple ⟨[.agg a35, .int .i64 (0 : Int)]⟩) h34)
def impl_PullBow.g7 (fr : Frame) : Nat × Addr × Addr × Option Addr × Nat × Nat × Int × Int := ((gF (lget fr 1)), (gP (lget fr 2)), (gP (lget fr 4)), (gLb (lget fr 22)), (gLl (lget fr 22)), (gLc (lget fr 22)), (gI (lget fr 23)), (gI (lget fr 24)))
def impl_PullBow.l7 (Post : Value → Heap → Prop) : Frame → Heap → Prop := fun fr h => GRD (shape (kds 40 [(1, .f .f32), (2, .p), (4, .p), (22, .l), (23, .i .i64), (24, .i .i64)]) fr) (LOOP (impl_PullBow.B7 Post) (impl_PullBow.g7 fr) h)
def impl_PullBow.S (x_0 : Array Value) (force_1 : Nat) (Post : Value → Heap → Prop) (h : Heap) : Prop :=
    ALC x_0 T_impl_Bow (fun g1 h2 =>
    ALC ⟨Z_impl_Bow⟩ T_impl_Bow (fun g3 h4 =>
    LDA 12 h4 ⟨g1, 0, none⟩ fun a5 =>
    CALL prg f_impl_ValidBow #[.agg a5] (fun q6 h7 =>
    asB q6 fun b8 =>
    BIF (!b8) (
    STA 12 h7 ⟨g3, 0, none⟩ (⟨[.slice none 0 0, .int .i64 (0 : Int), .slice none 0 0, .int .i64 (0 : Int), .int .i64 (0 : Int), .float .f32 0, .float .f32 0, .float .f32 0, .float .f32 0, .float .f32 0, .float .f32 0, .float .f32 0]⟩ : Array Value) fun h9 =>
    LDA 12 h9 ⟨g3, 0, none⟩ fun a10 =>
    Post (.tuple ⟨[.agg a10, .int .i64 (1 : Int)]⟩) h9) (
    CALL prg f_impl_isFinite #[.float .f32 force_1] (fun q11 h12 =>
    asB q11 fun b13 =>
    BIF (!b13) (
    STA 12 h12 ⟨g3, 0, none⟩ (⟨[.slice none 0 0, .int .i64 (0 : Int), .slice none 0 0, .int .i64 (0 : Int), .int .i64 (0 : Int), .float .f32 0, .float .f32 0, .float .f32 0, .float .f32 0, .float .f32 0, .float .f32 0, .float .f32 0]⟩ : Array Value) fun h14 =>
    LDA 12 h14 ⟨g3, 0, none⟩ fun a15 =>
    Post (.tuple ⟨[.agg a15, .int .i64 (2 : Int)]⟩) h14) (
    LDA 12 h12 ⟨g1, 0, none⟩ fun a16 =>
    CALL prg f_impl_Bow_clone #[.agg a16] (fun q17 h18 =>
    asA q17 fun a19 =>
    STA 12 h18 ⟨g1, 0, none⟩ a19 fun h20 =>
    oL (cell h20 ⟨g1, 2, none⟩) fun l21b l21l l21c =>
    LOOP (impl_PullBow.B7 Post) (force_1, ⟨g1, 0, none⟩, ⟨g3, 0, none⟩, l21b, l21l, l21c, (l21l : Int), (0 : Int)) h20) h12)) h7)) h4) h2) h
noncomputable def impl_PullBow.code : Code := (Tryz.f25.body).getD .skip
theorem impl_PullBow.call {x_0 : Array Value} {force_1 : Nat} {Post : Value → Heap → Prop} {h : Heap} (H : impl_PullBow.S x_0 force_1 Post h) : CALL prg f_impl_PullBow #[.agg x_0, .float .f32 force_1] Post h :=
  fn_call tau_ok mixed (c := impl_PullBow.code) (Λ := lookL [(1000007, impl_PullBow.l7 Post)]) Tryz.func25 (by kernel_rfl) (by kernel_rfl)
    (Rq.seq (by kernel_rfl) (Rq.free (by kernel_rfl)) (Rq.seq (by kernel_rfl) (Rq.free (by kernel_rfl)) (Rq.seq (by kernel_rfl) (Rq.free (by kernel_rfl)) (Rq.seq (by kernel_rfl) (Rq.seq (by kernel_rfl) (Rq.free (by kernel_rfl)) (Rq.block (Rq.loop (impl_PullBow.l7 Post) (by kernel_rfl) (segL (g := impl_PullBow.g7) tau_ok mixed (Λ := fun N7 => lookL []) (fun _ _ _ => by kernel_rfl) (fun N7 => (Rq.free (by kernel_rfl))))))) (Rq.free (by kernel_rfl))))))
    (Eq.mp (by kernel_rfl) H)

def impl_StepBow.S (x_0 : Array Value) (speed_1 : Nat) (Post : Value → Heap → Prop) (h : Heap) : Prop :=
    ALC x_0 T_impl_Bow (fun g1 h2 =>
    ALC ⟨Z_impl_Bow⟩ T_impl_Bow (fun g3 h4 =>
    LDA 12 h4 ⟨g1, 0, none⟩ fun a5 =>
    CALL prg f_impl_ValidBow #[.agg a5] (fun q6 h7 =>
    asB q6 fun b8 =>
    BIF (!b8) (
    STA 12 h7 ⟨g3, 0, none⟩ (⟨[.slice none 0 0, .int .i64 (0 : Int), .slice none 0 0, .int .i64 (0 : Int), .int .i64 (0 : Int), .float .f32 0, .float .f32 0, .float .f32 0, .float .f32 0, .float .f32 0, .float .f32 0, .float .f32 0]⟩ : Array Value) fun h9 =>
    LDA 12 h9 ⟨g3, 0, none⟩ fun a10 =>
    Post (.tuple ⟨[.agg a10, .float .f32 0, .int .i64 (1 : Int)]⟩) h9) (
    LDA 12 h7 ⟨g1, 0, none⟩ fun a11 =>
    CALL prg f_impl_Bow_clone #[.agg a11] (fun q12 h13 =>
    asA q12 fun a14 =>
    STA 12 h13 ⟨g1, 0, none⟩ a14 fun h15 =>
    CALL prg f_p_impl_Bow_step #[.pointer (some ⟨g1, 0, none⟩), .float .f32 speed_1] (fun q16 h17 =>
    asF .f32 q16 fun r18 =>
    LDA 12 h17 ⟨g1, 0, none⟩ fun a19 =>
    STA 12 h17 ⟨g3, 0, none⟩ a19 fun h20 =>
    LDA 12 h20 ⟨g3, 0, none⟩ fun a21 =>
    Post (.tuple ⟨[.agg a21, .float .f32 r18, .int .i64 (0 : Int)]⟩) h20) h15) h7)) h4) h2) h
noncomputable def impl_StepBow.code : Code := (Tryz.f26.body).getD .skip
theorem impl_StepBow.call {x_0 : Array Value} {speed_1 : Nat} {Post : Value → Heap → Prop} {h : Heap} (H : impl_StepBow.S x_0 speed_1 Post h) : CALL prg f_impl_StepBow #[.agg x_0, .float .f32 speed_1] Post h :=
  fn_call tau_ok mixed (c := impl_StepBow.code) (Λ := lookL []) Tryz.func26 (by kernel_rfl) (by kernel_rfl)
    (Rq.free (by kernel_rfl))
    (Eq.mp (by kernel_rfl) H)

end Go.Sx
