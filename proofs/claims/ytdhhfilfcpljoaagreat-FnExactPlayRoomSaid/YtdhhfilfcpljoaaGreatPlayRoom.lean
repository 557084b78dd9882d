/- What functions of this seat's program compute, told in words (a predicate over heaps for each), and the proofs that the words are no more than the code's own weakest precondition. -/
import Derived.Test.YtdhhfilfcpljoaaGreatTab
namespace Go.Sx
open Go.Proofs
set_option linter.unusedVariables false
set_option maxRecDepth 100000

/-! #### loop.example/g01173/spec.PlayRoom (function 28) -/
def spec_PlayRoom.B8 (Post : Value → Heap → Prop) (N8 : (Option Addr × Nat × Nat × Addr × Addr × Option Addr × Nat × Nat × Int) → Heap → Prop) : Option Addr × Nat × Nat × Addr × Addr × Option Addr × Nat × Nat × Int → Heap → Prop
  | (in_1b, in_1l, in_1c, t4, y_7, out_8b, out_8l, out_8c, i_9), h =>
    BIF ((decide (i_9 < (in_1l : Int)))) (
    IDXS in_1b i_9 in_1l fun p28 =>
    oF .f32 (cell h ((Addr.add p28 ((Int.toNat i_9) * 1)))) fun r29 =>
    CALL prg f_spec_l06Step #[.pointer (some y_7), .float .f32 r29] (fun q30 h31 =>
    asF .f32 q30 fun r32 =>
    ALC ⟨[.float .f32 r32]⟩ T_float32 (fun g33 h34 =>
    SEMV prg (Builtin.append_ #[T_sl_float32, T_sl_float32] T_sl_float32 #[.slice out_8b out_8l out_8c, .slice (some ⟨g33, 0, none⟩) 1 1]) (fun q35 h36 =>
    asL q35 fun l37b l37l l37c =>
    N8 (in_1b, in_1l, in_1c, t4, y_7, l37b, l37l, l37c, ((IntKind.i64.wrap (i_9 + (1 : Int))))) h36) h34) h31) h) (
    LDA 47 h y_7 fun a38 =>
    STA 47 h t4 a38 fun h39 =>
    LDA 47 h39 t4 fun a40 =>
    Post (.tuple ⟨[.agg a40, .slice out_8b out_8l out_8c, .int .i64 (0 : Int)]⟩) h39)
def spec_PlayRoom.g8 (fr : Frame) : Option Addr × Nat × Nat × Addr × Addr × Option Addr × Nat × Nat × Int := ((gLb (lget fr 1)), (gLl (lget fr 1)), (gLc (lget fr 1)), (gP (lget fr 4)), (gP (lget fr 7)), (gLb (lget fr 8)), (gLl (lget fr 8)), (gLc (lget fr 8)), (gI (lget fr 9)))
def spec_PlayRoom.l8 (Post : Value → Heap → Prop) : Frame → Heap → Prop := fun fr h => GRD (shape (kds 37 [(1, .l), (4, .p), (7, .p), (8, .l), (9, .i .i64)]) fr) (LOOP (spec_PlayRoom.B8 Post) (spec_PlayRoom.g8 fr) h)
def spec_PlayRoom.S (x_0 : Array Value) (in_1b : Option Addr) (in_1l in_1c : Nat) (Post : Value → Heap → Prop) (h : Heap) : Prop :=
    ALC x_0 T_impl_Room (fun g1 h2 =>
    ALC ⟨Z_impl_Room⟩ T_impl_Room (fun g3 h4 =>
    CALL prg f_spec_l06Ok #[.pointer (some ⟨g1, 0, none⟩)] (fun q5 h6 =>
    asB q5 fun b7 =>
    BIF (!b7) (
    ALC ⟨[]⟩ T_float32 (fun g8 h9 =>
    STA 47 h9 ⟨g3, 0, none⟩ (⟨[.slice none 0 0, .int .i64 (0 : Int), .slice none 0 0, .slice none 0 0, .int .i64 (0 : Int), .float .f32 0, .slice none 0 0, .int .i64 (0 : Int), .float .f32 0, .slice none 0 0, .int .i64 (0 : Int), .slice none 0 0, .int .i64 (0 : Int), .slice none 0 0, .int .i64 (0 : Int), .slice none 0 0, .int .i64 (0 : Int), .int .i64 (0 : Int), .float .f32 0, .float .f32 0, .float .f32 0, .float .f32 0, .float .f32 0, .int .i64 (0 : Int), .float .f32 0, .float .f32 0, .float .f32 0, .float .f32 0, .float .f32 0, .int .i64 (0 : Int), .float .f32 0, .float .f32 0, .float .f32 0, .float .f32 0, .float .f32 0, .int .i64 (0 : Int), .float .f32 0, .float .f32 0, .float .f32 0, .float .f32 0, .float .f32 0, .float .f32 0, .float .f32 0, .float .f32 0, .float .f32 0, .float .f32 0, .float .f32 0]⟩ : Array Value) fun h10 =>
    LDA 47 h10 ⟨g3, 0, none⟩ fun a11 =>
    Post (.tuple ⟨[.agg a11, .slice (some ⟨g8, 0, none⟩) 0 0, .int .i64 (1 : Int)]⟩) h10) h6) (
    BIF ((decide ((4096 : Int) < (in_1l : Int)))) (
    ALC ⟨[]⟩ T_float32 (fun g14 h15 =>
    STA 47 h15 ⟨g3, 0, none⟩ (⟨[.slice none 0 0, .int .i64 (0 : Int), .slice none 0 0, .slice none 0 0, .int .i64 (0 : Int), .float .f32 0, .slice none 0 0, .int .i64 (0 : Int), .float .f32 0, .slice none 0 0, .int .i64 (0 : Int), .slice none 0 0, .int .i64 (0 : Int), .slice none 0 0, .int .i64 (0 : Int), .slice none 0 0, .int .i64 (0 : Int), .int .i64 (0 : Int), .float .f32 0, .float .f32 0, .float .f32 0, .float .f32 0, .float .f32 0, .int .i64 (0 : Int), .float .f32 0, .float .f32 0, .float .f32 0, .float .f32 0, .float .f32 0, .int .i64 (0 : Int), .float .f32 0, .float .f32 0, .float .f32 0, .float .f32 0, .float .f32 0, .int .i64 (0 : Int), .float .f32 0, .float .f32 0, .float .f32 0, .float .f32 0, .float .f32 0, .float .f32 0, .float .f32 0, .float .f32 0, .float .f32 0, .float .f32 0, .float .f32 0]⟩ : Array Value) fun h16 =>
    LDA 47 h16 ⟨g3, 0, none⟩ fun a17 =>
    Post (.tuple ⟨[.agg a17, .slice (some ⟨g14, 0, none⟩) 0 0, .int .i64 (3 : Int)]⟩) h16) h6) (
    CALL prg f_spec_l06Copy #[.pointer (some ⟨g1, 0, none⟩)] (fun q18 h19 =>
    asA q18 fun a20 =>
    ALC ⟨Z_impl_Room⟩ T_impl_Room (fun g21 h22 =>
    STA 47 h22 ⟨g21, 0, none⟩ a20 fun h23 =>
    ALC ⟨[]⟩ T_float32 (fun g24 h25 =>
    LOOP (spec_PlayRoom.B8 Post) (in_1b, in_1l, in_1c, ⟨g3, 0, none⟩, ⟨g21, 0, none⟩, (some ⟨g24, 0, none⟩), 0, 0, (0 : Int)) h25) h23) h19) h6))) h4) h2) h
noncomputable def spec_PlayRoom.code : Code := (Tryz.f28.body).getD .skip
theorem spec_PlayRoom.call {x_0 : Array Value} {in_1b : Option Addr} {in_1l in_1c : Nat} {Post : Value → Heap → Prop} {h : Heap} (H : spec_PlayRoom.S x_0 in_1b in_1l in_1c Post h) : CALL prg f_spec_PlayRoom #[.agg x_0, .slice in_1b in_1l in_1c] Post h :=
  fn_call tau_ok mixed (c := spec_PlayRoom.code) (Λ := lookL [(1000008, spec_PlayRoom.l8 Post)]) Tryz.func28 (by kernel_rfl) (by kernel_rfl)
    (Rq.seq (by kernel_rfl) (Rq.free (by kernel_rfl)) (Rq.seq (by kernel_rfl) (Rq.free (by kernel_rfl)) (Rq.seq (by kernel_rfl) (Rq.free (by kernel_rfl)) (Rq.seq (by kernel_rfl) (Rq.free (by kernel_rfl)) (Rq.seq (by kernel_rfl) (Rq.free (by kernel_rfl)) (Rq.seq (by kernel_rfl) (Rq.seq (by kernel_rfl) (Rq.free (by kernel_rfl)) (Rq.block (Rq.loop (spec_PlayRoom.l8 Post) (by kernel_rfl) (segL (g := spec_PlayRoom.g8) tau_ok mixed (Λ := fun N8 => lookL []) (fun _ _ _ => by kernel_rfl) (fun N8 => (Rq.free (by kernel_rfl))))))) (Rq.free (by kernel_rfl))))))))
    (Eq.mp (by kernel_rfl) H)

/-! #### loop.example/g01173/impl.PlayRoom (function 14) -/
def impl_PlayRoom.B8 (Post : Value → Heap → Prop) (N8 : (Addr × Addr × Option Addr × Nat × Nat × Option Addr × Nat × Nat × Int × Int) → Heap → Prop) : Addr × Addr × Option Addr × Nat × Nat × Option Addr × Nat × Nat × Int × Int → Heap → Prop
  | (x_2, t4, out_7b, out_7l, out_7c, t22b, t22l, t22c, t23, t24), h =>
    BIF (decide (t24 < t23)) (
    IDXS t22b t24 t22l fun p22 =>
    oF .f32 (cell h ((Addr.add p22 ((Int.toNat t24) * 1)))) fun r23 =>
    CALL prg f_p_impl_Room_step #[.pointer (some x_2), .float .f32 r23] (fun q24 h25 =>
    asF .f32 q24 fun r26 =>
    ALC ⟨[.float .f32 r26]⟩ T_float32 (fun g27 h28 =>
    SEMV prg (Builtin.append_ #[T_sl_float32, T_sl_float32] T_sl_float32 #[.slice out_7b out_7l out_7c, .slice (some ⟨g27, 0, none⟩) 1 1]) (fun q29 h30 =>
    asL q29 fun l31b l31l l31c =>
    N8 (x_2, t4, l31b, l31l, l31c, t22b, t22l, t22c, t23, ((IntKind.i64.wrap (t24 + (1 : Int))))) h30) h28) h25) h) (
    LDA 47 h x_2 fun a32 =>
    STA 47 h t4 a32 fun h33 =>
    LDA 47 h33 t4 fun a34 =>
    Post (.tuple ⟨[.agg a34, .slice out_7b out_7l out_7c, .int .i64 (0 : Int)]⟩) h33)
def impl_PlayRoom.g8 (fr : Frame) : Addr × Addr × Option Addr × Nat × Nat × Option Addr × Nat × Nat × Int × Int := ((gP (lget fr 2)), (gP (lget fr 4)), (gLb (lget fr 7)), (gLl (lget fr 7)), (gLc (lget fr 7)), (gLb (lget fr 22)), (gLl (lget fr 22)), (gLc (lget fr 22)), (gI (lget fr 23)), (gI (lget fr 24)))
def impl_PlayRoom.l8 (Post : Value → Heap → Prop) : Frame → Heap → Prop := fun fr h => GRD (shape (kds 36 [(2, .p), (4, .p), (7, .l), (22, .l), (23, .i .i64), (24, .i .i64)]) fr) (LOOP (impl_PlayRoom.B8 Post) (impl_PlayRoom.g8 fr) h)
def impl_PlayRoom.S (x_0 : Array Value) (in_1b : Option Addr) (in_1l in_1c : Nat) (Post : Value → Heap → Prop) (h : Heap) : Prop :=
    ALC x_0 T_impl_Room (fun g1 h2 =>
    ALC ⟨Z_impl_Room⟩ T_impl_Room (fun g3 h4 =>
    LDA 47 h4 ⟨g1, 0, none⟩ fun a5 =>
    CALL prg f_impl_ValidRoom #[.agg a5] (fun q6 h7 =>
    asB q6 fun b8 =>
    BIF (!b8) (
    STA 47 h7 ⟨g3, 0, none⟩ (⟨[.slice none 0 0, .int .i64 (0 : Int), .slice none 0 0, .slice none 0 0, .int .i64 (0 : Int), .float .f32 0, .slice none 0 0, .int .i64 (0 : Int), .float .f32 0, .slice none 0 0, .int .i64 (0 : Int), .slice none 0 0, .int .i64 (0 : Int), .slice none 0 0, .int .i64 (0 : Int), .slice none 0 0, .int .i64 (0 : Int), .int .i64 (0 : Int), .float .f32 0, .float .f32 0, .float .f32 0, .float .f32 0, .float .f32 0, .int .i64 (0 : Int), .float .f32 0, .float .f32 0, .float .f32 0, .float .f32 0, .float .f32 0, .int .i64 (0 : Int), .float .f32 0, .float .f32 0, .float .f32 0, .float .f32 0, .float .f32 0, .int .i64 (0 : Int), .float .f32 0, .float .f32 0, .float .f32 0, .float .f32 0, .float .f32 0, .float .f32 0, .float .f32 0, .float .f32 0, .float .f32 0, .float .f32 0, .float .f32 0]⟩ : Array Value) fun h9 =>
    LDA 47 h9 ⟨g3, 0, none⟩ fun a10 =>
    Post (.tuple ⟨[.agg a10, .slice none 0 0, .int .i64 (1 : Int)]⟩) h9) (
    BIF ((decide ((4096 : Int) < (in_1l : Int)))) (
    STA 47 h7 ⟨g3, 0, none⟩ (⟨[.slice none 0 0, .int .i64 (0 : Int), .slice none 0 0, .slice none 0 0, .int .i64 (0 : Int), .float .f32 0, .slice none 0 0, .int .i64 (0 : Int), .float .f32 0, .slice none 0 0, .int .i64 (0 : Int), .slice none 0 0, .int .i64 (0 : Int), .slice none 0 0, .int .i64 (0 : Int), .slice none 0 0, .int .i64 (0 : Int), .int .i64 (0 : Int), .float .f32 0, .float .f32 0, .float .f32 0, .float .f32 0, .float .f32 0, .int .i64 (0 : Int), .float .f32 0, .float .f32 0, .float .f32 0, .float .f32 0, .float .f32 0, .int .i64 (0 : Int), .float .f32 0, .float .f32 0, .float .f32 0, .float .f32 0, .float .f32 0, .int .i64 (0 : Int), .float .f32 0, .float .f32 0, .float .f32 0, .float .f32 0, .float .f32 0, .float .f32 0, .float .f32 0, .float .f32 0, .float .f32 0, .float .f32 0, .float .f32 0]⟩ : Array Value) fun h13 =>
    LDA 47 h13 ⟨g3, 0, none⟩ fun a14 =>
    Post (.tuple ⟨[.agg a14, .slice none 0 0, .int .i64 (3 : Int)]⟩) h13) (
    LDA 47 h7 ⟨g1, 0, none⟩ fun a15 =>
    CALL prg f_impl_Room_clone #[.agg a15] (fun q16 h17 =>
    asA q16 fun a18 =>
    STA 47 h17 ⟨g1, 0, none⟩ a18 fun h19 =>
    LOOP (impl_PlayRoom.B8 Post) (⟨g1, 0, none⟩, ⟨g3, 0, none⟩, none, 0, 0, in_1b, in_1l, in_1c, (in_1l : Int), (0 : Int)) h19) h7))) h4) h2) h
noncomputable def impl_PlayRoom.code : Code := (Tryz.f14.body).getD .skip
theorem impl_PlayRoom.call {x_0 : Array Value} {in_1b : Option Addr} {in_1l in_1c : Nat} {Post : Value → Heap → Prop} {h : Heap} (H : impl_PlayRoom.S x_0 in_1b in_1l in_1c Post h) : CALL prg f_impl_PlayRoom #[.agg x_0, .slice in_1b in_1l in_1c] Post h :=
  fn_call tau_ok mixed (c := impl_PlayRoom.code) (Λ := lookL [(1000008, impl_PlayRoom.l8 Post)]) Tryz.func14 (by kernel_rfl) (by kernel_rfl)
    (Rq.seq (by kernel_rfl) (Rq.free (by kernel_rfl)) (Rq.seq (by kernel_rfl) (Rq.free (by kernel_rfl)) (Rq.seq (by kernel_rfl) (Rq.free (by kernel_rfl)) (Rq.seq (by kernel_rfl) (Rq.free (by kernel_rfl)) (Rq.seq (by kernel_rfl) (Rq.seq (by kernel_rfl) (Rq.free (by kernel_rfl)) (Rq.block (Rq.loop (impl_PlayRoom.l8 Post) (by kernel_rfl) (segL (g := impl_PlayRoom.g8) tau_ok mixed (Λ := fun N8 => lookL []) (fun _ _ _ => by kernel_rfl) (fun N8 => (Rq.free (by kernel_rfl))))))) (Rq.free (by kernel_rfl)))))))
    (Eq.mp (by kernel_rfl) H)

/-! #### loop.example/g01173/laws.FnExactPlayRoom (function 6) -/
def laws_FnExactPlayRoom.J37 (Post : Value → Heap → Prop) (g0_11 : Addr) (g1_12b : Option Addr) (g1_12l : Nat) (g1_12c : Nat) (m_15 : Int) (h : Heap) : Prop :=
    LDA 47 h g0_11 fun a126 =>
    CALL prg f_laws_heldRoom #[.agg a126, .int .i64 (1 : Int)] (fun q127 h128 =>
    asI .i64 q127 fun n129 =>
    BIF ((decide (n129 < (0 : Int)))) (
    Post (.bool false) h128) (
    CALL prg f_laws_heldFloat32S #[.slice g1_12b g1_12l g1_12c, .int .i64 n129] (fun q130 h131 =>
    asI .i64 q130 fun n132 =>
    BIF ((decide (n132 < (0 : Int)))) (
    Post (.bool false) h131) (
    BIF (n132 != m_15) (
    Post (.bool false) h131) (
    Post (.bool true) h131))) h128)) h
def laws_FnExactPlayRoom.j37 (Post : Value → Heap → Prop) : Frame → Heap → Prop := fun fr h => GRD (shape (kds 154 [(11, .p), (12, .l), (15, .i .i64)]) fr) (laws_FnExactPlayRoom.J37 Post (gP (lget fr 11)) (gLb (lget fr 12)) (gLl (lget fr 12)) (gLc (lget fr 12)) (gI (lget fr 15)) h)
def laws_FnExactPlayRoom.J22 (Post : Value → Heap → Prop) (aIn_1b : Option Addr) (aIn_1l : Nat) (aIn_1c : Nat) (aX_2 : Addr) (w0_6 : Addr) (w1_7b : Option Addr) (w1_7l : Nat) (w1_7c : Nat) (w2_8 : Int) (g0_11 : Addr) (g1_12b : Option Addr) (g1_12l : Nat) (g1_12c : Nat) (h : Heap) : Prop :=
    LDA 47 h g0_11 fun a86 =>
    CALL prg f_laws_markRoom #[.agg a86, .int .i64 (1 : Int)] (fun q87 h88 =>
    asI .i64 q87 fun n89 =>
    CALL prg f_laws_markFloat32S #[.slice g1_12b g1_12l g1_12c, .int .i64 n89] (fun q90 h91 =>
    asI .i64 q90 fun n92 =>
    LDA 47 h91 g0_11 fun a93 =>
    CALL prg f_laws_heldRoom #[.agg a93, .int .i64 (1 : Int)] (fun q94 h95 =>
    asI .i64 q94 fun n96 =>
    BIF ((decide (n96 < (0 : Int)))) (
    Post (.bool false) h95) (
    CALL prg f_laws_heldFloat32S #[.slice g1_12b g1_12l g1_12c, .int .i64 n96] (fun q97 h98 =>
    asI .i64 q97 fun n99 =>
    BIF ((decide (n99 < (0 : Int)))) (
    Post (.bool false) h98) (
    BIF (n99 != n92) (
    Post (.bool false) h98) (
    LDA 47 h98 aX_2 fun a100 =>
    CALL prg f_laws_toRoom #[.agg a100] (fun q101 h102 =>
    asA q101 fun a103 =>
    CALL prg f_laws_toFloat32S #[.slice aIn_1b aIn_1l aIn_1c] (fun q104 h105 =>
    asL q104 fun l106b l106l l106c =>
    CALL prg f_impl_PlayRoom #[.agg a103, .slice l106b l106l l106c] (fun q107 h108 =>
    TUP3 q107 fun q109 q110 q111 =>
    asA q109 fun a112 =>
    asL q110 fun l113b l113l l113c =>
    asI .i64 q111 fun n114 =>
    ALC ⟨Z_impl_Room⟩ T_impl_Room (fun g115 h116 =>
    STA 47 h116 ⟨g115, 0, none⟩ a112 fun h117 =>
    LDA 47 h117 ⟨g115, 0, none⟩ fun a118 =>
    LDA 47 h117 w0_6 fun a119 =>
    CALL prg f_laws_eqRoom #[.agg a118, .agg a119] (fun q120 h121 =>
    asB q120 fun b122 =>
    BIF (!b122) (
    Post (.bool false) h121) (
    CALL prg f_laws_eqFloat32S #[.slice l113b l113l l113c, .slice w1_7b w1_7l w1_7c] (fun q123 h124 =>
    asB q123 fun b125 =>
    BIF (!b125) (
    Post (.bool false) h124) (
    BIF (n114 != w2_8) (
    Post (.bool false) h124) (
    laws_FnExactPlayRoom.J37 Post g0_11 g1_12b g1_12l g1_12c n92 h124))) h121)) h117) h108) h105) h102) h98))) h95)) h91) h88) h
def laws_FnExactPlayRoom.j22 (Post : Value → Heap → Prop) : Frame → Heap → Prop := fun fr h => GRD (shape (kds 154 [(1, .l), (2, .p), (6, .p), (7, .l), (8, .i .i64), (11, .p), (12, .l)]) fr) (laws_FnExactPlayRoom.J22 Post (gLb (lget fr 1)) (gLl (lget fr 1)) (gLc (lget fr 1)) (gP (lget fr 2)) (gP (lget fr 6)) (gLb (lget fr 7)) (gLl (lget fr 7)) (gLc (lget fr 7)) (gI (lget fr 8)) (gP (lget fr 11)) (gLb (lget fr 12)) (gLl (lget fr 12)) (gLc (lget fr 12)) h)
def laws_FnExactPlayRoom.J13 (Post : Value → Heap → Prop) (aIn_1b : Option Addr) (aIn_1l : Nat) (aIn_1c : Nat) (aX_2 : Addr) (w0_6 : Addr) (w1_7b : Option Addr) (w1_7l : Nat) (w1_7c : Nat) (w2_8 : Int) (x0_9 : Addr) (x1_10b : Option Addr) (x1_10l : Nat) (x1_10c : Nat) (g0_11 : Addr) (g1_12b : Option Addr) (g1_12l : Nat) (g1_12c : Nat) (g2_13 : Int) (h : Heap) : Prop :=
    LDA 47 h x0_9 fun a57 =>
    LDA 47 h aX_2 fun a58 =>
    CALL prg f_laws_toRoom #[.agg a58] (fun q59 h60 =>
    asA q59 fun a61 =>
    PIN h x0_9 47 h60 <|
    CALL prg f_laws_eqRoom #[.agg a57, .agg a61] (fun q62 h63 =>
    asB q62 fun b64 =>
    BIF (!b64) (
    Post (.bool false) h63) (
    CALL prg f_laws_toFloat32S #[.slice aIn_1b aIn_1l aIn_1c] (fun q65 h66 =>
    asL q65 fun l67b l67l l67c =>
    CALL prg f_laws_eqFloat32S #[.slice x1_10b x1_10l x1_10c, .slice l67b l67l l67c] (fun q68 h69 =>
    asB q68 fun b70 =>
    BIF (!b70) (
    Post (.bool false) h69) (
    LDA 47 h69 x0_9 fun a71 =>
    CALL prg f_laws_markRoom #[.agg a71, .int .i64 (1 : Int)] (fun q72 h73 =>
    asI .i64 q72 fun n74 =>
    CALL prg f_laws_markFloat32S #[.slice x1_10b x1_10l x1_10c, .int .i64 n74] (fun q75 h76 =>
    asI .i64 q75 fun n77 =>
    BIF ((decide (n77 < (0 : Int)))) (
    Post (.bool false) h76) (
    LDA 47 h76 g0_11 fun a78 =>
    LDA 47 h76 w0_6 fun a79 =>
    CALL prg f_laws_eqRoom #[.agg a78, .agg a79] (fun q80 h81 =>
    asB q80 fun b82 =>
    BIF (!b82) (
    Post (.bool false) h81) (
    CALL prg f_laws_eqFloat32S #[.slice g1_12b g1_12l g1_12c, .slice w1_7b w1_7l w1_7c] (fun q83 h84 =>
    asB q83 fun b85 =>
    BIF (!b85) (
    Post (.bool false) h84) (
    BIF (g2_13 != w2_8) (
    Post (.bool false) h84) (
    laws_FnExactPlayRoom.J22 Post aIn_1b aIn_1l aIn_1c aX_2 w0_6 w1_7b w1_7l w1_7c w2_8 g0_11 g1_12b g1_12l g1_12c h84))) h81)) h76)) h73) h69)) h66) h63)) h60) h
def laws_FnExactPlayRoom.j13 (Post : Value → Heap → Prop) : Frame → Heap → Prop := fun fr h => GRD (shape (kds 154 [(1, .l), (2, .p), (6, .p), (7, .l), (8, .i .i64), (9, .p), (10, .l), (11, .p), (12, .l), (13, .i .i64)]) fr) (laws_FnExactPlayRoom.J13 Post (gLb (lget fr 1)) (gLl (lget fr 1)) (gLc (lget fr 1)) (gP (lget fr 2)) (gP (lget fr 6)) (gLb (lget fr 7)) (gLl (lget fr 7)) (gLc (lget fr 7)) (gI (lget fr 8)) (gP (lget fr 9)) (gLb (lget fr 10)) (gLl (lget fr 10)) (gLc (lget fr 10)) (gP (lget fr 11)) (gLb (lget fr 12)) (gLl (lget fr 12)) (gLc (lget fr 12)) (gI (lget fr 13)) h)
def laws_FnExactPlayRoom.S (aX_0 : Array Value) (aIn_1b : Option Addr) (aIn_1l aIn_1c : Nat) (Post : Value → Heap → Prop) (h : Heap) : Prop :=
    ALC aX_0 T_laws_Room (fun g1 h2 =>
    BIF ((decide ((1048576 : Int) < (aIn_1l : Int)))) (
    Post (.bool true) h2) (
    LDA 47 h2 ⟨g1, 0, none⟩ fun a5 =>
    CALL prg f_laws_szRoom #[.agg a5, .int .i64 (1048576 : Int)] (fun q6 h7 =>
    asI .i64 q6 fun n8 =>
    BIF ((decide (n8 < (0 : Int)))) (
    Post (.bool true) h7) (
    LDA 47 h7 ⟨g1, 0, none⟩ fun a9 =>
    CALL prg f_laws_toRoom #[.agg a9] (fun q10 h11 =>
    asA q10 fun a12 =>
    CALL prg f_laws_toFloat32S #[.slice aIn_1b aIn_1l aIn_1c] (fun q13 h14 =>
    asL q13 fun l15b l15l l15c =>
    CALL prg f_spec_PlayRoom #[.agg a12, .slice l15b l15l l15c] (fun q16 h17 =>
    TUP3 q16 fun q18 q19 q20 =>
    asA q18 fun a21 =>
    asL q19 fun l22b l22l l22c =>
    asI .i64 q20 fun n23 =>
    ALC ⟨Z_impl_Room⟩ T_impl_Room (fun g24 h25 =>
    STA 47 h25 ⟨g24, 0, none⟩ a21 fun h26 =>
    LDA 47 h26 ⟨g1, 0, none⟩ fun a27 =>
    CALL prg f_laws_toRoom #[.agg a27] (fun q28 h29 =>
    asA q28 fun a30 =>
    ALC ⟨Z_impl_Room⟩ T_impl_Room (fun g31 h32 =>
    STA 47 h32 ⟨g31, 0, none⟩ a30 fun h33 =>
    CALL prg f_laws_toFloat32S #[.slice aIn_1b aIn_1l aIn_1c] (fun q34 h35 =>
    asL q34 fun l36b l36l l36c =>
    LDA 47 h35 ⟨g31, 0, none⟩ fun a37 =>
    CALL prg f_impl_PlayRoom #[.agg a37, .slice l36b l36l l36c] (fun q38 h39 =>
    TUP3 q38 fun q40 q41 q42 =>
    asA q40 fun a43 =>
    asL q41 fun l44b l44l l44c =>
    asI .i64 q42 fun n45 =>
    ALC ⟨Z_impl_Room⟩ T_impl_Room (fun g46 h47 =>
    STA 47 h47 ⟨g46, 0, none⟩ a43 fun h48 =>
    LDA 47 h48 ⟨g46, 0, none⟩ fun a49 =>
    LDA 47 h48 ⟨g24, 0, none⟩ fun a50 =>
    CALL prg f_laws_eqRoom #[.agg a49, .agg a50] (fun q51 h52 =>
    asB q51 fun b53 =>
    BIF (!b53) (
    Post (.bool false) h52) (
    CALL prg f_laws_eqFloat32S #[.slice l44b l44l l44c, .slice l22b l22l l22c] (fun q54 h55 =>
    asB q54 fun b56 =>
    BIF (!b56) (
    Post (.bool false) h55) (
    BIF (n45 != n23) (
    Post (.bool false) h55) (
    laws_FnExactPlayRoom.J13 Post aIn_1b aIn_1l aIn_1c ⟨g1, 0, none⟩ ⟨g24, 0, none⟩ l22b l22l l22c n23 ⟨g31, 0, none⟩ l36b l36l l36c ⟨g46, 0, none⟩ l44b l44l l44c n45 h55))) h52)) h48) h39) h35) h33) h29) h26) h17) h14) h11) h7)) h2)) h
noncomputable def laws_FnExactPlayRoom.code : Code := (Tryz.f6.body).getD .skip
theorem laws_FnExactPlayRoom.call {aX_0 : Array Value} {aIn_1b : Option Addr} {aIn_1l aIn_1c : Nat} {Post : Value → Heap → Prop} {h : Heap} (H : laws_FnExactPlayRoom.S aX_0 aIn_1b aIn_1l aIn_1c Post h) : CALL prg f_laws_FnExactPlayRoom #[.agg aX_0, .slice aIn_1b aIn_1l aIn_1c] Post h :=
  fn_call tau_ok mixed (c := laws_FnExactPlayRoom.code) (Λ := lookL [(13, laws_FnExactPlayRoom.j13 Post), (22, laws_FnExactPlayRoom.j22 Post), (37, laws_FnExactPlayRoom.j37 Post)]) Tryz.func6 (by kernel_rfl) (by kernel_rfl)
    (Rq.seq (by kernel_rfl) (Rq.free (by kernel_rfl)) (Rq.seq (by kernel_rfl) (Rq.free (by kernel_rfl)) (Rq.seq (by kernel_rfl) (Rq.free (by kernel_rfl)) (Rq.seq (by kernel_rfl) (Rq.free (by kernel_rfl)) (Rq.seq (by kernel_rfl) (Rq.free (by kernel_rfl)) (Rq.seq (by kernel_rfl) (Rq.free (by kernel_rfl)) (Rq.seq (by kernel_rfl) (Rq.free (by kernel_rfl)) (Rq.seq (by kernel_rfl) (Rq.free (by kernel_rfl)) (Rq.seq (by kernel_rfl) (Rq.free (by kernel_rfl)) (Rq.seqJ (laws_FnExactPlayRoom.j13 Post) (by kernel_rfl) (seg (fun _ _ => by kernel_rfl)) (Rq.free (by kernel_rfl))
(Rq.seq (by kernel_rfl) (Rq.free (by kernel_rfl)) (Rq.seq (by kernel_rfl) (Rq.free (by kernel_rfl)) (Rq.seq (by kernel_rfl) (Rq.free (by kernel_rfl)) (Rq.seq (by kernel_rfl) (Rq.free (by kernel_rfl)) (Rq.seq (by kernel_rfl) (Rq.free (by kernel_rfl)) (Rq.seqJ (laws_FnExactPlayRoom.j22 Post) (by kernel_rfl) (seg (fun _ _ => by kernel_rfl)) (Rq.free (by kernel_rfl))
(Rq.seq (by kernel_rfl) (Rq.free (by kernel_rfl)) (Rq.seq (by kernel_rfl) (Rq.free (by kernel_rfl)) (Rq.seq (by kernel_rfl) (Rq.free (by kernel_rfl)) (Rq.seq (by kernel_rfl) (Rq.free (by kernel_rfl)) (Rq.seq (by kernel_rfl) (Rq.free (by kernel_rfl)) (Rq.seq (by kernel_rfl) (Rq.free (by kernel_rfl)) (Rq.seq (by kernel_rfl) (Rq.free (by kernel_rfl)) (Rq.seq (by kernel_rfl) (Rq.free (by kernel_rfl)) (Rq.seq (by kernel_rfl) (Rq.free (by kernel_rfl)) (Rq.seq (by kernel_rfl) (Rq.free (by kernel_rfl)) (Rq.seqJ (laws_FnExactPlayRoom.j37 Post) (by kernel_rfl) (seg (fun _ _ => by kernel_rfl)) (Rq.free (by kernel_rfl))
(Rq.free (by kernel_rfl)))))))))))))))))))))))))))))
    (Eq.mp (by kernel_rfl) H)

end Go.Sx
