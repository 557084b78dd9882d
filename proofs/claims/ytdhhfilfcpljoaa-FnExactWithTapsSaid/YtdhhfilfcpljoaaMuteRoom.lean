/- What functions of this seat's program compute, told in words (a predicate over heaps for each), and the proofs that the words are no more than the code's own weakest precondition. -/
import Derived.Test.YtdhhfilfcpljoaaTab
namespace Go.Sx
open Go.Proofs
set_option linter.unusedVariables false
set_option maxRecDepth 100000

/-! #### loop.example/g01173/spec.MuteRoom (function 27) -/
def spec_MuteRoom.B10 (Post : Value → Heap → Prop) (N10 : (Addr × Addr × Addr × Int) → Heap → Prop) : Addr × Addr × Addr × Int → Heap → Prop
  | (x_1, t2, y_4, i_6), h =>
    BIF ((decide (i_6 < (4 : Int)))) (
    IDX i_6 4 <|
    CALL prg f_spec_l05Muted #[.pointer (some ((Addr.add (Addr.add x_1 9) ((Int.toNat i_6) * 2))))] (fun q24 h25 =>
    asA q24 fun a26 =>
    IDX i_6 4 <|
    STA 2 h25 ((Addr.add (Addr.add y_4 9) ((Int.toNat i_6) * 2))) a26 fun h27 =>
    IDX i_6 4 <|
    STA 2 h27 ((Addr.add ((Addr.add (Addr.add y_4 17) ((Int.toNat i_6) * 6))) 4)) (⟨[.float .f32 0, .float .f32 0]⟩ : Array Value) fun h28 =>
    N10 (x_1, t2, y_4, ((IntKind.i64.wrap (i_6 + (1 : Int))))) h28) h) (
    LDA 47 h y_4 fun a29 =>
    STA 47 h t2 a29 fun h30 =>
    LDA 47 h30 t2 fun a31 =>
    Post (.tuple ⟨[.agg a31, .int .i64 (0 : Int)]⟩) h30)
def spec_MuteRoom.g10 (fr : Frame) : Addr × Addr × Addr × Int := ((gP (lget fr 1)), (gP (lget fr 2)), (gP (lget fr 4)), (gI (lget fr 6)))
def spec_MuteRoom.l10 (Post : Value → Heap → Prop) : Frame → Heap → Prop := fun fr h => GRD (shape (kds 44 [(1, .p), (2, .p), (4, .p), (6, .i .i64)]) fr) (LOOP (spec_MuteRoom.B10 Post) (spec_MuteRoom.g10 fr) h)
def spec_MuteRoom.B6 (Post : Value → Heap → Prop) (N6 : (Addr × Addr × Addr × Int) → Heap → Prop) : Addr × Addr × Addr × Int → Heap → Prop
  | (x_1, t2, y_4, i_5), h =>
    BIF ((decide (i_5 < (2 : Int)))) (
    IDX i_5 2 <|
    CALL prg f_spec_l05Muted #[.pointer (some ((Addr.add (Addr.add x_1 3) ((Int.toNat i_5) * 3))))] (fun q20 h21 =>
    asA q20 fun a22 =>
    IDX i_5 2 <|
    STA 2 h21 ((Addr.add (Addr.add y_4 3) ((Int.toNat i_5) * 3))) a22 fun h23 =>
    N6 (x_1, t2, y_4, ((IntKind.i64.wrap (i_5 + (1 : Int))))) h23) h) (
    LOOP (spec_MuteRoom.B10 Post) (x_1, t2, y_4, (0 : Int)) h)
def spec_MuteRoom.g6 (fr : Frame) : Addr × Addr × Addr × Int := ((gP (lget fr 1)), (gP (lget fr 2)), (gP (lget fr 4)), (gI (lget fr 5)))
def spec_MuteRoom.l6 (Post : Value → Heap → Prop) : Frame → Heap → Prop := fun fr h => GRD (shape (kds 44 [(1, .p), (2, .p), (4, .p), (5, .i .i64)]) fr) (LOOP (spec_MuteRoom.B6 Post) (spec_MuteRoom.g6 fr) h)
def spec_MuteRoom.S (x_0 : Array Value) (Post : Value → Heap → Prop) (h : Heap) : Prop :=
    ALC x_0 T_impl_Room (fun g1 h2 =>
    ALC ⟨Z_impl_Room⟩ T_impl_Room (fun g3 h4 =>
    CALL prg f_spec_l06Ok #[.pointer (some ⟨g1, 0, none⟩)] (fun q5 h6 =>
    asB q5 fun b7 =>
    BIF (!b7) (
    STA 47 h6 ⟨g3, 0, none⟩ (⟨[.slice none 0 0, .int .i64 (0 : Int), .slice none 0 0, .slice none 0 0, .int .i64 (0 : Int), .float .f32 0, .slice none 0 0, .int .i64 (0 : Int), .float .f32 0, .slice none 0 0, .int .i64 (0 : Int), .slice none 0 0, .int .i64 (0 : Int), .slice none 0 0, .int .i64 (0 : Int), .slice none 0 0, .int .i64 (0 : Int), .int .i64 (0 : Int), .float .f32 0, .float .f32 0, .float .f32 0, .float .f32 0, .float .f32 0, .int .i64 (0 : Int), .float .f32 0, .float .f32 0, .float .f32 0, .float .f32 0, .float .f32 0, .int .i64 (0 : Int), .float .f32 0, .float .f32 0, .float .f32 0, .float .f32 0, .float .f32 0, .int .i64 (0 : Int), .float .f32 0, .float .f32 0, .float .f32 0, .float .f32 0, .float .f32 0, .float .f32 0, .float .f32 0, .float .f32 0, .float .f32 0, .float .f32 0, .float .f32 0]⟩ : Array Value) fun h8 =>
    LDA 47 h8 ⟨g3, 0, none⟩ fun a9 =>
    Post (.tuple ⟨[.agg a9, .int .i64 (1 : Int)]⟩) h8) (
    CALL prg f_spec_l06Copy #[.pointer (some ⟨g1, 0, none⟩)] (fun q10 h11 =>
    asA q10 fun a12 =>
    ALC ⟨Z_impl_Room⟩ T_impl_Room (fun g13 h14 =>
    STA 47 h14 ⟨g13, 0, none⟩ a12 fun h15 =>
    CALL prg f_spec_l05Muted #[.pointer (some ⟨g1, 0, none⟩)] (fun q16 h17 =>
    asA q16 fun a18 =>
    STA 2 h17 ⟨g13, 0, none⟩ a18 fun h19 =>
    LOOP (spec_MuteRoom.B6 Post) (⟨g1, 0, none⟩, ⟨g3, 0, none⟩, ⟨g13, 0, none⟩, (0 : Int)) h19) h15) h11) h6)) h4) h2) h
noncomputable def spec_MuteRoom.code : Code := (Try.f27.body).getD .skip
theorem spec_MuteRoom.call {x_0 : Array Value} {Post : Value → Heap → Prop} {h : Heap} (H : spec_MuteRoom.S x_0 Post h) : CALL prg f_spec_MuteRoom #[.agg x_0] Post h :=
  fn_call tau_ok mixed (c := spec_MuteRoom.code) (Λ := lookL [(1000006, spec_MuteRoom.l6 Post), (1000010, spec_MuteRoom.l10 Post)]) Try.func27 (by kernel_rfl) (by kernel_rfl)
    (Rq.seq (by kernel_rfl) (Rq.free (by kernel_rfl)) (Rq.seq (by kernel_rfl) (Rq.free (by kernel_rfl)) (Rq.seq (by kernel_rfl) (Rq.free (by kernel_rfl)) (Rq.seq (by kernel_rfl) (Rq.free (by kernel_rfl)) (Rq.seq (by kernel_rfl) (Rq.seq (by kernel_rfl) (Rq.free (by kernel_rfl)) (Rq.block (Rq.loop (spec_MuteRoom.l6 Post) (by kernel_rfl) (segL (g := spec_MuteRoom.g6) tau_ok mixed (Λ := fun N6 => lookL []) (fun _ _ _ => by kernel_rfl) (fun N6 => (Rq.free (by kernel_rfl))))))) (Rq.seq (by kernel_rfl) (Rq.seq (by kernel_rfl) (Rq.free (by kernel_rfl)) (Rq.block (Rq.loop (spec_MuteRoom.l10 Post) (by kernel_rfl) (segL (g := spec_MuteRoom.g10) tau_ok mixed (Λ := fun N10 => lookL []) (fun _ _ _ => by kernel_rfl) (fun N10 => (Rq.free (by kernel_rfl))))))) (Rq.free (by kernel_rfl))))))))
    (Eq.mp (by kernel_rfl) H)

/-! #### loop.example/g01173/impl.MuteRoom (function 28) -/
def impl_MuteRoom.B10 (Post : Value → Heap → Prop) (N10 : (Addr × Addr × Int) → Heap → Prop) : Addr × Addr × Int → Heap → Prop
  | (x_1, t2, t22), h =>
    BIF ((decide (t22 < (4 : Int)))) (
    IDX t22 4 <|
    STA 2 h ((Addr.add ((Addr.add (Addr.add x_1 17) ((Int.toNat t22) * 6))) 4)) (⟨[.float .f32 0, .float .f32 0]⟩ : Array Value) fun h25 =>
    N10 (x_1, t2, ((IntKind.i64.wrap (t22 + (1 : Int))))) h25) (
    LDA 47 h x_1 fun a26 =>
    STA 47 h t2 a26 fun h27 =>
    LDA 47 h27 t2 fun a28 =>
    Post (.tuple ⟨[.agg a28, .int .i64 (0 : Int)]⟩) h27)
def impl_MuteRoom.g10 (fr : Frame) : Addr × Addr × Int := ((gP (lget fr 1)), (gP (lget fr 2)), (gI (lget fr 22)))
def impl_MuteRoom.l10 (Post : Value → Heap → Prop) : Frame → Heap → Prop := fun fr h => GRD (shape (kds 32 [(1, .p), (2, .p), (22, .i .i64)]) fr) (LOOP (impl_MuteRoom.B10 Post) (impl_MuteRoom.g10 fr) h)
def impl_MuteRoom.B5 (Post : Value → Heap → Prop) (N5 : (Addr × Addr × Option Addr × Nat × Nat × Int × Int) → Heap → Prop) : Addr × Addr × Option Addr × Nat × Nat × Int × Int → Heap → Prop
  | (x_1, t2, t13b, t13l, t13c, t14, t15), h =>
    BIF (decide (t15 < t14)) (
    IDXS t13b t15 t13l fun p21 =>
    oP (cell h ((Addr.add p21 ((Int.toNat t15) * 1)))) fun p22 =>
    CALL prg f_p_impl_Ring_mute #[.pointer (some p22)] (fun q23 h24 =>
    N5 (x_1, t2, t13b, t13l, t13c, t14, ((IntKind.i64.wrap (t15 + (1 : Int))))) h24) h) (
    LOOP (impl_MuteRoom.B10 Post) (x_1, t2, (0 : Int)) h)
def impl_MuteRoom.g5 (fr : Frame) : Addr × Addr × Option Addr × Nat × Nat × Int × Int := ((gP (lget fr 1)), (gP (lget fr 2)), (gLb (lget fr 13)), (gLl (lget fr 13)), (gLc (lget fr 13)), (gI (lget fr 14)), (gI (lget fr 15)))
def impl_MuteRoom.l5 (Post : Value → Heap → Prop) : Frame → Heap → Prop := fun fr h => GRD (shape (kds 32 [(1, .p), (2, .p), (13, .l), (14, .i .i64), (15, .i .i64)]) fr) (LOOP (impl_MuteRoom.B5 Post) (impl_MuteRoom.g5 fr) h)
def impl_MuteRoom.S (x_0 : Array Value) (Post : Value → Heap → Prop) (h : Heap) : Prop :=
    ALC x_0 T_impl_Room (fun g1 h2 =>
    ALC ⟨Z_impl_Room⟩ T_impl_Room (fun g3 h4 =>
    LDA 47 h4 ⟨g1, 0, none⟩ fun a5 =>
    CALL prg f_impl_ValidRoom #[.agg a5] (fun q6 h7 =>
    asB q6 fun b8 =>
    BIF (!b8) (
    STA 47 h7 ⟨g3, 0, none⟩ (⟨[.slice none 0 0, .int .i64 (0 : Int), .slice none 0 0, .slice none 0 0, .int .i64 (0 : Int), .float .f32 0, .slice none 0 0, .int .i64 (0 : Int), .float .f32 0, .slice none 0 0, .int .i64 (0 : Int), .slice none 0 0, .int .i64 (0 : Int), .slice none 0 0, .int .i64 (0 : Int), .slice none 0 0, .int .i64 (0 : Int), .int .i64 (0 : Int), .float .f32 0, .float .f32 0, .float .f32 0, .float .f32 0, .float .f32 0, .int .i64 (0 : Int), .float .f32 0, .float .f32 0, .float .f32 0, .float .f32 0, .float .f32 0, .int .i64 (0 : Int), .float .f32 0, .float .f32 0, .float .f32 0, .float .f32 0, .float .f32 0, .int .i64 (0 : Int), .float .f32 0, .float .f32 0, .float .f32 0, .float .f32 0, .float .f32 0, .float .f32 0, .float .f32 0, .float .f32 0, .float .f32 0, .float .f32 0, .float .f32 0]⟩ : Array Value) fun h9 =>
    LDA 47 h9 ⟨g3, 0, none⟩ fun a10 =>
    Post (.tuple ⟨[.agg a10, .int .i64 (1 : Int)]⟩) h9) (
    LDA 47 h7 ⟨g1, 0, none⟩ fun a11 =>
    CALL prg f_impl_Room_clone #[.agg a11] (fun q12 h13 =>
    asA q12 fun a14 =>
    STA 47 h13 ⟨g1, 0, none⟩ a14 fun h15 =>
    CALL prg f_p_impl_Room_rings #[.pointer (some ⟨g1, 0, none⟩)] (fun q16 h17 =>
    asL q16 fun l18b l18l l18c =>
    LOOP (impl_MuteRoom.B5 Post) (⟨g1, 0, none⟩, ⟨g3, 0, none⟩, l18b, l18l, l18c, (l18l : Int), (0 : Int)) h17) h15) h7)) h4) h2) h
noncomputable def impl_MuteRoom.code : Code := (Try.f28.body).getD .skip
theorem impl_MuteRoom.call {x_0 : Array Value} {Post : Value → Heap → Prop} {h : Heap} (H : impl_MuteRoom.S x_0 Post h) : CALL prg f_impl_MuteRoom #[.agg x_0] Post h :=
  fn_call tau_ok mixed (c := impl_MuteRoom.code) (Λ := lookL [(1000005, impl_MuteRoom.l5 Post), (1000010, impl_MuteRoom.l10 Post)]) Try.func28 (by kernel_rfl) (by kernel_rfl)
    (Rq.seq (by kernel_rfl) (Rq.free (by kernel_rfl)) (Rq.seq (by kernel_rfl) (Rq.free (by kernel_rfl)) (Rq.seq (by kernel_rfl) (Rq.free (by kernel_rfl)) (Rq.seq (by kernel_rfl) (Rq.seq (by kernel_rfl) (Rq.free (by kernel_rfl)) (Rq.block (Rq.loop (impl_MuteRoom.l5 Post) (by kernel_rfl) (segL (g := impl_MuteRoom.g5) tau_ok mixed (Λ := fun N5 => lookL []) (fun _ _ _ => by kernel_rfl) (fun N5 => (Rq.free (by kernel_rfl))))))) (Rq.seq (by kernel_rfl) (Rq.seq (by kernel_rfl) (Rq.free (by kernel_rfl)) (Rq.block (Rq.loop (impl_MuteRoom.l10 Post) (by kernel_rfl) (segL (g := impl_MuteRoom.g10) tau_ok mixed (Λ := fun N10 => lookL []) (fun _ _ _ => by kernel_rfl) (fun N10 => (Rq.free (by kernel_rfl))))))) (Rq.free (by kernel_rfl)))))))
    (Eq.mp (by kernel_rfl) H)

/-! #### loop.example/g01173/laws.FnExactMuteRoom (function 5) -/
def laws_FnExactMuteRoom.J27 (Post : Value → Heap → Prop) (g0_7 : Addr) (m_10 : Int) (h : Heap) : Prop :=
    LDA 47 h g0_7 fun a85 =>
    CALL prg f_laws_heldRoom #[.agg a85, .int .i64 (1 : Int)] (fun q86 h87 =>
    asI .i64 q86 fun n88 =>
    BIF ((decide (n88 < (0 : Int)))) (
    Post (.bool false) h87) (
    BIF (n88 != m_10) (
    Post (.bool false) h87) (
    Post (.bool true) h87))) h
def laws_FnExactMuteRoom.j27 (Post : Value → Heap → Prop) : Frame → Heap → Prop := fun fr h => GRD (shape (kds 96 [(7, .p), (10, .i .i64)]) fr) (laws_FnExactMuteRoom.J27 Post (gP (lget fr 7)) (gI (lget fr 10)) h)
def laws_FnExactMuteRoom.J16 (Post : Value → Heap → Prop) (aX_1 : Addr) (w0_4 : Addr) (w1_5 : Int) (g0_7 : Addr) (h : Heap) : Prop :=
    LDA 47 h g0_7 fun a59 =>
    CALL prg f_laws_markRoom #[.agg a59, .int .i64 (1 : Int)] (fun q60 h61 =>
    asI .i64 q60 fun n62 =>
    LDA 47 h61 g0_7 fun a63 =>
    CALL prg f_laws_heldRoom #[.agg a63, .int .i64 (1 : Int)] (fun q64 h65 =>
    asI .i64 q64 fun n66 =>
    BIF ((decide (n66 < (0 : Int)))) (
    Post (.bool false) h65) (
    BIF (n66 != n62) (
    Post (.bool false) h65) (
    LDA 47 h65 aX_1 fun a67 =>
    CALL prg f_laws_toRoom #[.agg a67] (fun q68 h69 =>
    asA q68 fun a70 =>
    CALL prg f_impl_MuteRoom #[.agg a70] (fun q71 h72 =>
    TUP2 q71 fun q73 q74 =>
    asA q73 fun a75 =>
    asI .i64 q74 fun n76 =>
    ALC ⟨Z_impl_Room⟩ T_impl_Room (fun g77 h78 =>
    STA 47 h78 ⟨g77, 0, none⟩ a75 fun h79 =>
    LDA 47 h79 ⟨g77, 0, none⟩ fun a80 =>
    LDA 47 h79 w0_4 fun a81 =>
    CALL prg f_laws_eqRoom #[.agg a80, .agg a81] (fun q82 h83 =>
    asB q82 fun b84 =>
    BIF (!b84) (
    Post (.bool false) h83) (
    BIF (n76 != w1_5) (
    Post (.bool false) h83) (
    laws_FnExactMuteRoom.J27 Post g0_7 n62 h83))) h79) h72) h69) h65))) h61) h
def laws_FnExactMuteRoom.j16 (Post : Value → Heap → Prop) : Frame → Heap → Prop := fun fr h => GRD (shape (kds 96 [(1, .p), (4, .p), (5, .i .i64), (7, .p)]) fr) (laws_FnExactMuteRoom.J16 Post (gP (lget fr 1)) (gP (lget fr 4)) (gI (lget fr 5)) (gP (lget fr 7)) h)
def laws_FnExactMuteRoom.J10 (Post : Value → Heap → Prop) (aX_1 : Addr) (w0_4 : Addr) (w1_5 : Int) (x0_6 : Addr) (g0_7 : Addr) (g1_8 : Int) (h : Heap) : Prop :=
    LDA 47 h x0_6 fun a42 =>
    LDA 47 h aX_1 fun a43 =>
    CALL prg f_laws_toRoom #[.agg a43] (fun q44 h45 =>
    asA q44 fun a46 =>
    PIN h x0_6 47 h45 <|
    CALL prg f_laws_eqRoom #[.agg a42, .agg a46] (fun q47 h48 =>
    asB q47 fun b49 =>
    BIF (!b49) (
    Post (.bool false) h48) (
    LDA 47 h48 x0_6 fun a50 =>
    CALL prg f_laws_markRoom #[.agg a50, .int .i64 (1 : Int)] (fun q51 h52 =>
    asI .i64 q51 fun n53 =>
    BIF ((decide (n53 < (0 : Int)))) (
    Post (.bool false) h52) (
    LDA 47 h52 g0_7 fun a54 =>
    LDA 47 h52 w0_4 fun a55 =>
    CALL prg f_laws_eqRoom #[.agg a54, .agg a55] (fun q56 h57 =>
    asB q56 fun b58 =>
    BIF (!b58) (
    Post (.bool false) h57) (
    BIF (g1_8 != w1_5) (
    Post (.bool false) h57) (
    laws_FnExactMuteRoom.J16 Post aX_1 w0_4 w1_5 g0_7 h57))) h52)) h48)) h45) h
def laws_FnExactMuteRoom.j10 (Post : Value → Heap → Prop) : Frame → Heap → Prop := fun fr h => GRD (shape (kds 96 [(1, .p), (4, .p), (5, .i .i64), (6, .p), (7, .p), (8, .i .i64)]) fr) (laws_FnExactMuteRoom.J10 Post (gP (lget fr 1)) (gP (lget fr 4)) (gI (lget fr 5)) (gP (lget fr 6)) (gP (lget fr 7)) (gI (lget fr 8)) h)
def laws_FnExactMuteRoom.S (aX_0 : Array Value) (Post : Value → Heap → Prop) (h : Heap) : Prop :=
    ALC aX_0 T_laws_Room (fun g1 h2 =>
    LDA 47 h2 ⟨g1, 0, none⟩ fun a3 =>
    CALL prg f_laws_szRoom #[.agg a3, .int .i64 (1048576 : Int)] (fun q4 h5 =>
    asI .i64 q4 fun n6 =>
    BIF ((decide (n6 < (0 : Int)))) (
    Post (.bool true) h5) (
    LDA 47 h5 ⟨g1, 0, none⟩ fun a7 =>
    CALL prg f_laws_toRoom #[.agg a7] (fun q8 h9 =>
    asA q8 fun a10 =>
    CALL prg f_spec_MuteRoom #[.agg a10] (fun q11 h12 =>
    TUP2 q11 fun q13 q14 =>
    asA q13 fun a15 =>
    asI .i64 q14 fun n16 =>
    ALC ⟨Z_impl_Room⟩ T_impl_Room (fun g17 h18 =>
    STA 47 h18 ⟨g17, 0, none⟩ a15 fun h19 =>
    LDA 47 h19 ⟨g1, 0, none⟩ fun a20 =>
    CALL prg f_laws_toRoom #[.agg a20] (fun q21 h22 =>
    asA q21 fun a23 =>
    ALC ⟨Z_impl_Room⟩ T_impl_Room (fun g24 h25 =>
    STA 47 h25 ⟨g24, 0, none⟩ a23 fun h26 =>
    LDA 47 h26 ⟨g24, 0, none⟩ fun a27 =>
    CALL prg f_impl_MuteRoom #[.agg a27] (fun q28 h29 =>
    TUP2 q28 fun q30 q31 =>
    asA q30 fun a32 =>
    asI .i64 q31 fun n33 =>
    ALC ⟨Z_impl_Room⟩ T_impl_Room (fun g34 h35 =>
    STA 47 h35 ⟨g34, 0, none⟩ a32 fun h36 =>
    LDA 47 h36 ⟨g34, 0, none⟩ fun a37 =>
    LDA 47 h36 ⟨g17, 0, none⟩ fun a38 =>
    CALL prg f_laws_eqRoom #[.agg a37, .agg a38] (fun q39 h40 =>
    asB q39 fun b41 =>
    BIF (!b41) (
    Post (.bool false) h40) (
    BIF (n33 != n16) (
    Post (.bool false) h40) (
    laws_FnExactMuteRoom.J10 Post ⟨g1, 0, none⟩ ⟨g17, 0, none⟩ n16 ⟨g24, 0, none⟩ ⟨g34, 0, none⟩ n33 h40))) h36) h29) h26) h22) h19) h12) h9) h5)) h2) h
noncomputable def laws_FnExactMuteRoom.code : Code := (Try.f5.body).getD .skip
theorem laws_FnExactMuteRoom.call {aX_0 : Array Value} {Post : Value → Heap → Prop} {h : Heap} (H : laws_FnExactMuteRoom.S aX_0 Post h) : CALL prg f_laws_FnExactMuteRoom #[.agg aX_0] Post h :=
  fn_call tau_ok mixed (c := laws_FnExactMuteRoom.code) (Λ := lookL [(10, laws_FnExactMuteRoom.j10 Post), (16, laws_FnExactMuteRoom.j16 Post), (27, laws_FnExactMuteRoom.j27 Post)]) Try.func5 (by kernel_rfl) (by kernel_rfl)
    (Rq.seq (by kernel_rfl) (Rq.free (by kernel_rfl)) (Rq.seq (by kernel_rfl) (Rq.free (by kernel_rfl)) (Rq.seq (by kernel_rfl) (Rq.free (by kernel_rfl)) (Rq.seq (by kernel_rfl) (Rq.free (by kernel_rfl)) (Rq.seq (by kernel_rfl) (Rq.free (by kernel_rfl)) (Rq.seq (by kernel_rfl) (Rq.free (by kernel_rfl)) (Rq.seq (by kernel_rfl) (Rq.free (by kernel_rfl)) (Rq.seqJ (laws_FnExactMuteRoom.j10 Post) (by kernel_rfl) (seg (fun _ _ => by kernel_rfl)) (Rq.free (by kernel_rfl))
(Rq.seq (by kernel_rfl) (Rq.free (by kernel_rfl)) (Rq.seq (by kernel_rfl) (Rq.free (by kernel_rfl)) (Rq.seq (by kernel_rfl) (Rq.free (by kernel_rfl)) (Rq.seqJ (laws_FnExactMuteRoom.j16 Post) (by kernel_rfl) (seg (fun _ _ => by kernel_rfl)) (Rq.free (by kernel_rfl))
(Rq.seq (by kernel_rfl) (Rq.free (by kernel_rfl)) (Rq.seq (by kernel_rfl) (Rq.free (by kernel_rfl)) (Rq.seq (by kernel_rfl) (Rq.free (by kernel_rfl)) (Rq.seq (by kernel_rfl) (Rq.free (by kernel_rfl)) (Rq.seq (by kernel_rfl) (Rq.free (by kernel_rfl)) (Rq.seq (by kernel_rfl) (Rq.free (by kernel_rfl)) (Rq.seq (by kernel_rfl) (Rq.free (by kernel_rfl)) (Rq.seqJ (laws_FnExactMuteRoom.j27 Post) (by kernel_rfl) (seg (fun _ _ => by kernel_rfl)) (Rq.free (by kernel_rfl))
(Rq.free (by kernel_rfl))))))))))))))))))))))
    (Eq.mp (by kernel_rfl) H)

end Go.Sx
