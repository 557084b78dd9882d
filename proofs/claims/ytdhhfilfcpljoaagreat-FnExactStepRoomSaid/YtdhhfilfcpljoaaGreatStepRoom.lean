/- What functions of this seat's program compute, told in words (a predicate over heaps for each), and the proofs that the words are no more than the code's own weakest precondition. -/
import Derived.Test.YtdhhfilfcpljoaaGreatTab
namespace Go.Sx
open Go.Proofs
set_option linter.unusedVariables false
set_option maxRecDepth 100000

/-! #### loop.example/g01173/spec.StepRoom (function 23) -/
def spec_StepRoom.S (x_0 : Array Value) (in_1 : Nat) (Post : Value → Heap → Prop) (h : Heap) : Prop :=
    ALC x_0 T_impl_Room (fun g1 h2 =>
    ALC ⟨Z_impl_Room⟩ T_impl_Room (fun g3 h4 =>
    CALL prg f_spec_l06Ok #[.pointer (some ⟨g1, 0, none⟩)] (fun q5 h6 =>
    asB q5 fun b7 =>
    BIF (!b7) (
    STA 47 h6 ⟨g3, 0, none⟩ (⟨[.slice none 0 0, .int .i64 (0 : Int), .slice none 0 0, .slice none 0 0, .int .i64 (0 : Int), .float .f32 0, .slice none 0 0, .int .i64 (0 : Int), .float .f32 0, .slice none 0 0, .int .i64 (0 : Int), .slice none 0 0, .int .i64 (0 : Int), .slice none 0 0, .int .i64 (0 : Int), .slice none 0 0, .int .i64 (0 : Int), .int .i64 (0 : Int), .float .f32 0, .float .f32 0, .float .f32 0, .float .f32 0, .float .f32 0, .int .i64 (0 : Int), .float .f32 0, .float .f32 0, .float .f32 0, .float .f32 0, .float .f32 0, .int .i64 (0 : Int), .float .f32 0, .float .f32 0, .float .f32 0, .float .f32 0, .float .f32 0, .int .i64 (0 : Int), .float .f32 0, .float .f32 0, .float .f32 0, .float .f32 0, .float .f32 0, .float .f32 0, .float .f32 0, .float .f32 0, .float .f32 0, .float .f32 0, .float .f32 0]⟩ : Array Value) fun h8 =>
    LDA 47 h8 ⟨g3, 0, none⟩ fun a9 =>
    Post (.tuple ⟨[.agg a9, .float .f32 0, .int .i64 (1 : Int)]⟩) h8) (
    CALL prg f_spec_l06Copy #[.pointer (some ⟨g1, 0, none⟩)] (fun q10 h11 =>
    asA q10 fun a12 =>
    ALC ⟨Z_impl_Room⟩ T_impl_Room (fun g13 h14 =>
    STA 47 h14 ⟨g13, 0, none⟩ a12 fun h15 =>
    CALL prg f_spec_l06Step #[.pointer (some ⟨g13, 0, none⟩), .float .f32 in_1] (fun q16 h17 =>
    asF .f32 q16 fun r18 =>
    LDA 47 h17 ⟨g13, 0, none⟩ fun a19 =>
    STA 47 h17 ⟨g3, 0, none⟩ a19 fun h20 =>
    LDA 47 h20 ⟨g3, 0, none⟩ fun a21 =>
    Post (.tuple ⟨[.agg a21, .float .f32 r18, .int .i64 (0 : Int)]⟩) h20) h15) h11) h6)) h4) h2) h
noncomputable def spec_StepRoom.code : Code := (Tryz.f23.body).getD .skip
theorem spec_StepRoom.call {x_0 : Array Value} {in_1 : Nat} {Post : Value → Heap → Prop} {h : Heap} (H : spec_StepRoom.S x_0 in_1 Post h) : CALL prg f_spec_StepRoom #[.agg x_0, .float .f32 in_1] Post h :=
  fn_call tau_ok mixed (c := spec_StepRoom.code) (Λ := lookL []) Tryz.func23 (by kernel_rfl) (by kernel_rfl)
    (Rq.free (by kernel_rfl))
    (Eq.mp (by kernel_rfl) H)

/-! #### loop.example/g01173/impl.StepRoom (function 24) -/
def impl_StepRoom.S (x_0 : Array Value) (in_1 : Nat) (Post : Value → Heap → Prop) (h : Heap) : Prop :=
    ALC x_0 T_impl_Room (fun g1 h2 =>
    ALC ⟨Z_impl_Room⟩ T_impl_Room (fun g3 h4 =>
    LDA 47 h4 ⟨g1, 0, none⟩ fun a5 =>
    CALL prg f_impl_ValidRoom #[.agg a5] (fun q6 h7 =>
    asB q6 fun b8 =>
    BIF (!b8) (
    STA 47 h7 ⟨g3, 0, none⟩ (⟨[.slice none 0 0, .int .i64 (0 : Int), .slice none 0 0, .slice none 0 0, .int .i64 (0 : Int), .float .f32 0, .slice none 0 0, .int .i64 (0 : Int), .float .f32 0, .slice none 0 0, .int .i64 (0 : Int), .slice none 0 0, .int .i64 (0 : Int), .slice none 0 0, .int .i64 (0 : Int), .slice none 0 0, .int .i64 (0 : Int), .int .i64 (0 : Int), .float .f32 0, .float .f32 0, .float .f32 0, .float .f32 0, .float .f32 0, .int .i64 (0 : Int), .float .f32 0, .float .f32 0, .float .f32 0, .float .f32 0, .float .f32 0, .int .i64 (0 : Int), .float .f32 0, .float .f32 0, .float .f32 0, .float .f32 0, .float .f32 0, .int .i64 (0 : Int), .float .f32 0, .float .f32 0, .float .f32 0, .float .f32 0, .float .f32 0, .float .f32 0, .float .f32 0, .float .f32 0, .float .f32 0, .float .f32 0, .float .f32 0]⟩ : Array Value) fun h9 =>
    LDA 47 h9 ⟨g3, 0, none⟩ fun a10 =>
    Post (.tuple ⟨[.agg a10, .float .f32 0, .int .i64 (1 : Int)]⟩) h9) (
    LDA 47 h7 ⟨g1, 0, none⟩ fun a11 =>
    CALL prg f_impl_Room_clone #[.agg a11] (fun q12 h13 =>
    asA q12 fun a14 =>
    STA 47 h13 ⟨g1, 0, none⟩ a14 fun h15 =>
    CALL prg f_p_impl_Room_step #[.pointer (some ⟨g1, 0, none⟩), .float .f32 in_1] (fun q16 h17 =>
    asF .f32 q16 fun r18 =>
    LDA 47 h17 ⟨g1, 0, none⟩ fun a19 =>
    STA 47 h17 ⟨g3, 0, none⟩ a19 fun h20 =>
    LDA 47 h20 ⟨g3, 0, none⟩ fun a21 =>
    Post (.tuple ⟨[.agg a21, .float .f32 r18, .int .i64 (0 : Int)]⟩) h20) h15) h7)) h4) h2) h
noncomputable def impl_StepRoom.code : Code := (Tryz.f24.body).getD .skip
theorem impl_StepRoom.call {x_0 : Array Value} {in_1 : Nat} {Post : Value → Heap → Prop} {h : Heap} (H : impl_StepRoom.S x_0 in_1 Post h) : CALL prg f_impl_StepRoom #[.agg x_0, .float .f32 in_1] Post h :=
  fn_call tau_ok mixed (c := impl_StepRoom.code) (Λ := lookL []) Tryz.func24 (by kernel_rfl) (by kernel_rfl)
    (Rq.free (by kernel_rfl))
    (Eq.mp (by kernel_rfl) H)

/-! #### loop.example/g01173/laws.FnExactStepRoom (function 5) -/
def laws_FnExactStepRoom.J27 (Post : Value → Heap → Prop) (g0_10 : Addr) (m_14 : Int) (h : Heap) : Prop :=
    LDA 47 h g0_10 fun a106 =>
    CALL prg f_laws_heldRoom #[.agg a106, .int .i64 (1 : Int)] (fun q107 h108 =>
    asI .i64 q107 fun n109 =>
    BIF ((decide (n109 < (0 : Int)))) (
    Post (.bool false) h108) (
    BIF (n109 != m_14) (
    Post (.bool false) h108) (
    Post (.bool true) h108))) h
def laws_FnExactStepRoom.j27 (Post : Value → Heap → Prop) : Frame → Heap → Prop := fun fr h => GRD (shape (kds 131 [(10, .p), (14, .i .i64)]) fr) (laws_FnExactStepRoom.J27 Post (gP (lget fr 10)) (gI (lget fr 14)) h)
def laws_FnExactStepRoom.J16 (Post : Value → Heap → Prop) (aIn_1 : Nat) (aX_2 : Addr) (w0_6 : Addr) (w1_7 : Nat) (w2_8 : Int) (g0_10 : Addr) (h : Heap) : Prop :=
    LDA 47 h g0_10 fun a73 =>
    CALL prg f_laws_markRoom #[.agg a73, .int .i64 (1 : Int)] (fun q74 h75 =>
    asI .i64 q74 fun n76 =>
    LDA 47 h75 g0_10 fun a77 =>
    CALL prg f_laws_heldRoom #[.agg a77, .int .i64 (1 : Int)] (fun q78 h79 =>
    asI .i64 q78 fun n80 =>
    BIF ((decide (n80 < (0 : Int)))) (
    Post (.bool false) h79) (
    BIF (n80 != n76) (
    Post (.bool false) h79) (
    LDA 47 h79 aX_2 fun a81 =>
    CALL prg f_laws_toRoom #[.agg a81] (fun q82 h83 =>
    asA q82 fun a84 =>
    CALL prg f_impl_StepRoom #[.agg a84, .float .f32 aIn_1] (fun q85 h86 =>
    TUP3 q85 fun q87 q88 q89 =>
    asA q87 fun a90 =>
    asF .f32 q88 fun r91 =>
    asI .i64 q89 fun n92 =>
    ALC ⟨Z_impl_Room⟩ T_impl_Room (fun g93 h94 =>
    STA 47 h94 ⟨g93, 0, none⟩ a90 fun h95 =>
    LDA 47 h95 ⟨g93, 0, none⟩ fun a96 =>
    LDA 47 h95 w0_6 fun a97 =>
    CALL prg f_laws_eqRoom #[.agg a96, .agg a97] (fun q98 h99 =>
    asB q98 fun b100 =>
    BIF (!b100) (
    Post (.bool false) h99) (
    FFC .f32 r91 .f64 fun r101 =>
    FFC .f32 w1_7 .f64 fun r102 =>
    CALL prg f_laws_sameFloat #[.float .f64 r101, .float .f64 r102] (fun q103 h104 =>
    asB q103 fun b105 =>
    BIF (!b105) (
    Post (.bool false) h104) (
    BIF (n92 != w2_8) (
    Post (.bool false) h104) (
    laws_FnExactStepRoom.J27 Post g0_10 n76 h104))) h99)) h95) h86) h83) h79))) h75) h
def laws_FnExactStepRoom.j16 (Post : Value → Heap → Prop) : Frame → Heap → Prop := fun fr h => GRD (shape (kds 131 [(1, .f .f32), (2, .p), (6, .p), (7, .f .f32), (8, .i .i64), (10, .p)]) fr) (laws_FnExactStepRoom.J16 Post (gF (lget fr 1)) (gP (lget fr 2)) (gP (lget fr 6)) (gF (lget fr 7)) (gI (lget fr 8)) (gP (lget fr 10)) h)
def laws_FnExactStepRoom.J10 (Post : Value → Heap → Prop) (aIn_1 : Nat) (aX_2 : Addr) (w0_6 : Addr) (w1_7 : Nat) (w2_8 : Int) (x0_9 : Addr) (g0_10 : Addr) (g1_11 : Nat) (g2_12 : Int) (h : Heap) : Prop :=
    LDA 47 h x0_9 fun a51 =>
    LDA 47 h aX_2 fun a52 =>
    CALL prg f_laws_toRoom #[.agg a52] (fun q53 h54 =>
    asA q53 fun a55 =>
    PIN h x0_9 47 h54 <|
    CALL prg f_laws_eqRoom #[.agg a51, .agg a55] (fun q56 h57 =>
    asB q56 fun b58 =>
    BIF (!b58) (
    Post (.bool false) h57) (
    LDA 47 h57 x0_9 fun a59 =>
    CALL prg f_laws_markRoom #[.agg a59, .int .i64 (1 : Int)] (fun q60 h61 =>
    asI .i64 q60 fun n62 =>
    BIF ((decide (n62 < (0 : Int)))) (
    Post (.bool false) h61) (
    LDA 47 h61 g0_10 fun a63 =>
    LDA 47 h61 w0_6 fun a64 =>
    CALL prg f_laws_eqRoom #[.agg a63, .agg a64] (fun q65 h66 =>
    asB q65 fun b67 =>
    BIF (!b67) (
    Post (.bool false) h66) (
    FFC .f32 g1_11 .f64 fun r68 =>
    FFC .f32 w1_7 .f64 fun r69 =>
    CALL prg f_laws_sameFloat #[.float .f64 r68, .float .f64 r69] (fun q70 h71 =>
    asB q70 fun b72 =>
    BIF (!b72) (
    Post (.bool false) h71) (
    BIF (g2_12 != w2_8) (
    Post (.bool false) h71) (
    laws_FnExactStepRoom.J16 Post aIn_1 aX_2 w0_6 w1_7 w2_8 g0_10 h71))) h66)) h61)) h57)) h54) h
def laws_FnExactStepRoom.j10 (Post : Value → Heap → Prop) : Frame → Heap → Prop := fun fr h => GRD (shape (kds 131 [(1, .f .f32), (2, .p), (6, .p), (7, .f .f32), (8, .i .i64), (9, .p), (10, .p), (11, .f .f32), (12, .i .i64)]) fr) (laws_FnExactStepRoom.J10 Post (gF (lget fr 1)) (gP (lget fr 2)) (gP (lget fr 6)) (gF (lget fr 7)) (gI (lget fr 8)) (gP (lget fr 9)) (gP (lget fr 10)) (gF (lget fr 11)) (gI (lget fr 12)) h)
def laws_FnExactStepRoom.S (aX_0 : Array Value) (aIn_1 : Nat) (Post : Value → Heap → Prop) (h : Heap) : Prop :=
    ALC aX_0 T_laws_Room (fun g1 h2 =>
    LDA 47 h2 ⟨g1, 0, none⟩ fun a3 =>
    CALL prg f_laws_szRoom #[.agg a3, .int .i64 (1048576 : Int)] (fun q4 h5 =>
    asI .i64 q4 fun n6 =>
    BIF ((decide (n6 < (0 : Int)))) (
    Post (.bool true) h5) (
    LDA 47 h5 ⟨g1, 0, none⟩ fun a7 =>
    CALL prg f_laws_toRoom #[.agg a7] (fun q8 h9 =>
    asA q8 fun a10 =>
    CALL prg f_spec_StepRoom #[.agg a10, .float .f32 aIn_1] (fun q11 h12 =>
    TUP3 q11 fun q13 q14 q15 =>
    asA q13 fun a16 =>
    asF .f32 q14 fun r17 =>
    asI .i64 q15 fun n18 =>
    ALC ⟨Z_impl_Room⟩ T_impl_Room (fun g19 h20 =>
    STA 47 h20 ⟨g19, 0, none⟩ a16 fun h21 =>
    LDA 47 h21 ⟨g1, 0, none⟩ fun a22 =>
    CALL prg f_laws_toRoom #[.agg a22] (fun q23 h24 =>
    asA q23 fun a25 =>
    ALC ⟨Z_impl_Room⟩ T_impl_Room (fun g26 h27 =>
    STA 47 h27 ⟨g26, 0, none⟩ a25 fun h28 =>
    LDA 47 h28 ⟨g26, 0, none⟩ fun a29 =>
    CALL prg f_impl_StepRoom #[.agg a29, .float .f32 aIn_1] (fun q30 h31 =>
    TUP3 q30 fun q32 q33 q34 =>
    asA q32 fun a35 =>
    asF .f32 q33 fun r36 =>
    asI .i64 q34 fun n37 =>
    ALC ⟨Z_impl_Room⟩ T_impl_Room (fun g38 h39 =>
    STA 47 h39 ⟨g38, 0, none⟩ a35 fun h40 =>
    LDA 47 h40 ⟨g38, 0, none⟩ fun a41 =>
    LDA 47 h40 ⟨g19, 0, none⟩ fun a42 =>
    CALL prg f_laws_eqRoom #[.agg a41, .agg a42] (fun q43 h44 =>
    asB q43 fun b45 =>
    BIF (!b45) (
    Post (.bool false) h44) (
    FFC .f32 r36 .f64 fun r46 =>
    FFC .f32 r17 .f64 fun r47 =>
    CALL prg f_laws_sameFloat #[.float .f64 r46, .float .f64 r47] (fun q48 h49 =>
    asB q48 fun b50 =>
    BIF (!b50) (
    Post (.bool false) h49) (
    BIF (n37 != n18) (
    Post (.bool false) h49) (
    laws_FnExactStepRoom.J10 Post aIn_1 ⟨g1, 0, none⟩ ⟨g19, 0, none⟩ r17 n18 ⟨g26, 0, none⟩ ⟨g38, 0, none⟩ r36 n37 h49))) h44)) h40) h31) h28) h24) h21) h12) h9) h5)) h2) h
noncomputable def laws_FnExactStepRoom.code : Code := (Tryz.f5.body).getD .skip
theorem laws_FnExactStepRoom.call {aX_0 : Array Value} {aIn_1 : Nat} {Post : Value → Heap → Prop} {h : Heap} (H : laws_FnExactStepRoom.S aX_0 aIn_1 Post h) : CALL prg f_laws_FnExactStepRoom #[.agg aX_0, .float .f32 aIn_1] Post h :=
  fn_call tau_ok mixed (c := laws_FnExactStepRoom.code) (Λ := lookL [(10, laws_FnExactStepRoom.j10 Post), (16, laws_FnExactStepRoom.j16 Post), (27, laws_FnExactStepRoom.j27 Post)]) Tryz.func5 (by kernel_rfl) (by kernel_rfl)
    (Rq.seq (by kernel_rfl) (Rq.free (by kernel_rfl)) (Rq.seq (by kernel_rfl) (Rq.free (by kernel_rfl)) (Rq.seq (by kernel_rfl) (Rq.free (by kernel_rfl)) (Rq.seq (by kernel_rfl) (Rq.free (by kernel_rfl)) (Rq.seq (by kernel_rfl) (Rq.free (by kernel_rfl)) (Rq.seq (by kernel_rfl) (Rq.free (by kernel_rfl)) (Rq.seq (by kernel_rfl) (Rq.free (by kernel_rfl)) (Rq.seqJ (laws_FnExactStepRoom.j10 Post) (by kernel_rfl) (seg (fun _ _ => by kernel_rfl)) (Rq.free (by kernel_rfl))
(Rq.seq (by kernel_rfl) (Rq.free (by kernel_rfl)) (Rq.seq (by kernel_rfl) (Rq.free (by kernel_rfl)) (Rq.seq (by kernel_rfl) (Rq.free (by kernel_rfl)) (Rq.seqJ (laws_FnExactStepRoom.j16 Post) (by kernel_rfl) (seg (fun _ _ => by kernel_rfl)) (Rq.free (by kernel_rfl))
(Rq.seq (by kernel_rfl) (Rq.free (by kernel_rfl)) (Rq.seq (by kernel_rfl) (Rq.free (by kernel_rfl)) (Rq.seq (by kernel_rfl) (Rq.free (by kernel_rfl)) (Rq.seq (by kernel_rfl) (Rq.free (by kernel_rfl)) (Rq.seq (by kernel_rfl) (Rq.free (by kernel_rfl)) (Rq.seq (by kernel_rfl) (Rq.free (by kernel_rfl)) (Rq.seq (by kernel_rfl) (Rq.free (by kernel_rfl)) (Rq.seqJ (laws_FnExactStepRoom.j27 Post) (by kernel_rfl) (seg (fun _ _ => by kernel_rfl)) (Rq.free (by kernel_rfl))
(Rq.free (by kernel_rfl))))))))))))))))))))))
    (Eq.mp (by kernel_rfl) H)

end Go.Sx
