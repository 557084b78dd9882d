/- What functions of this seat's program compute, told in words (a predicate over heaps for each), and the proofs that the words are no more than the code's own weakest precondition. -/
import Derived.Test.YtnjbecdfoiiaoaaGreatDoorTab
namespace Go.Sx
open Go.Proofs
set_option linter.unusedVariables false
set_option maxRecDepth 100000

def spec_TransposeScore.B7 (Post : Value → Heap → Prop) (N7 : (Int × Addr × Addr × Int) → Heap → Prop) : Int × Addr × Addr × Int → Heap → Prop
  | (by_1, t4, out_6, i_7), h =>
    oL (cell h (Addr.add out_6 5)) fun l21b l21l l21c =>
    BIF ((decide (i_7 < (l21l : Int)))) (
    oL (cell h (Addr.add out_6 5)) fun l24b l24l l24c =>
    IDXS l24b i_7 l24l fun p25 =>
    oI .i64 (cell h ((Addr.add ((Addr.add p25 ((Int.toNat i_7) * 6))) 1))) fun n26 =>
    BIF (n26 != (2 : Int)) (
    N7 (by_1, t4, out_6, ((IntKind.i64.wrap (i_7 + (1 : Int))))) h) (
    oL (cell h (Addr.add out_6 5)) fun l27b l27l l27c =>
    IDXS l27b i_7 l27l fun p28 =>
    oI .i64 (cell h ((Addr.add ((Addr.add p28 ((Int.toNat i_7) * 6))) 4))) fun n29 =>
    IDXS l27b i_7 l27l fun p30 =>
    ST1 h ((Addr.add ((Addr.add p30 ((Int.toNat i_7) * 6))) 4)) (.int .i64 (IntKind.i64.wrap (n29 + by_1))) fun h31 =>
    oL (cell h31 (Addr.add out_6 5)) fun l32b l32l l32c =>
    IDXS l32b i_7 l32l fun p33 =>
    oI .i64 (cell h31 ((Addr.add ((Addr.add p33 ((Int.toNat i_7) * 6))) 4))) fun n34 =>
    CALL prg f_spec_l00In #[.int .i64 n34, .int .i64 (-100 : Int), .int .i64 (100 : Int)] (fun q35 h36 =>
    asB q35 fun b37 =>
    BIF (!b37) (
    STA 6 h36 t4 (⟨[.float .f32 0, .float .f32 0, .float .f32 0, .slice none 0 0, .slice none 0 0, .slice none 0 0]⟩ : Array Value) fun h38 =>
    LDA 6 h38 t4 fun a39 =>
    Post (.tuple ⟨[.agg a39, .int .i64 (2 : Int)]⟩) h38) (
    N7 (by_1, t4, out_6, ((IntKind.i64.wrap (i_7 + (1 : Int))))) h36)) h31)) (
    LDA 6 h out_6 fun a40 =>
    STA 6 h t4 a40 fun h41 =>
    LDA 6 h41 t4 fun a42 =>
    Post (.tuple ⟨[.agg a42, .int .i64 (0 : Int)]⟩) h41)
def spec_TransposeScore.g7 (fr : Frame) : Int × Addr × Addr × Int := ((gI (lget fr 1)), (gP (lget fr 4)), (gP (lget fr 6)), (gI (lget fr 7)))
def spec_TransposeScore.l7 (Post : Value → Heap → Prop) : Frame → Heap → Prop := fun fr h => GRD (shape (kds 50 [(1, .i .i64), (4, .p), (6, .p), (7, .i .i64)]) fr) (LOOP (spec_TransposeScore.B7 Post) (spec_TransposeScore.g7 fr) h)
def spec_TransposeScore.S (s_0 : Array Value) (by_1 : Int) (Post : Value → Heap → Prop) (h : Heap) : Prop :=
    ALC s_0 T_impl_Score (fun g1 h2 =>
    ALC ⟨Z_impl_Score⟩ T_impl_Score (fun g3 h4 =>
    CALL prg f_spec_l08Ok #[.pointer (some ⟨g1, 0, none⟩)] (fun q5 h6 =>
    asB q5 fun b7 =>
    BIF (!b7) (
    STA 6 h6 ⟨g3, 0, none⟩ (⟨[.float .f32 0, .float .f32 0, .float .f32 0, .slice none 0 0, .slice none 0 0, .slice none 0 0]⟩ : Array Value) fun h8 =>
    LDA 6 h8 ⟨g3, 0, none⟩ fun a9 =>
    Post (.tuple ⟨[.agg a9, .int .i64 (1 : Int)]⟩) h8) (
    CALL prg f_spec_l00In #[.int .i64 by_1, .int .i64 (-100 : Int), .int .i64 (100 : Int)] (fun q10 h11 =>
    asB q10 fun b12 =>
    BIF (!b12) (
    STA 6 h11 ⟨g3, 0, none⟩ (⟨[.float .f32 0, .float .f32 0, .float .f32 0, .slice none 0 0, .slice none 0 0, .slice none 0 0]⟩ : Array Value) fun h13 =>
    LDA 6 h13 ⟨g3, 0, none⟩ fun a14 =>
    Post (.tuple ⟨[.agg a14, .int .i64 (2 : Int)]⟩) h13) (
    CALL prg f_spec_l08Copy #[.pointer (some ⟨g1, 0, none⟩)] (fun q15 h16 =>
    asA q15 fun a17 =>
    ALC ⟨Z_impl_Score⟩ T_impl_Score (fun g18 h19 =>
    STA 6 h19 ⟨g18, 0, none⟩ a17 fun h20 =>
    LOOP (spec_TransposeScore.B7 Post) (by_1, ⟨g3, 0, none⟩, ⟨g18, 0, none⟩, (0 : Int)) h20) h16) h11)) h6)) h4) h2) h
noncomputable def spec_TransposeScore.code : Code := (Tryz.f15.body).getD .skip
theorem spec_TransposeScore.call {s_0 : Array Value} {by_1 : Int} {Post : Value → Heap → Prop} {h : Heap} (H : spec_TransposeScore.S s_0 by_1 Post h) : CALL prg f_spec_TransposeScore #[.agg s_0, .int .i64 by_1] Post h :=
  fn_call tau_ok mixed (c := spec_TransposeScore.code) (Λ := lookL [(1000007, spec_TransposeScore.l7 Post)]) Tryz.func15 (by kernel_rfl) (by kernel_rfl)
    (Rq.seq (by kernel_rfl) (Rq.free (by kernel_rfl)) (Rq.seq (by kernel_rfl) (Rq.free (by kernel_rfl)) (Rq.seq (by kernel_rfl) (Rq.free (by kernel_rfl)) (Rq.seq (by kernel_rfl) (Rq.free (by kernel_rfl)) (Rq.seq (by kernel_rfl) (Rq.seq (by kernel_rfl) (Rq.free (by kernel_rfl)) (Rq.block (Rq.loop (spec_TransposeScore.l7 Post) (by kernel_rfl) (segL (g := spec_TransposeScore.g7) tau_ok mixed (Λ := fun N7 => lookL []) (fun _ _ _ => by kernel_rfl) (fun N7 => (Rq.free (by kernel_rfl))))))) (Rq.free (by kernel_rfl)))))))
    (Eq.mp (by kernel_rfl) H)

def impl_TransposeScore.B7 (Post : Value → Heap → Prop) (N7 : (Int × Addr × Addr × Option Addr × Nat × Nat × Int × Int) → Heap → Prop) : Int × Addr × Addr × Option Addr × Nat × Nat × Int × Int → Heap → Prop
  | (by_1, s_2, t4, t21b, t21l, t21c, t22, t23), h =>
    BIF (decide (t23 < t22)) (
    IDXS t21b t23 t21l fun p24 =>
    LDA 6 h ((Addr.add p24 ((Int.toNat t23) * 6))) fun a25 =>
    ALC ⟨Z_impl_Event⟩ T_impl_Event (fun g26 h27 =>
    STA 6 h27 ⟨g26, 0, none⟩ a25 fun h28 =>
    oI .i64 (cell h28 ⟨g26, 1, none⟩) fun n29 =>
    BIF (n29 != (2 : Int)) (
    N7 (by_1, s_2, t4, t21b, t21l, t21c, t22, ((IntKind.i64.wrap (t23 + (1 : Int))))) h28) (
    oI .i64 (cell h28 ⟨g26, 4, none⟩) fun n30 =>
    CALL prg f_impl_isKey #[.int .i64 (IntKind.i64.wrap (n30 + by_1))] (fun q31 h32 =>
    asB q31 fun b33 =>
    BIF (!b33) (
    STA 6 h32 t4 (⟨[.float .f32 0, .float .f32 0, .float .f32 0, .slice none 0 0, .slice none 0 0, .slice none 0 0]⟩ : Array Value) fun h34 =>
    LDA 6 h34 t4 fun a35 =>
    Post (.tuple ⟨[.agg a35, .int .i64 (2 : Int)]⟩) h34) (
    oL (cell h32 (Addr.add s_2 5)) fun l36b l36l l36c =>
    IDXS l36b t23 l36l fun p37 =>
    oI .i64 (cell h32 ((Addr.add ((Addr.add p37 ((Int.toNat t23) * 6))) 4))) fun n38 =>
    IDXS l36b t23 l36l fun p39 =>
    ST1 h32 ((Addr.add ((Addr.add p39 ((Int.toNat t23) * 6))) 4)) (.int .i64 (IntKind.i64.wrap (n38 + by_1))) fun h40 =>
    N7 (by_1, s_2, t4, t21b, t21l, t21c, t22, ((IntKind.i64.wrap (t23 + (1 : Int))))) h40)) h28)) h) (
    LDA 6 h s_2 fun a41 =>
    STA 6 h t4 a41 fun h42 =>
    LDA 6 h42 t4 fun a43 =>
    Post (.tuple ⟨[.agg a43, .int .i64 (0 : Int)]⟩) h42)
def impl_TransposeScore.g7 (fr : Frame) : Int × Addr × Addr × Option Addr × Nat × Nat × Int × Int := ((gI (lget fr 1)), (gP (lget fr 2)), (gP (lget fr 4)), (gLb (lget fr 21)), (gLl (lget fr 21)), (gLc (lget fr 21)), (gI (lget fr 22)), (gI (lget fr 23)))
def impl_TransposeScore.l7 (Post : Value → Heap → Prop) : Frame → Heap → Prop := fun fr h => GRD (shape (kds 50 [(1, .i .i64), (2, .p), (4, .p), (21, .l), (22, .i .i64), (23, .i .i64)]) fr) (LOOP (impl_TransposeScore.B7 Post) (impl_TransposeScore.g7 fr) h)
def impl_TransposeScore.S (s_0 : Array Value) (by_1 : Int) (Post : Value → Heap → Prop) (h : Heap) : Prop :=
    ALC s_0 T_impl_Score (fun g1 h2 =>
    ALC ⟨Z_impl_Score⟩ T_impl_Score (fun g3 h4 =>
    LDA 6 h4 ⟨g1, 0, none⟩ fun a5 =>
    CALL prg f_impl_ValidScore #[.agg a5] (fun q6 h7 =>
    asB q6 fun b8 =>
    BIF (!b8) (
    STA 6 h7 ⟨g3, 0, none⟩ (⟨[.float .f32 0, .float .f32 0, .float .f32 0, .slice none 0 0, .slice none 0 0, .slice none 0 0]⟩ : Array Value) fun h9 =>
    LDA 6 h9 ⟨g3, 0, none⟩ fun a10 =>
    Post (.tuple ⟨[.agg a10, .int .i64 (1 : Int)]⟩) h9) (
    CALL prg f_impl_isKey #[.int .i64 by_1] (fun q11 h12 =>
    asB q11 fun b13 =>
    BIF (!b13) (
    STA 6 h12 ⟨g3, 0, none⟩ (⟨[.float .f32 0, .float .f32 0, .float .f32 0, .slice none 0 0, .slice none 0 0, .slice none 0 0]⟩ : Array Value) fun h14 =>
    LDA 6 h14 ⟨g3, 0, none⟩ fun a15 =>
    Post (.tuple ⟨[.agg a15, .int .i64 (2 : Int)]⟩) h14) (
    LDA 6 h12 ⟨g1, 0, none⟩ fun a16 =>
    CALL prg f_impl_Score_clone #[.agg a16] (fun q17 h18 =>
    asA q17 fun a19 =>
    STA 6 h18 ⟨g1, 0, none⟩ a19 fun h20 =>
    oL (cell h20 ⟨g1, 5, none⟩) fun l21b l21l l21c =>
    LOOP (impl_TransposeScore.B7 Post) (by_1, ⟨g1, 0, none⟩, ⟨g3, 0, none⟩, l21b, l21l, l21c, (l21l : Int), (0 : Int)) h20) h12)) h7)) h4) h2) h
noncomputable def impl_TransposeScore.code : Code := (Tryz.f17.body).getD .skip
theorem impl_TransposeScore.call {s_0 : Array Value} {by_1 : Int} {Post : Value → Heap → Prop} {h : Heap} (H : impl_TransposeScore.S s_0 by_1 Post h) : CALL prg f_impl_TransposeScore #[.agg s_0, .int .i64 by_1] Post h :=
  fn_call tau_ok mixed (c := impl_TransposeScore.code) (Λ := lookL [(1000007, impl_TransposeScore.l7 Post)]) Tryz.func17 (by kernel_rfl) (by kernel_rfl)
    (Rq.seq (by kernel_rfl) (Rq.free (by kernel_rfl)) (Rq.seq (by kernel_rfl) (Rq.free (by kernel_rfl)) (Rq.seq (by kernel_rfl) (Rq.free (by kernel_rfl)) (Rq.seq (by kernel_rfl) (Rq.seq (by kernel_rfl) (Rq.free (by kernel_rfl)) (Rq.block (Rq.loop (impl_TransposeScore.l7 Post) (by kernel_rfl) (segL (g := impl_TransposeScore.g7) tau_ok mixed (Λ := fun N7 => lookL []) (fun _ _ _ => by kernel_rfl) (fun N7 => (Rq.free (by kernel_rfl))))))) (Rq.free (by kernel_rfl))))))
    (Eq.mp (by kernel_rfl) H)

def laws_FnExactTransposeScore.J27 (Post : Value → Heap → Prop) (g0_9 : Addr) (m_12 : Int) (h : Heap) : Prop :=
    LDA 6 h g0_9 fun a85 =>
    CALL prg f_laws_heldScore #[.agg a85, .int .i64 (1 : Int)] (fun q86 h87 =>
    asI .i64 q86 fun n88 =>
    BIF ((decide (n88 < (0 : Int)))) (
    Post (.bool false) h87) (
    BIF (n88 != m_12) (
    Post (.bool false) h87) (
    Post (.bool true) h87))) h
def laws_FnExactTransposeScore.j27 (Post : Value → Heap → Prop) : Frame → Heap → Prop := fun fr h => GRD (shape (kds 101 [(9, .p), (12, .i .i64)]) fr) (laws_FnExactTransposeScore.J27 Post (gP (lget fr 9)) (gI (lget fr 12)) h)
def laws_FnExactTransposeScore.J16 (Post : Value → Heap → Prop) (aBy_1 : Int) (aS_2 : Addr) (w0_6 : Addr) (w1_7 : Int) (g0_9 : Addr) (h : Heap) : Prop :=
    LDA 6 h g0_9 fun a59 =>
    CALL prg f_laws_markScore #[.agg a59, .int .i64 (1 : Int)] (fun q60 h61 =>
    asI .i64 q60 fun n62 =>
    LDA 6 h61 g0_9 fun a63 =>
    CALL prg f_laws_heldScore #[.agg a63, .int .i64 (1 : Int)] (fun q64 h65 =>
    asI .i64 q64 fun n66 =>
    BIF ((decide (n66 < (0 : Int)))) (
    Post (.bool false) h65) (
    BIF (n66 != n62) (
    Post (.bool false) h65) (
    LDA 6 h65 aS_2 fun a67 =>
    CALL prg f_laws_toScore #[.agg a67] (fun q68 h69 =>
    asA q68 fun a70 =>
    CALL prg f_impl_TransposeScore #[.agg a70, .int .i64 aBy_1] (fun q71 h72 =>
    TUP2 q71 fun q73 q74 =>
    asA q73 fun a75 =>
    asI .i64 q74 fun n76 =>
    ALC ⟨Z_impl_Score⟩ T_impl_Score (fun g77 h78 =>
    STA 6 h78 ⟨g77, 0, none⟩ a75 fun h79 =>
    LDA 6 h79 ⟨g77, 0, none⟩ fun a80 =>
    LDA 6 h79 w0_6 fun a81 =>
    CALL prg f_laws_eqScore #[.agg a80, .agg a81] (fun q82 h83 =>
    asB q82 fun b84 =>
    BIF (!b84) (
    Post (.bool false) h83) (
    BIF (n76 != w1_7) (
    Post (.bool false) h83) (
    laws_FnExactTransposeScore.J27 Post g0_9 n62 h83))) h79) h72) h69) h65))) h61) h
def laws_FnExactTransposeScore.j16 (Post : Value → Heap → Prop) : Frame → Heap → Prop := fun fr h => GRD (shape (kds 101 [(1, .i .i64), (2, .p), (6, .p), (7, .i .i64), (9, .p)]) fr) (laws_FnExactTransposeScore.J16 Post (gI (lget fr 1)) (gP (lget fr 2)) (gP (lget fr 6)) (gI (lget fr 7)) (gP (lget fr 9)) h)
def laws_FnExactTransposeScore.J10 (Post : Value → Heap → Prop) (aBy_1 : Int) (aS_2 : Addr) (w0_6 : Addr) (w1_7 : Int) (x0_8 : Addr) (g0_9 : Addr) (g1_10 : Int) (h : Heap) : Prop :=
    LDA 6 h x0_8 fun a42 =>
    LDA 6 h aS_2 fun a43 =>
    CALL prg f_laws_toScore #[.agg a43] (fun q44 h45 =>
    asA q44 fun a46 =>
    PIN h x0_8 6 h45 <|
    CALL prg f_laws_eqScore #[.agg a42, .agg a46] (fun q47 h48 =>
    asB q47 fun b49 =>
    BIF (!b49) (
    Post (.bool false) h48) (
    LDA 6 h48 x0_8 fun a50 =>
    CALL prg f_laws_markScore #[.agg a50, .int .i64 (1 : Int)] (fun q51 h52 =>
    asI .i64 q51 fun n53 =>
    BIF ((decide (n53 < (0 : Int)))) (
    Post (.bool false) h52) (
    LDA 6 h52 g0_9 fun a54 =>
    LDA 6 h52 w0_6 fun a55 =>
    CALL prg f_laws_eqScore #[.agg a54, .agg a55] (fun q56 h57 =>
    asB q56 fun b58 =>
    BIF (!b58) (
    Post (.bool false) h57) (
    BIF (g1_10 != w1_7) (
    Post (.bool false) h57) (
    laws_FnExactTransposeScore.J16 Post aBy_1 aS_2 w0_6 w1_7 g0_9 h57))) h52)) h48)) h45) h
def laws_FnExactTransposeScore.j10 (Post : Value → Heap → Prop) : Frame → Heap → Prop := fun fr h => GRD (shape (kds 101 [(1, .i .i64), (2, .p), (6, .p), (7, .i .i64), (8, .p), (9, .p), (10, .i .i64)]) fr) (laws_FnExactTransposeScore.J10 Post (gI (lget fr 1)) (gP (lget fr 2)) (gP (lget fr 6)) (gI (lget fr 7)) (gP (lget fr 8)) (gP (lget fr 9)) (gI (lget fr 10)) h)
def laws_FnExactTransposeScore.S (aS_0 : Array Value) (aBy_1 : Int) (Post : Value → Heap → Prop) (h : Heap) : Prop :=
    ALC aS_0 T_laws_Score (fun g1 h2 =>
    LDA 6 h2 ⟨g1, 0, none⟩ fun a3 =>
    CALL prg f_laws_szScore #[.agg a3, .int .i64 (1048576 : Int)] (fun q4 h5 =>
    asI .i64 q4 fun n6 =>
    BIF ((decide (n6 < (0 : Int)))) (
    Post (.bool true) h5) (
    LDA 6 h5 ⟨g1, 0, none⟩ fun a7 =>
    CALL prg f_laws_toScore #[.agg a7] (fun q8 h9 =>
    asA q8 fun a10 =>
    CALL prg f_spec_TransposeScore #[.agg a10, .int .i64 aBy_1] (fun q11 h12 =>
    TUP2 q11 fun q13 q14 =>
    asA q13 fun a15 =>
    asI .i64 q14 fun n16 =>
    ALC ⟨Z_impl_Score⟩ T_impl_Score (fun g17 h18 =>
    STA 6 h18 ⟨g17, 0, none⟩ a15 fun h19 =>
    LDA 6 h19 ⟨g1, 0, none⟩ fun a20 =>
    CALL prg f_laws_toScore #[.agg a20] (fun q21 h22 =>
    asA q21 fun a23 =>
    ALC ⟨Z_impl_Score⟩ T_impl_Score (fun g24 h25 =>
    STA 6 h25 ⟨g24, 0, none⟩ a23 fun h26 =>
    LDA 6 h26 ⟨g24, 0, none⟩ fun a27 =>
    CALL prg f_impl_TransposeScore #[.agg a27, .int .i64 aBy_1] (fun q28 h29 =>
    TUP2 q28 fun q30 q31 =>
    asA q30 fun a32 =>
    asI .i64 q31 fun n33 =>
    ALC ⟨Z_impl_Score⟩ T_impl_Score (fun g34 h35 =>
    STA 6 h35 ⟨g34, 0, none⟩ a32 fun h36 =>
    LDA 6 h36 ⟨g34, 0, none⟩ fun a37 =>
    LDA 6 h36 ⟨g17, 0, none⟩ fun a38 =>
    CALL prg f_laws_eqScore #[.agg a37, .agg a38] (fun q39 h40 =>
    asB q39 fun b41 =>
    BIF (!b41) (
    Post (.bool false) h40) (
    BIF (n33 != n16) (
    Post (.bool false) h40) (
    laws_FnExactTransposeScore.J10 Post aBy_1 ⟨g1, 0, none⟩ ⟨g17, 0, none⟩ n16 ⟨g24, 0, none⟩ ⟨g34, 0, none⟩ n33 h40))) h36) h29) h26) h22) h19) h12) h9) h5)) h2) h
noncomputable def laws_FnExactTransposeScore.code : Code := (Tryz.f3.body).getD .skip
theorem laws_FnExactTransposeScore.call {aS_0 : Array Value} {aBy_1 : Int} {Post : Value → Heap → Prop} {h : Heap} (H : laws_FnExactTransposeScore.S aS_0 aBy_1 Post h) : CALL prg f_laws_FnExactTransposeScore #[.agg aS_0, .int .i64 aBy_1] Post h :=
  fn_call tau_ok mixed (c := laws_FnExactTransposeScore.code) (Λ := lookL [(10, laws_FnExactTransposeScore.j10 Post), (16, laws_FnExactTransposeScore.j16 Post), (27, laws_FnExactTransposeScore.j27 Post)]) Tryz.func3 (by kernel_rfl) (by kernel_rfl)
    (Rq.seq (by kernel_rfl) (Rq.free (by kernel_rfl)) (Rq.seq (by kernel_rfl) (Rq.free (by kernel_rfl)) (Rq.seq (by kernel_rfl) (Rq.free (by kernel_rfl)) (Rq.seq (by kernel_rfl) (Rq.free (by kernel_rfl)) (Rq.seq (by kernel_rfl) (Rq.free (by kernel_rfl)) (Rq.seq (by kernel_rfl) (Rq.free (by kernel_rfl)) (Rq.seq (by kernel_rfl) (Rq.free (by kernel_rfl)) (Rq.seqJ (laws_FnExactTransposeScore.j10 Post) (by kernel_rfl) (seg (fun _ _ => by kernel_rfl)) (Rq.free (by kernel_rfl))
(Rq.seq (by kernel_rfl) (Rq.free (by kernel_rfl)) (Rq.seq (by kernel_rfl) (Rq.free (by kernel_rfl)) (Rq.seq (by kernel_rfl) (Rq.free (by kernel_rfl)) (Rq.seqJ (laws_FnExactTransposeScore.j16 Post) (by kernel_rfl) (seg (fun _ _ => by kernel_rfl)) (Rq.free (by kernel_rfl))
(Rq.seq (by kernel_rfl) (Rq.free (by kernel_rfl)) (Rq.seq (by kernel_rfl) (Rq.free (by kernel_rfl)) (Rq.seq (by kernel_rfl) (Rq.free (by kernel_rfl)) (Rq.seq (by kernel_rfl) (Rq.free (by kernel_rfl)) (Rq.seq (by kernel_rfl) (Rq.free (by kernel_rfl)) (Rq.seq (by kernel_rfl) (Rq.free (by kernel_rfl)) (Rq.seq (by kernel_rfl) (Rq.free (by kernel_rfl)) (Rq.seqJ (laws_FnExactTransposeScore.j27 Post) (by kernel_rfl) (seg (fun _ _ => by kernel_rfl)) (Rq.free (by kernel_rfl))
(Rq.free (by kernel_rfl))))))))))))))))))))))
    (Eq.mp (by kernel_rfl) H)

end Go.Sx
