/- What functions of this seat's program compute, told in words (a predicate over heaps for each), and the proofs that the words are no more than the code's own weakest precondition. -/
import Derived.Test.YthhepeklpgefkaaGreatDoorTab
namespace Go.Sx
open Go.Proofs
set_option linter.unusedVariables false
set_option maxRecDepth 100000

def spec_NewPlayer.B7 (Post : Value → Heap → Prop) (N7 : (Int × Addr × Addr × Int) → Heap → Prop) : Int × Addr × Addr × Int → Heap → Prop
  | (voices_1, t4, p_6, k_7), h =>
    BIF (decide (k_7 < voices_1)) (
    oL (cell h (Addr.add p_6 6)) fun l21b l21l l21c =>
    CALL prg f_spec_FreeVoice #[] (fun q22 h23 =>
    asA q22 fun a24 =>
    PIN h (Addr.add p_6 6) 1 h23 <|
    SIZ (Array.size a24) 45 <|
    ALC ⟨(splice 0 45 a24 [.int .i64 (0 : Int), .int .i64 (0 : Int), .int .i64 (0 : Int), .bool false, .float .f32 0, .slice none 0 0, .int .i64 (0 : Int), .int .i64 (0 : Int), .float .f32 0, .float .f32 0, .float .f32 0, .float .f32 0, .float .f32 0, .int .i64 (0 : Int), .float .f32 0, .float .f32 0, .float .f32 0, .float .f32 0, .float .f32 0, .float .f32 0, .slice none 0 0, .slice none 0 0, .slice none 0 0, .int .i64 (0 : Int), .float .f32 0, .float .f32 0, .float .f32 0, .float .f32 0, .float .f32 0, .bool false, .float .f32 0, .float .f32 0, .float .f32 0, .slice none 0 0, .int .i64 (0 : Int), .slice none 0 0, .int .i64 (0 : Int), .int .i64 (0 : Int), .float .f32 0, .float .f32 0, .float .f32 0, .float .f32 0, .float .f32 0, .float .f32 0, .float .f32 0])⟩ T_impl_Voice (fun g25 h26 =>
    PIN h (Addr.add p_6 6) 1 h26 <|
    SEMV prg (Builtin.append_ #[T_sl_impl_Voice, T_sl_impl_Voice] T_sl_impl_Voice #[.slice l21b l21l l21c, .slice (some ⟨g25, 0, none⟩) 1 1]) (fun q27 h28 =>
    asL q27 fun l29b l29l l29c =>
    ST1 h28 (Addr.add p_6 6) (.slice l29b l29l l29c) fun h30 =>
    N7 (voices_1, t4, p_6, ((IntKind.i64.wrap (k_7 + (1 : Int))))) h30) h26) h23) h) (
    LDA 10 h p_6 fun a31 =>
    STA 10 h t4 a31 fun h32 =>
    LDA 10 h32 t4 fun a33 =>
    Post (.tuple ⟨[.agg a33, .int .i64 (0 : Int)]⟩) h32)
def spec_NewPlayer.g7 (fr : Frame) : Int × Addr × Addr × Int := ((gI (lget fr 1)), (gP (lget fr 4)), (gP (lget fr 6)), (gI (lget fr 7)))
def spec_NewPlayer.l7 (Post : Value → Heap → Prop) : Frame → Heap → Prop := fun fr h => GRD (shape (kds 29 [(1, .i .i64), (4, .p), (6, .p), (7, .i .i64)]) fr) (LOOP (spec_NewPlayer.B7 Post) (spec_NewPlayer.g7 fr) h)
def spec_NewPlayer.S (s_0 : Array Value) (voices_1 : Int) (Post : Value → Heap → Prop) (h : Heap) : Prop :=
    ALC s_0 T_impl_Score (fun g1 h2 =>
    ALC ⟨Z_impl_Player⟩ T_impl_Player (fun g3 h4 =>
    CALL prg f_spec_l08Ok #[.pointer (some ⟨g1, 0, none⟩)] (fun q5 h6 =>
    asB q5 fun b7 =>
    BIF (!b7) (
    STA 10 h6 ⟨g3, 0, none⟩ (⟨[.float .f32 0, .float .f32 0, .float .f32 0, .slice none 0 0, .slice none 0 0, .slice none 0 0, .slice none 0 0, .int .i64 (0 : Int), .int .i64 (0 : Int), .int .i64 (0 : Int)]⟩ : Array Value) fun h8 =>
    LDA 10 h8 ⟨g3, 0, none⟩ fun a9 =>
    Post (.tuple ⟨[.agg a9, .int .i64 (1 : Int)]⟩) h8) (
    CALL prg f_spec_l00In #[.int .i64 voices_1, .int .i64 (1 : Int), .int .i64 (6 : Int)] (fun q10 h11 =>
    asB q10 fun b12 =>
    BIF (!b12) (
    STA 10 h11 ⟨g3, 0, none⟩ (⟨[.float .f32 0, .float .f32 0, .float .f32 0, .slice none 0 0, .slice none 0 0, .slice none 0 0, .slice none 0 0, .int .i64 (0 : Int), .int .i64 (0 : Int), .int .i64 (0 : Int)]⟩ : Array Value) fun h13 =>
    LDA 10 h13 ⟨g3, 0, none⟩ fun a14 =>
    Post (.tuple ⟨[.agg a14, .int .i64 (2 : Int)]⟩) h13) (
    CALL prg f_spec_l08Copy #[.pointer (some ⟨g1, 0, none⟩)] (fun q15 h16 =>
    asA q15 fun a17 =>
    SIZ (Array.size a17) 6 <|
    ALC ⟨Z_impl_Player⟩ T_impl_Player (fun g18 h19 =>
    STA 10 h19 ⟨g18, 0, none⟩ ⟨(splice 0 6 a17 [.float .f32 0, .float .f32 0, .float .f32 0, .slice none 0 0, .slice none 0 0, .slice none 0 0, .slice none 0 0, .int .i64 (0 : Int), .int .i64 (0 : Int), .int .i64 (0 : Int)])⟩ fun h20 =>
    LOOP (spec_NewPlayer.B7 Post) (voices_1, ⟨g3, 0, none⟩, ⟨g18, 0, none⟩, (0 : Int)) h20) h16) h11)) h6)) h4) h2) h
noncomputable def spec_NewPlayer.code : Code := (Tryz.f13.body).getD .skip
theorem spec_NewPlayer.call {s_0 : Array Value} {voices_1 : Int} {Post : Value → Heap → Prop} {h : Heap} (H : spec_NewPlayer.S s_0 voices_1 Post h) : CALL prg f_spec_NewPlayer #[.agg s_0, .int .i64 voices_1] Post h :=
  fn_call tau_ok mixed (c := spec_NewPlayer.code) (Λ := lookL [(1000007, spec_NewPlayer.l7 Post)]) Tryz.func13 (by kernel_rfl) (by kernel_rfl)
    (Rq.seq (by kernel_rfl) (Rq.free (by kernel_rfl)) (Rq.seq (by kernel_rfl) (Rq.free (by kernel_rfl)) (Rq.seq (by kernel_rfl) (Rq.free (by kernel_rfl)) (Rq.seq (by kernel_rfl) (Rq.free (by kernel_rfl)) (Rq.seq (by kernel_rfl) (Rq.seq (by kernel_rfl) (Rq.free (by kernel_rfl)) (Rq.block (Rq.loop (spec_NewPlayer.l7 Post) (by kernel_rfl) (segL (g := spec_NewPlayer.g7) tau_ok mixed (Λ := fun N7 => lookL []) (fun _ _ _ => by kernel_rfl) (fun N7 => (Rq.free (by kernel_rfl))))))) (Rq.free (by kernel_rfl)))))))
    (Eq.mp (by kernel_rfl) H)

def impl_NewPlayer.B7 (Post : Value → Heap → Prop) (N7 : (Addr × Addr × Int × Int) → Heap → Prop) : Addr × Addr × Int × Int → Heap → Prop
  | (t4, p_6, t20, t21), h =>
    BIF (decide (t21 < t20)) (
    oL (cell h (Addr.add p_6 6)) fun l23b l23l l23c =>
    CALL prg f_impl_FreeVoice #[] (fun q24 h25 =>
    asA q24 fun a26 =>
    PIN h (Addr.add p_6 6) 1 h25 <|
    SIZ (Array.size a26) 45 <|
    ALC ⟨(splice 0 45 a26 [.int .i64 (0 : Int), .int .i64 (0 : Int), .int .i64 (0 : Int), .bool false, .float .f32 0, .slice none 0 0, .int .i64 (0 : Int), .int .i64 (0 : Int), .float .f32 0, .float .f32 0, .float .f32 0, .float .f32 0, .float .f32 0, .int .i64 (0 : Int), .float .f32 0, .float .f32 0, .float .f32 0, .float .f32 0, .float .f32 0, .float .f32 0, .slice none 0 0, .slice none 0 0, .slice none 0 0, .int .i64 (0 : Int), .float .f32 0, .float .f32 0, .float .f32 0, .float .f32 0, .float .f32 0, .bool false, .float .f32 0, .float .f32 0, .float .f32 0, .slice none 0 0, .int .i64 (0 : Int), .slice none 0 0, .int .i64 (0 : Int), .int .i64 (0 : Int), .float .f32 0, .float .f32 0, .float .f32 0, .float .f32 0, .float .f32 0, .float .f32 0, .float .f32 0])⟩ T_impl_Voice (fun g27 h28 =>
    PIN h (Addr.add p_6 6) 1 h28 <|
    SEMV prg (Builtin.append_ #[T_sl_impl_Voice, T_sl_impl_Voice] T_sl_impl_Voice #[.slice l23b l23l l23c, .slice (some ⟨g27, 0, none⟩) 1 1]) (fun q29 h30 =>
    asL q29 fun l31b l31l l31c =>
    ST1 h30 (Addr.add p_6 6) (.slice l31b l31l l31c) fun h32 =>
    N7 (t4, p_6, t20, ((IntKind.i64.wrap (t21 + (1 : Int))))) h32) h28) h25) h) (
    LDA 10 h p_6 fun a33 =>
    STA 10 h t4 a33 fun h34 =>
    LDA 10 h34 t4 fun a35 =>
    Post (.tuple ⟨[.agg a35, .int .i64 (0 : Int)]⟩) h34)
def impl_NewPlayer.g7 (fr : Frame) : Addr × Addr × Int × Int := ((gP (lget fr 4)), (gP (lget fr 6)), (gI (lget fr 20)), (gI (lget fr 21)))
def impl_NewPlayer.l7 (Post : Value → Heap → Prop) : Frame → Heap → Prop := fun fr h => GRD (shape (kds 31 [(4, .p), (6, .p), (20, .i .i64), (21, .i .i64)]) fr) (LOOP (impl_NewPlayer.B7 Post) (impl_NewPlayer.g7 fr) h)
def impl_NewPlayer.S (s_0 : Array Value) (voices_1 : Int) (Post : Value → Heap → Prop) (h : Heap) : Prop :=
    ALC s_0 T_impl_Score (fun g1 h2 =>
    ALC ⟨Z_impl_Player⟩ T_impl_Player (fun g3 h4 =>
    LDA 6 h4 ⟨g1, 0, none⟩ fun a5 =>
    CALL prg f_impl_ValidScore #[.agg a5] (fun q6 h7 =>
    asB q6 fun b8 =>
    BIF (!b8) (
    STA 10 h7 ⟨g3, 0, none⟩ (⟨[.float .f32 0, .float .f32 0, .float .f32 0, .slice none 0 0, .slice none 0 0, .slice none 0 0, .slice none 0 0, .int .i64 (0 : Int), .int .i64 (0 : Int), .int .i64 (0 : Int)]⟩ : Array Value) fun h9 =>
    LDA 10 h9 ⟨g3, 0, none⟩ fun a10 =>
    Post (.tuple ⟨[.agg a10, .int .i64 (1 : Int)]⟩) h9) (
    CALL prg f_impl_isVoices #[.int .i64 voices_1] (fun q11 h12 =>
    asB q11 fun b13 =>
    BIF (!b13) (
    STA 10 h12 ⟨g3, 0, none⟩ (⟨[.float .f32 0, .float .f32 0, .float .f32 0, .slice none 0 0, .slice none 0 0, .slice none 0 0, .slice none 0 0, .int .i64 (0 : Int), .int .i64 (0 : Int), .int .i64 (0 : Int)]⟩ : Array Value) fun h14 =>
    LDA 10 h14 ⟨g3, 0, none⟩ fun a15 =>
    Post (.tuple ⟨[.agg a15, .int .i64 (2 : Int)]⟩) h14) (
    LDA 6 h12 ⟨g1, 0, none⟩ fun a16 =>
    CALL prg f_impl_Score_clone #[.agg a16] (fun q17 h18 =>
    asA q17 fun a19 =>
    SIZ (Array.size a19) 6 <|
    ALC ⟨Z_impl_Player⟩ T_impl_Player (fun g20 h21 =>
    STA 10 h21 ⟨g20, 0, none⟩ ⟨(splice 0 6 a19 [.float .f32 0, .float .f32 0, .float .f32 0, .slice none 0 0, .slice none 0 0, .slice none 0 0, .slice none 0 0, .int .i64 (0 : Int), .int .i64 (0 : Int), .int .i64 (0 : Int)])⟩ fun h22 =>
    LOOP (impl_NewPlayer.B7 Post) (⟨g3, 0, none⟩, ⟨g20, 0, none⟩, voices_1, (0 : Int)) h22) h18) h12)) h7)) h4) h2) h
noncomputable def impl_NewPlayer.code : Code := (Tryz.f15.body).getD .skip
theorem impl_NewPlayer.call {s_0 : Array Value} {voices_1 : Int} {Post : Value → Heap → Prop} {h : Heap} (H : impl_NewPlayer.S s_0 voices_1 Post h) : CALL prg f_impl_NewPlayer #[.agg s_0, .int .i64 voices_1] Post h :=
  fn_call tau_ok mixed (c := impl_NewPlayer.code) (Λ := lookL [(1000007, impl_NewPlayer.l7 Post)]) Tryz.func15 (by kernel_rfl) (by kernel_rfl)
    (Rq.seq (by kernel_rfl) (Rq.free (by kernel_rfl)) (Rq.seq (by kernel_rfl) (Rq.free (by kernel_rfl)) (Rq.seq (by kernel_rfl) (Rq.free (by kernel_rfl)) (Rq.seq (by kernel_rfl) (Rq.seq (by kernel_rfl) (Rq.free (by kernel_rfl)) (Rq.block (Rq.loop (impl_NewPlayer.l7 Post) (by kernel_rfl) (segL (g := impl_NewPlayer.g7) tau_ok mixed (Λ := fun N7 => lookL []) (fun _ _ _ => by kernel_rfl) (fun N7 => (Rq.free (by kernel_rfl))))))) (Rq.free (by kernel_rfl))))))
    (Eq.mp (by kernel_rfl) H)

def laws_FnExactNewPlayer.J27 (Post : Value → Heap → Prop) (g0_9 : Addr) (m_12 : Int) (h : Heap) : Prop :=
    LDA 10 h g0_9 fun a85 =>
    CALL prg f_laws_heldPlayer #[.agg a85, .int .i64 (1 : Int)] (fun q86 h87 =>
    asI .i64 q86 fun n88 =>
    BIF ((decide (n88 < (0 : Int)))) (
    Post (.bool false) h87) (
    BIF (n88 != m_12) (
    Post (.bool false) h87) (
    Post (.bool true) h87))) h
def laws_FnExactNewPlayer.j27 (Post : Value → Heap → Prop) : Frame → Heap → Prop := fun fr h => GRD (shape (kds 101 [(9, .p), (12, .i .i64)]) fr) (laws_FnExactNewPlayer.J27 Post (gP (lget fr 9)) (gI (lget fr 12)) h)
def laws_FnExactNewPlayer.J16 (Post : Value → Heap → Prop) (aVoices_1 : Int) (aS_2 : Addr) (w0_6 : Addr) (w1_7 : Int) (g0_9 : Addr) (h : Heap) : Prop :=
    LDA 10 h g0_9 fun a59 =>
    CALL prg f_laws_markPlayer #[.agg a59, .int .i64 (1 : Int)] (fun q60 h61 =>
    asI .i64 q60 fun n62 =>
    LDA 10 h61 g0_9 fun a63 =>
    CALL prg f_laws_heldPlayer #[.agg a63, .int .i64 (1 : Int)] (fun q64 h65 =>
    asI .i64 q64 fun n66 =>
    BIF ((decide (n66 < (0 : Int)))) (
    Post (.bool false) h65) (
    BIF (n66 != n62) (
    Post (.bool false) h65) (
    LDA 6 h65 aS_2 fun a67 =>
    CALL prg f_laws_toScore #[.agg a67] (fun q68 h69 =>
    asA q68 fun a70 =>
    CALL prg f_impl_NewPlayer #[.agg a70, .int .i64 aVoices_1] (fun q71 h72 =>
    TUP2 q71 fun q73 q74 =>
    asA q73 fun a75 =>
    asI .i64 q74 fun n76 =>
    ALC ⟨Z_impl_Player⟩ T_impl_Player (fun g77 h78 =>
    STA 10 h78 ⟨g77, 0, none⟩ a75 fun h79 =>
    LDA 10 h79 ⟨g77, 0, none⟩ fun a80 =>
    LDA 10 h79 w0_6 fun a81 =>
    CALL prg f_laws_eqPlayer #[.agg a80, .agg a81] (fun q82 h83 =>
    asB q82 fun b84 =>
    BIF (!b84) (
    Post (.bool false) h83) (
    BIF (n76 != w1_7) (
    Post (.bool false) h83) (
    laws_FnExactNewPlayer.J27 Post g0_9 n62 h83))) h79) h72) h69) h65))) h61) h
def laws_FnExactNewPlayer.j16 (Post : Value → Heap → Prop) : Frame → Heap → Prop := fun fr h => GRD (shape (kds 101 [(1, .i .i64), (2, .p), (6, .p), (7, .i .i64), (9, .p)]) fr) (laws_FnExactNewPlayer.J16 Post (gI (lget fr 1)) (gP (lget fr 2)) (gP (lget fr 6)) (gI (lget fr 7)) (gP (lget fr 9)) h)
def laws_FnExactNewPlayer.J10 (Post : Value → Heap → Prop) (aVoices_1 : Int) (aS_2 : Addr) (w0_6 : Addr) (w1_7 : Int) (x0_8 : Addr) (g0_9 : Addr) (g1_10 : Int) (h : Heap) : Prop :=
    LDA 6 h x0_8 fun a42 =>
    LDA 6 h aS_2 fun a43 =>
    CALL prg f_laws_toScore #[.agg a43] (fun q44 h45 =>
    asA q44 fun a46 =>
    PIN h x0_8 6 h45 <|
    CALL prg f_laws_eqScore #[.agg a42, .agg a46] (fun q47 h48 =>
    asB q47 fun b49 =>
    BIF (!b49) (
    Post (.bool false) h48) (
    LDA 6 h48 x0_8 fun a50 =>
    CALL prg f_laws_markScore #[.agg a50, .int .i64 (1 : Int)] (fun q51 h52 =>
    asI .i64 q51 fun n53 =>
    BIF ((decide (n53 < (0 : Int)))) (
    Post (.bool false) h52) (
    LDA 10 h52 g0_9 fun a54 =>
    LDA 10 h52 w0_6 fun a55 =>
    CALL prg f_laws_eqPlayer #[.agg a54, .agg a55] (fun q56 h57 =>
    asB q56 fun b58 =>
    BIF (!b58) (
    Post (.bool false) h57) (
    BIF (g1_10 != w1_7) (
    Post (.bool false) h57) (
    laws_FnExactNewPlayer.J16 Post aVoices_1 aS_2 w0_6 w1_7 g0_9 h57))) h52)) h48)) h45) h
def laws_FnExactNewPlayer.j10 (Post : Value → Heap → Prop) : Frame → Heap → Prop := fun fr h => GRD (shape (kds 101 [(1, .i .i64), (2, .p), (6, .p), (7, .i .i64), (8, .p), (9, .p), (10, .i .i64)]) fr) (laws_FnExactNewPlayer.J10 Post (gI (lget fr 1)) (gP (lget fr 2)) (gP (lget fr 6)) (gI (lget fr 7)) (gP (lget fr 8)) (gP (lget fr 9)) (gI (lget fr 10)) h)
def laws_FnExactNewPlayer.S (aS_0 : Array Value) (aVoices_1 : Int) (Post : Value → Heap → Prop) (h : Heap) : Prop :=
    ALC aS_0 T_laws_Score (fun g1 h2 =>
    LDA 6 h2 ⟨g1, 0, none⟩ fun a3 =>
    CALL prg f_laws_szScore #[.agg a3, .int .i64 (1048576 : Int)] (fun q4 h5 =>
    asI .i64 q4 fun n6 =>
    BIF ((decide (n6 < (0 : Int)))) (
    Post (.bool true) h5) (
    LDA 6 h5 ⟨g1, 0, none⟩ fun a7 =>
    CALL prg f_laws_toScore #[.agg a7] (fun q8 h9 =>
    asA q8 fun a10 =>
    CALL prg f_spec_NewPlayer #[.agg a10, .int .i64 aVoices_1] (fun q11 h12 =>
    TUP2 q11 fun q13 q14 =>
    asA q13 fun a15 =>
    asI .i64 q14 fun n16 =>
    ALC ⟨Z_impl_Player⟩ T_impl_Player (fun g17 h18 =>
    STA 10 h18 ⟨g17, 0, none⟩ a15 fun h19 =>
    LDA 6 h19 ⟨g1, 0, none⟩ fun a20 =>
    CALL prg f_laws_toScore #[.agg a20] (fun q21 h22 =>
    asA q21 fun a23 =>
    ALC ⟨Z_impl_Score⟩ T_impl_Score (fun g24 h25 =>
    STA 6 h25 ⟨g24, 0, none⟩ a23 fun h26 =>
    LDA 6 h26 ⟨g24, 0, none⟩ fun a27 =>
    CALL prg f_impl_NewPlayer #[.agg a27, .int .i64 aVoices_1] (fun q28 h29 =>
    TUP2 q28 fun q30 q31 =>
    asA q30 fun a32 =>
    asI .i64 q31 fun n33 =>
    ALC ⟨Z_impl_Player⟩ T_impl_Player (fun g34 h35 =>
    STA 10 h35 ⟨g34, 0, none⟩ a32 fun h36 =>
    LDA 10 h36 ⟨g34, 0, none⟩ fun a37 =>
    LDA 10 h36 ⟨g17, 0, none⟩ fun a38 =>
    CALL prg f_laws_eqPlayer #[.agg a37, .agg a38] (fun q39 h40 =>
    asB q39 fun b41 =>
    BIF (!b41) (
    Post (.bool false) h40) (
    BIF (n33 != n16) (
    Post (.bool false) h40) (
    laws_FnExactNewPlayer.J10 Post aVoices_1 ⟨g1, 0, none⟩ ⟨g17, 0, none⟩ n16 ⟨g24, 0, none⟩ ⟨g34, 0, none⟩ n33 h40))) h36) h29) h26) h22) h19) h12) h9) h5)) h2) h
noncomputable def laws_FnExactNewPlayer.code : Code := (Tryz.f3.body).getD .skip
theorem laws_FnExactNewPlayer.call {aS_0 : Array Value} {aVoices_1 : Int} {Post : Value → Heap → Prop} {h : Heap} (H : laws_FnExactNewPlayer.S aS_0 aVoices_1 Post h) : CALL prg f_laws_FnExactNewPlayer #[.agg aS_0, .int .i64 aVoices_1] Post h :=
  fn_call tau_ok mixed (c := laws_FnExactNewPlayer.code) (Λ := lookL [(10, laws_FnExactNewPlayer.j10 Post), (16, laws_FnExactNewPlayer.j16 Post), (27, laws_FnExactNewPlayer.j27 Post)]) Tryz.func3 (by kernel_rfl) (by kernel_rfl)
    (Rq.seq (by kernel_rfl) (Rq.free (by kernel_rfl)) (Rq.seq (by kernel_rfl) (Rq.free (by kernel_rfl)) (Rq.seq (by kernel_rfl) (Rq.free (by kernel_rfl)) (Rq.seq (by kernel_rfl) (Rq.free (by kernel_rfl)) (Rq.seq (by kernel_rfl) (Rq.free (by kernel_rfl)) (Rq.seq (by kernel_rfl) (Rq.free (by kernel_rfl)) (Rq.seq (by kernel_rfl) (Rq.free (by kernel_rfl)) (Rq.seqJ (laws_FnExactNewPlayer.j10 Post) (by kernel_rfl) (seg (fun _ _ => by kernel_rfl)) (Rq.free (by kernel_rfl))
(Rq.seq (by kernel_rfl) (Rq.free (by kernel_rfl)) (Rq.seq (by kernel_rfl) (Rq.free (by kernel_rfl)) (Rq.seq (by kernel_rfl) (Rq.free (by kernel_rfl)) (Rq.seqJ (laws_FnExactNewPlayer.j16 Post) (by kernel_rfl) (seg (fun _ _ => by kernel_rfl)) (Rq.free (by kernel_rfl))
(Rq.seq (by kernel_rfl) (Rq.free (by kernel_rfl)) (Rq.seq (by kernel_rfl) (Rq.free (by kernel_rfl)) (Rq.seq (by kernel_rfl) (Rq.free (by kernel_rfl)) (Rq.seq (by kernel_rfl) (Rq.free (by kernel_rfl)) (Rq.seq (by kernel_rfl) (Rq.free (by kernel_rfl)) (Rq.seq (by kernel_rfl) (Rq.free (by kernel_rfl)) (Rq.seq (by kernel_rfl) (Rq.free (by kernel_rfl)) (Rq.seqJ (laws_FnExactNewPlayer.j27 Post) (by kernel_rfl) (seg (fun _ _ => by kernel_rfl)) (Rq.free (by kernel_rfl))
(Rq.free (by kernel_rfl))))))))))))))))))))))
    (Eq.mp (by kernel_rfl) H)

end Go.Sx
