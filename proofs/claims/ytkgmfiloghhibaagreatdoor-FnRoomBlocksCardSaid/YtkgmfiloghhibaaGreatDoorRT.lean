/- What functions of this seat's program compute, told in words (a predicate over heaps for each), and the proofs that the words are no more than the code's own weakest precondition. -/
import Derived.Test.YtkgmfiloghhibaaGreatDoorTab
namespace Go.Sx
open Go.Proofs
set_option linter.unusedVariables false
set_option maxRecDepth 100000

def impl_RoomText.B16 (Post : Value → Heap → Prop) (N16 : (Addr × Option Addr × Nat × Nat × Array Value × Int) → Heap → Prop) : Addr × Option Addr × Nat × Nat × Array Value × Int → Heap → Prop
  | (x_1, lines_3b, lines_3l, lines_3c, t64, t65), h =>
    BIF ((decide (t65 < (4 : Int)))) (
    IDX t65 4 <|
    ALC ⟨Z_impl_Ring⟩ T_impl_Ring (fun g64 h65 =>
    STA 2 h65 ⟨g64, 0, none⟩ ((Array.extract t64 ((Int.toNat t65) * 2) (((Int.toNat t65) * 2) + 2))) fun h66 =>
    IDX t65 4 <|
    oF .f32 (cell h66 ((Addr.add (Addr.add x_1 41) ((Int.toNat t65) * 1)))) fun r67 =>
    IDX t65 4 <|
    LDA 6 h66 ((Addr.add (Addr.add x_1 17) ((Int.toNat t65) * 6))) fun a68 =>
    LDA 2 h66 ⟨g64, 0, none⟩ fun a69 =>
    CALL prg f_impl_bitsText #[.float .f32 r67] (fun q70 h71 =>
    asS q70 fun s72 =>
    PIN h66 ⟨g64, 0, none⟩ 2 h71 <|
    PIN h66 ((Addr.add (Addr.add x_1 17) ((Int.toNat t65) * 6))) 6 h71 <|
    ((ByteArray.size (⟨#[108, 111, 111, 112, 32]⟩ : ByteArray) + ByteArray.size s72 : Nat) : Int) ≤ 9223372036854775807 ∧ (
    CALL prg f_impl_FilterText #[.agg a68] (fun q73 h74 =>
    asS q73 fun s75 =>
    PIN h66 ⟨g64, 0, none⟩ 2 h74 <|
    CALL prg f_impl_ringText #[.agg a69] (fun q76 h77 =>
    asS q76 fun s78 =>
    ALC ⟨[.string ((⟨#[108, 111, 111, 112, 32]⟩ : ByteArray) ++ s72), .string s75, .string s78]⟩ T_string (fun g79 h80 =>
    SEMV prg (Builtin.append_ #[T_sl_string, T_sl_string] T_sl_string #[.slice lines_3b lines_3l lines_3c, .slice (some ⟨g79, 0, none⟩) 3 3]) (fun q81 h82 =>
    asL q81 fun l83b l83l l83c =>
    N16 (x_1, l83b, l83l, l83c, t64, ((IntKind.i64.wrap (t65 + (1 : Int))))) h82) h80) h77) h74) h71)) h66) h) (
    CALL prg f_strings_Join #[.slice lines_3b lines_3l lines_3c, .string (⟨#[10]⟩ : ByteArray)] (fun q84 h85 =>
    asS q84 fun s86 =>
    ((ByteArray.size s86 + ByteArray.size (⟨#[10]⟩ : ByteArray) : Nat) : Int) ≤ 9223372036854775807 ∧ (
    Post (.string (s86 ++ (⟨#[10]⟩ : ByteArray))) h85)) h)
def impl_RoomText.g16 (fr : Frame) : Addr × Option Addr × Nat × Nat × Array Value × Int := ((gP (lget fr 1)), (gLb (lget fr 3)), (gLl (lget fr 3)), (gLc (lget fr 3)), (gA (lget fr 64)), (gI (lget fr 65)))
def impl_RoomText.l16 (Post : Value → Heap → Prop) : Frame → Heap → Prop := fun fr h => GRD (shape (kds 89 [(1, .p), (3, .l), (64, .a), (65, .i .i64)]) fr) (LOOP (impl_RoomText.B16 Post) (impl_RoomText.g16 fr) h)
def impl_RoomText.B11 (Post : Value → Heap → Prop) (N11 : (Addr × Option Addr × Nat × Nat × Array Value × Int) → Heap → Prop) : Addr × Option Addr × Nat × Nat × Array Value × Int → Heap → Prop
  | (x_1, lines_3b, lines_3l, lines_3c, t48, t49), h =>
    BIF ((decide (t49 < (2 : Int)))) (
    IDX t49 2 <|
    ALC ⟨Z_impl_Comb⟩ T_impl_Comb (fun g47 h48 =>
    STA 3 h48 ⟨g47, 0, none⟩ ((Array.extract t48 ((Int.toNat t49) * 3) (((Int.toNat t49) * 3) + 3))) fun h49 =>
    oF .f32 (cell h49 ⟨g47, 2, none⟩) fun r50 =>
    LDA 2 h49 ⟨g47, 0, none⟩ fun a51 =>
    CALL prg f_impl_bitsText #[.float .f32 r50] (fun q52 h53 =>
    asS q52 fun s54 =>
    PIN h49 ⟨g47, 0, none⟩ 2 h53 <|
    ((ByteArray.size (⟨#[99, 111, 109, 98, 32]⟩ : ByteArray) + ByteArray.size s54 : Nat) : Int) ≤ 9223372036854775807 ∧ (
    CALL prg f_impl_ringText #[.agg a51] (fun q55 h56 =>
    asS q55 fun s57 =>
    ALC ⟨[.string ((⟨#[99, 111, 109, 98, 32]⟩ : ByteArray) ++ s54), .string s57]⟩ T_string (fun g58 h59 =>
    SEMV prg (Builtin.append_ #[T_sl_string, T_sl_string] T_sl_string #[.slice lines_3b lines_3l lines_3c, .slice (some ⟨g58, 0, none⟩) 2 2]) (fun q60 h61 =>
    asL q60 fun l62b l62l l62c =>
    N11 (x_1, l62b, l62l, l62c, t48, ((IntKind.i64.wrap (t49 + (1 : Int))))) h61) h59) h56) h53)) h49) h) (
    LDA 8 h (Addr.add x_1 9) fun a63 =>
    LOOP (impl_RoomText.B16 Post) (x_1, lines_3b, lines_3l, lines_3c, a63, (0 : Int)) h)
def impl_RoomText.g11 (fr : Frame) : Addr × Option Addr × Nat × Nat × Array Value × Int := ((gP (lget fr 1)), (gLb (lget fr 3)), (gLl (lget fr 3)), (gLc (lget fr 3)), (gA (lget fr 48)), (gI (lget fr 49)))
def impl_RoomText.l11 (Post : Value → Heap → Prop) : Frame → Heap → Prop := fun fr h => GRD (shape (kds 89 [(1, .p), (3, .l), (48, .a), (49, .i .i64)]) fr) (LOOP (impl_RoomText.B11 Post) (impl_RoomText.g11 fr) h)
def impl_RoomText.B5 (Post : Value → Heap → Prop) (N5 : (Addr × Option Addr × Nat × Nat × Option Addr × Nat × Nat × Int × Int) → Heap → Prop) : Addr × Option Addr × Nat × Nat × Option Addr × Nat × Nat × Int × Int → Heap → Prop
  | (x_1, lines_3b, lines_3l, lines_3c, t22b, t22l, t22c, t23, t24), h =>
    BIF (decide (t24 < t23)) (
    IDXS t22b t24 t22l fun p19 =>
    LDA 2 h ((Addr.add p19 ((Int.toNat t24) * 2))) fun a20 =>
    ALC ⟨Z_impl_Tap⟩ T_impl_Tap (fun g21 h22 =>
    STA 2 h22 ⟨g21, 0, none⟩ a20 fun h23 =>
    oI .i64 (cell h23 ⟨g21, 0, none⟩) fun n24 =>
    oF .f32 (cell h23 ⟨g21, 1, none⟩) fun r25 =>
    CALL prg f_impl_decimal #[.int .i64 n24] (fun q26 h27 =>
    asS q26 fun s28 =>
    PIN h23 ⟨g21, 1, none⟩ 1 h27 <|
    ((ByteArray.size (⟨#[116, 97, 112, 32]⟩ : ByteArray) + ByteArray.size s28 : Nat) : Int) ≤ 9223372036854775807 ∧ (
    ((ByteArray.size ((⟨#[116, 97, 112, 32]⟩ : ByteArray) ++ s28) + ByteArray.size (⟨#[32]⟩ : ByteArray) : Nat) : Int) ≤ 9223372036854775807 ∧ (
    CALL prg f_impl_bitsText #[.float .f32 r25] (fun q29 h30 =>
    asS q29 fun s31 =>
    ((ByteArray.size ((((⟨#[116, 97, 112, 32]⟩ : ByteArray) ++ s28) ++ (⟨#[32]⟩ : ByteArray))) + ByteArray.size s31 : Nat) : Int) ≤ 9223372036854775807 ∧ (
    ALC ⟨[.string (((((⟨#[116, 97, 112, 32]⟩ : ByteArray) ++ s28) ++ (⟨#[32]⟩ : ByteArray)) ++ s31))]⟩ T_string (fun g32 h33 =>
    SEMV prg (Builtin.append_ #[T_sl_string, T_sl_string] T_sl_string #[.slice lines_3b lines_3l lines_3c, .slice (some ⟨g32, 0, none⟩) 1 1]) (fun q34 h35 =>
    asL q34 fun l36b l36l l36c =>
    N5 (x_1, l36b, l36l, l36c, t22b, t22l, t22c, t23, ((IntKind.i64.wrap (t24 + (1 : Int))))) h35) h33) h30)) h27))) h23) h) (
    LDA 2 h x_1 fun a37 =>
    CALL prg f_impl_ringText #[.agg a37] (fun q38 h39 =>
    asS q38 fun s40 =>
    ALC ⟨[.string s40]⟩ T_string (fun g41 h42 =>
    SEMV prg (Builtin.append_ #[T_sl_string, T_sl_string] T_sl_string #[.slice lines_3b lines_3l lines_3c, .slice (some ⟨g41, 0, none⟩) 1 1]) (fun q43 h44 =>
    asL q43 fun l45b l45l l45c =>
    LDA 6 h44 (Addr.add x_1 3) fun a46 =>
    LOOP (impl_RoomText.B11 Post) (x_1, l45b, l45l, l45c, a46, (0 : Int)) h44) h42) h39) h)
def impl_RoomText.g5 (fr : Frame) : Addr × Option Addr × Nat × Nat × Option Addr × Nat × Nat × Int × Int := ((gP (lget fr 1)), (gLb (lget fr 3)), (gLl (lget fr 3)), (gLc (lget fr 3)), (gLb (lget fr 22)), (gLl (lget fr 22)), (gLc (lget fr 22)), (gI (lget fr 23)), (gI (lget fr 24)))
def impl_RoomText.l5 (Post : Value → Heap → Prop) : Frame → Heap → Prop := fun fr h => GRD (shape (kds 89 [(1, .p), (3, .l), (22, .l), (23, .i .i64), (24, .i .i64)]) fr) (LOOP (impl_RoomText.B5 Post) (impl_RoomText.g5 fr) h)
def impl_RoomText.S (x_0 : Array Value) (Post : Value → Heap → Prop) (h : Heap) : Prop :=
    ALC x_0 T_impl_Room (fun g1 h2 =>
    LDA 47 h2 ⟨g1, 0, none⟩ fun a3 =>
    CALL prg f_impl_ValidRoom #[.agg a3] (fun q4 h5 =>
    asB q4 fun b6 =>
    BIF (!b6) (
    Post (.string (⟨#[]⟩ : ByteArray)) h5) (
    oF .f32 (cell h5 ⟨g1, 45, none⟩) fun r7 =>
    oF .f32 (cell h5 ⟨g1, 46, none⟩) fun r8 =>
    ALC ⟨[.float .f32 r7, .float .f32 r8]⟩ T_float32 (fun g9 h10 =>
    CALL prg f_impl_samplesText #[.slice (some ⟨g9, 0, none⟩) 2 2] (fun q11 h12 =>
    asS q11 fun s13 =>
    ((ByteArray.size (⟨#[114, 111, 111, 109, 32]⟩ : ByteArray) + ByteArray.size s13 : Nat) : Int) ≤ 9223372036854775807 ∧ (
    ALC ⟨[.string ((⟨#[114, 111, 111, 109, 32]⟩ : ByteArray) ++ s13)]⟩ T_string (fun g14 h15 =>
    oL (cell h15 ⟨g1, 2, none⟩) fun l16b l16l l16c =>
    LOOP (impl_RoomText.B5 Post) (⟨g1, 0, none⟩, (some ⟨g14, 0, none⟩), 1, 1, l16b, l16l, l16c, (l16l : Int), (0 : Int)) h15) h12)) h10) h5)) h2) h
noncomputable def impl_RoomText.code : Code := (Tryz.f26.body).getD .skip
theorem impl_RoomText.call {x_0 : Array Value} {Post : Value → Heap → Prop} {h : Heap} (H : impl_RoomText.S x_0 Post h) : CALL prg f_impl_RoomText #[.agg x_0] Post h :=
  fn_call tau_ok mixed (c := impl_RoomText.code) (Λ := lookL [(1000005, impl_RoomText.l5 Post), (1000011, impl_RoomText.l11 Post), (1000016, impl_RoomText.l16 Post)]) Tryz.func26 (by kernel_rfl) (by kernel_rfl)
    (Rq.seq (by kernel_rfl) (Rq.free (by kernel_rfl)) (Rq.seq (by kernel_rfl) (Rq.free (by kernel_rfl)) (Rq.seq (by kernel_rfl) (Rq.free (by kernel_rfl)) (Rq.seq (by kernel_rfl) (Rq.seq (by kernel_rfl) (Rq.free (by kernel_rfl)) (Rq.block (Rq.loop (impl_RoomText.l5 Post) (by kernel_rfl) (segL (g := impl_RoomText.g5) tau_ok mixed (Λ := fun N5 => lookL []) (fun _ _ _ => by kernel_rfl) (fun N5 => (Rq.free (by kernel_rfl))))))) (Rq.seq (by kernel_rfl) (Rq.free (by kernel_rfl)) (Rq.seq (by kernel_rfl) (Rq.seq (by kernel_rfl) (Rq.free (by kernel_rfl)) (Rq.block (Rq.loop (impl_RoomText.l11 Post) (by kernel_rfl) (segL (g := impl_RoomText.g11) tau_ok mixed (Λ := fun N11 => lookL []) (fun _ _ _ => by kernel_rfl) (fun N11 => (Rq.free (by kernel_rfl))))))) (Rq.seq (by kernel_rfl) (Rq.seq (by kernel_rfl) (Rq.free (by kernel_rfl)) (Rq.block (Rq.loop (impl_RoomText.l16 Post) (by kernel_rfl) (segL (g := impl_RoomText.g16) tau_ok mixed (Λ := fun N16 => lookL []) (fun _ _ _ => by kernel_rfl) (fun N16 => (Rq.free (by kernel_rfl))))))) (Rq.free (by kernel_rfl)))))))))
    (Eq.mp (by kernel_rfl) H)

def p_impl_roomLines_next.S (l_0 : Addr) (Post : Value → Heap → Prop) (h : Heap) : Prop :=
    oL (cell h l_0) fun l1b l1l l1c =>
    IDXS l1b (0 : Int) l1l fun p2 =>
    oS (cell h p2) fun s3 =>
    oL (cell h l_0) fun l4b l4l l4c =>
    SLB (1 : Int) (l4l : Int) (l4c : Int) <|
    ST1 h l_0 (.slice (slA l4b l4c 1 1) (l4l - 1) (l4c - 1)) fun h5 =>
    Post (.string s3) h5
noncomputable def p_impl_roomLines_next.code : Code := (Tryz.f76.body).getD .skip
theorem p_impl_roomLines_next.call {l_0 : Addr} {Post : Value → Heap → Prop} {h : Heap} (H : p_impl_roomLines_next.S l_0 Post h) : CALL prg f_p_impl_roomLines_next #[.pointer (some l_0)] Post h :=
  fn_call tau_ok mixed (c := p_impl_roomLines_next.code) (Λ := lookL []) Tryz.func76 (by kernel_rfl) (by kernel_rfl)
    (Rq.free (by kernel_rfl))
    (Eq.mp (by kernel_rfl) H)

def p_impl_roomLines_number.S (l_0 : Addr) (Post : Value → Heap → Prop) (h : Heap) : Prop :=
    CALL prg f_p_impl_roomLines_next #[.pointer (some l_0)] (fun q1 h2 =>
    asS q1 fun s3 =>
    CALL prg f_strings_LastIndex #[.string s3, .string (⟨#[32]⟩ : ByteArray)] (fun q4 h5 =>
    asI .i64 q4 fun n6 =>
    SLB ((IntKind.i64.wrap (n6 + (1 : Int)))) ((ByteArray.size s3) : Int) ((ByteArray.size s3) : Int) <|
    CALL prg f_impl_readBits #[.string ((ByteArray.extract s3 (Int.toNat ((IntKind.i64.wrap (n6 + (1 : Int))))) (ByteArray.size s3)))] (fun q7 h8 =>
    TUP2 q7 fun q9 q10 =>
    asF .f32 q9 fun r11 =>
    asB q10 fun b12 =>
    oB (cell h8 (Addr.add l_0 1)) fun b13 =>
    BIF b13 (
    ST1 h8 (Addr.add l_0 1) (.bool true) fun h14 =>
    Post (.float .f32 r11) h14) (
    ST1 h8 (Addr.add l_0 1) (.bool (!b12)) fun h15 =>
    Post (.float .f32 r11) h15)) h5) h2) h
noncomputable def p_impl_roomLines_number.code : Code := (Tryz.f78.body).getD .skip
theorem p_impl_roomLines_number.call {l_0 : Addr} {Post : Value → Heap → Prop} {h : Heap} (H : p_impl_roomLines_number.S l_0 Post h) : CALL prg f_p_impl_roomLines_number #[.pointer (some l_0)] Post h :=
  fn_call tau_ok mixed (c := p_impl_roomLines_number.code) (Λ := lookL []) Tryz.func78 (by kernel_rfl) (by kernel_rfl)
    (Rq.free (by kernel_rfl))
    (Eq.mp (by kernel_rfl) H)

def p_impl_roomLines_ring.S (l_0 : Addr) (Post : Value → Heap → Prop) (h : Heap) : Prop :=
    ALC ⟨Z_impl_Ring⟩ T_impl_Ring (fun g1 h2 =>
    CALL prg f_p_impl_roomLines_next #[.pointer (some l_0)] (fun q3 h4 =>
    asS q3 fun s5 =>
    CALL prg f_impl_readRing #[.string s5] (fun q6 h7 =>
    TUP2 q6 fun q8 q9 =>
    asA q8 fun a10 =>
    asB q9 fun b11 =>
    ALC ⟨Z_impl_Ring⟩ T_impl_Ring (fun g12 h13 =>
    STA 2 h13 ⟨g12, 0, none⟩ a10 fun h14 =>
    oB (cell h14 (Addr.add l_0 1)) fun b15 =>
    BIF b15 (
    ST1 h14 (Addr.add l_0 1) (.bool true) fun h16 =>
    LDA 2 h16 ⟨g12, 0, none⟩ fun a17 =>
    STA 2 h16 ⟨g1, 0, none⟩ a17 fun h18 =>
    LDA 2 h18 ⟨g1, 0, none⟩ fun a19 =>
    Post (.agg a19) h18) (
    ST1 h14 (Addr.add l_0 1) (.bool (!b11)) fun h20 =>
    LDA 2 h20 ⟨g12, 0, none⟩ fun a21 =>
    STA 2 h20 ⟨g1, 0, none⟩ a21 fun h22 =>
    LDA 2 h22 ⟨g1, 0, none⟩ fun a23 =>
    Post (.agg a23) h22)) h7) h4) h2) h
noncomputable def p_impl_roomLines_ring.code : Code := (Tryz.f79.body).getD .skip
theorem p_impl_roomLines_ring.call {l_0 : Addr} {Post : Value → Heap → Prop} {h : Heap} (H : p_impl_roomLines_ring.S l_0 Post h) : CALL prg f_p_impl_roomLines_ring #[.pointer (some l_0)] Post h :=
  fn_call tau_ok mixed (c := p_impl_roomLines_ring.code) (Λ := lookL []) Tryz.func79 (by kernel_rfl) (by kernel_rfl)
    (Rq.free (by kernel_rfl))
    (Eq.mp (by kernel_rfl) H)

def impl_ReadRoom.J20 (N14 : (ByteArray × Addr × Addr × Addr × Int × Int) → Heap → Prop) (Post : Value → Heap → Prop) (text_0 : ByteArray) (t2 : Addr) (l_7 : Addr) (x_10 : Addr) (back_12 : Int) (t62 : Int) (t63 : Int) (h : Heap) : Prop :=
    oL (cell h (Addr.add x_10 2)) fun l71b l71l l71c =>
    CALL prg f_p_impl_roomLines_number #[.pointer (some l_7)] (fun q72 h73 =>
    asF .f32 q72 fun r74 =>
    PIN h (Addr.add x_10 2) 1 h73 <|
    SIZ (Array.size (⟨[.int .i64 back_12, .float .f32 r74]⟩ : Array Value)) 2 <|
    ALC ⟨[.int .i64 back_12, .float .f32 r74]⟩ T_impl_Tap (fun g75 h76 =>
    PIN h (Addr.add x_10 2) 1 h76 <|
    SEMV prg (Builtin.append_ #[T_sl_impl_Tap, T_sl_impl_Tap] T_sl_impl_Tap #[.slice l71b l71l l71c, .slice (some ⟨g75, 0, none⟩) 1 1]) (fun q77 h78 =>
    asL q77 fun l79b l79l l79c =>
    ST1 h78 (Addr.add x_10 2) (.slice l79b l79l l79c) fun h80 =>
    N14 (text_0, t2, l_7, x_10, t62, ((IntKind.i64.wrap (t63 + (1 : Int))))) h80) h76) h73) h
def impl_ReadRoom.j20 (N14 : (ByteArray × Addr × Addr × Addr × Int × Int) → Heap → Prop) (Post : Value → Heap → Prop) : Frame → Heap → Prop := fun fr h => GRD (shape (kds 170 [(0, .s), (2, .p), (7, .p), (10, .p), (12, .i .i64), (62, .i .i64), (63, .i .i64)]) fr) (impl_ReadRoom.J20 N14 Post (gS (lget fr 0)) (gP (lget fr 2)) (gP (lget fr 7)) (gP (lget fr 10)) (gI (lget fr 12)) (gI (lget fr 62)) (gI (lget fr 63)) h)
def impl_ReadRoom.J35 (N30 : (ByteArray × Addr × Addr × Addr × Int) → Heap → Prop) (Post : Value → Heap → Prop) (text_0 : ByteArray) (t2 : Addr) (l_7 : Addr) (x_10 : Addr) (i_15 : Int) (f_16 : Addr) (t123 : Int) (h : Heap) : Prop :=
    LDA 6 h f_16 fun a113 =>
    IDX i_15 4 <|
    STA 6 h ((Addr.add (Addr.add x_10 17) ((Int.toNat i_15) * 6))) a113 fun h114 =>
    CALL prg f_p_impl_roomLines_ring #[.pointer (some l_7)] (fun q115 h116 =>
    asA q115 fun a117 =>
    IDX i_15 4 <|
    STA 2 h116 ((Addr.add (Addr.add x_10 9) ((Int.toNat i_15) * 2))) a117 fun h118 =>
    N30 (text_0, t2, l_7, x_10, ((IntKind.i64.wrap (t123 + (1 : Int))))) h118) h114
def impl_ReadRoom.j35 (N30 : (ByteArray × Addr × Addr × Addr × Int) → Heap → Prop) (Post : Value → Heap → Prop) : Frame → Heap → Prop := fun fr h => GRD (shape (kds 170 [(0, .s), (2, .p), (7, .p), (10, .p), (15, .i .i64), (16, .p), (123, .i .i64)]) fr) (impl_ReadRoom.J35 N30 Post (gS (lget fr 0)) (gP (lget fr 2)) (gP (lget fr 7)) (gP (lget fr 10)) (gI (lget fr 15)) (gP (lget fr 16)) (gI (lget fr 123)) h)
def impl_ReadRoom.J39 (Post : Value → Heap → Prop) (t2 : Addr) (x_10 : Addr) (t167 : Bool) (h : Heap) : Prop :=
    BIF t167 (
    STA 47 h t2 (⟨[.slice none 0 0, .int .i64 (0 : Int), .slice none 0 0, .slice none 0 0, .int .i64 (0 : Int), .float .f32 0, .slice none 0 0, .int .i64 (0 : Int), .float .f32 0, .slice none 0 0, .int .i64 (0 : Int), .slice none 0 0, .int .i64 (0 : Int), .slice none 0 0, .int .i64 (0 : Int), .slice none 0 0, .int .i64 (0 : Int), .int .i64 (0 : Int), .float .f32 0, .float .f32 0, .float .f32 0, .float .f32 0, .float .f32 0, .int .i64 (0 : Int), .float .f32 0, .float .f32 0, .float .f32 0, .float .f32 0, .float .f32 0, .int .i64 (0 : Int), .float .f32 0, .float .f32 0, .float .f32 0, .float .f32 0, .float .f32 0, .int .i64 (0 : Int), .float .f32 0, .float .f32 0, .float .f32 0, .float .f32 0, .float .f32 0, .float .f32 0, .float .f32 0, .float .f32 0, .float .f32 0, .float .f32 0, .float .f32 0]⟩ : Array Value) fun h119 =>
    LDA 47 h119 t2 fun a120 =>
    Post (.tuple ⟨[.agg a120, .int .i64 (5 : Int)]⟩) h119) (
    LDA 47 h x_10 fun a121 =>
    STA 47 h t2 a121 fun h122 =>
    LDA 47 h122 t2 fun a123 =>
    Post (.tuple ⟨[.agg a123, .int .i64 (0 : Int)]⟩) h122)
def impl_ReadRoom.j39 (Post : Value → Heap → Prop) : Frame → Heap → Prop := fun fr h => GRD (shape (kds 170 [(2, .p), (10, .p), (167, .b)]) fr) (impl_ReadRoom.J39 Post (gP (lget fr 2)) (gP (lget fr 10)) (gB (lget fr 167)) h)
def impl_ReadRoom.B30 (Post : Value → Heap → Prop) (N30 : (ByteArray × Addr × Addr × Addr × Int) → Heap → Prop) : ByteArray × Addr × Addr × Addr × Int → Heap → Prop
  | (text_0, t2, l_7, x_10, t123), h =>
    BIF ((decide (t123 < (4 : Int)))) (
    CALL prg f_p_impl_roomLines_number #[.pointer (some l_7)] (fun q89 h90 =>
    asF .f32 q89 fun r91 =>
    IDX t123 4 <|
    ST1 h90 ((Addr.add (Addr.add x_10 41) ((Int.toNat t123) * 1))) (.float .f32 r91) fun h92 =>
    CALL prg f_p_impl_roomLines_next #[.pointer (some l_7)] (fun q93 h94 =>
    asS q93 fun s95 =>
    CALL prg f_impl_ReadFilter #[.string s95] (fun q96 h97 =>
    TUP2 q96 fun q98 q99 =>
    asA q98 fun a100 =>
    asI .i64 q99 fun n101 =>
    ALC ⟨Z_impl_Filter⟩ T_impl_Filter (fun g102 h103 =>
    STA 6 h103 ⟨g102, 0, none⟩ a100 fun h104 =>
    oB (cell h104 (Addr.add l_7 1)) fun b105 =>
    BIF b105 (
    ST1 h104 (Addr.add l_7 1) (.bool true) fun h106 =>
    impl_ReadRoom.J35 N30 Post text_0 t2 l_7 x_10 t123 ⟨g102, 0, none⟩ t123 h106) (
    ST1 h104 (Addr.add l_7 1) (.bool (n101 != (0 : Int))) fun h107 =>
    impl_ReadRoom.J35 N30 Post text_0 t2 l_7 x_10 t123 ⟨g102, 0, none⟩ t123 h107)) h97) h94) h92) h) (
    oB (cell h (Addr.add l_7 1)) fun b108 =>
    BIF b108 (
    impl_ReadRoom.J39 Post t2 x_10 true h) (
    LDA 47 h x_10 fun a109 =>
    CALL prg f_impl_RoomText #[.agg a109] (fun q110 h111 =>
    asS q110 fun s112 =>
    impl_ReadRoom.J39 Post t2 x_10 (!(ByteArray.toList s112 == ByteArray.toList text_0)) h111) h))
def impl_ReadRoom.g30 (fr : Frame) : ByteArray × Addr × Addr × Addr × Int := ((gS (lget fr 0)), (gP (lget fr 2)), (gP (lget fr 7)), (gP (lget fr 10)), (gI (lget fr 123)))
def impl_ReadRoom.l30 (Post : Value → Heap → Prop) : Frame → Heap → Prop := fun fr h => GRD (shape (kds 170 [(0, .s), (2, .p), (7, .p), (10, .p), (123, .i .i64)]) fr) (LOOP (impl_ReadRoom.B30 Post) (impl_ReadRoom.g30 fr) h)
def impl_ReadRoom.B24 (Post : Value → Heap → Prop) (N24 : (ByteArray × Addr × Addr × Addr × Int) → Heap → Prop) : ByteArray × Addr × Addr × Addr × Int → Heap → Prop
  | (text_0, t2, l_7, x_10, t107), h =>
    BIF ((decide (t107 < (2 : Int)))) (
    CALL prg f_p_impl_roomLines_number #[.pointer (some l_7)] (fun q81 h82 =>
    asF .f32 q81 fun r83 =>
    IDX t107 2 <|
    ST1 h82 ((Addr.add ((Addr.add (Addr.add x_10 3) ((Int.toNat t107) * 3))) 2)) (.float .f32 r83) fun h84 =>
    CALL prg f_p_impl_roomLines_ring #[.pointer (some l_7)] (fun q85 h86 =>
    asA q85 fun a87 =>
    IDX t107 2 <|
    STA 2 h86 ((Addr.add (Addr.add x_10 3) ((Int.toNat t107) * 3))) a87 fun h88 =>
    N24 (text_0, t2, l_7, x_10, ((IntKind.i64.wrap (t107 + (1 : Int))))) h88) h84) h) (
    LOOP (impl_ReadRoom.B30 Post) (text_0, t2, l_7, x_10, (0 : Int)) h)
def impl_ReadRoom.g24 (fr : Frame) : ByteArray × Addr × Addr × Addr × Int := ((gS (lget fr 0)), (gP (lget fr 2)), (gP (lget fr 7)), (gP (lget fr 10)), (gI (lget fr 107)))
def impl_ReadRoom.l24 (Post : Value → Heap → Prop) : Frame → Heap → Prop := fun fr h => GRD (shape (kds 170 [(0, .s), (2, .p), (7, .p), (10, .p), (107, .i .i64)]) fr) (LOOP (impl_ReadRoom.B24 Post) (impl_ReadRoom.g24 fr) h)
def impl_ReadRoom.B14 (Post : Value → Heap → Prop) (N14 : (ByteArray × Addr × Addr × Addr × Int × Int) → Heap → Prop) : ByteArray × Addr × Addr × Addr × Int × Int → Heap → Prop
  | (text_0, t2, l_7, x_10, t62, t63), h =>
    BIF (decide (t63 < t62)) (
    oL (cell h l_7) fun l46b l46l l46c =>
    IDXS l46b (0 : Int) l46l fun p47 =>
    oS (cell h p47) fun s48 =>
    CALL prg f_strings_Split #[.string s48, .string (⟨#[32]⟩ : ByteArray)] (fun q49 h50 =>
    asL q49 fun l51b l51l l51c =>
    BIF ((l51l : Int) != (3 : Int)) (
    STA 47 h50 t2 (⟨[.slice none 0 0, .int .i64 (0 : Int), .slice none 0 0, .slice none 0 0, .int .i64 (0 : Int), .float .f32 0, .slice none 0 0, .int .i64 (0 : Int), .float .f32 0, .slice none 0 0, .int .i64 (0 : Int), .slice none 0 0, .int .i64 (0 : Int), .slice none 0 0, .int .i64 (0 : Int), .slice none 0 0, .int .i64 (0 : Int), .int .i64 (0 : Int), .float .f32 0, .float .f32 0, .float .f32 0, .float .f32 0, .float .f32 0, .int .i64 (0 : Int), .float .f32 0, .float .f32 0, .float .f32 0, .float .f32 0, .float .f32 0, .int .i64 (0 : Int), .float .f32 0, .float .f32 0, .float .f32 0, .float .f32 0, .float .f32 0, .int .i64 (0 : Int), .float .f32 0, .float .f32 0, .float .f32 0, .float .f32 0, .float .f32 0, .float .f32 0, .float .f32 0, .float .f32 0, .float .f32 0, .float .f32 0, .float .f32 0]⟩ : Array Value) fun h54 =>
    LDA 47 h54 t2 fun a55 =>
    Post (.tuple ⟨[.agg a55, .int .i64 (5 : Int)]⟩) h54) (
    IDXS l51b (1 : Int) l51l fun p56 =>
    oS (cell h50 (Addr.add p56 1)) fun s57 =>
    CALL prg f_impl_readDecimal #[.string s57] (fun q58 h59 =>
    TUP2 q58 fun q60 q61 =>
    asI .i64 q60 fun n62 =>
    asB q61 fun b63 =>
    oB (cell h59 (Addr.add l_7 1)) fun b64 =>
    BIF b64 (
    ST1 h59 (Addr.add l_7 1) (.bool true) fun h65 =>
    impl_ReadRoom.J20 N14 Post text_0 t2 l_7 x_10 n62 t62 t63 h65) (
    ST1 h59 (Addr.add l_7 1) (.bool (!b63)) fun h66 =>
    impl_ReadRoom.J20 N14 Post text_0 t2 l_7 x_10 n62 t62 t63 h66)) h50)) h) (
    CALL prg f_p_impl_roomLines_ring #[.pointer (some l_7)] (fun q67 h68 =>
    asA q67 fun a69 =>
    STA 2 h68 x_10 a69 fun h70 =>
    LOOP (impl_ReadRoom.B24 Post) (text_0, t2, l_7, x_10, (0 : Int)) h70) h)
def impl_ReadRoom.g14 (fr : Frame) : ByteArray × Addr × Addr × Addr × Int × Int := ((gS (lget fr 0)), (gP (lget fr 2)), (gP (lget fr 7)), (gP (lget fr 10)), (gI (lget fr 62)), (gI (lget fr 63)))
def impl_ReadRoom.l14 (Post : Value → Heap → Prop) : Frame → Heap → Prop := fun fr h => GRD (shape (kds 170 [(0, .s), (2, .p), (7, .p), (10, .p), (62, .i .i64), (63, .i .i64)]) fr) (LOOP (impl_ReadRoom.B14 Post) (impl_ReadRoom.g14 fr) h)
def impl_ReadRoom.J12 (Post : Value → Heap → Prop) (text_0 : ByteArray) (t2 : Addr) (taps_4 : Int) (l_7 : Addr) (numbers_9b : Option Addr) (numbers_9l : Nat) (numbers_9c : Nat) (h : Heap) : Prop :=
    IDXS numbers_9b (0 : Int) numbers_9l fun p39 =>
    oF .f32 (cell h p39) fun r40 =>
    IDXS numbers_9b (1 : Int) numbers_9l fun p41 =>
    oF .f32 (cell h (Addr.add p41 1)) fun r42 =>
    ALC ⟨Z_impl_Room⟩ T_impl_Room (fun g43 h44 =>
    PIN h (Addr.add p41 1) 1 h44 <|
    PIN h p39 1 h44 <|
    STA 47 h44 ⟨g43, 0, none⟩ (⟨[.slice none 0 0, .int .i64 (0 : Int), .slice none 0 0, .slice none 0 0, .int .i64 (0 : Int), .float .f32 0, .slice none 0 0, .int .i64 (0 : Int), .float .f32 0, .slice none 0 0, .int .i64 (0 : Int), .slice none 0 0, .int .i64 (0 : Int), .slice none 0 0, .int .i64 (0 : Int), .slice none 0 0, .int .i64 (0 : Int), .int .i64 (0 : Int), .float .f32 0, .float .f32 0, .float .f32 0, .float .f32 0, .float .f32 0, .int .i64 (0 : Int), .float .f32 0, .float .f32 0, .float .f32 0, .float .f32 0, .float .f32 0, .int .i64 (0 : Int), .float .f32 0, .float .f32 0, .float .f32 0, .float .f32 0, .float .f32 0, .int .i64 (0 : Int), .float .f32 0, .float .f32 0, .float .f32 0, .float .f32 0, .float .f32 0, .float .f32 0, .float .f32 0, .float .f32 0, .float .f32 0, .float .f32 r40, .float .f32 r42]⟩ : Array Value) fun h45 =>
    LOOP (impl_ReadRoom.B14 Post) (text_0, t2, l_7, ⟨g43, 0, none⟩, taps_4, (0 : Int)) h45) h
def impl_ReadRoom.j12 (Post : Value → Heap → Prop) : Frame → Heap → Prop := fun fr h => GRD (shape (kds 170 [(0, .s), (2, .p), (4, .i .i64), (7, .p), (9, .l)]) fr) (impl_ReadRoom.J12 Post (gS (lget fr 0)) (gP (lget fr 2)) (gI (lget fr 4)) (gP (lget fr 7)) (gLb (lget fr 9)) (gLl (lget fr 9)) (gLc (lget fr 9)) h)
def impl_ReadRoom.S (text_0 : ByteArray) (Post : Value → Heap → Prop) (h : Heap) : Prop :=
    ALC ⟨Z_impl_Room⟩ T_impl_Room (fun g1 h2 =>
    CALL prg f_strings_Count #[.string text_0, .string (⟨#[10]⟩ : ByteArray)] (fun q3 h4 =>
    asI .i64 q3 fun n5 =>
    CALL prg f_impl_within #[.int .i64 ((IntKind.i64.wrap (n5 - (18 : Int)))), .int .i64 (0 : Int), .int .i64 (6 : Int)] (fun q6 h7 =>
    asB q6 fun b8 =>
    BIF (!b8) (
    STA 47 h7 ⟨g1, 0, none⟩ (⟨[.slice none 0 0, .int .i64 (0 : Int), .slice none 0 0, .slice none 0 0, .int .i64 (0 : Int), .float .f32 0, .slice none 0 0, .int .i64 (0 : Int), .float .f32 0, .slice none 0 0, .int .i64 (0 : Int), .slice none 0 0, .int .i64 (0 : Int), .slice none 0 0, .int .i64 (0 : Int), .slice none 0 0, .int .i64 (0 : Int), .int .i64 (0 : Int), .float .f32 0, .float .f32 0, .float .f32 0, .float .f32 0, .float .f32 0, .int .i64 (0 : Int), .float .f32 0, .float .f32 0, .float .f32 0, .float .f32 0, .float .f32 0, .int .i64 (0 : Int), .float .f32 0, .float .f32 0, .float .f32 0, .float .f32 0, .float .f32 0, .int .i64 (0 : Int), .float .f32 0, .float .f32 0, .float .f32 0, .float .f32 0, .float .f32 0, .float .f32 0, .float .f32 0, .float .f32 0, .float .f32 0, .float .f32 0, .float .f32 0]⟩ : Array Value) fun h9 =>
    LDA 47 h9 ⟨g1, 0, none⟩ fun a10 =>
    Post (.tuple ⟨[.agg a10, .int .i64 (5 : Int)]⟩) h9) (
    CALL prg f_impl_linesOf #[.string text_0, .int .i64 ((IntKind.i64.wrap ((IntKind.i64.wrap (n5 - (18 : Int))) + (18 : Int))))] (fun q11 h12 =>
    TUP2 q11 fun q13 q14 =>
    asL q13 fun l15b l15l l15c =>
    asB q14 fun b16 =>
    BIF (!b16) (
    STA 47 h12 ⟨g1, 0, none⟩ (⟨[.slice none 0 0, .int .i64 (0 : Int), .slice none 0 0, .slice none 0 0, .int .i64 (0 : Int), .float .f32 0, .slice none 0 0, .int .i64 (0 : Int), .float .f32 0, .slice none 0 0, .int .i64 (0 : Int), .slice none 0 0, .int .i64 (0 : Int), .slice none 0 0, .int .i64 (0 : Int), .slice none 0 0, .int .i64 (0 : Int), .int .i64 (0 : Int), .float .f32 0, .float .f32 0, .float .f32 0, .float .f32 0, .float .f32 0, .int .i64 (0 : Int), .float .f32 0, .float .f32 0, .float .f32 0, .float .f32 0, .float .f32 0, .int .i64 (0 : Int), .float .f32 0, .float .f32 0, .float .f32 0, .float .f32 0, .float .f32 0, .int .i64 (0 : Int), .float .f32 0, .float .f32 0, .float .f32 0, .float .f32 0, .float .f32 0, .float .f32 0, .float .f32 0, .float .f32 0, .float .f32 0, .float .f32 0, .float .f32 0]⟩ : Array Value) fun h17 =>
    LDA 47 h17 ⟨g1, 0, none⟩ fun a18 =>
    Post (.tuple ⟨[.agg a18, .int .i64 (5 : Int)]⟩) h17) (
    ALC (⟨[.slice l15b l15l l15c, .bool false]⟩ : Array Value) T_impl_roomLines (fun g19 h20 =>
    CALL prg f_p_impl_roomLines_next #[.pointer (some ⟨g19, 0, none⟩)] (fun q21 h22 =>
    asS q21 fun s23 =>
    CALL prg f_strings_Split #[.string s23, .string (⟨#[32]⟩ : ByteArray)] (fun q24 h25 =>
    asL q24 fun l26b l26l l26c =>
    SLB (1 : Int) (l26l : Int) (l26c : Int) <|
    CALL prg f_impl_readSamples #[.slice (slA l26b l26c 1 1) (l26l - 1) (l26c - 1)] (fun q27 h28 =>
    TUP2 q27 fun q29 q30 =>
    asL q29 fun l31b l31l l31c =>
    asB q30 fun b32 =>
    BIF (!b32) (
    STA 47 h28 ⟨g1, 0, none⟩ (⟨[.slice none 0 0, .int .i64 (0 : Int), .slice none 0 0, .slice none 0 0, .int .i64 (0 : Int), .float .f32 0, .slice none 0 0, .int .i64 (0 : Int), .float .f32 0, .slice none 0 0, .int .i64 (0 : Int), .slice none 0 0, .int .i64 (0 : Int), .slice none 0 0, .int .i64 (0 : Int), .slice none 0 0, .int .i64 (0 : Int), .int .i64 (0 : Int), .float .f32 0, .float .f32 0, .float .f32 0, .float .f32 0, .float .f32 0, .int .i64 (0 : Int), .float .f32 0, .float .f32 0, .float .f32 0, .float .f32 0, .float .f32 0, .int .i64 (0 : Int), .float .f32 0, .float .f32 0, .float .f32 0, .float .f32 0, .float .f32 0, .int .i64 (0 : Int), .float .f32 0, .float .f32 0, .float .f32 0, .float .f32 0, .float .f32 0, .float .f32 0, .float .f32 0, .float .f32 0, .float .f32 0, .float .f32 0, .float .f32 0]⟩ : Array Value) fun h33 =>
    LDA 47 h33 ⟨g1, 0, none⟩ fun a34 =>
    Post (.tuple ⟨[.agg a34, .int .i64 (5 : Int)]⟩) h33) (
    BIF ((l31l : Int) != (2 : Int)) (
    STA 47 h28 ⟨g1, 0, none⟩ (⟨[.slice none 0 0, .int .i64 (0 : Int), .slice none 0 0, .slice none 0 0, .int .i64 (0 : Int), .float .f32 0, .slice none 0 0, .int .i64 (0 : Int), .float .f32 0, .slice none 0 0, .int .i64 (0 : Int), .slice none 0 0, .int .i64 (0 : Int), .slice none 0 0, .int .i64 (0 : Int), .slice none 0 0, .int .i64 (0 : Int), .int .i64 (0 : Int), .float .f32 0, .float .f32 0, .float .f32 0, .float .f32 0, .float .f32 0, .int .i64 (0 : Int), .float .f32 0, .float .f32 0, .float .f32 0, .float .f32 0, .float .f32 0, .int .i64 (0 : Int), .float .f32 0, .float .f32 0, .float .f32 0, .float .f32 0, .float .f32 0, .int .i64 (0 : Int), .float .f32 0, .float .f32 0, .float .f32 0, .float .f32 0, .float .f32 0, .float .f32 0, .float .f32 0, .float .f32 0, .float .f32 0, .float .f32 0, .float .f32 0]⟩ : Array Value) fun h37 =>
    LDA 47 h37 ⟨g1, 0, none⟩ fun a38 =>
    Post (.tuple ⟨[.agg a38, .int .i64 (5 : Int)]⟩) h37) (
    impl_ReadRoom.J12 Post text_0 ⟨g1, 0, none⟩ ((IntKind.i64.wrap (n5 - (18 : Int)))) ⟨g19, 0, none⟩ l31b l31l l31c h28))) h25) h22) h20) h12)) h7)) h4) h2) h
noncomputable def impl_ReadRoom.code : Code := (Tryz.f25.body).getD .skip
theorem impl_ReadRoom.call {text_0 : ByteArray} {Post : Value → Heap → Prop} {h : Heap} (H : impl_ReadRoom.S text_0 Post h) : CALL prg f_impl_ReadRoom #[.string text_0] Post h :=
  fn_call tau_ok mixed (c := impl_ReadRoom.code) (Λ := lookL [(12, impl_ReadRoom.j12 Post), (1000014, impl_ReadRoom.l14 Post), (1000024, impl_ReadRoom.l24 Post), (1000030, impl_ReadRoom.l30 Post), (39, impl_ReadRoom.j39 Post)]) Tryz.func25 (by kernel_rfl) (by kernel_rfl)
    (Rq.seq (by kernel_rfl) (Rq.free (by kernel_rfl)) (Rq.seq (by kernel_rfl) (Rq.free (by kernel_rfl)) (Rq.seq (by kernel_rfl) (Rq.free (by kernel_rfl)) (Rq.seq (by kernel_rfl) (Rq.free (by kernel_rfl)) (Rq.seq (by kernel_rfl) (Rq.free (by kernel_rfl)) (Rq.seq (by kernel_rfl) (Rq.free (by kernel_rfl)) (Rq.seq (by kernel_rfl) (Rq.free (by kernel_rfl)) (Rq.seq (by kernel_rfl) (Rq.free (by kernel_rfl)) (Rq.seqJ (impl_ReadRoom.j12 Post) (by kernel_rfl) (seg (fun _ _ => by kernel_rfl)) (Rq.free (by kernel_rfl))
(Rq.seq (by kernel_rfl) (Rq.free (by kernel_rfl)) (Rq.seq (by kernel_rfl) (Rq.seq (by kernel_rfl) (Rq.free (by kernel_rfl)) (Rq.block (Rq.loop (impl_ReadRoom.l14 Post) (by kernel_rfl) (segL (g := impl_ReadRoom.g14) tau_ok mixed (Λ := fun N14 => lookL [(20, impl_ReadRoom.j20 N14 Post)]) (fun _ _ _ => by kernel_rfl) (fun N14 => (Rq.seq (by kernel_rfl) (Rq.free (by kernel_rfl)) (Rq.seq (by kernel_rfl) (Rq.free (by kernel_rfl)) (Rq.seq (by kernel_rfl) (Rq.block (Rq.seq (by kernel_rfl) (Rq.free (by kernel_rfl)) (Rq.seq (by kernel_rfl) (Rq.free (by kernel_rfl)) (Rq.seq (by kernel_rfl) (Rq.free (by kernel_rfl)) (Rq.seqJ (impl_ReadRoom.j20 N14 Post) (by kernel_rfl) (seg (fun _ _ => by kernel_rfl)) (Rq.free (by kernel_rfl))
(Rq.free (by kernel_rfl))))))) (Rq.free (by kernel_rfl)))))))))) (Rq.seq (by kernel_rfl) (Rq.free (by kernel_rfl)) (Rq.seq (by kernel_rfl) (Rq.seq (by kernel_rfl) (Rq.free (by kernel_rfl)) (Rq.block (Rq.loop (impl_ReadRoom.l24 Post) (by kernel_rfl) (segL (g := impl_ReadRoom.g24) tau_ok mixed (Λ := fun N24 => lookL []) (fun _ _ _ => by kernel_rfl) (fun N24 => (Rq.free (by kernel_rfl))))))) (Rq.seq (by kernel_rfl) (Rq.seq (by kernel_rfl) (Rq.free (by kernel_rfl)) (Rq.block (Rq.loop (impl_ReadRoom.l30 Post) (by kernel_rfl) (segL (g := impl_ReadRoom.g30) tau_ok mixed (Λ := fun N30 => lookL [(35, impl_ReadRoom.j35 N30 Post)]) (fun _ _ _ => by kernel_rfl) (fun N30 => (Rq.seq (by kernel_rfl) (Rq.free (by kernel_rfl)) (Rq.seq (by kernel_rfl) (Rq.free (by kernel_rfl)) (Rq.seq (by kernel_rfl) (Rq.block (Rq.seq (by kernel_rfl) (Rq.free (by kernel_rfl)) (Rq.seq (by kernel_rfl) (Rq.free (by kernel_rfl)) (Rq.seq (by kernel_rfl) (Rq.free (by kernel_rfl)) (Rq.seqJ (impl_ReadRoom.j35 N30 Post) (by kernel_rfl) (seg (fun _ _ => by kernel_rfl)) (Rq.free (by kernel_rfl))
(Rq.free (by kernel_rfl))))))) (Rq.free (by kernel_rfl)))))))))) (Rq.seq (by kernel_rfl) (Rq.seqJ (impl_ReadRoom.j39 Post) (by kernel_rfl) (seg (fun _ _ => by kernel_rfl)) (Rq.free (by kernel_rfl))
(Rq.free (by kernel_rfl))) (Rq.free (by kernel_rfl)))))))))))))))))
    (Eq.mp (by kernel_rfl) H)

end Go.Sx
