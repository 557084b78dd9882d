/- What functions of this seat's program compute, told in words (a predicate over heaps for each), and the proofs that the words are no more than the code's own weakest precondition. -/
import Derived.Test.YtkgmfiloghhibaaGreatDoorTab
namespace Go.Sx
open Go.Proofs
set_option linter.unusedVariables false
set_option maxRecDepth 100000

def impl_PipeText.B14 (Post : Value → Heap → Prop) (N14 : (ByteArray × Option Addr × Nat × Nat × Int × Int) → Heap → Prop) : ByteArray × Option Addr × Nat × Nat × Int × Int → Heap → Prop
  | (text_4, t47b, t47l, t47c, t48, t49), h =>
    BIF (decide (t49 < t48)) (
    IDXS t47b t49 t47l fun p33 =>
    oP (cell h ((Addr.add p33 ((Int.toNat t49) * 1)))) fun p34 =>
    LDA 2 h p34 fun a35 =>
    CALL prg f_impl_ringText #[.agg a35] (fun q36 h37 =>
    asS q36 fun s38 =>
    ((ByteArray.size s38 + ByteArray.size (⟨#[10]⟩ : ByteArray) : Nat) : Int) ≤ 9223372036854775807 ∧ (
    ((ByteArray.size text_4 + ByteArray.size (s38 ++ (⟨#[10]⟩ : ByteArray)) : Nat) : Int) ≤ 9223372036854775807 ∧ (
    N14 (((text_4 ++ (s38 ++ (⟨#[10]⟩ : ByteArray)))), t47b, t47l, t47c, t48, ((IntKind.i64.wrap (t49 + (1 : Int))))) h37))) h) (
    Post (.string text_4) h)
def impl_PipeText.g14 (fr : Frame) : ByteArray × Option Addr × Nat × Nat × Int × Int := ((gS (lget fr 4)), (gLb (lget fr 47)), (gLl (lget fr 47)), (gLc (lget fr 47)), (gI (lget fr 48)), (gI (lget fr 49)))
def impl_PipeText.l14 (Post : Value → Heap → Prop) : Frame → Heap → Prop := fun fr h => GRD (shape (kds 62 [(4, .s), (47, .l), (48, .i .i64), (49, .i .i64)]) fr) (LOOP (impl_PipeText.B14 Post) (impl_PipeText.g14 fr) h)
def impl_PipeText.B8 (Post : Value → Heap → Prop) (N8 : (Addr × ByteArray × Option Addr × Nat × Nat × Int × Int) → Heap → Prop) : Addr × ByteArray × Option Addr × Nat × Nat × Int × Int → Heap → Prop
  | (x_1, text_4, t28b, t28l, t28c, t29, t30), h =>
    BIF (decide (t30 < t29)) (
    IDXS t28b t30 t28l fun p19 =>
    oF .f32 (cell h ((Addr.add p19 ((Int.toNat t30) * 1)))) fun r20 =>
    CALL prg f_impl_bitsText #[.float .f32 r20] (fun q21 h22 =>
    asS q21 fun s23 =>
    ((ByteArray.size (⟨#[32]⟩ : ByteArray) + ByteArray.size s23 : Nat) : Int) ≤ 9223372036854775807 ∧ (
    ((ByteArray.size text_4 + ByteArray.size ((⟨#[32]⟩ : ByteArray) ++ s23) : Nat) : Int) ≤ 9223372036854775807 ∧ (
    N8 (x_1, ((text_4 ++ ((⟨#[32]⟩ : ByteArray) ++ s23))), t28b, t28l, t28c, t29, ((IntKind.i64.wrap (t30 + (1 : Int))))) h22))) h) (
    LDA 6 h (Addr.add x_1 3) fun a24 =>
    CALL prg f_impl_FilterText #[.agg a24] (fun q25 h26 =>
    asS q25 fun s27 =>
    ((ByteArray.size (⟨#[10]⟩ : ByteArray) + ByteArray.size s27 : Nat) : Int) ≤ 9223372036854775807 ∧ (
    ((ByteArray.size ((⟨#[10]⟩ : ByteArray) ++ s27) + ByteArray.size (⟨#[10]⟩ : ByteArray) : Nat) : Int) ≤ 9223372036854775807 ∧ (
    ((ByteArray.size text_4 + ByteArray.size ((((⟨#[10]⟩ : ByteArray) ++ s27) ++ (⟨#[10]⟩ : ByteArray))) : Nat) : Int) ≤ 9223372036854775807 ∧ (
    CALL prg f_p_impl_Pipe_rings #[.pointer (some x_1)] (fun q28 h29 =>
    asL q28 fun l30b l30l l30c =>
    LOOP (impl_PipeText.B14 Post) (((text_4 ++ (((⟨#[10]⟩ : ByteArray) ++ s27) ++ (⟨#[10]⟩ : ByteArray)))), l30b, l30l, l30c, (l30l : Int), (0 : Int)) h29) h26)))) h)
def impl_PipeText.g8 (fr : Frame) : Addr × ByteArray × Option Addr × Nat × Nat × Int × Int := ((gP (lget fr 1)), (gS (lget fr 4)), (gLb (lget fr 28)), (gLl (lget fr 28)), (gLc (lget fr 28)), (gI (lget fr 29)), (gI (lget fr 30)))
def impl_PipeText.l8 (Post : Value → Heap → Prop) : Frame → Heap → Prop := fun fr h => GRD (shape (kds 62 [(1, .p), (4, .s), (28, .l), (29, .i .i64), (30, .i .i64)]) fr) (LOOP (impl_PipeText.B8 Post) (impl_PipeText.g8 fr) h)
def impl_PipeText.J6 (Post : Value → Heap → Prop) (x_1 : Addr) (kind_3 : ByteArray) (h : Heap) : Prop :=
    ((ByteArray.size (⟨#[112, 105, 112, 101, 32]⟩ : ByteArray) + ByteArray.size kind_3 : Nat) : Int) ≤ 9223372036854775807 ∧ (
    ((ByteArray.size ((⟨#[112, 105, 112, 101, 32]⟩ : ByteArray) ++ kind_3) + ByteArray.size (⟨#[32]⟩ : ByteArray) : Nat) : Int) ≤ 9223372036854775807 ∧ (
    oF .f32 (cell h (Addr.add x_1 10)) fun r8 =>
    oF .f32 (cell h (Addr.add x_1 11)) fun r9 =>
    oF .f32 (cell h (Addr.add x_1 12)) fun r10 =>
    ALC ⟨[.float .f32 r8, .float .f32 r9, .float .f32 r10]⟩ T_float32 (fun g11 h12 =>
    CALL prg f_impl_samplesText #[.slice (some ⟨g11, 0, none⟩) 3 3] (fun q13 h14 =>
    asS q13 fun s15 =>
    ((ByteArray.size ((((⟨#[112, 105, 112, 101, 32]⟩ : ByteArray) ++ kind_3) ++ (⟨#[32]⟩ : ByteArray))) + ByteArray.size s15 : Nat) : Int) ≤ 9223372036854775807 ∧ (
    ((ByteArray.size (((((⟨#[112, 105, 112, 101, 32]⟩ : ByteArray) ++ kind_3) ++ (⟨#[32]⟩ : ByteArray)) ++ s15)) + ByteArray.size (⟨#[10, 115, 99, 97, 116, 116, 101, 114]⟩ : ByteArray) : Nat) : Int) ≤ 9223372036854775807 ∧ (
    oL (cell h14 (Addr.add x_1 2)) fun l16b l16l l16c =>
    LOOP (impl_PipeText.B8 Post) (x_1, ((((((⟨#[112, 105, 112, 101, 32]⟩ : ByteArray) ++ kind_3) ++ (⟨#[32]⟩ : ByteArray)) ++ s15) ++ (⟨#[10, 115, 99, 97, 116, 116, 101, 114]⟩ : ByteArray))), l16b, l16l, l16c, (l16l : Int), (0 : Int)) h14))) h12) h))
def impl_PipeText.j6 (Post : Value → Heap → Prop) : Frame → Heap → Prop := fun fr h => GRD (shape (kds 62 [(1, .p), (3, .s)]) fr) (impl_PipeText.J6 Post (gP (lget fr 1)) (gS (lget fr 3)) h)
def impl_PipeText.S (x_0 : Array Value) (Post : Value → Heap → Prop) (h : Heap) : Prop :=
    ALC x_0 T_impl_Pipe (fun g1 h2 =>
    LDA 13 h2 ⟨g1, 0, none⟩ fun a3 =>
    CALL prg f_impl_ValidPipe #[.agg a3] (fun q4 h5 =>
    asB q4 fun b6 =>
    BIF (!b6) (
    Post (.string (⟨#[]⟩ : ByteArray)) h5) (
    oB (cell h5 ⟨g1, 9, none⟩) fun b7 =>
    BIF b7 (
    impl_PipeText.J6 Post ⟨g1, 0, none⟩ (⟨#[111, 112, 101, 110]⟩ : ByteArray) h5) (
    impl_PipeText.J6 Post ⟨g1, 0, none⟩ (⟨#[99, 108, 111, 115, 101, 100]⟩ : ByteArray) h5))) h2) h
noncomputable def impl_PipeText.code : Code := (Tryz.f8.body).getD .skip
theorem impl_PipeText.call {x_0 : Array Value} {Post : Value → Heap → Prop} {h : Heap} (H : impl_PipeText.S x_0 Post h) : CALL prg f_impl_PipeText #[.agg x_0] Post h :=
  fn_call tau_ok mixed (c := impl_PipeText.code) (Λ := lookL [(6, impl_PipeText.j6 Post), (1000008, impl_PipeText.l8 Post), (1000014, impl_PipeText.l14 Post)]) Tryz.func8 (by kernel_rfl) (by kernel_rfl)
    (Rq.seq (by kernel_rfl) (Rq.free (by kernel_rfl)) (Rq.seq (by kernel_rfl) (Rq.free (by kernel_rfl)) (Rq.seq (by kernel_rfl) (Rq.free (by kernel_rfl)) (Rq.seqJ (impl_PipeText.j6 Post) (by kernel_rfl) (seg (fun _ _ => by kernel_rfl)) (Rq.free (by kernel_rfl))
(Rq.seq (by kernel_rfl) (Rq.free (by kernel_rfl)) (Rq.seq (by kernel_rfl) (Rq.seq (by kernel_rfl) (Rq.free (by kernel_rfl)) (Rq.block (Rq.loop (impl_PipeText.l8 Post) (by kernel_rfl) (segL (g := impl_PipeText.g8) tau_ok mixed (Λ := fun N8 => lookL []) (fun _ _ _ => by kernel_rfl) (fun N8 => (Rq.free (by kernel_rfl))))))) (Rq.seq (by kernel_rfl) (Rq.free (by kernel_rfl)) (Rq.seq (by kernel_rfl) (Rq.seq (by kernel_rfl) (Rq.free (by kernel_rfl)) (Rq.block (Rq.loop (impl_PipeText.l14 Post) (by kernel_rfl) (segL (g := impl_PipeText.g14) tau_ok mixed (Λ := fun N14 => lookL []) (fun _ _ _ => by kernel_rfl) (fun N14 => (Rq.free (by kernel_rfl))))))) (Rq.free (by kernel_rfl))))))))))
    (Eq.mp (by kernel_rfl) H)

def impl_ReadPipe.B15 (Post : Value → Heap → Prop) (N15 : (ByteArray × Addr × Addr × Option Addr × Nat × Nat × Int × Int) → Heap → Prop) : ByteArray × Addr × Addr × Option Addr × Nat × Nat × Int × Int → Heap → Prop
  | (text_0, t2, x_14, t97b, t97l, t97c, t98, t99), h =>
    BIF (decide (t99 < t98)) (
    IDXS t97b t99 t97l fun p76 =>
    oS (cell h ((Addr.add p76 ((Int.toNat t99) * 1)))) fun s77 =>
    CALL prg f_impl_readRing #[.string s77] (fun q78 h79 =>
    TUP2 q78 fun q80 q81 =>
    asA q80 fun a82 =>
    asB q81 fun b83 =>
    ALC ⟨Z_impl_Ring⟩ T_impl_Ring (fun g84 h85 =>
    STA 2 h85 ⟨g84, 0, none⟩ a82 fun h86 =>
    BIF (!b83) (
    STA 13 h86 t2 (⟨[.slice none 0 0, .slice none 0 0, .slice none 0 0, .int .i64 (0 : Int), .float .f32 0, .float .f32 0, .float .f32 0, .float .f32 0, .float .f32 0, .bool false, .float .f32 0, .float .f32 0, .float .f32 0]⟩ : Array Value) fun h87 =>
    LDA 13 h87 t2 fun a88 =>
    Post (.tuple ⟨[.agg a88, .int .i64 (5 : Int)]⟩) h87) (
    NZ (2 : Int) <|
    BIF (((Int.tmod t99 (2 : Int)) == (0 : Int))) (
    oL (cell h86 x_14) fun l89b l89l l89c =>
    LDA 2 h86 ⟨g84, 0, none⟩ fun a90 =>
    SIZ (Array.size a90) 2 <|
    ALC ⟨(splice 0 2 a90 [.slice none 0 0, .int .i64 (0 : Int)])⟩ T_impl_Ring (fun g91 h92 =>
    SEMV prg (Builtin.append_ #[T_sl_impl_Ring, T_sl_impl_Ring] T_sl_impl_Ring #[.slice l89b l89l l89c, .slice (some ⟨g91, 0, none⟩) 1 1]) (fun q93 h94 =>
    asL q93 fun l95b l95l l95c =>
    ST1 h94 x_14 (.slice l95b l95l l95c) fun h96 =>
    N15 (text_0, t2, x_14, t97b, t97l, t97c, t98, ((IntKind.i64.wrap (t99 + (1 : Int))))) h96) h92) h86) (
    oL (cell h86 (Addr.add x_14 1)) fun l97b l97l l97c =>
    LDA 2 h86 ⟨g84, 0, none⟩ fun a98 =>
    SIZ (Array.size a98) 2 <|
    ALC ⟨(splice 0 2 a98 [.slice none 0 0, .int .i64 (0 : Int)])⟩ T_impl_Ring (fun g99 h100 =>
    SEMV prg (Builtin.append_ #[T_sl_impl_Ring, T_sl_impl_Ring] T_sl_impl_Ring #[.slice l97b l97l l97c, .slice (some ⟨g99, 0, none⟩) 1 1]) (fun q101 h102 =>
    asL q101 fun l103b l103l l103c =>
    ST1 h102 (Addr.add x_14 1) (.slice l103b l103l l103c) fun h104 =>
    N15 (text_0, t2, x_14, t97b, t97l, t97c, t98, ((IntKind.i64.wrap (t99 + (1 : Int))))) h104) h100) h86))) h79) h) (
    LDA 13 h x_14 fun a105 =>
    CALL prg f_impl_PipeText #[.agg a105] (fun q106 h107 =>
    asS q106 fun s108 =>
    BIF (!(ByteArray.toList s108 == ByteArray.toList text_0)) (
    STA 13 h107 t2 (⟨[.slice none 0 0, .slice none 0 0, .slice none 0 0, .int .i64 (0 : Int), .float .f32 0, .float .f32 0, .float .f32 0, .float .f32 0, .float .f32 0, .bool false, .float .f32 0, .float .f32 0, .float .f32 0]⟩ : Array Value) fun h109 =>
    LDA 13 h109 t2 fun a110 =>
    Post (.tuple ⟨[.agg a110, .int .i64 (5 : Int)]⟩) h109) (
    LDA 13 h107 x_14 fun a111 =>
    STA 13 h107 t2 a111 fun h112 =>
    LDA 13 h112 t2 fun a113 =>
    Post (.tuple ⟨[.agg a113, .int .i64 (0 : Int)]⟩) h112)) h)
def impl_ReadPipe.g15 (fr : Frame) : ByteArray × Addr × Addr × Option Addr × Nat × Nat × Int × Int := ((gS (lget fr 0)), (gP (lget fr 2)), (gP (lget fr 14)), (gLb (lget fr 97)), (gLl (lget fr 97)), (gLc (lget fr 97)), (gI (lget fr 98)), (gI (lget fr 99)))
def impl_ReadPipe.l15 (Post : Value → Heap → Prop) : Frame → Heap → Prop := fun fr h => GRD (shape (kds 134 [(0, .s), (2, .p), (14, .p), (97, .l), (98, .i .i64), (99, .i .i64)]) fr) (LOOP (impl_ReadPipe.B15 Post) (impl_ReadPipe.g15 fr) h)
def impl_ReadPipe.J13 (Post : Value → Heap → Prop) (text_0 : ByteArray) (t2 : Addr) (lines_5b : Option Addr) (lines_5l : Nat) (lines_5c : Nat) (words_7b : Option Addr) (words_7l : Nat) (words_7c : Nat) (numbers_8b : Option Addr) (numbers_8l : Nat) (numbers_8c : Nat) (scatter_10b : Option Addr) (scatter_10l : Nat) (scatter_10c : Nat) (end_12 : Addr) (h : Heap) : Prop :=
    LDA 6 h end_12 fun a62 =>
    IDXS words_7b (1 : Int) words_7l fun p63 =>
    oS (cell h (Addr.add p63 1)) fun s64 =>
    IDXS numbers_8b (0 : Int) numbers_8l fun p65 =>
    oF .f32 (cell h p65) fun r66 =>
    IDXS numbers_8b (1 : Int) numbers_8l fun p67 =>
    oF .f32 (cell h (Addr.add p67 1)) fun r68 =>
    IDXS numbers_8b (2 : Int) numbers_8l fun p69 =>
    oF .f32 (cell h (Addr.add p69 2)) fun r70 =>
    SIZ (Array.size a62) 6 <|
    ALC ⟨Z_impl_Pipe⟩ T_impl_Pipe (fun g71 h72 =>
    PIN h (Addr.add p69 2) 1 h72 <|
    PIN h (Addr.add p67 1) 1 h72 <|
    PIN h p65 1 h72 <|
    PIN h (Addr.add p63 1) 1 h72 <|
    PIN h end_12 6 h72 <|
    STA 13 h72 ⟨g71, 0, none⟩ (⟨(List.set (List.set (List.set (List.set (splice 3 6 a62 [.slice none 0 0, .slice none 0 0, .slice scatter_10b scatter_10l scatter_10c, .int .i64 (0 : Int), .float .f32 0, .float .f32 0, .float .f32 0, .float .f32 0, .float .f32 0, .bool false, .float .f32 0, .float .f32 0, .float .f32 0]) 9 (.bool (ByteArray.toList s64 == ByteArray.toList (⟨#[111, 112, 101, 110]⟩ : ByteArray)))) 10 (.float .f32 r66)) 11 (.float .f32 r68)) 12 (.float .f32 r70))⟩) fun h73 =>
    SLB (3 : Int) (lines_5l : Int) (lines_5c : Int) <|
    LOOP (impl_ReadPipe.B15 Post) (text_0, t2, ⟨g71, 0, none⟩, (slA lines_5b lines_5c 3 1), (lines_5l - 3), (lines_5c - 3), ((((lines_5l - 3) : Nat) : Int)), (0 : Int)) h73) h
def impl_ReadPipe.j13 (Post : Value → Heap → Prop) : Frame → Heap → Prop := fun fr h => GRD (shape (kds 134 [(0, .s), (2, .p), (5, .l), (7, .l), (8, .l), (10, .l), (12, .p)]) fr) (impl_ReadPipe.J13 Post (gS (lget fr 0)) (gP (lget fr 2)) (gLb (lget fr 5)) (gLl (lget fr 5)) (gLc (lget fr 5)) (gLb (lget fr 7)) (gLl (lget fr 7)) (gLc (lget fr 7)) (gLb (lget fr 8)) (gLl (lget fr 8)) (gLc (lget fr 8)) (gLb (lget fr 10)) (gLl (lget fr 10)) (gLc (lget fr 10)) (gP (lget fr 12)) h)
def impl_ReadPipe.J5 (Post : Value → Heap → Prop) (text_0 : ByteArray) (t2 : Addr) (lines_5b : Option Addr) (lines_5l : Nat) (lines_5c : Nat) (h : Heap) : Prop :=
    IDXS lines_5b (0 : Int) lines_5l fun p19 =>
    oS (cell h p19) fun s20 =>
    CALL prg f_strings_Split #[.string s20, .string (⟨#[32]⟩ : ByteArray)] (fun q21 h22 =>
    asL q21 fun l23b l23l l23c =>
    BIF ((l23l : Int) != (5 : Int)) (
    STA 13 h22 t2 (⟨[.slice none 0 0, .slice none 0 0, .slice none 0 0, .int .i64 (0 : Int), .float .f32 0, .float .f32 0, .float .f32 0, .float .f32 0, .float .f32 0, .bool false, .float .f32 0, .float .f32 0, .float .f32 0]⟩ : Array Value) fun h26 =>
    LDA 13 h26 t2 fun a27 =>
    Post (.tuple ⟨[.agg a27, .int .i64 (5 : Int)]⟩) h26) (
    SLB (2 : Int) (l23l : Int) (l23c : Int) <|
    CALL prg f_impl_readSamples #[.slice (slA l23b l23c 2 1) (l23l - 2) (l23c - 2)] (fun q28 h29 =>
    TUP2 q28 fun q30 q31 =>
    asL q30 fun l32b l32l l32c =>
    asB q31 fun b33 =>
    IDXS lines_5b (1 : Int) lines_5l fun p34 =>
    oS (cell h29 (Addr.add p34 1)) fun s35 =>
    CALL prg f_strings_Split #[.string s35, .string (⟨#[32]⟩ : ByteArray)] (fun q36 h37 =>
    asL q36 fun l38b l38l l38c =>
    SLB (1 : Int) (l38l : Int) (l38c : Int) <|
    CALL prg f_impl_readSamples #[.slice (slA l38b l38c 1 1) (l38l - 1) (l38c - 1)] (fun q39 h40 =>
    TUP2 q39 fun q41 q42 =>
    asL q41 fun l43b l43l l43c =>
    asB q42 fun b44 =>
    IDXS lines_5b (2 : Int) lines_5l fun p45 =>
    oS (cell h40 (Addr.add p45 2)) fun s46 =>
    CALL prg f_impl_ReadFilter #[.string s46] (fun q47 h48 =>
    TUP2 q47 fun q49 q50 =>
    asA q49 fun a51 =>
    asI .i64 q50 fun n52 =>
    ALC ⟨Z_impl_Filter⟩ T_impl_Filter (fun g53 h54 =>
    STA 6 h54 ⟨g53, 0, none⟩ a51 fun h55 =>
    BIF (!b33) (
    STA 13 h55 t2 (⟨[.slice none 0 0, .slice none 0 0, .slice none 0 0, .int .i64 (0 : Int), .float .f32 0, .float .f32 0, .float .f32 0, .float .f32 0, .float .f32 0, .bool false, .float .f32 0, .float .f32 0, .float .f32 0]⟩ : Array Value) fun h56 =>
    LDA 13 h56 t2 fun a57 =>
    Post (.tuple ⟨[.agg a57, .int .i64 (5 : Int)]⟩) h56) (
    BIF (!b44) (
    STA 13 h55 t2 (⟨[.slice none 0 0, .slice none 0 0, .slice none 0 0, .int .i64 (0 : Int), .float .f32 0, .float .f32 0, .float .f32 0, .float .f32 0, .float .f32 0, .bool false, .float .f32 0, .float .f32 0, .float .f32 0]⟩ : Array Value) fun h58 =>
    LDA 13 h58 t2 fun a59 =>
    Post (.tuple ⟨[.agg a59, .int .i64 (5 : Int)]⟩) h58) (
    BIF (n52 != (0 : Int)) (
    STA 13 h55 t2 (⟨[.slice none 0 0, .slice none 0 0, .slice none 0 0, .int .i64 (0 : Int), .float .f32 0, .float .f32 0, .float .f32 0, .float .f32 0, .float .f32 0, .bool false, .float .f32 0, .float .f32 0, .float .f32 0]⟩ : Array Value) fun h60 =>
    LDA 13 h60 t2 fun a61 =>
    Post (.tuple ⟨[.agg a61, .int .i64 (5 : Int)]⟩) h60) (
    impl_ReadPipe.J13 Post text_0 t2 lines_5b lines_5l lines_5c l23b l23l l23c l32b l32l l32c l43b l43l l43c ⟨g53, 0, none⟩ h55)))) h48) h40) h37) h29) h22)) h
def impl_ReadPipe.j5 (Post : Value → Heap → Prop) : Frame → Heap → Prop := fun fr h => GRD (shape (kds 134 [(0, .s), (2, .p), (5, .l)]) fr) (impl_ReadPipe.J5 Post (gS (lget fr 0)) (gP (lget fr 2)) (gLb (lget fr 5)) (gLl (lget fr 5)) (gLc (lget fr 5)) h)
def impl_ReadPipe.S (text_0 : ByteArray) (Post : Value → Heap → Prop) (h : Heap) : Prop :=
    ALC ⟨Z_impl_Pipe⟩ T_impl_Pipe (fun g1 h2 =>
    CALL prg f_strings_Count #[.string text_0, .string (⟨#[10]⟩ : ByteArray)] (fun q3 h4 =>
    asI .i64 q3 fun n5 =>
    NZ (2 : Int) <|
    CALL prg f_impl_linesOf #[.string text_0, .int .i64 ((IntKind.i64.wrap ((IntKind.i64.wrap ((2 : Int) * (IntKind.i64.wrap (Int.tdiv ((IntKind.i64.wrap (n5 - (3 : Int)))) (2 : Int))))) + (3 : Int))))] (fun q6 h7 =>
    TUP2 q6 fun q8 q9 =>
    asL q8 fun l10b l10l l10c =>
    asB q9 fun b11 =>
    BIF (!b11) (
    STA 13 h7 ⟨g1, 0, none⟩ (⟨[.slice none 0 0, .slice none 0 0, .slice none 0 0, .int .i64 (0 : Int), .float .f32 0, .float .f32 0, .float .f32 0, .float .f32 0, .float .f32 0, .bool false, .float .f32 0, .float .f32 0, .float .f32 0]⟩ : Array Value) fun h12 =>
    LDA 13 h12 ⟨g1, 0, none⟩ fun a13 =>
    Post (.tuple ⟨[.agg a13, .int .i64 (5 : Int)]⟩) h12) (
    CALL prg f_impl_within #[.int .i64 ((IntKind.i64.wrap (Int.tdiv ((IntKind.i64.wrap (n5 - (3 : Int)))) (2 : Int)))), .int .i64 (1 : Int), .int .i64 (3 : Int)] (fun q14 h15 =>
    asB q14 fun b16 =>
    BIF (!b16) (
    STA 13 h15 ⟨g1, 0, none⟩ (⟨[.slice none 0 0, .slice none 0 0, .slice none 0 0, .int .i64 (0 : Int), .float .f32 0, .float .f32 0, .float .f32 0, .float .f32 0, .float .f32 0, .bool false, .float .f32 0, .float .f32 0, .float .f32 0]⟩ : Array Value) fun h17 =>
    LDA 13 h17 ⟨g1, 0, none⟩ fun a18 =>
    Post (.tuple ⟨[.agg a18, .int .i64 (5 : Int)]⟩) h17) (
    impl_ReadPipe.J5 Post text_0 ⟨g1, 0, none⟩ l10b l10l l10c h15)) h7)) h4) h2) h
noncomputable def impl_ReadPipe.code : Code := (Tryz.f7.body).getD .skip
theorem impl_ReadPipe.call {text_0 : ByteArray} {Post : Value → Heap → Prop} {h : Heap} (H : impl_ReadPipe.S text_0 Post h) : CALL prg f_impl_ReadPipe #[.string text_0] Post h :=
  fn_call tau_ok mixed (c := impl_ReadPipe.code) (Λ := lookL [(5, impl_ReadPipe.j5 Post), (13, impl_ReadPipe.j13 Post), (1000015, impl_ReadPipe.l15 Post)]) Tryz.func7 (by kernel_rfl) (by kernel_rfl)
    (Rq.seq (by kernel_rfl) (Rq.free (by kernel_rfl)) (Rq.seq (by kernel_rfl) (Rq.free (by kernel_rfl)) (Rq.seq (by kernel_rfl) (Rq.free (by kernel_rfl)) (Rq.seqJ (impl_ReadPipe.j5 Post) (by kernel_rfl) (seg (fun _ _ => by kernel_rfl)) (Rq.free (by kernel_rfl))
(Rq.seq (by kernel_rfl) (Rq.free (by kernel_rfl)) (Rq.seq (by kernel_rfl) (Rq.free (by kernel_rfl)) (Rq.seq (by kernel_rfl) (Rq.free (by kernel_rfl)) (Rq.seq (by kernel_rfl) (Rq.free (by kernel_rfl)) (Rq.seq (by kernel_rfl) (Rq.free (by kernel_rfl)) (Rq.seqJ (impl_ReadPipe.j13 Post) (by kernel_rfl) (seg (fun _ _ => by kernel_rfl)) (Rq.free (by kernel_rfl))
(Rq.seq (by kernel_rfl) (Rq.free (by kernel_rfl)) (Rq.seq (by kernel_rfl) (Rq.seq (by kernel_rfl) (Rq.free (by kernel_rfl)) (Rq.block (Rq.loop (impl_ReadPipe.l15 Post) (by kernel_rfl) (segL (g := impl_ReadPipe.g15) tau_ok mixed (Λ := fun N15 => lookL []) (fun _ _ _ => by kernel_rfl) (fun N15 => (Rq.free (by kernel_rfl))))))) (Rq.free (by kernel_rfl))))))))))))))
    (Eq.mp (by kernel_rfl) H)

end Go.Sx
