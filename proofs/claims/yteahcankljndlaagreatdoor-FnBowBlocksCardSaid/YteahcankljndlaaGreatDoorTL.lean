/- What functions of this seat's program compute, told in words (a predicate over heaps for each), and the proofs that the words are no more than the code's own weakest precondition. -/
import Derived.Test.YteahcankljndlaaGreatDoorTab
namespace Go.Sx
open Go.Proofs
set_option linter.unusedVariables false
set_option maxRecDepth 100000

def impl_ringText.S (r_0 : Array Value) (Post : Value → Heap → Prop) (h : Heap) : Prop :=
    ALC r_0 T_impl_Ring (fun g1 h2 =>
    oL (cell h2 ⟨g1, 0, none⟩) fun l3b l3l l3c =>
    oI .i64 (cell h2 ⟨g1, 1, none⟩) fun n4 =>
    oL (cell h2 ⟨g1, 0, none⟩) fun l5b l5l l5c =>
    CALL prg f_impl_length_float32 #[.slice l3b l3l l3c] (fun q6 h7 =>
    asI .i64 q6 fun n8 =>
    PIN h2 ⟨g1, 0, none⟩ 1 h7 <|
    PIN h2 ⟨g1, 1, none⟩ 1 h7 <|
    CALL prg f_impl_decimal #[.int .i64 n8] (fun q9 h10 =>
    asS q9 fun s11 =>
    PIN h2 ⟨g1, 0, none⟩ 1 h10 <|
    PIN h2 ⟨g1, 1, none⟩ 1 h10 <|
    ((ByteArray.size s11 + ByteArray.size (⟨#[32]⟩ : ByteArray) : Nat) : Int) ≤ 9223372036854775807 ∧ (
    CALL prg f_impl_decimal #[.int .i64 n4] (fun q12 h13 =>
    asS q12 fun s14 =>
    PIN h2 ⟨g1, 0, none⟩ 1 h13 <|
    ((ByteArray.size (s11 ++ (⟨#[32]⟩ : ByteArray)) + ByteArray.size s14 : Nat) : Int) ≤ 9223372036854775807 ∧ (
    ((ByteArray.size (((s11 ++ (⟨#[32]⟩ : ByteArray)) ++ s14)) + ByteArray.size (⟨#[32]⟩ : ByteArray) : Nat) : Int) ≤ 9223372036854775807 ∧ (
    CALL prg f_impl_samplesText #[.slice l5b l5l l5c] (fun q15 h16 =>
    asS q15 fun s17 =>
    ((ByteArray.size ((((s11 ++ (⟨#[32]⟩ : ByteArray)) ++ s14) ++ (⟨#[32]⟩ : ByteArray))) + ByteArray.size s17 : Nat) : Int) ≤ 9223372036854775807 ∧ (
    Post (.string (((((s11 ++ (⟨#[32]⟩ : ByteArray)) ++ s14) ++ (⟨#[32]⟩ : ByteArray)) ++ s17))) h16)) h13))) h10)) h7) h2) h
noncomputable def impl_ringText.code : Code := (Tryz.f49.body).getD .skip
theorem impl_ringText.call {r_0 : Array Value} {Post : Value → Heap → Prop} {h : Heap} (H : impl_ringText.S r_0 Post h) : CALL prg f_impl_ringText #[.agg r_0] Post h :=
  fn_call tau_ok mixed (c := impl_ringText.code) (Λ := lookL []) Tryz.func49 (by kernel_rfl) (by kernel_rfl)
    (Rq.free (by kernel_rfl))
    (Eq.mp (by kernel_rfl) H)

def impl_readRing.S (line_0 : ByteArray) (Post : Value → Heap → Prop) (h : Heap) : Prop :=
    ALC ⟨Z_impl_Ring⟩ T_impl_Ring (fun g1 h2 =>
    CALL prg f_strings_Split #[.string line_0, .string (⟨#[32]⟩ : ByteArray)] (fun q3 h4 =>
    asL q3 fun l5b l5l l5c =>
    BIF ((decide ((l5l : Int) < (3 : Int)))) (
    STA 2 h4 ⟨g1, 0, none⟩ (⟨[.slice none 0 0, .int .i64 (0 : Int)]⟩ : Array Value) fun h8 =>
    LDA 2 h8 ⟨g1, 0, none⟩ fun a9 =>
    Post (.tuple ⟨[.agg a9, .bool false]⟩) h8) (
    IDXS l5b (0 : Int) l5l fun p10 =>
    oS (cell h4 p10) fun s11 =>
    CALL prg f_impl_readDecimal #[.string s11] (fun q12 h13 =>
    TUP2 q12 fun q14 q15 =>
    asI .i64 q14 fun n16 =>
    asB q15 fun b17 =>
    IDXS l5b (1 : Int) l5l fun p18 =>
    oS (cell h13 (Addr.add p18 1)) fun s19 =>
    CALL prg f_impl_readDecimal #[.string s19] (fun q20 h21 =>
    TUP2 q20 fun q22 q23 =>
    asI .i64 q22 fun n24 =>
    asB q23 fun b25 =>
    SLB (2 : Int) (l5l : Int) (l5c : Int) <|
    CALL prg f_impl_readSamples #[.slice (slA l5b l5c 2 1) (l5l - 2) (l5c - 2)] (fun q26 h27 =>
    TUP2 q26 fun q28 q29 =>
    asL q28 fun l30b l30l l30c =>
    asB q29 fun b31 =>
    BIF b17 (
    BIF b25 (
    BIF b31 (
    CALL prg f_impl_length_float32 #[.slice l30b l30l l30c] (fun q32 h33 =>
    asI .i64 q32 fun n34 =>
    STA 2 h33 ⟨g1, 0, none⟩ (⟨[.slice l30b l30l l30c, .int .i64 n24]⟩ : Array Value) fun h35 =>
    LDA 2 h35 ⟨g1, 0, none⟩ fun a36 =>
    Post (.tuple ⟨[.agg a36, .bool (n16 == n34)]⟩) h35) h27) (
    STA 2 h27 ⟨g1, 0, none⟩ (⟨[.slice l30b l30l l30c, .int .i64 n24]⟩ : Array Value) fun h37 =>
    LDA 2 h37 ⟨g1, 0, none⟩ fun a38 =>
    Post (.tuple ⟨[.agg a38, .bool false]⟩) h37)) (
    STA 2 h27 ⟨g1, 0, none⟩ (⟨[.slice l30b l30l l30c, .int .i64 n24]⟩ : Array Value) fun h39 =>
    LDA 2 h39 ⟨g1, 0, none⟩ fun a40 =>
    Post (.tuple ⟨[.agg a40, .bool false]⟩) h39)) (
    STA 2 h27 ⟨g1, 0, none⟩ (⟨[.slice l30b l30l l30c, .int .i64 n24]⟩ : Array Value) fun h41 =>
    LDA 2 h41 ⟨g1, 0, none⟩ fun a42 =>
    Post (.tuple ⟨[.agg a42, .bool false]⟩) h41)) h21) h13) h4)) h2) h
noncomputable def impl_readRing.code : Code := (Tryz.f91.body).getD .skip
theorem impl_readRing.call {line_0 : ByteArray} {Post : Value → Heap → Prop} {h : Heap} (H : impl_readRing.S line_0 Post h) : CALL prg f_impl_readRing #[.string line_0] Post h :=
  fn_call tau_ok mixed (c := impl_readRing.code) (Λ := lookL []) Tryz.func91 (by kernel_rfl) (by kernel_rfl)
    (Rq.free (by kernel_rfl))
    (Eq.mp (by kernel_rfl) H)

def impl_FilterText.S (f_0 : Array Value) (Post : Value → Heap → Prop) (h : Heap) : Prop :=
    ALC f_0 T_impl_Filter (fun g1 h2 =>
    LDA 6 h2 ⟨g1, 0, none⟩ fun a3 =>
    CALL prg f_impl_ValidFilter #[.agg a3] (fun q4 h5 =>
    asB q4 fun b6 =>
    BIF (!b6) (
    Post (.string (⟨#[]⟩ : ByteArray)) h5) (
    oI .i64 (cell h5 ⟨g1, 0, none⟩) fun n7 =>
    SLB (0 : Int) (3 : Int) (3 : Int) <|
    SLB (0 : Int) (2 : Int) (2 : Int) <|
    CALL prg f_strconv_FormatInt #[.int .i64 n7, .int .i64 (10 : Int)] (fun q8 h9 =>
    asS q8 fun s10 =>
    ((ByteArray.size (⟨#[102, 105, 108, 116, 101, 114, 32]⟩ : ByteArray) + ByteArray.size s10 : Nat) : Int) ≤ 9223372036854775807 ∧ (
    ((ByteArray.size ((⟨#[102, 105, 108, 116, 101, 114, 32]⟩ : ByteArray) ++ s10) + ByteArray.size (⟨#[32]⟩ : ByteArray) : Nat) : Int) ≤ 9223372036854775807 ∧ (
    CALL prg f_impl_samplesText #[.slice (some (slP ⟨g1, 1, none⟩ 3 0 1)) (3 - 0) (3 - 0)] (fun q11 h12 =>
    asS q11 fun s13 =>
    ((ByteArray.size ((((⟨#[102, 105, 108, 116, 101, 114, 32]⟩ : ByteArray) ++ s10) ++ (⟨#[32]⟩ : ByteArray))) + ByteArray.size s13 : Nat) : Int) ≤ 9223372036854775807 ∧ (
    ((ByteArray.size (((((⟨#[102, 105, 108, 116, 101, 114, 32]⟩ : ByteArray) ++ s10) ++ (⟨#[32]⟩ : ByteArray)) ++ s13)) + ByteArray.size (⟨#[32]⟩ : ByteArray) : Nat) : Int) ≤ 9223372036854775807 ∧ (
    CALL prg f_impl_samplesText #[.slice (some (slP ⟨g1, 4, none⟩ 2 0 1)) (2 - 0) (2 - 0)] (fun q14 h15 =>
    asS q14 fun s16 =>
    ((ByteArray.size ((((((⟨#[102, 105, 108, 116, 101, 114, 32]⟩ : ByteArray) ++ s10) ++ (⟨#[32]⟩ : ByteArray)) ++ s13) ++ (⟨#[32]⟩ : ByteArray))) + ByteArray.size s16 : Nat) : Int) ≤ 9223372036854775807 ∧ (
    Post (.string (((((((⟨#[102, 105, 108, 116, 101, 114, 32]⟩ : ByteArray) ++ s10) ++ (⟨#[32]⟩ : ByteArray)) ++ s13) ++ (⟨#[32]⟩ : ByteArray)) ++ s16))) h15)) h12))) h9))) h5)) h2) h
noncomputable def impl_FilterText.code : Code := (Tryz.f48.body).getD .skip
theorem impl_FilterText.call {f_0 : Array Value} {Post : Value → Heap → Prop} {h : Heap} (H : impl_FilterText.S f_0 Post h) : CALL prg f_impl_FilterText #[.agg f_0] Post h :=
  fn_call tau_ok mixed (c := impl_FilterText.code) (Λ := lookL []) Tryz.func48 (by kernel_rfl) (by kernel_rfl)
    (Rq.free (by kernel_rfl))
    (Eq.mp (by kernel_rfl) H)

def impl_ReadFilter.J8 (Post : Value → Heap → Prop) (text_0 : ByteArray) (t2 : Addr) (kind_5 : Int) (list_7b : Option Addr) (list_7l : Nat) (list_7c : Nat) (h : Heap) : Prop :=
    SLB (0 : Int) (3 : Int) (list_7c : Int) <|
    AAP (slA list_7b list_7c 0 1) 3 (3 - 0) fun p35 =>
    LDA 3 h p35 fun a36 =>
    SLB (3 : Int) (list_7l : Int) (list_7c : Int) <|
    AAP (slA list_7b list_7c 3 1) 2 (list_7l - 3) fun p37 =>
    LDA 2 h p37 fun a38 =>
    SIZ (Array.size a36) 3 <|
    SIZ (Array.size a38) 2 <|
    ALC ⟨Z_impl_Filter⟩ T_impl_Filter (fun g39 h40 =>
    PIN h p37 2 h40 <|
    PIN h p35 3 h40 <|
    STA 6 h40 ⟨g39, 0, none⟩ ⟨(splice 4 2 a38 (splice 1 3 a36 [.int .i64 kind_5, .float .f32 0, .float .f32 0, .float .f32 0, .float .f32 0, .float .f32 0]))⟩ fun h41 =>
    LDA 6 h41 ⟨g39, 0, none⟩ fun a42 =>
    CALL prg f_impl_FilterText #[.agg a42] (fun q43 h44 =>
    asS q43 fun s45 =>
    BIF (!(ByteArray.toList s45 == ByteArray.toList text_0)) (
    STA 6 h44 t2 (⟨[.int .i64 (0 : Int), .float .f32 0, .float .f32 0, .float .f32 0, .float .f32 0, .float .f32 0]⟩ : Array Value) fun h46 =>
    LDA 6 h46 t2 fun a47 =>
    Post (.tuple ⟨[.agg a47, .int .i64 (5 : Int)]⟩) h46) (
    LDA 6 h44 ⟨g39, 0, none⟩ fun a48 =>
    STA 6 h44 t2 a48 fun h49 =>
    LDA 6 h49 t2 fun a50 =>
    Post (.tuple ⟨[.agg a50, .int .i64 (0 : Int)]⟩) h49)) h41) h
def impl_ReadFilter.j8 (Post : Value → Heap → Prop) : Frame → Heap → Prop := fun fr h => GRD (shape (kds 52 [(0, .s), (2, .p), (5, .i .i64), (7, .l)]) fr) (impl_ReadFilter.J8 Post (gS (lget fr 0)) (gP (lget fr 2)) (gI (lget fr 5)) (gLb (lget fr 7)) (gLl (lget fr 7)) (gLc (lget fr 7)) h)
def impl_ReadFilter.S (text_0 : ByteArray) (Post : Value → Heap → Prop) (h : Heap) : Prop :=
    ALC ⟨Z_impl_Filter⟩ T_impl_Filter (fun g1 h2 =>
    CALL prg f_strings_Split #[.string text_0, .string (⟨#[32]⟩ : ByteArray)] (fun q3 h4 =>
    asL q3 fun l5b l5l l5c =>
    BIF ((l5l : Int) != (7 : Int)) (
    STA 6 h4 ⟨g1, 0, none⟩ (⟨[.int .i64 (0 : Int), .float .f32 0, .float .f32 0, .float .f32 0, .float .f32 0, .float .f32 0]⟩ : Array Value) fun h8 =>
    LDA 6 h8 ⟨g1, 0, none⟩ fun a9 =>
    Post (.tuple ⟨[.agg a9, .int .i64 (5 : Int)]⟩) h8) (
    IDXS l5b (1 : Int) l5l fun p10 =>
    oS (cell h4 (Addr.add p10 1)) fun s11 =>
    CALL prg f_strconv_ParseInt #[.string s11, .int .i64 (10 : Int), .int .i64 (64 : Int)] (fun q12 h13 =>
    TUP2 q12 fun q14 q15 =>
    asI .i64 q14 fun n16 =>
    SLB (2 : Int) (l5l : Int) (l5c : Int) <|
    CALL prg f_impl_readSamples #[.slice (slA l5b l5c 2 1) (l5l - 2) (l5c - 2)] (fun q17 h18 =>
    TUP2 q17 fun q19 q20 =>
    asL q19 fun l21b l21l l21c =>
    asB q20 fun b22 =>
    binI tau .neq T_error q15 .nilIface (
    CMP prg .neq T_error (.tmp 29) (.const .nilIface) q15 .nilIface (fun b23 h24 =>
    BIF b23 (
    STA 6 h24 ⟨g1, 0, none⟩ (⟨[.int .i64 (0 : Int), .float .f32 0, .float .f32 0, .float .f32 0, .float .f32 0, .float .f32 0]⟩ : Array Value) fun h25 =>
    LDA 6 h25 ⟨g1, 0, none⟩ fun a26 =>
    Post (.tuple ⟨[.agg a26, .int .i64 (5 : Int)]⟩) h25) (
    BIF (!b22) (
    STA 6 h24 ⟨g1, 0, none⟩ (⟨[.int .i64 (0 : Int), .float .f32 0, .float .f32 0, .float .f32 0, .float .f32 0, .float .f32 0]⟩ : Array Value) fun h27 =>
    LDA 6 h27 ⟨g1, 0, none⟩ fun a28 =>
    Post (.tuple ⟨[.agg a28, .int .i64 (5 : Int)]⟩) h27) (
    impl_ReadFilter.J8 Post text_0 ⟨g1, 0, none⟩ n16 l21b l21l l21c h24))) h18) fun v29 =>
    SPL v29 (
    STA 6 h18 ⟨g1, 0, none⟩ (⟨[.int .i64 (0 : Int), .float .f32 0, .float .f32 0, .float .f32 0, .float .f32 0, .float .f32 0]⟩ : Array Value) fun h31 =>
    LDA 6 h31 ⟨g1, 0, none⟩ fun a32 =>
    Post (.tuple ⟨[.agg a32, .int .i64 (5 : Int)]⟩) h31) (
    BIF (!b22) (
    STA 6 h18 ⟨g1, 0, none⟩ (⟨[.int .i64 (0 : Int), .float .f32 0, .float .f32 0, .float .f32 0, .float .f32 0, .float .f32 0]⟩ : Array Value) fun h33 =>
    LDA 6 h33 ⟨g1, 0, none⟩ fun a34 =>
    Post (.tuple ⟨[.agg a34, .int .i64 (5 : Int)]⟩) h33) (
    impl_ReadFilter.J8 Post text_0 ⟨g1, 0, none⟩ n16 l21b l21l l21c h18)) fun cs30 =>
    False) h13) h4)) h2) h
noncomputable def impl_ReadFilter.code : Code := (Tryz.f90.body).getD .skip
theorem impl_ReadFilter.call {text_0 : ByteArray} {Post : Value → Heap → Prop} {h : Heap} (H : impl_ReadFilter.S text_0 Post h) : CALL prg f_impl_ReadFilter #[.string text_0] Post h :=
  fn_call tau_ok mixed (c := impl_ReadFilter.code) (Λ := lookL [(8, impl_ReadFilter.j8 Post)]) Tryz.func90 (by kernel_rfl) (by kernel_rfl)
    (Rq.seq (by kernel_rfl) (Rq.free (by kernel_rfl)) (Rq.seq (by kernel_rfl) (Rq.free (by kernel_rfl)) (Rq.seq (by kernel_rfl) (Rq.free (by kernel_rfl)) (Rq.seq (by kernel_rfl) (Rq.free (by kernel_rfl)) (Rq.seq (by kernel_rfl) (Rq.free (by kernel_rfl)) (Rq.seqJ (impl_ReadFilter.j8 Post) (by kernel_rfl) (seg (fun _ _ => by kernel_rfl)) (Rq.free (by kernel_rfl))
(Rq.free (by kernel_rfl))))))))
    (Eq.mp (by kernel_rfl) H)

def impl_linesOf.S (text_0 : ByteArray) (many_1 : Int) (Post : Value → Heap → Prop) (h : Heap) : Prop :=
    CALL prg f_strings_Split #[.string text_0, .string (⟨#[10]⟩ : ByteArray)] (fun q1 h2 =>
    asL q1 fun l3b l3l l3c =>
    BIF (((l3l : Int) != (IntKind.i64.wrap (many_1 + (1 : Int))))) (
    Post (.tuple ⟨[.slice none 0 0, .bool false]⟩) h2) (
    IDXS l3b many_1 l3l fun p6 =>
    oS (cell h2 ((Addr.add p6 ((Int.toNat many_1) * 1)))) fun s7 =>
    BIF ((!(ByteArray.toList s7 == ByteArray.toList (⟨#[]⟩ : ByteArray)))) (
    Post (.tuple ⟨[.slice none 0 0, .bool false]⟩) h2) (
    SLB (0 : Int) many_1 (l3c : Int) <|
    Post (.tuple ⟨[.slice (slA l3b l3c 0 1) ((Int.toNat many_1) - 0) (l3c - 0), .bool true]⟩) h2))) h
noncomputable def impl_linesOf.code : Code := (Tryz.f87.body).getD .skip
theorem impl_linesOf.call {text_0 : ByteArray} {many_1 : Int} {Post : Value → Heap → Prop} {h : Heap} (H : impl_linesOf.S text_0 many_1 Post h) : CALL prg f_impl_linesOf #[.string text_0, .int .i64 many_1] Post h :=
  fn_call tau_ok mixed (c := impl_linesOf.code) (Λ := lookL []) Tryz.func87 (by kernel_rfl) (by kernel_rfl)
    (Rq.free (by kernel_rfl))
    (Eq.mp (by kernel_rfl) H)

end Go.Sx
