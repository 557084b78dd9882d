/- What functions of this seat's program compute, told in words (a predicate over heaps for each), and the proofs that the words are no more than the code's own weakest precondition. -/
import Derived.Test.YtnhcoeogejgidadGreatDoorTab
namespace Go.Sx
open Go.Proofs
set_option linter.unusedVariables false
set_option maxRecDepth 100000

def spec_l01Bits.S (a_0 : Nat) (Post : Value → Heap → Prop) (h : Heap) : Prop :=
    CALL prg f_spec_l01NaN #[.float .f32 a_0] (fun q1 h2 =>
    asB q1 fun b3 =>
    BIF b3 (
    Post (.int .u32 (2143289344 : Int)) h2) (
    CALL prg f_math_Float32bits #[.float .f32 a_0] (fun q4 h5 =>
    asI .u32 q4 fun n6 =>
    Post (.int .u32 n6) h5) h2)) h
noncomputable def spec_l01Bits.code : Code := (Tryz.f141.body).getD .skip
theorem spec_l01Bits.call {a_0 : Nat} {Post : Value → Heap → Prop} {h : Heap} (H : spec_l01Bits.S a_0 Post h) : CALL prg f_spec_l01Bits #[.float .f32 a_0] Post h :=
  fn_call tau_ok mixed (c := spec_l01Bits.code) (Λ := lookL []) Tryz.func141 (by kernel_rfl) (by kernel_rfl)
    (Rq.free (by kernel_rfl))
    (Eq.mp (by kernel_rfl) H)

def spec_l01Hex.B4 (Post : Value → Heap → Prop) (N4 : (Int × Option Addr × Nat × Nat × Int) → Heap → Prop) : Int × Option Addr × Nat × Nat × Int → Heap → Prop
  | (bits_3, out_4b, out_4l, out_4c, k_5), h =>
    BIF ((decide ((0 : Int) ≤ k_5))) (
    NZ (16 : Int) <|
    IDX (Int.tmod bits_3 (16 : Int)) (ByteArray.size (⟨#[48, 49, 50, 51, 52, 53, 54, 55, 56, 57, 97, 98, 99, 100, 101, 102]⟩ : ByteArray)) <|
    IDXS out_4b k_5 out_4l fun p6 =>
    ST1 h ((Addr.add p6 ((Int.toNat k_5) * 1))) (.int .u8 ((byteAt (⟨#[48, 49, 50, 51, 52, 53, 54, 55, 56, 57, 97, 98, 99, 100, 101, 102]⟩ : ByteArray) (Int.tmod bits_3 (16 : Int))))) fun h7 =>
    NZ (16 : Int) <|
    N4 (((IntKind.u32.wrap (Int.tdiv bits_3 (16 : Int)))), out_4b, out_4l, out_4c, ((IntKind.i64.wrap (k_5 - (1 : Int))))) h7) (
    SEMV prg (convert T_sl_uint8 T_string (.slice out_4b out_4l out_4c)) (fun q8 h9 =>
    asS q8 fun s10 =>
    Post (.string s10) h9) h)
def spec_l01Hex.g4 (fr : Frame) : Int × Option Addr × Nat × Nat × Int := ((gI (lget fr 3)), (gLb (lget fr 4)), (gLl (lget fr 4)), (gLc (lget fr 4)), (gI (lget fr 5)))
def spec_l01Hex.l4 (Post : Value → Heap → Prop) : Frame → Heap → Prop := fun fr h => GRD (shape (kds 23 [(3, .i .u32), (4, .l), (5, .i .i64)]) fr) (LOOP (spec_l01Hex.B4 Post) (spec_l01Hex.g4 fr) h)
def spec_l01Hex.S (a_0 : Nat) (Post : Value → Heap → Prop) (h : Heap) : Prop :=
    CALL prg f_spec_l01Bits #[.float .f32 a_0] (fun q1 h2 =>
    asI .u32 q1 fun n3 =>
    MKS ti_uint8 T_uint8 (8 : Int) (8 : Int) (fun g4 h5 =>
    LOOP (spec_l01Hex.B4 Post) (n3, (some ⟨g4, 0, none⟩), 8, 8, (7 : Int)) h5) h2) h
noncomputable def spec_l01Hex.code : Code := (Tryz.f63.body).getD .skip
theorem spec_l01Hex.call {a_0 : Nat} {Post : Value → Heap → Prop} {h : Heap} (H : spec_l01Hex.S a_0 Post h) : CALL prg f_spec_l01Hex #[.float .f32 a_0] Post h :=
  fn_call tau_ok mixed (c := spec_l01Hex.code) (Λ := lookL [(1000004, spec_l01Hex.l4 Post)]) Tryz.func63 (by kernel_rfl) (by kernel_rfl)
    (Rq.seq (by kernel_rfl) (Rq.free (by kernel_rfl)) (Rq.seq (by kernel_rfl) (Rq.free (by kernel_rfl)) (Rq.seq (by kernel_rfl) (Rq.free (by kernel_rfl)) (Rq.seq (by kernel_rfl) (Rq.seq (by kernel_rfl) (Rq.free (by kernel_rfl)) (Rq.block (Rq.loop (spec_l01Hex.l4 Post) (by kernel_rfl) (segL (g := spec_l01Hex.g4) tau_ok mixed (Λ := fun N4 => lookL []) (fun _ _ _ => by kernel_rfl) (fun N4 => (Rq.free (by kernel_rfl))))))) (Rq.free (by kernel_rfl))))))
    (Eq.mp (by kernel_rfl) H)

def spec_FilterText.B5 (Post : Value → Heap → Prop) (N5 : (Addr × ByteArray × Int) → Heap → Prop) : Addr × ByteArray × Int → Heap → Prop
  | (f_1, out_3, i_4), h =>
    BIF ((decide (i_4 < (3 : Int)))) (
    IDX i_4 3 <|
    oF .f32 (cell h ((Addr.add (Addr.add f_1 1) ((Int.toNat i_4) * 1)))) fun r10 =>
    CALL prg f_spec_l01Hex #[.float .f32 r10] (fun q11 h12 =>
    asS q11 fun s13 =>
    ((ByteArray.size (⟨#[32]⟩ : ByteArray) + ByteArray.size s13 : Nat) : Int) ≤ 9223372036854775807 ∧ (
    ((ByteArray.size out_3 + ByteArray.size ((⟨#[32]⟩ : ByteArray) ++ s13) : Nat) : Int) ≤ 9223372036854775807 ∧ (
    N5 (f_1, ((out_3 ++ ((⟨#[32]⟩ : ByteArray) ++ s13))), ((IntKind.i64.wrap (i_4 + (1 : Int))))) h12))) h) (
    ((ByteArray.size out_3 + ByteArray.size (⟨#[32]⟩ : ByteArray) : Nat) : Int) ≤ 9223372036854775807 ∧ (
    IDX (0 : Int) 2 <|
    oF .f32 (cell h (Addr.add f_1 4)) fun r14 =>
    IDX (1 : Int) 2 <|
    oF .f32 (cell h (Addr.add f_1 5)) fun r15 =>
    CALL prg f_spec_l01Hex #[.float .f32 r14] (fun q16 h17 =>
    asS q16 fun s18 =>
    PIN h (Addr.add f_1 5) 1 h17 <|
    ((ByteArray.size (out_3 ++ (⟨#[32]⟩ : ByteArray)) + ByteArray.size s18 : Nat) : Int) ≤ 9223372036854775807 ∧ (
    ((ByteArray.size (((out_3 ++ (⟨#[32]⟩ : ByteArray)) ++ s18)) + ByteArray.size (⟨#[32]⟩ : ByteArray) : Nat) : Int) ≤ 9223372036854775807 ∧ (
    CALL prg f_spec_l01Hex #[.float .f32 r15] (fun q19 h20 =>
    asS q19 fun s21 =>
    ((ByteArray.size ((((out_3 ++ (⟨#[32]⟩ : ByteArray)) ++ s18) ++ (⟨#[32]⟩ : ByteArray))) + ByteArray.size s21 : Nat) : Int) ≤ 9223372036854775807 ∧ (
    Post (.string (((((out_3 ++ (⟨#[32]⟩ : ByteArray)) ++ s18) ++ (⟨#[32]⟩ : ByteArray)) ++ s21))) h20)) h17))) h))
def spec_FilterText.g5 (fr : Frame) : Addr × ByteArray × Int := ((gP (lget fr 1)), (gS (lget fr 3)), (gI (lget fr 4)))
def spec_FilterText.l5 (Post : Value → Heap → Prop) : Frame → Heap → Prop := fun fr h => GRD (shape (kds 36 [(1, .p), (3, .s), (4, .i .i64)]) fr) (LOOP (spec_FilterText.B5 Post) (spec_FilterText.g5 fr) h)
def spec_FilterText.S (f_0 : Array Value) (Post : Value → Heap → Prop) (h : Heap) : Prop :=
    ALC f_0 T_impl_Filter (fun g1 h2 =>
    CALL prg f_spec_l02Ok #[.pointer (some ⟨g1, 0, none⟩)] (fun q3 h4 =>
    asB q3 fun b5 =>
    BIF (!b5) (
    Post (.string (⟨#[]⟩ : ByteArray)) h4) (
    oI .i64 (cell h4 ⟨g1, 0, none⟩) fun n6 =>
    CALL prg f_spec_Decimal #[.int .i64 n6] (fun q7 h8 =>
    asS q7 fun s9 =>
    ((ByteArray.size (⟨#[102, 105, 108, 116, 101, 114, 32]⟩ : ByteArray) + ByteArray.size s9 : Nat) : Int) ≤ 9223372036854775807 ∧ (
    LOOP (spec_FilterText.B5 Post) (⟨g1, 0, none⟩, ((⟨#[102, 105, 108, 116, 101, 114, 32]⟩ : ByteArray) ++ s9), (0 : Int)) h8)) h4)) h2) h
noncomputable def spec_FilterText.code : Code := (Tryz.f142.body).getD .skip
theorem spec_FilterText.call {f_0 : Array Value} {Post : Value → Heap → Prop} {h : Heap} (H : spec_FilterText.S f_0 Post h) : CALL prg f_spec_FilterText #[.agg f_0] Post h :=
  fn_call tau_ok mixed (c := spec_FilterText.code) (Λ := lookL [(1000005, spec_FilterText.l5 Post)]) Tryz.func142 (by kernel_rfl) (by kernel_rfl)
    (Rq.seq (by kernel_rfl) (Rq.free (by kernel_rfl)) (Rq.seq (by kernel_rfl) (Rq.free (by kernel_rfl)) (Rq.seq (by kernel_rfl) (Rq.free (by kernel_rfl)) (Rq.seq (by kernel_rfl) (Rq.seq (by kernel_rfl) (Rq.free (by kernel_rfl)) (Rq.block (Rq.loop (spec_FilterText.l5 Post) (by kernel_rfl) (segL (g := spec_FilterText.g5) tau_ok mixed (Λ := fun N5 => lookL []) (fun _ _ _ => by kernel_rfl) (fun N5 => (Rq.free (by kernel_rfl))))))) (Rq.free (by kernel_rfl))))))
    (Eq.mp (by kernel_rfl) H)

def spec_StringText.B6 (Post : Value → Heap → Prop) (N6 : (Addr × ByteArray × Int) → Heap → Prop) : Addr × ByteArray × Int → Heap → Prop
  | (x_1, out_3, i_4), h =>
    oL (cell h x_1) fun l34b l34l l34c =>
    BIF ((decide (i_4 < (l34l : Int)))) (
    oL (cell h x_1) fun l37b l37l l37c =>
    IDXS l37b i_4 l37l fun p38 =>
    oF .f32 (cell h ((Addr.add p38 ((Int.toNat i_4) * 1)))) fun r39 =>
    CALL prg f_spec_l01Hex #[.float .f32 r39] (fun q40 h41 =>
    asS q40 fun s42 =>
    ((ByteArray.size (⟨#[32]⟩ : ByteArray) + ByteArray.size s42 : Nat) : Int) ≤ 9223372036854775807 ∧ (
    ((ByteArray.size out_3 + ByteArray.size ((⟨#[32]⟩ : ByteArray) ++ s42) : Nat) : Int) ≤ 9223372036854775807 ∧ (
    N6 (x_1, ((out_3 ++ ((⟨#[32]⟩ : ByteArray) ++ s42))), ((IntKind.i64.wrap (i_4 + (1 : Int))))) h41))) h) (
    ((ByteArray.size out_3 + ByteArray.size (⟨#[10]⟩ : ByteArray) : Nat) : Int) ≤ 9223372036854775807 ∧ (
    Post (.string (out_3 ++ (⟨#[10]⟩ : ByteArray))) h))
def spec_StringText.g6 (fr : Frame) : Addr × ByteArray × Int := ((gP (lget fr 1)), (gS (lget fr 3)), (gI (lget fr 4)))
def spec_StringText.l6 (Post : Value → Heap → Prop) : Frame → Heap → Prop := fun fr h => GRD (shape (kds 63 [(1, .p), (3, .s), (4, .i .i64)]) fr) (LOOP (spec_StringText.B6 Post) (spec_StringText.g6 fr) h)
def spec_StringText.J4 (Post : Value → Heap → Prop) (x_1 : Addr) (out_3 : ByteArray) (h : Heap) : Prop :=
    LDA 6 h (Addr.add x_1 2) fun a20 =>
    LDA 6 h (Addr.add x_1 8) fun a21 =>
    oL (cell h x_1) fun l22b l22l l22c =>
    IDXS l22b (0 : Int) l22l fun p23 =>
    oF .f32 (cell h p23) fun r24 =>
    CALL prg f_spec_FilterText #[.agg a20] (fun q25 h26 =>
    asS q25 fun s27 =>
    PIN h p23 1 h26 <|
    PIN h x_1 1 h26 <|
    PIN h (Addr.add x_1 8) 6 h26 <|
    ((ByteArray.size s27 + ByteArray.size (⟨#[10]⟩ : ByteArray) : Nat) : Int) ≤ 9223372036854775807 ∧ (
    CALL prg f_spec_FilterText #[.agg a21] (fun q28 h29 =>
    asS q28 fun s30 =>
    PIN h p23 1 h29 <|
    PIN h x_1 1 h29 <|
    ((ByteArray.size (s27 ++ (⟨#[10]⟩ : ByteArray)) + ByteArray.size s30 : Nat) : Int) ≤ 9223372036854775807 ∧ (
    ((ByteArray.size (((s27 ++ (⟨#[10]⟩ : ByteArray)) ++ s30)) + ByteArray.size (⟨#[10]⟩ : ByteArray) : Nat) : Int) ≤ 9223372036854775807 ∧ (
    CALL prg f_spec_l01Hex #[.float .f32 r24] (fun q31 h32 =>
    asS q31 fun s33 =>
    ((ByteArray.size ((((s27 ++ (⟨#[10]⟩ : ByteArray)) ++ s30) ++ (⟨#[10]⟩ : ByteArray))) + ByteArray.size s33 : Nat) : Int) ≤ 9223372036854775807 ∧ (
    ((ByteArray.size out_3 + ByteArray.size (((((s27 ++ (⟨#[10]⟩ : ByteArray)) ++ s30) ++ (⟨#[10]⟩ : ByteArray)) ++ s33)) : Nat) : Int) ≤ 9223372036854775807 ∧ (
    LOOP (spec_StringText.B6 Post) (x_1, ((out_3 ++ ((((s27 ++ (⟨#[10]⟩ : ByteArray)) ++ s30) ++ (⟨#[10]⟩ : ByteArray)) ++ s33))), (1 : Int)) h32))) h29))) h26)) h
def spec_StringText.j4 (Post : Value → Heap → Prop) : Frame → Heap → Prop := fun fr h => GRD (shape (kds 63 [(1, .p), (3, .s)]) fr) (spec_StringText.J4 Post (gP (lget fr 1)) (gS (lget fr 3)) h)
def spec_StringText.S (x_0 : Array Value) (Post : Value → Heap → Prop) (h : Heap) : Prop :=
    ALC x_0 T_impl_String (fun g1 h2 =>
    CALL prg f_spec_l03Ok #[.pointer (some ⟨g1, 0, none⟩)] (fun q3 h4 =>
    asB q3 fun b5 =>
    BIF (!b5) (
    Post (.string (⟨#[]⟩ : ByteArray)) h4) (
    oF .f32 (cell h4 ⟨g1, 14, none⟩) fun r6 =>
    oL (cell h4 ⟨g1, 0, none⟩) fun l7b l7l l7c =>
    oI .i64 (cell h4 ⟨g1, 1, none⟩) fun n10 =>
    CALL prg f_spec_l01Hex #[.float .f32 r6] (fun q11 h12 =>
    asS q11 fun s13 =>
    PIN h4 ⟨g1, 1, none⟩ 1 h12 <|
    PIN h4 ⟨g1, 0, none⟩ 1 h12 <|
    ((ByteArray.size (⟨#[115, 116, 114, 105, 110, 103, 32]⟩ : ByteArray) + ByteArray.size s13 : Nat) : Int) ≤ 9223372036854775807 ∧ (
    ((ByteArray.size ((⟨#[115, 116, 114, 105, 110, 103, 32]⟩ : ByteArray) ++ s13) + ByteArray.size (⟨#[32]⟩ : ByteArray) : Nat) : Int) ≤ 9223372036854775807 ∧ (
    CALL prg f_spec_Decimal #[.int .i64 (l7l : Int)] (fun q14 h15 =>
    asS q14 fun s16 =>
    PIN h4 ⟨g1, 1, none⟩ 1 h15 <|
    ((ByteArray.size ((((⟨#[115, 116, 114, 105, 110, 103, 32]⟩ : ByteArray) ++ s13) ++ (⟨#[32]⟩ : ByteArray))) + ByteArray.size s16 : Nat) : Int) ≤ 9223372036854775807 ∧ (
    ((ByteArray.size (((((⟨#[115, 116, 114, 105, 110, 103, 32]⟩ : ByteArray) ++ s13) ++ (⟨#[32]⟩ : ByteArray)) ++ s16)) + ByteArray.size (⟨#[32]⟩ : ByteArray) : Nat) : Int) ≤ 9223372036854775807 ∧ (
    CALL prg f_spec_Decimal #[.int .i64 n10] (fun q17 h18 =>
    asS q17 fun s19 =>
    ((ByteArray.size ((((((⟨#[115, 116, 114, 105, 110, 103, 32]⟩ : ByteArray) ++ s13) ++ (⟨#[32]⟩ : ByteArray)) ++ s16) ++ (⟨#[32]⟩ : ByteArray))) + ByteArray.size s19 : Nat) : Int) ≤ 9223372036854775807 ∧ (
    ((ByteArray.size (((((((⟨#[115, 116, 114, 105, 110, 103, 32]⟩ : ByteArray) ++ s13) ++ (⟨#[32]⟩ : ByteArray)) ++ s16) ++ (⟨#[32]⟩ : ByteArray)) ++ s19)) + ByteArray.size (⟨#[10]⟩ : ByteArray) : Nat) : Int) ≤ 9223372036854775807 ∧ (
    spec_StringText.J4 Post ⟨g1, 0, none⟩ ((((((((⟨#[115, 116, 114, 105, 110, 103, 32]⟩ : ByteArray) ++ s13) ++ (⟨#[32]⟩ : ByteArray)) ++ s16) ++ (⟨#[32]⟩ : ByteArray)) ++ s19) ++ (⟨#[10]⟩ : ByteArray))) h18))) h15))) h12))) h4)) h2) h
noncomputable def spec_StringText.code : Code := (Tryz.f64.body).getD .skip
theorem spec_StringText.call {x_0 : Array Value} {Post : Value → Heap → Prop} {h : Heap} (H : spec_StringText.S x_0 Post h) : CALL prg f_spec_StringText #[.agg x_0] Post h :=
  fn_call tau_ok mixed (c := spec_StringText.code) (Λ := lookL [(4, spec_StringText.j4 Post), (1000006, spec_StringText.l6 Post)]) Tryz.func64 (by kernel_rfl) (by kernel_rfl)
    (Rq.seq (by kernel_rfl) (Rq.free (by kernel_rfl)) (Rq.seq (by kernel_rfl) (Rq.free (by kernel_rfl)) (Rq.seqJ (spec_StringText.j4 Post) (by kernel_rfl) (seg (fun _ _ => by kernel_rfl)) (Rq.free (by kernel_rfl))
(Rq.seq (by kernel_rfl) (Rq.free (by kernel_rfl)) (Rq.seq (by kernel_rfl) (Rq.seq (by kernel_rfl) (Rq.free (by kernel_rfl)) (Rq.block (Rq.loop (spec_StringText.l6 Post) (by kernel_rfl) (segL (g := spec_StringText.g6) tau_ok mixed (Λ := fun N6 => lookL []) (fun _ _ _ => by kernel_rfl) (fun N6 => (Rq.free (by kernel_rfl))))))) (Rq.free (by kernel_rfl)))))))
    (Eq.mp (by kernel_rfl) H)

def spec_l04Samples.B3 (Post : Value → Heap → Prop) (N3 : (Option Addr × Nat × Nat × ByteArray × Int) → Heap → Prop) : Option Addr × Nat × Nat × ByteArray × Int → Heap → Prop
  | (list_0b, list_0l, list_0c, out_3, i_4), h =>
    BIF ((decide (i_4 < (list_0l : Int)))) (
    IDXS list_0b i_4 list_0l fun p3 =>
    oF .f32 (cell h ((Addr.add p3 ((Int.toNat i_4) * 1)))) fun r4 =>
    CALL prg f_spec_l01Hex #[.float .f32 r4] (fun q5 h6 =>
    asS q5 fun s7 =>
    ((ByteArray.size (⟨#[32]⟩ : ByteArray) + ByteArray.size s7 : Nat) : Int) ≤ 9223372036854775807 ∧ (
    ((ByteArray.size out_3 + ByteArray.size ((⟨#[32]⟩ : ByteArray) ++ s7) : Nat) : Int) ≤ 9223372036854775807 ∧ (
    N3 (list_0b, list_0l, list_0c, ((out_3 ++ ((⟨#[32]⟩ : ByteArray) ++ s7))), ((IntKind.i64.wrap (i_4 + (1 : Int))))) h6))) h) (
    Post (.string out_3) h)
def spec_l04Samples.g3 (fr : Frame) : Option Addr × Nat × Nat × ByteArray × Int := ((gLb (lget fr 0)), (gLl (lget fr 0)), (gLc (lget fr 0)), (gS (lget fr 3)), (gI (lget fr 4)))
def spec_l04Samples.l3 (Post : Value → Heap → Prop) : Frame → Heap → Prop := fun fr h => GRD (shape (kds 20 [(0, .l), (3, .s), (4, .i .i64)]) fr) (LOOP (spec_l04Samples.B3 Post) (spec_l04Samples.g3 fr) h)
def spec_l04Samples.S (list_0b : Option Addr) (list_0l list_0c : Nat) (Post : Value → Heap → Prop) (h : Heap) : Prop :=
    LOOP (spec_l04Samples.B3 Post) (list_0b, list_0l, list_0c, (⟨#[]⟩ : ByteArray), (0 : Int)) h
noncomputable def spec_l04Samples.code : Code := (Tryz.f211.body).getD .skip
theorem spec_l04Samples.call {list_0b : Option Addr} {list_0l list_0c : Nat} {Post : Value → Heap → Prop} {h : Heap} (H : spec_l04Samples.S list_0b list_0l list_0c Post h) : CALL prg f_spec_l04Samples #[.slice list_0b list_0l list_0c] Post h :=
  fn_call tau_ok mixed (c := spec_l04Samples.code) (Λ := lookL [(1000003, spec_l04Samples.l3 Post)]) Tryz.func211 (by kernel_rfl) (by kernel_rfl)
    (Rq.seq (by kernel_rfl) (Rq.free (by kernel_rfl)) (Rq.seq (by kernel_rfl) (Rq.free (by kernel_rfl)) (Rq.seq (by kernel_rfl) (Rq.seq (by kernel_rfl) (Rq.free (by kernel_rfl)) (Rq.block (Rq.loop (spec_l04Samples.l3 Post) (by kernel_rfl) (segL (g := spec_l04Samples.g3) tau_ok mixed (Λ := fun N3 => lookL []) (fun _ _ _ => by kernel_rfl) (fun N3 => (Rq.free (by kernel_rfl))))))) (Rq.free (by kernel_rfl)))))
    (Eq.mp (by kernel_rfl) H)

def spec_l04Line.S (r_0 : Addr) (Post : Value → Heap → Prop) (h : Heap) : Prop :=
    oL (cell h r_0) fun l1b l1l l1c =>
    oI .i64 (cell h (Addr.add r_0 1)) fun n4 =>
    oL (cell h r_0) fun l5b l5l l5c =>
    CALL prg f_spec_Decimal #[.int .i64 (l1l : Int)] (fun q6 h7 =>
    asS q6 fun s8 =>
    PIN h r_0 1 h7 <|
    PIN h (Addr.add r_0 1) 1 h7 <|
    ((ByteArray.size s8 + ByteArray.size (⟨#[32]⟩ : ByteArray) : Nat) : Int) ≤ 9223372036854775807 ∧ (
    CALL prg f_spec_Decimal #[.int .i64 n4] (fun q9 h10 =>
    asS q9 fun s11 =>
    PIN h r_0 1 h10 <|
    ((ByteArray.size (s8 ++ (⟨#[32]⟩ : ByteArray)) + ByteArray.size s11 : Nat) : Int) ≤ 9223372036854775807 ∧ (
    CALL prg f_spec_l04Samples #[.slice l5b l5l l5c] (fun q12 h13 =>
    asS q12 fun s14 =>
    ((ByteArray.size (((s8 ++ (⟨#[32]⟩ : ByteArray)) ++ s11)) + ByteArray.size s14 : Nat) : Int) ≤ 9223372036854775807 ∧ (
    ((ByteArray.size ((((s8 ++ (⟨#[32]⟩ : ByteArray)) ++ s11) ++ s14)) + ByteArray.size (⟨#[10]⟩ : ByteArray) : Nat) : Int) ≤ 9223372036854775807 ∧ (
    Post (.string (((((s8 ++ (⟨#[32]⟩ : ByteArray)) ++ s11) ++ s14) ++ (⟨#[10]⟩ : ByteArray)))) h13))) h10)) h7)) h
noncomputable def spec_l04Line.code : Code := (Tryz.f212.body).getD .skip
theorem spec_l04Line.call {r_0 : Addr} {Post : Value → Heap → Prop} {h : Heap} (H : spec_l04Line.S r_0 Post h) : CALL prg f_spec_l04Line #[.pointer (some r_0)] Post h :=
  fn_call tau_ok mixed (c := spec_l04Line.code) (Λ := lookL []) Tryz.func212 (by kernel_rfl) (by kernel_rfl)
    (Rq.free (by kernel_rfl))
    (Eq.mp (by kernel_rfl) H)

def spec_l04Text.B6 (Post : Value → Heap → Prop) (N6 : (Addr × ByteArray × Int) → Heap → Prop) : Addr × ByteArray × Int → Heap → Prop
  | (x_0, out_3, i_4), h =>
    oL (cell h x_0) fun l18b l18l l18c =>
    BIF ((decide (i_4 < (l18l : Int)))) (
    oL (cell h x_0) fun l21b l21l l21c =>
    IDXS l21b i_4 l21l fun p22 =>
    oL (cell h (Addr.add x_0 1)) fun l23b l23l l23c =>
    IDXS l23b i_4 l23l fun p24 =>
    CALL prg f_spec_l04Line #[.pointer (some ((Addr.add p22 ((Int.toNat i_4) * 2))))] (fun q25 h26 =>
    asS q25 fun s27 =>
    PIN h (Addr.add x_0 1) 1 h26 <|
    CALL prg f_spec_l04Line #[.pointer (some ((Addr.add p24 ((Int.toNat i_4) * 2))))] (fun q28 h29 =>
    asS q28 fun s30 =>
    ((ByteArray.size s27 + ByteArray.size s30 : Nat) : Int) ≤ 9223372036854775807 ∧ (
    ((ByteArray.size out_3 + ByteArray.size (s27 ++ s30) : Nat) : Int) ≤ 9223372036854775807 ∧ (
    N6 (x_0, (out_3 ++ (s27 ++ s30)), ((IntKind.i64.wrap (i_4 + (1 : Int))))) h29))) h26) h) (
    Post (.string out_3) h)
def spec_l04Text.g6 (fr : Frame) : Addr × ByteArray × Int := ((gP (lget fr 0)), (gS (lget fr 3)), (gI (lget fr 4)))
def spec_l04Text.l6 (Post : Value → Heap → Prop) : Frame → Heap → Prop := fun fr h => GRD (shape (kds 67 [(0, .p), (3, .s), (4, .i .i64)]) fr) (LOOP (spec_l04Text.B6 Post) (spec_l04Text.g6 fr) h)
def spec_l04Text.J4 (Post : Value → Heap → Prop) (x_0 : Addr) (out_3 : ByteArray) (h : Heap) : Prop :=
    oF .f32 (cell h (Addr.add x_0 10)) fun r2 =>
    oF .f32 (cell h (Addr.add x_0 11)) fun r3 =>
    oF .f32 (cell h (Addr.add x_0 12)) fun r4 =>
    oL (cell h (Addr.add x_0 2)) fun l5b l5l l5c =>
    LDA 6 h (Addr.add x_0 3) fun a6 =>
    ALC ⟨[.float .f32 r2, .float .f32 r3, .float .f32 r4]⟩ T_float32 (fun g7 h8 =>
    PIN h (Addr.add x_0 3) 6 h8 <|
    PIN h (Addr.add x_0 2) 1 h8 <|
    CALL prg f_spec_l04Samples #[.slice (some ⟨g7, 0, none⟩) 3 3] (fun q9 h10 =>
    asS q9 fun s11 =>
    PIN h (Addr.add x_0 3) 6 h10 <|
    PIN h (Addr.add x_0 2) 1 h10 <|
    ((ByteArray.size s11 + ByteArray.size (⟨#[10, 115, 99, 97, 116, 116, 101, 114]⟩ : ByteArray) : Nat) : Int) ≤ 9223372036854775807 ∧ (
    CALL prg f_spec_l04Samples #[.slice l5b l5l l5c] (fun q12 h13 =>
    asS q12 fun s14 =>
    PIN h (Addr.add x_0 3) 6 h13 <|
    ((ByteArray.size (s11 ++ (⟨#[10, 115, 99, 97, 116, 116, 101, 114]⟩ : ByteArray)) + ByteArray.size s14 : Nat) : Int) ≤ 9223372036854775807 ∧ (
    ((ByteArray.size (((s11 ++ (⟨#[10, 115, 99, 97, 116, 116, 101, 114]⟩ : ByteArray)) ++ s14)) + ByteArray.size (⟨#[10]⟩ : ByteArray) : Nat) : Int) ≤ 9223372036854775807 ∧ (
    CALL prg f_spec_FilterText #[.agg a6] (fun q15 h16 =>
    asS q15 fun s17 =>
    ((ByteArray.size ((((s11 ++ (⟨#[10, 115, 99, 97, 116, 116, 101, 114]⟩ : ByteArray)) ++ s14) ++ (⟨#[10]⟩ : ByteArray))) + ByteArray.size s17 : Nat) : Int) ≤ 9223372036854775807 ∧ (
    ((ByteArray.size (((((s11 ++ (⟨#[10, 115, 99, 97, 116, 116, 101, 114]⟩ : ByteArray)) ++ s14) ++ (⟨#[10]⟩ : ByteArray)) ++ s17)) + ByteArray.size (⟨#[10]⟩ : ByteArray) : Nat) : Int) ≤ 9223372036854775807 ∧ (
    ((ByteArray.size out_3 + ByteArray.size ((((((s11 ++ (⟨#[10, 115, 99, 97, 116, 116, 101, 114]⟩ : ByteArray)) ++ s14) ++ (⟨#[10]⟩ : ByteArray)) ++ s17) ++ (⟨#[10]⟩ : ByteArray))) : Nat) : Int) ≤ 9223372036854775807 ∧ (
    LOOP (spec_l04Text.B6 Post) (x_0, ((out_3 ++ (((((s11 ++ (⟨#[10, 115, 99, 97, 116, 116, 101, 114]⟩ : ByteArray)) ++ s14) ++ (⟨#[10]⟩ : ByteArray)) ++ s17) ++ (⟨#[10]⟩ : ByteArray)))), (0 : Int)) h16)))) h13))) h10)) h8) h
def spec_l04Text.j4 (Post : Value → Heap → Prop) : Frame → Heap → Prop := fun fr h => GRD (shape (kds 67 [(0, .p), (3, .s)]) fr) (spec_l04Text.J4 Post (gP (lget fr 0)) (gS (lget fr 3)) h)
def spec_l04Text.S (x_0 : Addr) (Post : Value → Heap → Prop) (h : Heap) : Prop :=
    oB (cell h (Addr.add x_0 9)) fun b1 =>
    BIF b1 (
    spec_l04Text.J4 Post x_0 (⟨#[112, 105, 112, 101, 32, 111, 112, 101, 110]⟩ : ByteArray) h) (
    spec_l04Text.J4 Post x_0 (⟨#[112, 105, 112, 101, 32, 99, 108, 111, 115, 101, 100]⟩ : ByteArray) h)
noncomputable def spec_l04Text.code : Code := (Tryz.f143.body).getD .skip
theorem spec_l04Text.call {x_0 : Addr} {Post : Value → Heap → Prop} {h : Heap} (H : spec_l04Text.S x_0 Post h) : CALL prg f_spec_l04Text #[.pointer (some x_0)] Post h :=
  fn_call tau_ok mixed (c := spec_l04Text.code) (Λ := lookL [(4, spec_l04Text.j4 Post), (1000006, spec_l04Text.l6 Post)]) Tryz.func143 (by kernel_rfl) (by kernel_rfl)
    (Rq.seq (by kernel_rfl) (Rq.free (by kernel_rfl)) (Rq.seq (by kernel_rfl) (Rq.free (by kernel_rfl)) (Rq.seqJ (spec_l04Text.j4 Post) (by kernel_rfl) (seg (fun _ _ => by kernel_rfl)) (Rq.free (by kernel_rfl))
(Rq.seq (by kernel_rfl) (Rq.free (by kernel_rfl)) (Rq.seq (by kernel_rfl) (Rq.seq (by kernel_rfl) (Rq.free (by kernel_rfl)) (Rq.block (Rq.loop (spec_l04Text.l6 Post) (by kernel_rfl) (segL (g := spec_l04Text.g6) tau_ok mixed (Λ := fun N6 => lookL []) (fun _ _ _ => by kernel_rfl) (fun N6 => (Rq.free (by kernel_rfl))))))) (Rq.free (by kernel_rfl)))))))
    (Eq.mp (by kernel_rfl) H)

def spec_PipeText.S (x_0 : Array Value) (Post : Value → Heap → Prop) (h : Heap) : Prop :=
    ALC x_0 T_impl_Pipe (fun g1 h2 =>
    CALL prg f_spec_l04Ok #[.pointer (some ⟨g1, 0, none⟩)] (fun q3 h4 =>
    asB q3 fun b5 =>
    BIF (!b5) (
    Post (.string (⟨#[]⟩ : ByteArray)) h4) (
    CALL prg f_spec_l04Text #[.pointer (some ⟨g1, 0, none⟩)] (fun q6 h7 =>
    asS q6 fun s8 =>
    Post (.string s8) h7) h4)) h2) h
noncomputable def spec_PipeText.code : Code := (Tryz.f65.body).getD .skip
theorem spec_PipeText.call {x_0 : Array Value} {Post : Value → Heap → Prop} {h : Heap} (H : spec_PipeText.S x_0 Post h) : CALL prg f_spec_PipeText #[.agg x_0] Post h :=
  fn_call tau_ok mixed (c := spec_PipeText.code) (Λ := lookL []) Tryz.func65 (by kernel_rfl) (by kernel_rfl)
    (Rq.free (by kernel_rfl))
    (Eq.mp (by kernel_rfl) H)

def spec_l05Bowed.S (x_0 : Addr) (Post : Value → Heap → Prop) (h : Heap) : Prop :=
    oF .f32 (cell h (Addr.add x_0 10)) fun r1 =>
    oF .f32 (cell h (Addr.add x_0 11)) fun r2 =>
    LDA 6 h (Addr.add x_0 4) fun a3 =>
    ALC ⟨[.float .f32 r1, .float .f32 r2]⟩ T_float32 (fun g4 h5 =>
    PIN h (Addr.add x_0 4) 6 h5 <|
    CALL prg f_spec_l04Samples #[.slice (some ⟨g4, 0, none⟩) 2 2] (fun q6 h7 =>
    asS q6 fun s8 =>
    PIN h (Addr.add x_0 4) 6 h7 <|
    ((ByteArray.size (⟨#[98, 111, 119]⟩ : ByteArray) + ByteArray.size s8 : Nat) : Int) ≤ 9223372036854775807 ∧ (
    ((ByteArray.size ((⟨#[98, 111, 119]⟩ : ByteArray) ++ s8) + ByteArray.size (⟨#[10]⟩ : ByteArray) : Nat) : Int) ≤ 9223372036854775807 ∧ (
    CALL prg f_spec_FilterText #[.agg a3] (fun q9 h10 =>
    asS q9 fun s11 =>
    ((ByteArray.size ((((⟨#[98, 111, 119]⟩ : ByteArray) ++ s8) ++ (⟨#[10]⟩ : ByteArray))) + ByteArray.size s11 : Nat) : Int) ≤ 9223372036854775807 ∧ (
    ((ByteArray.size (((((⟨#[98, 111, 119]⟩ : ByteArray) ++ s8) ++ (⟨#[10]⟩ : ByteArray)) ++ s11)) + ByteArray.size (⟨#[10]⟩ : ByteArray) : Nat) : Int) ≤ 9223372036854775807 ∧ (
    CALL prg f_spec_l04Line #[.pointer (some x_0)] (fun q12 h13 =>
    asS q12 fun s14 =>
    ((ByteArray.size ((((((⟨#[98, 111, 119]⟩ : ByteArray) ++ s8) ++ (⟨#[10]⟩ : ByteArray)) ++ s11) ++ (⟨#[10]⟩ : ByteArray))) + ByteArray.size s14 : Nat) : Int) ≤ 9223372036854775807 ∧ (
    CALL prg f_spec_l04Line #[.pointer (some (Addr.add x_0 2))] (fun q15 h16 =>
    asS q15 fun s17 =>
    ((ByteArray.size (((((((⟨#[98, 111, 119]⟩ : ByteArray) ++ s8) ++ (⟨#[10]⟩ : ByteArray)) ++ s11) ++ (⟨#[10]⟩ : ByteArray)) ++ s14)) + ByteArray.size s17 : Nat) : Int) ≤ 9223372036854775807 ∧ (
    Post (.string ((((((((⟨#[98, 111, 119]⟩ : ByteArray) ++ s8) ++ (⟨#[10]⟩ : ByteArray)) ++ s11) ++ (⟨#[10]⟩ : ByteArray)) ++ s14) ++ s17))) h16)) h13)) h10))) h7))) h5) h
noncomputable def spec_l05Bowed.code : Code := (Tryz.f144.body).getD .skip
theorem spec_l05Bowed.call {x_0 : Addr} {Post : Value → Heap → Prop} {h : Heap} (H : spec_l05Bowed.S x_0 Post h) : CALL prg f_spec_l05Bowed #[.pointer (some x_0)] Post h :=
  fn_call tau_ok mixed (c := spec_l05Bowed.code) (Λ := lookL []) Tryz.func144 (by kernel_rfl) (by kernel_rfl)
    (Rq.free (by kernel_rfl))
    (Eq.mp (by kernel_rfl) H)

def spec_BowText.S (x_0 : Array Value) (Post : Value → Heap → Prop) (h : Heap) : Prop :=
    ALC x_0 T_impl_Bow (fun g1 h2 =>
    CALL prg f_spec_l05Bow #[.pointer (some ⟨g1, 0, none⟩)] (fun q3 h4 =>
    asB q3 fun b5 =>
    BIF (!b5) (
    Post (.string (⟨#[]⟩ : ByteArray)) h4) (
    CALL prg f_spec_l05Bowed #[.pointer (some ⟨g1, 0, none⟩)] (fun q6 h7 =>
    asS q6 fun s8 =>
    Post (.string s8) h7) h4)) h2) h
noncomputable def spec_BowText.code : Code := (Tryz.f66.body).getD .skip
theorem spec_BowText.call {x_0 : Array Value} {Post : Value → Heap → Prop} {h : Heap} (H : spec_BowText.S x_0 Post h) : CALL prg f_spec_BowText #[.agg x_0] Post h :=
  fn_call tau_ok mixed (c := spec_BowText.code) (Λ := lookL []) Tryz.func66 (by kernel_rfl) (by kernel_rfl)
    (Rq.free (by kernel_rfl))
    (Eq.mp (by kernel_rfl) H)

end Go.Sx
