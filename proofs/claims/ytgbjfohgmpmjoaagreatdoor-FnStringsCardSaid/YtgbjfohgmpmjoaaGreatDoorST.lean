/- What functions of this seat's program compute, told in words (a predicate over heaps for each), and the proofs that the words are no more than the code's own weakest precondition. -/
import Derived.Test.YtgbjfohgmpmjoaaGreatDoorTab
import Derived.Test.YtgbjfohgmpmjoaaGreatDoorLvk
import Derived.Test.YtgbjfohgmpmjoaaGreatDoorLk60
import Derived.Test.YtgbjfohgmpmjoaaGreatDoorSP
namespace Go.Sx
open Go.Proofs
set_option linter.unusedVariables false
set_option maxRecDepth 100000

def impl_StringText.S (x_0 : Array Value) (Post : Value → Heap → Prop) (h : Heap) : Prop :=
    ALC x_0 T_impl_String (fun g1 h2 =>
    LDA 15 h2 ⟨g1, 0, none⟩ fun a3 =>
    CALL prg f_impl_ValidString #[.agg a3] (fun q4 h5 =>
    asB q4 fun b6 =>
    BIF (!b6) (
    Post (.string (⟨#[]⟩ : ByteArray)) h5) (
    oF .f32 (cell h5 ⟨g1, 14, none⟩) fun r7 =>
    oL (cell h5 ⟨g1, 0, none⟩) fun l8b l8l l8c =>
    oI .i64 (cell h5 ⟨g1, 1, none⟩) fun n9 =>
    LDA 6 h5 ⟨g1, 2, none⟩ fun a10 =>
    LDA 6 h5 ⟨g1, 8, none⟩ fun a11 =>
    oL (cell h5 ⟨g1, 0, none⟩) fun l12b l12l l12c =>
    CALL prg f_impl_bitsText #[.float .f32 r7] (fun q13 h14 =>
    asS q13 fun s15 =>
    PIN h5 ⟨g1, 0, none⟩ 1 h14 <|
    PIN h5 ⟨g1, 8, none⟩ 6 h14 <|
    PIN h5 ⟨g1, 2, none⟩ 6 h14 <|
    PIN h5 ⟨g1, 1, none⟩ 1 h14 <|
    PIN h5 ⟨g1, 0, none⟩ 1 h14 <|
    ((ByteArray.size (⟨#[115, 116, 114, 105, 110, 103, 32]⟩ : ByteArray) + ByteArray.size s15 : Nat) : Int) ≤ 9223372036854775807 ∧ (
    ((ByteArray.size ((⟨#[115, 116, 114, 105, 110, 103, 32]⟩ : ByteArray) ++ s15) + ByteArray.size (⟨#[32]⟩ : ByteArray) : Nat) : Int) ≤ 9223372036854775807 ∧ (
    CALL prg f_impl_length_float32 #[.slice l8b l8l l8c] (fun q16 h17 =>
    asI .i64 q16 fun n18 =>
    PIN h5 ⟨g1, 0, none⟩ 1 h17 <|
    PIN h5 ⟨g1, 8, none⟩ 6 h17 <|
    PIN h5 ⟨g1, 2, none⟩ 6 h17 <|
    PIN h5 ⟨g1, 1, none⟩ 1 h17 <|
    CALL prg f_impl_decimal #[.int .i64 n18] (fun q19 h20 =>
    asS q19 fun s21 =>
    PIN h5 ⟨g1, 0, none⟩ 1 h20 <|
    PIN h5 ⟨g1, 8, none⟩ 6 h20 <|
    PIN h5 ⟨g1, 2, none⟩ 6 h20 <|
    PIN h5 ⟨g1, 1, none⟩ 1 h20 <|
    ((ByteArray.size ((((⟨#[115, 116, 114, 105, 110, 103, 32]⟩ : ByteArray) ++ s15) ++ (⟨#[32]⟩ : ByteArray))) + ByteArray.size s21 : Nat) : Int) ≤ 9223372036854775807 ∧ (
    ((ByteArray.size (((((⟨#[115, 116, 114, 105, 110, 103, 32]⟩ : ByteArray) ++ s15) ++ (⟨#[32]⟩ : ByteArray)) ++ s21)) + ByteArray.size (⟨#[32]⟩ : ByteArray) : Nat) : Int) ≤ 9223372036854775807 ∧ (
    CALL prg f_impl_decimal #[.int .i64 n9] (fun q22 h23 =>
    asS q22 fun s24 =>
    PIN h5 ⟨g1, 0, none⟩ 1 h23 <|
    PIN h5 ⟨g1, 8, none⟩ 6 h23 <|
    PIN h5 ⟨g1, 2, none⟩ 6 h23 <|
    ((ByteArray.size ((((((⟨#[115, 116, 114, 105, 110, 103, 32]⟩ : ByteArray) ++ s15) ++ (⟨#[32]⟩ : ByteArray)) ++ s21) ++ (⟨#[32]⟩ : ByteArray))) + ByteArray.size s24 : Nat) : Int) ≤ 9223372036854775807 ∧ (
    ((ByteArray.size (((((((⟨#[115, 116, 114, 105, 110, 103, 32]⟩ : ByteArray) ++ s15) ++ (⟨#[32]⟩ : ByteArray)) ++ s21) ++ (⟨#[32]⟩ : ByteArray)) ++ s24)) + ByteArray.size (⟨#[10]⟩ : ByteArray) : Nat) : Int) ≤ 9223372036854775807 ∧ (
    CALL prg f_impl_FilterText #[.agg a10] (fun q25 h26 =>
    asS q25 fun s27 =>
    PIN h5 ⟨g1, 0, none⟩ 1 h26 <|
    PIN h5 ⟨g1, 8, none⟩ 6 h26 <|
    ((ByteArray.size ((((((((⟨#[115, 116, 114, 105, 110, 103, 32]⟩ : ByteArray) ++ s15) ++ (⟨#[32]⟩ : ByteArray)) ++ s21) ++ (⟨#[32]⟩ : ByteArray)) ++ s24) ++ (⟨#[10]⟩ : ByteArray))) + ByteArray.size s27 : Nat) : Int) ≤ 9223372036854775807 ∧ (
    ((ByteArray.size (((((((((⟨#[115, 116, 114, 105, 110, 103, 32]⟩ : ByteArray) ++ s15) ++ (⟨#[32]⟩ : ByteArray)) ++ s21) ++ (⟨#[32]⟩ : ByteArray)) ++ s24) ++ (⟨#[10]⟩ : ByteArray)) ++ s27)) + ByteArray.size (⟨#[10]⟩ : ByteArray) : Nat) : Int) ≤ 9223372036854775807 ∧ (
    CALL prg f_impl_FilterText #[.agg a11] (fun q28 h29 =>
    asS q28 fun s30 =>
    PIN h5 ⟨g1, 0, none⟩ 1 h29 <|
    ((ByteArray.size ((((((((((⟨#[115, 116, 114, 105, 110, 103, 32]⟩ : ByteArray) ++ s15) ++ (⟨#[32]⟩ : ByteArray)) ++ s21) ++ (⟨#[32]⟩ : ByteArray)) ++ s24) ++ (⟨#[10]⟩ : ByteArray)) ++ s27) ++ (⟨#[10]⟩ : ByteArray))) + ByteArray.size s30 : Nat) : Int) ≤ 9223372036854775807 ∧ (
    ((ByteArray.size (((((((((((⟨#[115, 116, 114, 105, 110, 103, 32]⟩ : ByteArray) ++ s15) ++ (⟨#[32]⟩ : ByteArray)) ++ s21) ++ (⟨#[32]⟩ : ByteArray)) ++ s24) ++ (⟨#[10]⟩ : ByteArray)) ++ s27) ++ (⟨#[10]⟩ : ByteArray)) ++ s30)) + ByteArray.size (⟨#[10]⟩ : ByteArray) : Nat) : Int) ≤ 9223372036854775807 ∧ (
    CALL prg f_impl_samplesText #[.slice l12b l12l l12c] (fun q31 h32 =>
    asS q31 fun s33 =>
    ((ByteArray.size ((((((((((((⟨#[115, 116, 114, 105, 110, 103, 32]⟩ : ByteArray) ++ s15) ++ (⟨#[32]⟩ : ByteArray)) ++ s21) ++ (⟨#[32]⟩ : ByteArray)) ++ s24) ++ (⟨#[10]⟩ : ByteArray)) ++ s27) ++ (⟨#[10]⟩ : ByteArray)) ++ s30) ++ (⟨#[10]⟩ : ByteArray))) + ByteArray.size s33 : Nat) : Int) ≤ 9223372036854775807 ∧ (
    ((ByteArray.size (((((((((((((⟨#[115, 116, 114, 105, 110, 103, 32]⟩ : ByteArray) ++ s15) ++ (⟨#[32]⟩ : ByteArray)) ++ s21) ++ (⟨#[32]⟩ : ByteArray)) ++ s24) ++ (⟨#[10]⟩ : ByteArray)) ++ s27) ++ (⟨#[10]⟩ : ByteArray)) ++ s30) ++ (⟨#[10]⟩ : ByteArray)) ++ s33)) + ByteArray.size (⟨#[10]⟩ : ByteArray) : Nat) : Int) ≤ 9223372036854775807 ∧ (
    Post (.string ((((((((((((((⟨#[115, 116, 114, 105, 110, 103, 32]⟩ : ByteArray) ++ s15) ++ (⟨#[32]⟩ : ByteArray)) ++ s21) ++ (⟨#[32]⟩ : ByteArray)) ++ s24) ++ (⟨#[10]⟩ : ByteArray)) ++ s27) ++ (⟨#[10]⟩ : ByteArray)) ++ s30) ++ (⟨#[10]⟩ : ByteArray)) ++ s33) ++ (⟨#[10]⟩ : ByteArray)))) h32))) h29))) h26))) h23))) h20))) h17) h14))) h5)) h2) h
noncomputable def impl_StringText.code : Code := (Tryz.f29.body).getD .skip
theorem impl_StringText.call {x_0 : Array Value} {Post : Value → Heap → Prop} {h : Heap} (H : impl_StringText.S x_0 Post h) : CALL prg f_impl_StringText #[.agg x_0] Post h :=
  fn_call tau_ok mixed (c := impl_StringText.code) (Λ := lookL []) Tryz.func29 (by kernel_rfl) (by kernel_rfl)
    (Rq.free (by kernel_rfl))
    (Eq.mp (by kernel_rfl) H)

def impl_ReadString.J14 (Post : Value → Heap → Prop) (t2 : Addr) (x_17 : Addr) (t100 : Bool) (h : Heap) : Prop :=
    BIF t100 (
    STA 15 h t2 (⟨[.slice none 0 0, .int .i64 (0 : Int), .int .i64 (0 : Int), .float .f32 0, .float .f32 0, .float .f32 0, .float .f32 0, .float .f32 0, .int .i64 (0 : Int), .float .f32 0, .float .f32 0, .float .f32 0, .float .f32 0, .float .f32 0, .float .f32 0]⟩ : Array Value) fun h78 =>
    LDA 15 h78 t2 fun a79 =>
    Post (.tuple ⟨[.agg a79, .int .i64 (5 : Int)]⟩) h78) (
    LDA 15 h x_17 fun a80 =>
    STA 15 h t2 a80 fun h81 =>
    LDA 15 h81 t2 fun a82 =>
    Post (.tuple ⟨[.agg a82, .int .i64 (0 : Int)]⟩) h81)
def impl_ReadString.j14 (Post : Value → Heap → Prop) : Frame → Heap → Prop := fun fr h => GRD (shape (kds 103 [(2, .p), (17, .p), (100, .b)]) fr) (impl_ReadString.J14 Post (gP (lget fr 2)) (gP (lget fr 17)) (gB (lget fr 100)) h)
def impl_ReadString.S (text_0 : ByteArray) (Post : Value → Heap → Prop) (h : Heap) : Prop :=
    ALC ⟨Z_impl_String⟩ T_impl_String (fun g1 h2 =>
    CALL prg f_impl_linesOf #[.string text_0, .int .i64 (4 : Int)] (fun q3 h4 =>
    TUP2 q3 fun q5 q6 =>
    asL q5 fun l7b l7l l7c =>
    asB q6 fun b8 =>
    BIF (!b8) (
    STA 15 h4 ⟨g1, 0, none⟩ (⟨[.slice none 0 0, .int .i64 (0 : Int), .int .i64 (0 : Int), .float .f32 0, .float .f32 0, .float .f32 0, .float .f32 0, .float .f32 0, .int .i64 (0 : Int), .float .f32 0, .float .f32 0, .float .f32 0, .float .f32 0, .float .f32 0, .float .f32 0]⟩ : Array Value) fun h9 =>
    LDA 15 h9 ⟨g1, 0, none⟩ fun a10 =>
    Post (.tuple ⟨[.agg a10, .int .i64 (5 : Int)]⟩) h9) (
    IDXS l7b (0 : Int) l7l fun p11 =>
    oS (cell h4 p11) fun s12 =>
    CALL prg f_strings_Split #[.string s12, .string (⟨#[32]⟩ : ByteArray)] (fun q13 h14 =>
    asL q13 fun l15b l15l l15c =>
    BIF ((l15l : Int) != (4 : Int)) (
    STA 15 h14 ⟨g1, 0, none⟩ (⟨[.slice none 0 0, .int .i64 (0 : Int), .int .i64 (0 : Int), .float .f32 0, .float .f32 0, .float .f32 0, .float .f32 0, .float .f32 0, .int .i64 (0 : Int), .float .f32 0, .float .f32 0, .float .f32 0, .float .f32 0, .float .f32 0, .float .f32 0]⟩ : Array Value) fun h18 =>
    LDA 15 h18 ⟨g1, 0, none⟩ fun a19 =>
    Post (.tuple ⟨[.agg a19, .int .i64 (5 : Int)]⟩) h18) (
    IDXS l15b (1 : Int) l15l fun p20 =>
    oS (cell h14 (Addr.add p20 1)) fun s21 =>
    CALL prg f_impl_readBits #[.string s21] (fun q22 h23 =>
    TUP2 q22 fun q24 q25 =>
    asF .f32 q24 fun r26 =>
    asB q25 fun b27 =>
    IDXS l15b (3 : Int) l15l fun p28 =>
    oS (cell h23 (Addr.add p28 3)) fun s29 =>
    CALL prg f_impl_readDecimal #[.string s29] (fun q30 h31 =>
    TUP2 q30 fun q32 q33 =>
    asI .i64 q32 fun n34 =>
    asB q33 fun b35 =>
    IDXS l7b (1 : Int) l7l fun p36 =>
    oS (cell h31 (Addr.add p36 1)) fun s37 =>
    CALL prg f_impl_ReadFilter #[.string s37] (fun q38 h39 =>
    TUP2 q38 fun q40 q41 =>
    asA q40 fun a42 =>
    asI .i64 q41 fun n43 =>
    ALC ⟨Z_impl_Filter⟩ T_impl_Filter (fun g44 h45 =>
    STA 6 h45 ⟨g44, 0, none⟩ a42 fun h46 =>
    IDXS l7b (2 : Int) l7l fun p47 =>
    oS (cell h46 (Addr.add p47 2)) fun s48 =>
    CALL prg f_impl_ReadFilter #[.string s48] (fun q49 h50 =>
    TUP2 q49 fun q51 q52 =>
    asA q51 fun a53 =>
    asI .i64 q52 fun n54 =>
    ALC ⟨Z_impl_Filter⟩ T_impl_Filter (fun g55 h56 =>
    STA 6 h56 ⟨g55, 0, none⟩ a53 fun h57 =>
    IDXS l7b (3 : Int) l7l fun p58 =>
    oS (cell h57 (Addr.add p58 3)) fun s59 =>
    CALL prg f_strings_Split #[.string s59, .string (⟨#[32]⟩ : ByteArray)] (fun q60 h61 =>
    asL q60 fun l62b l62l l62c =>
    CALL prg f_impl_readSamples #[.slice l62b l62l l62c] (fun q63 h64 =>
    TUP2 q63 fun q65 q66 =>
    asL q65 fun l67b l67l l67c =>
    asB q66 fun b68 =>
    LDA 6 h64 ⟨g44, 0, none⟩ fun a69 =>
    LDA 6 h64 ⟨g55, 0, none⟩ fun a70 =>
    SIZ (Array.size (⟨[.slice l67b l67l l67c, .int .i64 n34]⟩ : Array Value)) 2 <|
    SIZ (Array.size a69) 6 <|
    SIZ (Array.size a70) 6 <|
    ALC ⟨Z_impl_String⟩ T_impl_String (fun g71 h72 =>
    STA 15 h72 ⟨g71, 0, none⟩ ⟨(List.set (splice 8 6 a70 (splice 2 6 a69 [.slice l67b l67l l67c, .int .i64 n34, .int .i64 (0 : Int), .float .f32 0, .float .f32 0, .float .f32 0, .float .f32 0, .float .f32 0, .int .i64 (0 : Int), .float .f32 0, .float .f32 0, .float .f32 0, .float .f32 0, .float .f32 0, .float .f32 0])) 14 (.float .f32 r26))⟩ fun h73 =>
    BIF (!b27) (
    impl_ReadString.J14 Post ⟨g1, 0, none⟩ ⟨g71, 0, none⟩ true h73) (
    BIF (!b35) (
    impl_ReadString.J14 Post ⟨g1, 0, none⟩ ⟨g71, 0, none⟩ true h73) (
    BIF (n43 != (0 : Int)) (
    impl_ReadString.J14 Post ⟨g1, 0, none⟩ ⟨g71, 0, none⟩ true h73) (
    BIF (n54 != (0 : Int)) (
    impl_ReadString.J14 Post ⟨g1, 0, none⟩ ⟨g71, 0, none⟩ true h73) (
    BIF (!b68) (
    impl_ReadString.J14 Post ⟨g1, 0, none⟩ ⟨g71, 0, none⟩ true h73) (
    LDA 15 h73 ⟨g71, 0, none⟩ fun a74 =>
    CALL prg f_impl_StringText #[.agg a74] (fun q75 h76 =>
    asS q75 fun s77 =>
    impl_ReadString.J14 Post ⟨g1, 0, none⟩ ⟨g71, 0, none⟩ (!(ByteArray.toList s77 == ByteArray.toList text_0)) h76) h73)))))) h64) h61) h57) h50) h46) h39) h31) h23) h14)) h4)) h2) h
noncomputable def impl_ReadString.code : Code := (Tryz.f28.body).getD .skip
theorem impl_ReadString.call {text_0 : ByteArray} {Post : Value → Heap → Prop} {h : Heap} (H : impl_ReadString.S text_0 Post h) : CALL prg f_impl_ReadString #[.string text_0] Post h :=
  fn_call tau_ok mixed (c := impl_ReadString.code) (Λ := lookL [(14, impl_ReadString.j14 Post)]) Tryz.func28 (by kernel_rfl) (by kernel_rfl)
    (Rq.seq (by kernel_rfl) (Rq.free (by kernel_rfl)) (Rq.seq (by kernel_rfl) (Rq.free (by kernel_rfl)) (Rq.seq (by kernel_rfl) (Rq.free (by kernel_rfl)) (Rq.seq (by kernel_rfl) (Rq.free (by kernel_rfl)) (Rq.seq (by kernel_rfl) (Rq.free (by kernel_rfl)) (Rq.seq (by kernel_rfl) (Rq.free (by kernel_rfl)) (Rq.seq (by kernel_rfl) (Rq.free (by kernel_rfl)) (Rq.seq (by kernel_rfl) (Rq.free (by kernel_rfl)) (Rq.seq (by kernel_rfl) (Rq.free (by kernel_rfl)) (Rq.seq (by kernel_rfl) (Rq.free (by kernel_rfl)) (Rq.seq (by kernel_rfl) (Rq.free (by kernel_rfl)) (Rq.seq (by kernel_rfl) (Rq.seqJ (impl_ReadString.j14 Post) (by kernel_rfl) (seg (fun _ _ => by kernel_rfl)) (Rq.free (by kernel_rfl))
(Rq.free (by kernel_rfl))) (Rq.free (by kernel_rfl))))))))))))))
    (Eq.mp (by kernel_rfl) H)

end Go.Sx
/- Strings told and read. -/
set_option linter.unusedVariables false
set_option linter.unusedSimpArgs false
namespace Go.Sx
open Go.Proofs
set_option maxRecDepth 100000
set_option maxHeartbeats 2000000

/-- Strings as they are told and read again. -/
structure StrA (x : GString) : Prop where
  l : RingA x.Loop
  t : FiltA x.Tune
  d : FiltA x.Damp
  b : FW .f32 x.Loss x.Loss
theorem StrA.b' {x : GString} (h : StrA x) : StrB x := ⟨h.l.b, h.t.b, h.d.b, h.b.lt⟩
theorem str_fl {x : GString} (hok : x.ok = true) : x.Tune.ok = true ∧ x.Damp.ok = true := by
  unfold GString.ok at hok
  simp only [Bool.and_eq_true] at hok
  exact ⟨hok.1.1.2.1, hok.1.2.1⟩
theorem str_a {h : Heap} {q : Addr} {x : GString} (R : RdP rString h q x) (hok : x.ok = true) : StrA x := by
  have fl := str_fl hok
  exact ⟨⟨str_loop hok, ring_a (R.foc foc_String_Loop)⟩, filt_a (R.foc foc_String_Tune) fl.1, filt_a (R.foc foc_String_Damp) fl.2, f32_a (R.foc foc_String_Loss)⟩
section
variable {h0 h : Heap} {L : List Blk} {cs : Array Value} {x : GString}
theorem StringText_c (R0 : rString.rd h cs.toList x) (hok : x.ok = true) (T : Txt h) : CALL prg f_impl_StringText #[.agg cs] (fun u h' => u = .string (mkB (linL x.lines)) ∧ Ext h h') h := by
  refine impl_StringText.call (alcR R0 fun g h1 x1 R => R.lda1 rfl fun c1 R1 => goX (ValidString_c R1) fun h2 x2 => as_b ?_)
  rw [hok]
  have R := R.ext x2
  have A := str_a R hok
  have T := T.ext (x1.trans x2)
  have X0 := x1.trans x2
  have fl := str_fl hok
  have s1 := bitL_len (A.b.lt : x.Loss < 4294967296)
  have s2 := A.t.b.size
  have s3 := A.d.b.size
  have s4 := smp_le A.l.b.bits
  have hl := A.l.b.len
  have a0 := A.l.b.a0
  have a1 := A.l.b.a1
  have d1 := dec_le (n := x.Loop.Samples.length) (k := 9) (by omega)
  have d2 := dec_le (n := x.Loop.At.toNat) (k := 9) (by omega)
  refine br_f rfl (R.oF2 fun y hy => (R.oL1 fun b l c S => R.oI2 (R.lda2 foc_String_Tune rfl fun ct Rt => R.lda2 foc_String_Damp rfl fun cd Rd => R.oL1 fun b' l' c' S' => ?_)))
  have PN : ∀ (off n : Nat) {hh : Heap} {p : Prop}, off + n ≤ rString.sz → Ext h2 hh → p → PIN h2 ⟨g, off, none⟩ n hh p := fun off n {hh p} hj X H => by
    have q1 := R.pinO (off := off) (n := n) hj X H
    rwa [add_g] at q1
  have hl1 : x.Loop.Samples.length = l := S.len
  have hl2 : x.Loop.Samples.length = l' := S'.len
  refine goX (bitsText_c hy T.br) fun h3 x3 => as_s (PN 0 1 (by decide) x3 (PN 8 6 (by decide) x3 (PN 2 6 (by decide) x3 (PN 1 1 (by decide) x3 (PN 0 1 (by decide) x3 ?_)))))
  refine ⟨by simp only [ba_len, mk_size, List.length_cons, List.length_nil]; omega, by simp only [ba_len, mk_size, List.length_cons, List.length_nil]; omega, ?_⟩
  refine goX (length_f32_c _ _ _ _) fun h4 x4 => as_i ?_
  have y4 := x3.trans x4
  refine PN 0 1 (by decide) y4 (PN 8 6 (by decide) y4 (PN 2 6 (by decide) y4 (PN 1 1 (by decide) y4 ?_)))
  refine goX (decimal_c (m := l) (by omega) (T.ext y4).lb.tens) fun h5 x5 => as_s ?_
  have y5 := y4.trans x5
  refine PN 0 1 (by decide) y5 (PN 8 6 (by decide) y5 (PN 2 6 (by decide) y5 (PN 1 1 (by decide) y5 ?_)))
  rw [decB_mk]
  rw [← hl1] at *
  refine ⟨by simp only [ba_len, mk_size, List.length_cons, List.length_nil]; omega, by simp only [ba_len, mk_size, List.length_cons, List.length_nil]; omega, ?_⟩
  obtain ⟨k, hk⟩ : ∃ n : Nat, x.Loop.At = (n : Int) := ⟨x.Loop.At.toNat, by omega⟩
  rw [hk, Int.toNat_natCast] at d2
  rw [hk]
  refine goX (decimal_c (m := k) (by omega) (T.ext y5).lb.tens) fun h6 x6 => as_s ?_
  have y6 := y5.trans x6
  refine PN 0 1 (by decide) y6 (PN 8 6 (by decide) y6 (PN 2 6 (by decide) y6 ?_))
  rw [decB_mk]
  refine ⟨by simp only [ba_len, mk_size, List.length_cons, List.length_nil]; omega, by simp only [ba_len, mk_size, List.length_cons, List.length_nil]; omega, ?_⟩
  refine goX (FilterText_c (rFilter.ext y6 Rt) fl.1 A.t (T.ext y6)) fun h7 x7 => as_s ?_
  have y7 := y6.trans x7
  refine PN 0 1 (by decide) y7 (PN 8 6 (by decide) y7 ?_)
  refine ⟨by simp only [ba_len, mk_size, List.length_cons, List.length_nil]; omega, by simp only [ba_len, mk_size, List.length_cons, List.length_nil]; omega, ?_⟩
  refine goX (FilterText_c (rFilter.ext y7 Rd) fl.2 A.d (T.ext y7)) fun h8 x8 => as_s ?_
  have y8 := y7.trans x8
  refine PN 0 1 (by decide) y8 ?_
  refine ⟨by simp only [ba_len, mk_size, List.length_cons, List.length_nil]; omega, by simp only [ba_len, mk_size, List.length_cons, List.length_nil]; omega, ?_⟩
  refine goX (samplesText_c (S'.ext y8) (by omega) (T.ext y8).br) fun h9 x9 => as_s ?_
  refine ⟨by simp only [ba_len, mk_size, List.length_cons, List.length_nil]; omega, by simp only [ba_len, mk_size, List.length_cons, List.length_nil]; omega, ?_, X0.trans (y8.trans x9)⟩
  have e10 : (⟨#[10]⟩ : ByteArray) = mkB [10] := rfl
  have e32 : (⟨#[32]⟩ : ByteArray) = mkB [32] := rfl
  have e4 : (⟨#[115, 116, 114, 105, 110, 103, 32]⟩ : ByteArray) = mkB (strW ++ [32]) := rfl
  rw [e10, e4, e32]
  simp only [mkB_app, List.append_assoc]
  unfold GString.lines
  rw [hk, Int.toNat_natCast]
  simp only [words_cons, words_one]
  simp [linL]
theorem ReadString_ok (hok : x.ok = true) (A : StrA x) (T : Txt h) : CALL prg f_impl_ReadString #[.string (mkB (linL x.lines))] (fun u h' => PairR rString h h' u x 0) h := by
  have fl := str_fl hok
  have B := A.b'
  have sz := B.size
  have hl := A.l.b.len
  have a0 := A.l.b.a0
  have a1 := A.l.b.a1
  have hne : 1 ≤ x.Loop.Samples.length := List.length_pos_iff.2 A.l.b.ne
  have s2 := A.t.b.size
  have s3 := A.d.b.size
  have s4 := smp_le A.l.b.bits
  refine impl_ReadString.call ((Mem.start h).alc fun g1 h1 x1 M => ?_)
  refine linesOf_ok (T.ext x1) (ls := x.lines) (m := 4) rfl (by decide) B.mem (by omega) M fun g h2 x2 M => ?_
  have ln : ∀ {hh : Heap} (j : Nat) {s : List UInt8} {K : ByteArray → Prop} {W : List Blk}, Mem h hh W → Look W g (strV (x.lines ++ [[]])) → (x.lines ++ [[]])[j]? = some s → K (mkB s) → oS (cell hh ⟨g, j, none⟩) K := fun {hh} j {s K W} M l e H => by
    refine M.oS l (j := j) (n := mkB s) ?_ H
    unfold strV
    rw [List.getElem?_toArray, List.getElem?_map, e]; rfl
  refine tup2 (as_l (as_b (br_f rfl (idxs (by omega) (by omega) ?_))))
  refine ln 0 M .here rfl ?_
  have w0 : (wordsL [strW, bitL x.Loss, Lib.decDigits x.Loop.Samples.length, Lib.decDigits x.Loop.At.toNat]).length ≤ 1048576 := by
    refine Nat.le_trans (words_size (k := 10) fun w hw => ?_) (show (10 + 1) * 4 ≤ 1048576 by decide)
    simp only [List.mem_cons, List.not_mem_nil, or_false] at hw
    rcases hw with rfl | rfl | rfl | rfl
    · decide
    · rw [bitL_len B.b]; decide
    · exact dec_le (k := 9) (by omega)
    · exact dec_le (k := 9) (by omega)
  refine Split_c (c := 32) (T.ext M.ext).lb (by rw [mk_size]; exact w0) M fun gw h3 x3 M => as_l ?_
  rw [mkB_data, words_cut B.words] at M ⊢
  refine br_f (by simp) (idxs (by simp) (by simp) ?_)
  rw [add_none]
  refine M.oS .here (j := 1) rfl (goM M (readBits_ok A.b (T.ext M.ext).br) fun h4 M => tup2 (as_f (as_b (idxs (by simp) (by simp) ?_))))
  rw [add_none]
  refine M.oS .here (j := 3) rfl (goM M (readDec_ok (m := x.Loop.At.toNat) (T.ext M.ext) (by omega)) fun h5 M => tup2 (as_i (as_b (idxs (by omega) (by omega) ?_))))
  rw [add_none]
  refine ln 1 M (.there .here) rfl ((ReadFilter_ok fl.1 A.t (T.ext M.ext)).mono ?_)
  rintro _ h6 ⟨ct, rfl, Ot, x6⟩
  have M := M.grow x6
  obtain ⟨v, ev, Ov⟩ := filter_cells (rFilter.look Ot M (List.nil_sublist _))
  obtain rfl : ct = ⟨flT v⟩ := by cases ct; exact congrArg Array.mk ev
  refine tup2 (as_a (as_i (M.alc fun g44 h7 x7 M => M.sta0 .here rfl flT_one rfl .here fun h8 M => idxs (by omega) (by omega) ?_)))
  rw [add_none]
  refine ln 2 M (.there (.there .here)) rfl ((ReadFilter_ok fl.2 A.d (T.ext M.ext)).mono ?_)
  rintro _ h9 ⟨cd, rfl, Od, x9⟩
  have M := M.grow x9
  obtain ⟨w, ew, Ow⟩ := filter_cells (rFilter.look Od M (List.nil_sublist _))
  obtain rfl : cd = ⟨flT w⟩ := by cases cd; exact congrArg Array.mk ew
  refine tup2 (as_a (as_i (M.alc fun g55 h10 x10 M => M.sta0 .here rfl flT_one rfl .here fun h11 M => idxs (by omega) (by omega) ?_)))
  rw [add_none]
  refine ln 3 M (.there (.there (.there .here))) rfl (Split_c (c := 32) (T.ext M.ext).lb (by rw [mk_size]; omega) M fun gs h12 x12 M => as_l ?_)
  have ec : cutL 32 (smpL x.Loop.Samples) = x.Loop.Samples.map bitL := by
    rw [smp_words]
    obtain ⟨n, r, e⟩ := List.exists_cons_of_ne_nil A.l.b.ne
    rw [e]
    refine words_cut fun y hy => ?_
    rw [← List.map_cons, ← e] at hy
    obtain ⟨m, hm, rfl⟩ := List.mem_map.1 hy
    exact word_bits (A.l.b.bits m hm)
  rw [mkB_data, ec] at M ⊢
  have hbig : (1048576 : Nat) ≤ maxLen := by decide
  have S := strV_slr M .here (fun y hy => by
    obtain ⟨m, hm, rfl⟩ := List.mem_map.1 hy
    rw [bitL_len (A.l.b.bits m hm)]; omega) (by rw [List.length_map]; omega)
  rw [List.length_map] at S ⊢
  have e2 : (x.Loop.Samples.map bitL).map mkB = bitsS x.Loop.Samples := map_bits _
  rw [e2] at S
  refine (readSamples_ok S A.l.a (by omega) (T.ext M.ext).br).mono ?_
  rintro _ h13 ⟨b', c', B', rfl, O, N⟩
  have M := M.join N
  refine tup2 (as_l (as_b ?_))
  have M := M.cnt (W := (g44, T_impl_Filter, ⟨flT v⟩) :: (g55, T_impl_Filter, ⟨flT w⟩) :: (g1, T_impl_String, ⟨Z_impl_String⟩) :: B') (fun p => by simp only [List.append_eq, cnt_app, cnt_cons, cnt_nil] at *; omega)
  refine M.lda0 .here rfl (M.lda0 (.there .here) rfl (siz rfl (siz rfl (siz rfl ?_))))
  have hat : ((x.Loop.At.toNat : Nat) : Int) = x.Loop.At := by omega
  rw [hat]
  have OS := strg_ow (x := x) O Ov Ow A.b
  refine M.alc fun g71 h14 x14 M => M.sta0 (vs := ⟨stL b' _ c' x.Loop.At v w x.Loss⟩) .here rfl stL_one rfl .here fun h15 M => br_f rfl (br_f rfl (br_f rfl (br_f rfl (br_f rfl (M.lda0 .here rfl ?_)))))
  have RS : rString.rd h15 (⟨stL b' _ c' x.Loop.At v w x.Loss⟩ : Array Value).toList x := rString.look OS M ((List.sublist_cons_self _ _).trans ((List.sublist_cons_self _ _).trans ((List.sublist_cons_self _ _).trans (List.sublist_cons_self _ _))))
  refine goM M (StringText_c RS hok (T.ext M.ext)) fun h16 M => as_s ?_
  unfold impl_ReadString.J14
  refine br_f (by simp) (M.lda0 .here rfl ?_)
  have M := M.cnt (W := (g1, T_impl_String, ⟨Z_impl_String⟩) :: B') (fun p => by simp only [List.append_eq, cnt_app, cnt_cons, cnt_nil] at *; omega)
  exact M.sta0 .here rfl stL_one rfl .here fun h17 M => M.lda0 .here rfl ⟨_, _, rfl, OS, M.drop⟩
end
end Go.Sx
