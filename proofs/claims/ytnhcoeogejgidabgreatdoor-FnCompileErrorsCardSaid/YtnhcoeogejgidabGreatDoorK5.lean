/- What functions of this seat's program compute, told in words (a predicate over heaps for each), and the proofs that the words are no more than the code's own weakest precondition. -/
import Derived.Test.YtnhcoeogejgidabGreatDoorTab
namespace Go.Sx
open Go.Proofs
set_option linter.unusedVariables false
set_option maxRecDepth 100000

def impl_isBase.S (a_0 : Nat) (Post : Value → Heap → Prop) (h : Heap) : Prop :=
    CALL prg f_impl_inside #[.float .f32 a_0, .float .f32 1065353216, .float .f32 1184645120] (fun q1 h2 =>
    asB q1 fun b3 =>
    Post (.bool b3) h2) h
noncomputable def impl_isBase.code : Code := (Tryz.f50.body).getD .skip
theorem impl_isBase.call {a_0 : Nat} {Post : Value → Heap → Prop} {h : Heap} (H : impl_isBase.S a_0 Post h) : CALL prg f_impl_isBase #[.float .f32 a_0] Post h :=
  fn_call tau_ok mixed (c := impl_isBase.code) (Λ := lookL []) Tryz.func50 (by kernel_rfl) (by kernel_rfl)
    (Rq.free (by kernel_rfl))
    (Eq.mp (by kernel_rfl) H)

def strings_makeASCIISet.B2 (Post : Value → Heap → Prop) (N2 : (ByteArray × Addr × Int) → Heap → Prop) : ByteArray × Addr × Int → Heap → Prop
  | (chars_0, as_2, i_4), h =>
    BIF ((decide (i_4 < ((ByteArray.size chars_0) : Int)))) (
    IDX i_4 (ByteArray.size chars_0) <|
    BIF ((decide ((128 : Int) ≤ (byteAt chars_0 i_4)))) (
    LDA 256 h as_2 fun a5 =>
    STA 256 h as_2 a5 fun h6 =>
    LDA 256 h6 as_2 fun a7 =>
    Post (.tuple ⟨[.agg a7, .bool false]⟩) h6) (
    IDX (byteAt chars_0 i_4) 256 <|
    ST1 h ((Addr.add as_2 ((Int.toNat (byteAt chars_0 i_4)) * 1))) (.bool true) fun h8 =>
    N2 (chars_0, as_2, ((IntKind.i64.wrap (i_4 + (1 : Int))))) h8)) (
    LDA 256 h as_2 fun a9 =>
    STA 256 h as_2 a9 fun h10 =>
    LDA 256 h10 as_2 fun a11 =>
    Post (.tuple ⟨[.agg a11, .bool true]⟩) h10)
def strings_makeASCIISet.g2 (fr : Frame) : ByteArray × Addr × Int := ((gS (lget fr 0)), (gP (lget fr 2)), (gI (lget fr 4)))
def strings_makeASCIISet.l2 (Post : Value → Heap → Prop) : Frame → Heap → Prop := fun fr h => GRD (shape (kds 21 [(0, .s), (2, .p), (4, .i .i64)]) fr) (LOOP (strings_makeASCIISet.B2 Post) (strings_makeASCIISet.g2 fr) h)
def strings_makeASCIISet.S (chars_0 : ByteArray) (Post : Value → Heap → Prop) (h : Heap) : Prop :=
    ALC ⟨Z_strings_asciiSet⟩ T_strings_asciiSet (fun g1 h2 =>
    LOOP (strings_makeASCIISet.B2 Post) (chars_0, ⟨g1, 0, none⟩, (0 : Int)) h2) h
noncomputable def strings_makeASCIISet.code : Code := (Tryz.f133.body).getD .skip
theorem strings_makeASCIISet.call {chars_0 : ByteArray} {Post : Value → Heap → Prop} {h : Heap} (H : strings_makeASCIISet.S chars_0 Post h) : CALL prg f_strings_makeASCIISet #[.string chars_0] Post h :=
  fn_call tau_ok mixed (c := strings_makeASCIISet.code) (Λ := lookL [(1000002, strings_makeASCIISet.l2 Post)]) Tryz.func133 (by kernel_rfl) (by kernel_rfl)
    (Rq.seq (by kernel_rfl) (Rq.free (by kernel_rfl)) (Rq.seq (by kernel_rfl) (Rq.seq (by kernel_rfl) (Rq.free (by kernel_rfl)) (Rq.block (Rq.loop (strings_makeASCIISet.l2 Post) (by kernel_rfl) (segL (g := strings_makeASCIISet.g2) tau_ok mixed (Λ := fun N2 => lookL []) (fun _ _ _ => by kernel_rfl) (fun N2 => (Rq.free (by kernel_rfl))))))) (Rq.free (by kernel_rfl))))
    (Eq.mp (by kernel_rfl) H)

def p_strings_asciiSet_contains.S (as_0 : Addr) (c_1 : Int) (Post : Value → Heap → Prop) (h : Heap) : Prop :=
    IDX c_1 256 <|
    oB (cell h ((Addr.add as_0 ((Int.toNat c_1) * 1)))) fun b1 =>
    Post (.bool b1) h
noncomputable def p_strings_asciiSet_contains.code : Code := (Tryz.f145.body).getD .skip
theorem p_strings_asciiSet_contains.call {as_0 : Addr} {c_1 : Int} {Post : Value → Heap → Prop} {h : Heap} (H : p_strings_asciiSet_contains.S as_0 c_1 Post h) : CALL prg f_p_strings_asciiSet_contains #[.pointer (some as_0), .int .u8 c_1] Post h :=
  fn_call tau_ok mixed (c := p_strings_asciiSet_contains.code) (Λ := lookL []) Tryz.func145 (by kernel_rfl) (by kernel_rfl)
    (Rq.free (by kernel_rfl))
    (Eq.mp (by kernel_rfl) H)

def strings_trimRightASCII.B1 (Post : Value → Heap → Prop) (N1 : (ByteArray × Addr) → Heap → Prop) : ByteArray × Addr → Heap → Prop
  | (s_0, as_1), h =>
    BIF ((decide ((0 : Int) < ((ByteArray.size s_0) : Int)))) (
    IDX ((IntKind.i64.wrap (((ByteArray.size s_0) : Int) - (1 : Int)))) (ByteArray.size s_0) <|
    CALL prg f_p_strings_asciiSet_contains #[.pointer (some as_1), .int .u8 ((byteAt s_0 ((IntKind.i64.wrap (((ByteArray.size s_0) : Int) - (1 : Int))))))] (fun q5 h6 =>
    asB q5 fun b7 =>
    BIF (!b7) (
    Post (.string s_0) h6) (
    SLB (0 : Int) ((IntKind.i64.wrap (((ByteArray.size s_0) : Int) - (1 : Int)))) ((ByteArray.size s_0) : Int) <|
    N1 (((ByteArray.extract s_0 0 (Int.toNat ((IntKind.i64.wrap (((ByteArray.size s_0) : Int) - (1 : Int))))))), as_1) h6)) h) (
    Post (.string s_0) h)
def strings_trimRightASCII.g1 (fr : Frame) : ByteArray × Addr := ((gS (lget fr 0)), (gP (lget fr 1)))
def strings_trimRightASCII.l1 (Post : Value → Heap → Prop) : Frame → Heap → Prop := fun fr h => GRD (shape (kds 22 [(0, .s), (1, .p)]) fr) (LOOP (strings_trimRightASCII.B1 Post) (strings_trimRightASCII.g1 fr) h)
def strings_trimRightASCII.S (s_0 : ByteArray) (as_1 : Addr) (Post : Value → Heap → Prop) (h : Heap) : Prop :=
    LOOP (strings_trimRightASCII.B1 Post) (s_0, as_1) h
noncomputable def strings_trimRightASCII.code : Code := (Tryz.f135.body).getD .skip
theorem strings_trimRightASCII.call {s_0 : ByteArray} {as_1 : Addr} {Post : Value → Heap → Prop} {h : Heap} (H : strings_trimRightASCII.S s_0 as_1 Post h) : CALL prg f_strings_trimRightASCII #[.string s_0, .pointer (some as_1)] Post h :=
  fn_call tau_ok mixed (c := strings_trimRightASCII.code) (Λ := lookL [(1000001, strings_trimRightASCII.l1 Post)]) Tryz.func135 (by kernel_rfl) (by kernel_rfl)
    (Rq.seq (by kernel_rfl) (Rq.free (by kernel_rfl)) (Rq.seq (by kernel_rfl) (Rq.block (Rq.loop (strings_trimRightASCII.l1 Post) (by kernel_rfl) (segL (g := strings_trimRightASCII.g1) tau_ok mixed (Λ := fun N1 => lookL []) (fun _ _ _ => by kernel_rfl) (fun N1 => (Rq.free (by kernel_rfl)))))) (Rq.free (by kernel_rfl))))
    (Eq.mp (by kernel_rfl) H)

def strings_trimLeftASCII.B1 (Post : Value → Heap → Prop) (N1 : (ByteArray × Addr) → Heap → Prop) : ByteArray × Addr → Heap → Prop
  | (s_0, as_1), h =>
    BIF ((decide ((0 : Int) < ((ByteArray.size s_0) : Int)))) (
    IDX (0 : Int) (ByteArray.size s_0) <|
    CALL prg f_p_strings_asciiSet_contains #[.pointer (some as_1), .int .u8 (byteAt s_0 (0 : Int))] (fun q3 h4 =>
    asB q3 fun b5 =>
    BIF (!b5) (
    Post (.string s_0) h4) (
    SLB (1 : Int) ((ByteArray.size s_0) : Int) ((ByteArray.size s_0) : Int) <|
    N1 ((ByteArray.extract s_0 1 (ByteArray.size s_0)), as_1) h4)) h) (
    Post (.string s_0) h)
def strings_trimLeftASCII.g1 (fr : Frame) : ByteArray × Addr := ((gS (lget fr 0)), (gP (lget fr 1)))
def strings_trimLeftASCII.l1 (Post : Value → Heap → Prop) : Frame → Heap → Prop := fun fr h => GRD (shape (kds 16 [(0, .s), (1, .p)]) fr) (LOOP (strings_trimLeftASCII.B1 Post) (strings_trimLeftASCII.g1 fr) h)
def strings_trimLeftASCII.S (s_0 : ByteArray) (as_1 : Addr) (Post : Value → Heap → Prop) (h : Heap) : Prop :=
    LOOP (strings_trimLeftASCII.B1 Post) (s_0, as_1) h
noncomputable def strings_trimLeftASCII.code : Code := (Tryz.f134.body).getD .skip
theorem strings_trimLeftASCII.call {s_0 : ByteArray} {as_1 : Addr} {Post : Value → Heap → Prop} {h : Heap} (H : strings_trimLeftASCII.S s_0 as_1 Post h) : CALL prg f_strings_trimLeftASCII #[.string s_0, .pointer (some as_1)] Post h :=
  fn_call tau_ok mixed (c := strings_trimLeftASCII.code) (Λ := lookL [(1000001, strings_trimLeftASCII.l1 Post)]) Tryz.func134 (by kernel_rfl) (by kernel_rfl)
    (Rq.seq (by kernel_rfl) (Rq.free (by kernel_rfl)) (Rq.seq (by kernel_rfl) (Rq.block (Rq.loop (strings_trimLeftASCII.l1 Post) (by kernel_rfl) (segL (g := strings_trimLeftASCII.g1) tau_ok mixed (Λ := fun N1 => lookL []) (fun _ _ _ => by kernel_rfl) (fun N1 => (Rq.free (by kernel_rfl)))))) (Rq.free (by kernel_rfl))))
    (Eq.mp (by kernel_rfl) H)

def strings_Trim.J5 (Post : Value → Heap → Prop) (s_0 : ByteArray) (cutset_1 : ByteArray) (h : Heap) : Prop :=
    CALL prg f_strings_makeASCIISet #[.string cutset_1] (fun q9 h10 =>
    TUP2 q9 fun q11 q12 =>
    asA q11 fun a13 =>
    asB q12 fun b14 =>
    ALC ⟨Z_strings_asciiSet⟩ T_strings_asciiSet (fun g15 h16 =>
    STA 256 h16 ⟨g15, 0, none⟩ a13 fun h17 =>
    BIF b14 (
    CALL prg f_strings_trimRightASCII #[.string s_0, .pointer (some ⟨g15, 0, none⟩)] (fun q18 h19 =>
    asS q18 fun s20 =>
    CALL prg f_strings_trimLeftASCII #[.string s20, .pointer (some ⟨g15, 0, none⟩)] (fun q21 h22 =>
    asS q21 fun s23 =>
    Post (.string s23) h22) h19) h17) (
    CALL prg f_strings_trimRightUnicode #[.string s_0, .string cutset_1] (fun q24 h25 =>
    asS q24 fun s26 =>
    CALL prg f_strings_trimLeftUnicode #[.string s26, .string cutset_1] (fun q27 h28 =>
    asS q27 fun s29 =>
    Post (.string s29) h28) h25) h17)) h10) h
def strings_Trim.j5 (Post : Value → Heap → Prop) : Frame → Heap → Prop := fun fr h => GRD (shape (kds 43 [(0, .s), (1, .s)]) fr) (strings_Trim.J5 Post (gS (lget fr 0)) (gS (lget fr 1)) h)
def strings_Trim.J4 (Post : Value → Heap → Prop) (s_0 : ByteArray) (cutset_1 : ByteArray) (t21 : Bool) (h : Heap) : Prop :=
    BIF t21 (
    IDX (0 : Int) (ByteArray.size cutset_1) <|
    IDX (0 : Int) (ByteArray.size cutset_1) <|
    CALL prg f_strings_trimRightByte #[.string s_0, .int .u8 (byteAt cutset_1 (0 : Int))] (fun q3 h4 =>
    asS q3 fun s5 =>
    CALL prg f_strings_trimLeftByte #[.string s5, .int .u8 (byteAt cutset_1 (0 : Int))] (fun q6 h7 =>
    asS q6 fun s8 =>
    Post (.string s8) h7) h4) h) (
    strings_Trim.J5 Post s_0 cutset_1 h)
def strings_Trim.j4 (Post : Value → Heap → Prop) : Frame → Heap → Prop := fun fr h => GRD (shape (kds 43 [(0, .s), (1, .s), (21, .b)]) fr) (strings_Trim.J4 Post (gS (lget fr 0)) (gS (lget fr 1)) (gB (lget fr 21)) h)
def strings_Trim.J3 (Post : Value → Heap → Prop) (s_0 : ByteArray) (cutset_1 : ByteArray) (h : Heap) : Prop :=
    BIF ((((ByteArray.size cutset_1) : Int) == (1 : Int))) (
    IDX (0 : Int) (ByteArray.size cutset_1) <|
    strings_Trim.J4 Post s_0 cutset_1 ((decide ((byteAt cutset_1 (0 : Int)) < (128 : Int)))) h) (
    strings_Trim.J4 Post s_0 cutset_1 false h)
def strings_Trim.j3 (Post : Value → Heap → Prop) : Frame → Heap → Prop := fun fr h => GRD (shape (kds 43 [(0, .s), (1, .s)]) fr) (strings_Trim.J3 Post (gS (lget fr 0)) (gS (lget fr 1)) h)
def strings_Trim.S (s_0 : ByteArray) (cutset_1 : ByteArray) (Post : Value → Heap → Prop) (h : Heap) : Prop :=
    BIF (ByteArray.toList s_0 == ByteArray.toList (⟨#[]⟩ : ByteArray)) (
    Post (.string s_0) h) (
    BIF (ByteArray.toList cutset_1 == ByteArray.toList (⟨#[]⟩ : ByteArray)) (
    Post (.string s_0) h) (
    strings_Trim.J3 Post s_0 cutset_1 h))
noncomputable def strings_Trim.code : Code := (Tryz.f109.body).getD .skip
theorem strings_Trim.call {s_0 : ByteArray} {cutset_1 : ByteArray} {Post : Value → Heap → Prop} {h : Heap} (H : strings_Trim.S s_0 cutset_1 Post h) : CALL prg f_strings_Trim #[.string s_0, .string cutset_1] Post h :=
  fn_call tau_ok mixed (c := strings_Trim.code) (Λ := lookL [(3, strings_Trim.j3 Post), (5, strings_Trim.j5 Post), (4, strings_Trim.j4 Post)]) Tryz.func109 (by kernel_rfl) (by kernel_rfl)
    (Rq.seq (by kernel_rfl) (Rq.free (by kernel_rfl)) (Rq.seqJ (strings_Trim.j3 Post) (by kernel_rfl) (seg (fun _ _ => by kernel_rfl)) (Rq.free (by kernel_rfl))
(Rq.seqJ (strings_Trim.j5 Post) (by kernel_rfl) (seg (fun _ _ => by kernel_rfl)) (Rq.seqJ (strings_Trim.j4 Post) (by kernel_rfl) (seg (fun _ _ => by kernel_rfl)) (Rq.free (by kernel_rfl))
(Rq.free (by kernel_rfl)))
(Rq.free (by kernel_rfl)))))
    (Eq.mp (by kernel_rfl) H)

def impl_isName.S (s_0 : ByteArray) (Post : Value → Heap → Prop) (h : Heap) : Prop :=
    CALL prg f_impl_within #[.int .i64 ((ByteArray.size s_0) : Int), .int .i64 (1 : Int), .int .i64 (12 : Int)] (fun q3 h4 =>
    asB q3 fun b5 =>
    BIF b5 (
    CALL prg f_strings_Trim #[.string s_0, .string (⟨#[97, 98, 99, 100, 101, 102, 103, 104, 105, 106, 107, 108, 109, 110, 111, 112, 113, 114, 115, 116, 117, 118, 119, 120, 121, 122]⟩ : ByteArray)] (fun q6 h7 =>
    asS q6 fun s8 =>
    Post (.bool (ByteArray.toList s8 == ByteArray.toList (⟨#[]⟩ : ByteArray))) h7) h4) (
    Post (.bool false) h4)) h
noncomputable def impl_isName.code : Code := (Tryz.f85.body).getD .skip
theorem impl_isName.call {s_0 : ByteArray} {Post : Value → Heap → Prop} {h : Heap} (H : impl_isName.S s_0 Post h) : CALL prg f_impl_isName #[.string s_0] Post h :=
  fn_call tau_ok mixed (c := impl_isName.code) (Λ := lookL []) Tryz.func85 (by kernel_rfl) (by kernel_rfl)
    (Rq.free (by kernel_rfl))
    (Eq.mp (by kernel_rfl) H)

def impl_isPlace.S (place_0 : Nat) (Post : Value → Heap → Prop) (h : Heap) : Prop :=
    BIF (FloatKind.f32.format.order place_0 0 == some .gt || FloatKind.f32.format.order place_0 0 == some .eq) (
    Post (.bool (FloatKind.f32.format.order place_0 1065353216 == some .lt)) h) (
    Post (.bool false) h)
noncomputable def impl_isPlace.code : Code := (Tryz.f110.body).getD .skip
theorem impl_isPlace.call {place_0 : Nat} {Post : Value → Heap → Prop} {h : Heap} (H : impl_isPlace.S place_0 Post h) : CALL prg f_impl_isPlace #[.float .f32 place_0] Post h :=
  fn_call tau_ok mixed (c := impl_isPlace.code) (Λ := lookL []) Tryz.func110 (by kernel_rfl) (by kernel_rfl)
    (Rq.free (by kernel_rfl))
    (Eq.mp (by kernel_rfl) H)

def impl_isKeep.S (a_0 : Nat) (Post : Value → Heap → Prop) (h : Heap) : Prop :=
    BIF (FloatKind.f32.format.order a_0 0 == some .gt || FloatKind.f32.format.order a_0 0 == some .eq) (
    Post (.bool (FloatKind.f32.format.order a_0 1065353216 == some .lt)) h) (
    Post (.bool false) h)
noncomputable def impl_isKeep.code : Code := (Tryz.f111.body).getD .skip
theorem impl_isKeep.call {a_0 : Nat} {Post : Value → Heap → Prop} {h : Heap} (H : impl_isKeep.S a_0 Post h) : CALL prg f_impl_isKeep #[.float .f32 a_0] Post h :=
  fn_call tau_ok mixed (c := impl_isKeep.code) (Λ := lookL []) Tryz.func111 (by kernel_rfl) (by kernel_rfl)
    (Rq.free (by kernel_rfl))
    (Eq.mp (by kernel_rfl) H)

def impl_ValidInstrument.J3 (Post : Value → Heap → Prop) (x_1 : Addr) (h : Heap) : Prop :=
    oI .i64 (cell h (Addr.add x_1 1)) fun n11 =>
    BIF (n11 == (1 : Int)) (
    oF .f32 (cell h (Addr.add x_1 2)) fun r12 =>
    CALL prg f_impl_inside #[.float .f32 r12, .float .f32 0, .float .f32 1056964608] (fun q13 h14 =>
    asB q13 fun b15 =>
    BIF b15 (
    oF .f32 (cell h14 (Addr.add x_1 4)) fun r16 =>
    CALL prg f_impl_isPlace #[.float .f32 r16] (fun q17 h18 =>
    asB q17 fun b19 =>
    Post (.bool b19) h18) h14) (
    Post (.bool false) h14)) h) (
    BIF (n11 == (2 : Int)) (
    oF .f32 (cell h (Addr.add x_1 2)) fun r20 =>
    CALL prg f_impl_isKeep #[.float .f32 r20] (fun q21 h22 =>
    asB q21 fun b23 =>
    BIF b23 (
    oF .f32 (cell h22 (Addr.add x_1 4)) fun r24 =>
    BIF (FloatKind.f32.format.order r24 0 == some .eq) (
    Post (.bool true) h22) (
    oF .f32 (cell h22 (Addr.add x_1 4)) fun r25 =>
    Post (.bool (FloatKind.f32.format.order r25 1065353216 == some .eq)) h22)) (
    Post (.bool false) h22)) h) (
    BIF (n11 == (3 : Int)) (
    oF .f32 (cell h (Addr.add x_1 2)) fun r26 =>
    CALL prg f_impl_isKeep #[.float .f32 r26] (fun q27 h28 =>
    asB q27 fun b29 =>
    BIF b29 (
    oF .f32 (cell h28 (Addr.add x_1 4)) fun r30 =>
    CALL prg f_impl_isFinite #[.float .f32 r30] (fun q31 h32 =>
    asB q31 fun b33 =>
    Post (.bool b33) h32) h28) (
    Post (.bool false) h28)) h) (
    Post (.bool false) h)))
def impl_ValidInstrument.j3 (Post : Value → Heap → Prop) : Frame → Heap → Prop := fun fr h => GRD (shape (kds 50 [(1, .p)]) fr) (impl_ValidInstrument.J3 Post (gP (lget fr 1)) h)
def impl_ValidInstrument.S (x_0 : Array Value) (Post : Value → Heap → Prop) (h : Heap) : Prop :=
    ALC x_0 T_impl_Instrument (fun g1 h2 =>
    oS (cell h2 ⟨g1, 0, none⟩) fun s3 =>
    CALL prg f_impl_isName #[.string s3] (fun q4 h5 =>
    asB q4 fun b6 =>
    BIF (!b6) (
    Post (.bool false) h5) (
    oF .f32 (cell h5 ⟨g1, 3, none⟩) fun r7 =>
    CALL prg f_impl_inside #[.float .f32 r7, .float .f32 0, .float .f32 1065353216] (fun q8 h9 =>
    asB q8 fun b10 =>
    BIF (!b10) (
    Post (.bool false) h9) (
    impl_ValidInstrument.J3 Post ⟨g1, 0, none⟩ h9)) h5)) h2) h
noncomputable def impl_ValidInstrument.code : Code := (Tryz.f86.body).getD .skip
theorem impl_ValidInstrument.call {x_0 : Array Value} {Post : Value → Heap → Prop} {h : Heap} (H : impl_ValidInstrument.S x_0 Post h) : CALL prg f_impl_ValidInstrument #[.agg x_0] Post h :=
  fn_call tau_ok mixed (c := impl_ValidInstrument.code) (Λ := lookL [(3, impl_ValidInstrument.j3 Post)]) Tryz.func86 (by kernel_rfl) (by kernel_rfl)
    (Rq.seq (by kernel_rfl) (Rq.free (by kernel_rfl)) (Rq.seqJ (impl_ValidInstrument.j3 Post) (by kernel_rfl) (seg (fun _ _ => by kernel_rfl)) (Rq.free (by kernel_rfl))
(Rq.free (by kernel_rfl))))
    (Eq.mp (by kernel_rfl) H)

def impl_nameIn_c1.S (x_0 : Array Value) (t1 : Addr) (Post : Value → Heap → Prop) (h : Heap) : Prop :=
    ALC x_0 T_impl_Instrument (fun g1 h2 =>
    oS (cell h2 ⟨g1, 0, none⟩) fun s3 =>
    oS (cell h2 t1) fun s4 =>
    Post (.bool (ByteArray.toList s3 == ByteArray.toList s4)) h2) h
noncomputable def impl_nameIn_c1.code : Code := (Tryz.f114.body).getD .skip
theorem impl_nameIn_c1.call {x_0 : Array Value} {t1 : Addr} {Post : Value → Heap → Prop} {h : Heap} (H : impl_nameIn_c1.S x_0 t1 Post h) : CALL prg f_impl_nameIn_c1 #[.agg x_0, .pointer (some t1)] Post h :=
  fn_call tau_ok mixed (c := impl_nameIn_c1.code) (Λ := lookL []) Tryz.func114 (by kernel_rfl) (by kernel_rfl)
    (Rq.free (by kernel_rfl))
    (Eq.mp (by kernel_rfl) H)

def slices_IndexFunc_sl_impl_Instrument_impl_Instrument.B2 (Post : Value → Heap → Prop) (N2 : (Option Addr × Nat × Nat × Value × Int × Int) → Heap → Prop) : Option Addr × Nat × Nat × Value × Int × Int → Heap → Prop
  | (s_0b, s_0l, s_0c, f_1, t7, t8), h =>
    BIF (decide (t8 < t7)) (
    IDXS s_0b t8 s_0l fun p3 =>
    LDA 5 h ((Addr.add p3 ((Int.toNat t8) * 5))) fun a4 =>
    CALLD prg f_1 #[.agg a4] (fun q5 h6 =>
    asB q5 fun b7 =>
    BIF b7 (
    Post (.int .i64 t8) h6) (
    N2 (s_0b, s_0l, s_0c, f_1, t7, ((IntKind.i64.wrap (t8 + (1 : Int))))) h6)) h) (
    Post (.int .i64 (-1 : Int)) h)
def slices_IndexFunc_sl_impl_Instrument_impl_Instrument.g2 (fr : Frame) : Option Addr × Nat × Nat × Value × Int × Int := ((gLb (lget fr 0)), (gLl (lget fr 0)), (gLc (lget fr 0)), (lget fr 1), (gI (lget fr 7)), (gI (lget fr 8)))
def slices_IndexFunc_sl_impl_Instrument_impl_Instrument.l2 (Post : Value → Heap → Prop) : Frame → Heap → Prop := fun fr h => GRD (shape (kds 19 [(0, .l), (1, .v), (7, .i .i64), (8, .i .i64)]) fr) (LOOP (slices_IndexFunc_sl_impl_Instrument_impl_Instrument.B2 Post) (slices_IndexFunc_sl_impl_Instrument_impl_Instrument.g2 fr) h)
def slices_IndexFunc_sl_impl_Instrument_impl_Instrument.S (s_0b : Option Addr) (s_0l s_0c : Nat) (f_1 : Value) (Post : Value → Heap → Prop) (h : Heap) : Prop :=
    LOOP (slices_IndexFunc_sl_impl_Instrument_impl_Instrument.B2 Post) (s_0b, s_0l, s_0c, f_1, (s_0l : Int), (0 : Int)) h
noncomputable def slices_IndexFunc_sl_impl_Instrument_impl_Instrument.code : Code := (Tryz.f113.body).getD .skip
theorem slices_IndexFunc_sl_impl_Instrument_impl_Instrument.call {s_0b : Option Addr} {s_0l s_0c : Nat} {f_1 : Value} {Post : Value → Heap → Prop} {h : Heap} (H : slices_IndexFunc_sl_impl_Instrument_impl_Instrument.S s_0b s_0l s_0c f_1 Post h) : CALL prg f_slices_IndexFunc_sl_impl_Instrument_impl_Instrument #[.slice s_0b s_0l s_0c, f_1] Post h :=
  fn_call tau_ok mixed (c := slices_IndexFunc_sl_impl_Instrument_impl_Instrument.code) (Λ := lookL [(1000002, slices_IndexFunc_sl_impl_Instrument_impl_Instrument.l2 Post)]) Tryz.func113 (by kernel_rfl) (by kernel_rfl)
    (Rq.seq (by kernel_rfl) (Rq.free (by kernel_rfl)) (Rq.seq (by kernel_rfl) (Rq.seq (by kernel_rfl) (Rq.free (by kernel_rfl)) (Rq.block (Rq.loop (slices_IndexFunc_sl_impl_Instrument_impl_Instrument.l2 Post) (by kernel_rfl) (segL (g := slices_IndexFunc_sl_impl_Instrument_impl_Instrument.g2) tau_ok mixed (Λ := fun N2 => lookL []) (fun _ _ _ => by kernel_rfl) (fun N2 => (Rq.free (by kernel_rfl))))))) (Rq.free (by kernel_rfl))))
    (Eq.mp (by kernel_rfl) H)

def impl_nameIn.S (list_0b : Option Addr) (list_0l list_0c : Nat) (name_1 : ByteArray) (Post : Value → Heap → Prop) (h : Heap) : Prop :=
    ALC #[.string name_1] T_string (fun g1 h2 =>
    CALL prg f_slices_IndexFunc_sl_impl_Instrument_impl_Instrument #[.slice list_0b list_0l list_0c, .func (.func 114) #[] #[.pointer (some ⟨g1, 0, none⟩)]] (fun q3 h4 =>
    asI .i64 q3 fun n5 =>
    Post (.int .i64 n5) h4) h2) h
noncomputable def impl_nameIn.code : Code := (Tryz.f87.body).getD .skip
theorem impl_nameIn.call {list_0b : Option Addr} {list_0l list_0c : Nat} {name_1 : ByteArray} {Post : Value → Heap → Prop} {h : Heap} (H : impl_nameIn.S list_0b list_0l list_0c name_1 Post h) : CALL prg f_impl_nameIn #[.slice list_0b list_0l list_0c, .string name_1] Post h :=
  fn_call tau_ok mixed (c := impl_nameIn.code) (Λ := lookL []) Tryz.func87 (by kernel_rfl) (by kernel_rfl)
    (Rq.free (by kernel_rfl))
    (Eq.mp (by kernel_rfl) H)

def impl_length_impl_Event.S (list_0b : Option Addr) (list_0l list_0c : Nat) (Post : Value → Heap → Prop) (h : Heap) : Prop :=
    Post (.int .i64 (list_0l : Int)) h
noncomputable def impl_length_impl_Event.code : Code := (Tryz.f108.body).getD .skip
theorem impl_length_impl_Event.call {list_0b : Option Addr} {list_0l list_0c : Nat} {Post : Value → Heap → Prop} {h : Heap} (H : impl_length_impl_Event.S list_0b list_0l list_0c Post h) : CALL prg f_impl_length_impl_Event #[.slice list_0b list_0l list_0c] Post h :=
  fn_call tau_ok mixed (c := impl_length_impl_Event.code) (Λ := lookL []) Tryz.func108 (by kernel_rfl) (by kernel_rfl)
    (Rq.free (by kernel_rfl))
    (Eq.mp (by kernel_rfl) H)

def impl_starts.B3 (Post : Value → Heap → Prop) (N3 : (Value × Option Addr × Nat × Nat × Int × Int) → Heap → Prop) : Value × Option Addr × Nat × Nat × Int × Int → Heap → Prop
  | (out_3, t7b, t7l, t7c, t8, t9), h =>
    BIF (decide (t9 < t8)) (
    IDXS t7b t9 t7l fun p5 =>
    LDA 6 h ((Addr.add p5 ((Int.toNat t9) * 6))) fun a6 =>
    ALC ⟨Z_impl_Event⟩ T_impl_Event (fun g7 h8 =>
    STA 6 h8 ⟨g7, 0, none⟩ a6 fun h9 =>
    oI .i64 (cell h9 ⟨g7, 1, none⟩) fun n10 =>
    BIF (n10 == (2 : Int)) (
    oI .i64 (cell h9 ⟨g7, 2, none⟩) fun n11 =>
    oI .i64 (cell h9 ⟨g7, 0, none⟩) fun n12 =>
    SEMN prg (do Instr.mapUpdate T_map_int64_int64 out_3 (.int .i64 n11) (.int .i64 n12); pure .skip) (fun q13 h14 =>
    N3 (out_3, t7b, t7l, t7c, t8, ((IntKind.i64.wrap (t9 + (1 : Int))))) h14) h9) (
    N3 (out_3, t7b, t7l, t7c, t8, ((IntKind.i64.wrap (t9 + (1 : Int))))) h9)) h) (
    Post (out_3) h)
def impl_starts.g3 (fr : Frame) : Value × Option Addr × Nat × Nat × Int × Int := ((lget fr 3), (gLb (lget fr 7)), (gLl (lget fr 7)), (gLc (lget fr 7)), (gI (lget fr 8)), (gI (lget fr 9)))
def impl_starts.l3 (Post : Value → Heap → Prop) : Frame → Heap → Prop := fun fr h => GRD (shape (kds 23 [(3, .v), (7, .l), (8, .i .i64), (9, .i .i64)]) fr) (LOOP (impl_starts.B3 Post) (impl_starts.g3 fr) h)
def impl_starts.S (list_0b : Option Addr) (list_0l list_0c : Nat) (Post : Value → Heap → Prop) (h : Heap) : Prop :=
    SEMV prg (Instr.makeMap T_map_int64_int64 none) (fun q1 h2 =>
    LOOP (impl_starts.B3 Post) (q1, list_0b, list_0l, list_0c, (list_0l : Int), (0 : Int)) h2) h
noncomputable def impl_starts.code : Code := (Tryz.f25.body).getD .skip
theorem impl_starts.call {list_0b : Option Addr} {list_0l list_0c : Nat} {Post : Value → Heap → Prop} {h : Heap} (H : impl_starts.S list_0b list_0l list_0c Post h) : CALL prg f_impl_starts #[.slice list_0b list_0l list_0c] Post h :=
  fn_call tau_ok mixed (c := impl_starts.code) (Λ := lookL [(1000003, impl_starts.l3 Post)]) Tryz.func25 (by kernel_rfl) (by kernel_rfl)
    (Rq.seq (by kernel_rfl) (Rq.free (by kernel_rfl)) (Rq.seq (by kernel_rfl) (Rq.free (by kernel_rfl)) (Rq.seq (by kernel_rfl) (Rq.seq (by kernel_rfl) (Rq.free (by kernel_rfl)) (Rq.block (Rq.loop (impl_starts.l3 Post) (by kernel_rfl) (segL (g := impl_starts.g3) tau_ok mixed (Λ := fun N3 => lookL []) (fun _ _ _ => by kernel_rfl) (fun N3 => (Rq.free (by kernel_rfl))))))) (Rq.free (by kernel_rfl)))))
    (Eq.mp (by kernel_rfl) H)

def impl_Event_order.J7 (Post : Value → Heap → Prop) (e_2 : Addr) (t4 : Addr) (late_5 : Int) (stop_6 : Int) (h : Heap) : Prop :=
    oI .i64 (cell h e_2) fun n14 =>
    oI .i64 (cell h (Addr.add e_2 2)) fun n15 =>
    STA 4 h t4 (⟨[.int .i64 n14, .int .i64 late_5, .int .i64 n15, .int .i64 stop_6]⟩ : Array Value) fun h16 =>
    LDA 4 h16 t4 fun a17 =>
    Post (.agg a17) h16
def impl_Event_order.j7 (Post : Value → Heap → Prop) : Frame → Heap → Prop := fun fr h => GRD (shape (kds 33 [(2, .p), (4, .p), (5, .i .i64), (6, .i .i64)]) fr) (impl_Event_order.J7 Post (gP (lget fr 2)) (gP (lget fr 4)) (gI (lget fr 5)) (gI (lget fr 6)) h)
def impl_Event_order.S (e_0 : Array Value) (starts_1 : Value) (Post : Value → Heap → Prop) (h : Heap) : Prop :=
    ALC e_0 T_impl_Event (fun g1 h2 =>
    ALC ⟨Z_4_int64⟩ T_4_int64 (fun g3 h4 =>
    oI .i64 (cell h4 ⟨g1, 1, none⟩) fun n5 =>
    BIF (n5 == (1 : Int)) (
    oI .i64 (cell h4 ⟨g1, 2, none⟩) fun n6 =>
    SEMV prg (Instr.lookup T_map_int64_int64 starts_1 (.int .i64 n6) true) (fun q7 h8 =>
    TUP2 q7 fun q9 q10 =>
    asI .i64 q9 fun n11 =>
    asB q10 fun b12 =>
    BIF b12 (
    oI .i64 (cell h8 ⟨g1, 0, none⟩) fun n13 =>
    BIF (decide (n11 < n13)) (
    impl_Event_order.J7 Post ⟨g1, 0, none⟩ ⟨g3, 0, none⟩ (0 : Int) (1 : Int) h8) (
    impl_Event_order.J7 Post ⟨g1, 0, none⟩ ⟨g3, 0, none⟩ (1 : Int) (1 : Int) h8)) (
    impl_Event_order.J7 Post ⟨g1, 0, none⟩ ⟨g3, 0, none⟩ (1 : Int) (1 : Int) h8)) h4) (
    impl_Event_order.J7 Post ⟨g1, 0, none⟩ ⟨g3, 0, none⟩ (1 : Int) (0 : Int) h4)) h2) h
noncomputable def impl_Event_order.code : Code := (Tryz.f63.body).getD .skip
theorem impl_Event_order.call {e_0 : Array Value} {starts_1 : Value} {Post : Value → Heap → Prop} {h : Heap} (H : impl_Event_order.S e_0 starts_1 Post h) : CALL prg f_impl_Event_order #[.agg e_0, starts_1] Post h :=
  fn_call tau_ok mixed (c := impl_Event_order.code) (Λ := lookL [(7, impl_Event_order.j7 Post)]) Tryz.func63 (by kernel_rfl) (by kernel_rfl)
    (Rq.seq (by kernel_rfl) (Rq.free (by kernel_rfl)) (Rq.seq (by kernel_rfl) (Rq.free (by kernel_rfl)) (Rq.seqJ (impl_Event_order.j7 Post) (by kernel_rfl) (seg (fun _ _ => by kernel_rfl)) (Rq.free (by kernel_rfl))
(Rq.free (by kernel_rfl)))))
    (Eq.mp (by kernel_rfl) H)

def cmp_isNaN_int64.S (x_0 : Int) (Post : Value → Heap → Prop) (h : Heap) : Prop :=
    Post (.bool (x_0 != x_0)) h
noncomputable def cmp_isNaN_int64.code : Code := (Tryz.f120.body).getD .skip
theorem cmp_isNaN_int64.call {x_0 : Int} {Post : Value → Heap → Prop} {h : Heap} (H : cmp_isNaN_int64.S x_0 Post h) : CALL prg f_cmp_isNaN_int64 #[.int .i64 x_0] Post h :=
  fn_call tau_ok mixed (c := cmp_isNaN_int64.code) (Λ := lookL []) Tryz.func120 (by kernel_rfl) (by kernel_rfl)
    (Rq.free (by kernel_rfl))
    (Eq.mp (by kernel_rfl) H)

def cmp_Compare_int64.S (x_0 : Int) (y_1 : Int) (Post : Value → Heap → Prop) (h : Heap) : Prop :=
    CALL prg f_cmp_isNaN_int64 #[.int .i64 x_0] (fun q1 h2 =>
    asB q1 fun b3 =>
    CALL prg f_cmp_isNaN_int64 #[.int .i64 y_1] (fun q4 h5 =>
    asB q4 fun b6 =>
    BIF b3 (
    BIF b6 (
    Post (.int .i64 (0 : Int)) h5) (
    Post (.int .i64 (-1 : Int)) h5)) (
    BIF b6 (
    Post (.int .i64 (1 : Int)) h5) (
    BIF (decide (x_0 < y_1)) (
    Post (.int .i64 (-1 : Int)) h5) (
    BIF (decide (y_1 < x_0)) (
    Post (.int .i64 (1 : Int)) h5) (
    Post (.int .i64 (0 : Int)) h5))))) h2) h
noncomputable def cmp_Compare_int64.code : Code := (Tryz.f99.body).getD .skip
theorem cmp_Compare_int64.call {x_0 : Int} {y_1 : Int} {Post : Value → Heap → Prop} {h : Heap} (H : cmp_Compare_int64.S x_0 y_1 Post h) : CALL prg f_cmp_Compare_int64 #[.int .i64 x_0, .int .i64 y_1] Post h :=
  fn_call tau_ok mixed (c := cmp_Compare_int64.code) (Λ := lookL []) Tryz.func99 (by kernel_rfl) (by kernel_rfl)
    (Rq.free (by kernel_rfl))
    (Eq.mp (by kernel_rfl) H)

def slices_Compare_sl_int64_int64.B2 (Post : Value → Heap → Prop) (N2 : (Option Addr × Nat × Nat × Option Addr × Nat × Nat × Option Addr × Nat × Nat × Int × Int) → Heap → Prop) : Option Addr × Nat × Nat × Option Addr × Nat × Nat × Option Addr × Nat × Nat × Int × Int → Heap → Prop
  | (s1_0b, s1_0l, s1_0c, s2_1b, s2_1l, s2_1c, t9b, t9l, t9c, t10, t11), h =>
    BIF (decide (t11 < t10)) (
    IDXS t9b t11 t9l fun p3 =>
    oI .i64 (cell h ((Addr.add p3 ((Int.toNat t11) * 1)))) fun n4 =>
    BIF ((decide ((s2_1l : Int) ≤ t11))) (
    Post (.int .i64 (1 : Int)) h) (
    IDXS s2_1b t11 s2_1l fun p7 =>
    oI .i64 (cell h ((Addr.add p7 ((Int.toNat t11) * 1)))) fun n8 =>
    CALL prg f_cmp_Compare_int64 #[.int .i64 n4, .int .i64 n8] (fun q9 h10 =>
    asI .i64 q9 fun n11 =>
    BIF (n11 != (0 : Int)) (
    Post (.int .i64 n11) h10) (
    N2 (s1_0b, s1_0l, s1_0c, s2_1b, s2_1l, s2_1c, t9b, t9l, t9c, t10, ((IntKind.i64.wrap (t11 + (1 : Int))))) h10)) h)) (
    BIF ((decide ((s1_0l : Int) < (s2_1l : Int)))) (
    Post (.int .i64 (-1 : Int)) h) (
    Post (.int .i64 (0 : Int)) h))
def slices_Compare_sl_int64_int64.g2 (fr : Frame) : Option Addr × Nat × Nat × Option Addr × Nat × Nat × Option Addr × Nat × Nat × Int × Int := ((gLb (lget fr 0)), (gLl (lget fr 0)), (gLc (lget fr 0)), (gLb (lget fr 1)), (gLl (lget fr 1)), (gLc (lget fr 1)), (gLb (lget fr 9)), (gLl (lget fr 9)), (gLc (lget fr 9)), (gI (lget fr 10)), (gI (lget fr 11)))
def slices_Compare_sl_int64_int64.l2 (Post : Value → Heap → Prop) : Frame → Heap → Prop := fun fr h => GRD (shape (kds 36 [(0, .l), (1, .l), (9, .l), (10, .i .i64), (11, .i .i64)]) fr) (LOOP (slices_Compare_sl_int64_int64.B2 Post) (slices_Compare_sl_int64_int64.g2 fr) h)
def slices_Compare_sl_int64_int64.S (s1_0b : Option Addr) (s1_0l s1_0c : Nat) (s2_1b : Option Addr) (s2_1l s2_1c : Nat) (Post : Value → Heap → Prop) (h : Heap) : Prop :=
    LOOP (slices_Compare_sl_int64_int64.B2 Post) (s1_0b, s1_0l, s1_0c, s2_1b, s2_1l, s2_1c, s1_0b, s1_0l, s1_0c, (s1_0l : Int), (0 : Int)) h
noncomputable def slices_Compare_sl_int64_int64.code : Code := (Tryz.f64.body).getD .skip
theorem slices_Compare_sl_int64_int64.call {s1_0b : Option Addr} {s1_0l s1_0c : Nat} {s2_1b : Option Addr} {s2_1l s2_1c : Nat} {Post : Value → Heap → Prop} {h : Heap} (H : slices_Compare_sl_int64_int64.S s1_0b s1_0l s1_0c s2_1b s2_1l s2_1c Post h) : CALL prg f_slices_Compare_sl_int64_int64 #[.slice s1_0b s1_0l s1_0c, .slice s2_1b s2_1l s2_1c] Post h :=
  fn_call tau_ok mixed (c := slices_Compare_sl_int64_int64.code) (Λ := lookL [(1000002, slices_Compare_sl_int64_int64.l2 Post)]) Tryz.func64 (by kernel_rfl) (by kernel_rfl)
    (Rq.seq (by kernel_rfl) (Rq.free (by kernel_rfl)) (Rq.seq (by kernel_rfl) (Rq.seq (by kernel_rfl) (Rq.free (by kernel_rfl)) (Rq.block (Rq.loop (slices_Compare_sl_int64_int64.l2 Post) (by kernel_rfl) (segL (g := slices_Compare_sl_int64_int64.g2) tau_ok mixed (Λ := fun N2 => lookL []) (fun _ _ _ => by kernel_rfl) (fun N2 => (Rq.free (by kernel_rfl))))))) (Rq.free (by kernel_rfl))))
    (Eq.mp (by kernel_rfl) H)

def impl_compareEvents_c1.S (a_0 : Array Value) (b_1 : Array Value) (t2 : Addr) (Post : Value → Heap → Prop) (h : Heap) : Prop :=
    ALC a_0 T_impl_Event (fun g1 h2 =>
    ALC b_1 T_impl_Event (fun g3 h4 =>
    LDA 6 h4 ⟨g1, 0, none⟩ fun a5 =>
    oV (cell h4 t2) fun v6 =>
    LDA 6 h4 ⟨g3, 0, none⟩ fun a7 =>
    oV (cell h4 t2) fun v8 =>
    (CALL prg f_impl_Event_order #[.agg a5, v6] (fun q9 h10 =>
    asA q9 fun a11 =>
    PIN h4 t2 1 h10 <|
    PIN h4 ⟨g3, 0, none⟩ 6 h10 <|
    (CALL prg f_impl_Event_order #[.agg a7, v8] (fun q12 h13 =>
    asA q12 fun a14 =>
    (ALC ⟨Z_4_int64⟩ T_4_int64 (fun g15 h16 =>
    PIN h4 t2 1 h16 <|
    PIN h4 ⟨g3, 0, none⟩ 6 h16 <|
    PIN h4 t2 1 h16 <|
    PIN h4 ⟨g1, 0, none⟩ 6 h16 <|
    ALC ⟨Z_4_int64⟩ T_4_int64 (fun g17 h18 =>
    PIN h4 t2 1 h18 <|
    PIN h4 ⟨g3, 0, none⟩ 6 h18 <|
    PIN h4 t2 1 h18 <|
    PIN h4 ⟨g1, 0, none⟩ 6 h18 <|
    STA 4 h18 ⟨g15, 0, none⟩ a11 fun h19 =>
    STA 4 h19 ⟨g17, 0, none⟩ a14 fun h20 =>
    SLB (0 : Int) (4 : Int) (4 : Int) <|
    SLB (0 : Int) (4 : Int) (4 : Int) <|
    CALL prg f_slices_Compare_sl_int64_int64 #[.slice (some (slP ⟨g15, 0, none⟩ 4 0 1)) (4 - 0) (4 - 0), .slice (some (slP ⟨g17, 0, none⟩ 4 0 1)) (4 - 0) (4 - 0)] (fun q21 h22 =>
    asI .i64 q21 fun n23 =>
    Post (.int .i64 n23) h22) h20) h16) h13) ∧ (ALC ⟨Z_4_int64⟩ T_4_int64 (fun g24 h25 =>
    PIN h4 t2 1 h25 <|
    PIN h4 ⟨g3, 0, none⟩ 6 h25 <|
    PIN h4 t2 1 h25 <|
    PIN h4 ⟨g1, 0, none⟩ 6 h25 <|
    ALC ⟨Z_4_int64⟩ T_4_int64 (fun g26 h27 =>
    PIN h4 t2 1 h27 <|
    PIN h4 ⟨g3, 0, none⟩ 6 h27 <|
    PIN h4 t2 1 h27 <|
    PIN h4 ⟨g1, 0, none⟩ 6 h27 <|
    STA 4 h27 ⟨g26, 0, none⟩ a11 fun h28 =>
    STA 4 h28 ⟨g24, 0, none⟩ a14 fun h29 =>
    SLB (0 : Int) (4 : Int) (4 : Int) <|
    SLB (0 : Int) (4 : Int) (4 : Int) <|
    CALL prg f_slices_Compare_sl_int64_int64 #[.slice (some (slP ⟨g26, 0, none⟩ 4 0 1)) (4 - 0) (4 - 0), .slice (some (slP ⟨g24, 0, none⟩ 4 0 1)) (4 - 0) (4 - 0)] (fun q30 h31 =>
    asI .i64 q30 fun n32 =>
    Post (.int .i64 n32) h31) h29) h25) h13)) h10) ∧ ((ALC ⟨Z_4_int64⟩ T_4_int64 (fun g33 h34 =>
    PIN h4 t2 1 h34 <|
    PIN h4 ⟨g3, 0, none⟩ 6 h34 <|
    PIN h4 t2 1 h34 <|
    PIN h4 ⟨g1, 0, none⟩ 6 h34 <|
    (CALL prg f_impl_Event_order #[.agg a7, v8] (fun q35 h36 =>
    asA q35 fun a37 =>
    ALC ⟨Z_4_int64⟩ T_4_int64 (fun g38 h39 =>
    PIN h4 t2 1 h39 <|
    PIN h4 ⟨g3, 0, none⟩ 6 h39 <|
    PIN h4 t2 1 h39 <|
    PIN h4 ⟨g1, 0, none⟩ 6 h39 <|
    STA 4 h39 ⟨g33, 0, none⟩ a11 fun h40 =>
    STA 4 h40 ⟨g38, 0, none⟩ a37 fun h41 =>
    SLB (0 : Int) (4 : Int) (4 : Int) <|
    SLB (0 : Int) (4 : Int) (4 : Int) <|
    CALL prg f_slices_Compare_sl_int64_int64 #[.slice (some (slP ⟨g33, 0, none⟩ 4 0 1)) (4 - 0) (4 - 0), .slice (some (slP ⟨g38, 0, none⟩ 4 0 1)) (4 - 0) (4 - 0)] (fun q42 h43 =>
    asI .i64 q42 fun n44 =>
    Post (.int .i64 n44) h43) h41) h36) h34) ∧ (ALC ⟨Z_4_int64⟩ T_4_int64 (fun g45 h46 =>
    PIN h4 t2 1 h46 <|
    PIN h4 ⟨g3, 0, none⟩ 6 h46 <|
    PIN h4 t2 1 h46 <|
    PIN h4 ⟨g1, 0, none⟩ 6 h46 <|
    CALL prg f_impl_Event_order #[.agg a7, v8] (fun q47 h48 =>
    asA q47 fun a49 =>
    STA 4 h48 ⟨g33, 0, none⟩ a11 fun h50 =>
    STA 4 h50 ⟨g45, 0, none⟩ a49 fun h51 =>
    SLB (0 : Int) (4 : Int) (4 : Int) <|
    SLB (0 : Int) (4 : Int) (4 : Int) <|
    CALL prg f_slices_Compare_sl_int64_int64 #[.slice (some (slP ⟨g33, 0, none⟩ 4 0 1)) (4 - 0) (4 - 0), .slice (some (slP ⟨g45, 0, none⟩ 4 0 1)) (4 - 0) (4 - 0)] (fun q52 h53 =>
    asI .i64 q52 fun n54 =>
    Post (.int .i64 n54) h53) h51) h46) h34)) h10) ∧ (ALC ⟨Z_4_int64⟩ T_4_int64 (fun g55 h56 =>
    PIN h4 t2 1 h56 <|
    PIN h4 ⟨g3, 0, none⟩ 6 h56 <|
    PIN h4 t2 1 h56 <|
    PIN h4 ⟨g1, 0, none⟩ 6 h56 <|
    (CALL prg f_impl_Event_order #[.agg a7, v8] (fun q57 h58 =>
    asA q57 fun a59 =>
    ALC ⟨Z_4_int64⟩ T_4_int64 (fun g60 h61 =>
    PIN h4 t2 1 h61 <|
    PIN h4 ⟨g3, 0, none⟩ 6 h61 <|
    PIN h4 t2 1 h61 <|
    PIN h4 ⟨g1, 0, none⟩ 6 h61 <|
    STA 4 h61 ⟨g60, 0, none⟩ a11 fun h62 =>
    STA 4 h62 ⟨g55, 0, none⟩ a59 fun h63 =>
    SLB (0 : Int) (4 : Int) (4 : Int) <|
    SLB (0 : Int) (4 : Int) (4 : Int) <|
    CALL prg f_slices_Compare_sl_int64_int64 #[.slice (some (slP ⟨g60, 0, none⟩ 4 0 1)) (4 - 0) (4 - 0), .slice (some (slP ⟨g55, 0, none⟩ 4 0 1)) (4 - 0) (4 - 0)] (fun q64 h65 =>
    asI .i64 q64 fun n66 =>
    Post (.int .i64 n66) h65) h63) h58) h56) ∧ (ALC ⟨Z_4_int64⟩ T_4_int64 (fun g67 h68 =>
    PIN h4 t2 1 h68 <|
    PIN h4 ⟨g3, 0, none⟩ 6 h68 <|
    PIN h4 t2 1 h68 <|
    PIN h4 ⟨g1, 0, none⟩ 6 h68 <|
    CALL prg f_impl_Event_order #[.agg a7, v8] (fun q69 h70 =>
    asA q69 fun a71 =>
    STA 4 h70 ⟨g67, 0, none⟩ a11 fun h72 =>
    STA 4 h72 ⟨g55, 0, none⟩ a71 fun h73 =>
    SLB (0 : Int) (4 : Int) (4 : Int) <|
    SLB (0 : Int) (4 : Int) (4 : Int) <|
    CALL prg f_slices_Compare_sl_int64_int64 #[.slice (some (slP ⟨g67, 0, none⟩ 4 0 1)) (4 - 0) (4 - 0), .slice (some (slP ⟨g55, 0, none⟩ 4 0 1)) (4 - 0) (4 - 0)] (fun q74 h75 =>
    asI .i64 q74 fun n76 =>
    Post (.int .i64 n76) h75) h73) h68) h56)) h10))) h4) ∧ ((ALC ⟨Z_4_int64⟩ T_4_int64 (fun g77 h78 =>
    PIN h4 t2 1 h78 <|
    PIN h4 ⟨g3, 0, none⟩ 6 h78 <|
    PIN h4 t2 1 h78 <|
    PIN h4 ⟨g1, 0, none⟩ 6 h78 <|
    (CALL prg f_impl_Event_order #[.agg a5, v6] (fun q79 h80 =>
    asA q79 fun a81 =>
    PIN h4 t2 1 h80 <|
    PIN h4 ⟨g3, 0, none⟩ 6 h80 <|
    (CALL prg f_impl_Event_order #[.agg a7, v8] (fun q82 h83 =>
    asA q82 fun a84 =>
    ALC ⟨Z_4_int64⟩ T_4_int64 (fun g85 h86 =>
    PIN h4 t2 1 h86 <|
    PIN h4 ⟨g3, 0, none⟩ 6 h86 <|
    PIN h4 t2 1 h86 <|
    PIN h4 ⟨g1, 0, none⟩ 6 h86 <|
    STA 4 h86 ⟨g77, 0, none⟩ a81 fun h87 =>
    STA 4 h87 ⟨g85, 0, none⟩ a84 fun h88 =>
    SLB (0 : Int) (4 : Int) (4 : Int) <|
    SLB (0 : Int) (4 : Int) (4 : Int) <|
    CALL prg f_slices_Compare_sl_int64_int64 #[.slice (some (slP ⟨g77, 0, none⟩ 4 0 1)) (4 - 0) (4 - 0), .slice (some (slP ⟨g85, 0, none⟩ 4 0 1)) (4 - 0) (4 - 0)] (fun q89 h90 =>
    asI .i64 q89 fun n91 =>
    Post (.int .i64 n91) h90) h88) h83) h80) ∧ (ALC ⟨Z_4_int64⟩ T_4_int64 (fun g92 h93 =>
    PIN h4 t2 1 h93 <|
    PIN h4 ⟨g3, 0, none⟩ 6 h93 <|
    PIN h4 t2 1 h93 <|
    PIN h4 ⟨g1, 0, none⟩ 6 h93 <|
    CALL prg f_impl_Event_order #[.agg a7, v8] (fun q94 h95 =>
    asA q94 fun a96 =>
    STA 4 h95 ⟨g77, 0, none⟩ a81 fun h97 =>
    STA 4 h97 ⟨g92, 0, none⟩ a96 fun h98 =>
    SLB (0 : Int) (4 : Int) (4 : Int) <|
    SLB (0 : Int) (4 : Int) (4 : Int) <|
    CALL prg f_slices_Compare_sl_int64_int64 #[.slice (some (slP ⟨g77, 0, none⟩ 4 0 1)) (4 - 0) (4 - 0), .slice (some (slP ⟨g92, 0, none⟩ 4 0 1)) (4 - 0) (4 - 0)] (fun q99 h100 =>
    asI .i64 q99 fun n101 =>
    Post (.int .i64 n101) h100) h98) h93) h80)) h78) ∧ (ALC ⟨Z_4_int64⟩ T_4_int64 (fun g102 h103 =>
    PIN h4 t2 1 h103 <|
    PIN h4 ⟨g3, 0, none⟩ 6 h103 <|
    PIN h4 t2 1 h103 <|
    PIN h4 ⟨g1, 0, none⟩ 6 h103 <|
    CALL prg f_impl_Event_order #[.agg a5, v6] (fun q104 h105 =>
    asA q104 fun a106 =>
    PIN h4 t2 1 h105 <|
    PIN h4 ⟨g3, 0, none⟩ 6 h105 <|
    CALL prg f_impl_Event_order #[.agg a7, v8] (fun q107 h108 =>
    asA q107 fun a109 =>
    STA 4 h108 ⟨g77, 0, none⟩ a106 fun h110 =>
    STA 4 h110 ⟨g102, 0, none⟩ a109 fun h111 =>
    SLB (0 : Int) (4 : Int) (4 : Int) <|
    SLB (0 : Int) (4 : Int) (4 : Int) <|
    CALL prg f_slices_Compare_sl_int64_int64 #[.slice (some (slP ⟨g77, 0, none⟩ 4 0 1)) (4 - 0) (4 - 0), .slice (some (slP ⟨g102, 0, none⟩ 4 0 1)) (4 - 0) (4 - 0)] (fun q112 h113 =>
    asI .i64 q112 fun n114 =>
    Post (.int .i64 n114) h113) h111) h105) h103) h78)) h4) ∧ (ALC ⟨Z_4_int64⟩ T_4_int64 (fun g115 h116 =>
    PIN h4 t2 1 h116 <|
    PIN h4 ⟨g3, 0, none⟩ 6 h116 <|
    PIN h4 t2 1 h116 <|
    PIN h4 ⟨g1, 0, none⟩ 6 h116 <|
    (CALL prg f_impl_Event_order #[.agg a5, v6] (fun q117 h118 =>
    asA q117 fun a119 =>
    PIN h4 t2 1 h118 <|
    PIN h4 ⟨g3, 0, none⟩ 6 h118 <|
    (CALL prg f_impl_Event_order #[.agg a7, v8] (fun q120 h121 =>
    asA q120 fun a122 =>
    ALC ⟨Z_4_int64⟩ T_4_int64 (fun g123 h124 =>
    PIN h4 t2 1 h124 <|
    PIN h4 ⟨g3, 0, none⟩ 6 h124 <|
    PIN h4 t2 1 h124 <|
    PIN h4 ⟨g1, 0, none⟩ 6 h124 <|
    STA 4 h124 ⟨g123, 0, none⟩ a119 fun h125 =>
    STA 4 h125 ⟨g115, 0, none⟩ a122 fun h126 =>
    SLB (0 : Int) (4 : Int) (4 : Int) <|
    SLB (0 : Int) (4 : Int) (4 : Int) <|
    CALL prg f_slices_Compare_sl_int64_int64 #[.slice (some (slP ⟨g123, 0, none⟩ 4 0 1)) (4 - 0) (4 - 0), .slice (some (slP ⟨g115, 0, none⟩ 4 0 1)) (4 - 0) (4 - 0)] (fun q127 h128 =>
    asI .i64 q127 fun n129 =>
    Post (.int .i64 n129) h128) h126) h121) h118) ∧ (ALC ⟨Z_4_int64⟩ T_4_int64 (fun g130 h131 =>
    PIN h4 t2 1 h131 <|
    PIN h4 ⟨g3, 0, none⟩ 6 h131 <|
    PIN h4 t2 1 h131 <|
    PIN h4 ⟨g1, 0, none⟩ 6 h131 <|
    CALL prg f_impl_Event_order #[.agg a7, v8] (fun q132 h133 =>
    asA q132 fun a134 =>
    STA 4 h133 ⟨g130, 0, none⟩ a119 fun h135 =>
    STA 4 h135 ⟨g115, 0, none⟩ a134 fun h136 =>
    SLB (0 : Int) (4 : Int) (4 : Int) <|
    SLB (0 : Int) (4 : Int) (4 : Int) <|
    CALL prg f_slices_Compare_sl_int64_int64 #[.slice (some (slP ⟨g130, 0, none⟩ 4 0 1)) (4 - 0) (4 - 0), .slice (some (slP ⟨g115, 0, none⟩ 4 0 1)) (4 - 0) (4 - 0)] (fun q137 h138 =>
    asI .i64 q137 fun n139 =>
    Post (.int .i64 n139) h138) h136) h131) h118)) h116) ∧ (ALC ⟨Z_4_int64⟩ T_4_int64 (fun g140 h141 =>
    PIN h4 t2 1 h141 <|
    PIN h4 ⟨g3, 0, none⟩ 6 h141 <|
    PIN h4 t2 1 h141 <|
    PIN h4 ⟨g1, 0, none⟩ 6 h141 <|
    CALL prg f_impl_Event_order #[.agg a5, v6] (fun q142 h143 =>
    asA q142 fun a144 =>
    PIN h4 t2 1 h143 <|
    PIN h4 ⟨g3, 0, none⟩ 6 h143 <|
    CALL prg f_impl_Event_order #[.agg a7, v8] (fun q145 h146 =>
    asA q145 fun a147 =>
    STA 4 h146 ⟨g140, 0, none⟩ a144 fun h148 =>
    STA 4 h148 ⟨g115, 0, none⟩ a147 fun h149 =>
    SLB (0 : Int) (4 : Int) (4 : Int) <|
    SLB (0 : Int) (4 : Int) (4 : Int) <|
    CALL prg f_slices_Compare_sl_int64_int64 #[.slice (some (slP ⟨g140, 0, none⟩ 4 0 1)) (4 - 0) (4 - 0), .slice (some (slP ⟨g115, 0, none⟩ 4 0 1)) (4 - 0) (4 - 0)] (fun q150 h151 =>
    asI .i64 q150 fun n152 =>
    Post (.int .i64 n152) h151) h149) h143) h141) h116)) h4))) h2) h
noncomputable def impl_compareEvents_c1.code : Code := (Tryz.f62.body).getD .skip
theorem impl_compareEvents_c1.call {a_0 : Array Value} {b_1 : Array Value} {t2 : Addr} {Post : Value → Heap → Prop} {h : Heap} (H : impl_compareEvents_c1.S a_0 b_1 t2 Post h) : CALL prg f_impl_compareEvents_c1 #[.agg a_0, .agg b_1, .pointer (some t2)] Post h :=
  fn_call tau_ok mixed (c := impl_compareEvents_c1.code) (Λ := lookL []) Tryz.func62 (by kernel_rfl) (by kernel_rfl)
    (Rq.free (by kernel_rfl))
    (Eq.mp (by kernel_rfl) H)

def impl_compareEvents.S (starts_0 : Value) (Post : Value → Heap → Prop) (h : Heap) : Prop :=
    ALC (Value.cells starts_0) T_map_int64_int64 (fun g1 h2 =>
    Post (.func (.func 62) #[] #[.pointer (some ⟨g1, 0, none⟩)]) h2) h
noncomputable def impl_compareEvents.code : Code := (Tryz.f24.body).getD .skip
theorem impl_compareEvents.call {starts_0 : Value} {Post : Value → Heap → Prop} {h : Heap} (H : impl_compareEvents.S starts_0 Post h) : CALL prg f_impl_compareEvents #[starts_0] Post h :=
  fn_call tau_ok mixed (c := impl_compareEvents.code) (Λ := lookL []) Tryz.func24 (by kernel_rfl) (by kernel_rfl)
    (Rq.free (by kernel_rfl))
    (Eq.mp (by kernel_rfl) H)

def impl_isKey.S (key_0 : Int) (Post : Value → Heap → Prop) (h : Heap) : Prop :=
    CALL prg f_impl_within #[.int .i64 key_0, .int .i64 (-100 : Int), .int .i64 (100 : Int)] (fun q1 h2 =>
    asB q1 fun b3 =>
    Post (.bool b3) h2) h
noncomputable def impl_isKey.code : Code := (Tryz.f88.body).getD .skip
theorem impl_isKey.call {key_0 : Int} {Post : Value → Heap → Prop} {h : Heap} (H : impl_isKey.S key_0 Post h) : CALL prg f_impl_isKey #[.int .i64 key_0] Post h :=
  fn_call tau_ok mixed (c := impl_isKey.code) (Λ := lookL []) Tryz.func88 (by kernel_rfl) (by kernel_rfl)
    (Rq.free (by kernel_rfl))
    (Eq.mp (by kernel_rfl) H)

end Go.Sx
