/- What functions of this seat's program compute, told in words (a predicate over heaps for each), and the proofs that the words are no more than the code's own weakest precondition. -/
import Derived.Test.YthpodhdhpepfbaaTab
namespace Go.Sx
open Go.Proofs
set_option linter.unusedVariables false
set_option maxRecDepth 100000

/-! #### loop.example/g01173/laws.toBlock (function 10) -/
def laws_toBlock.B3 (Post : Value → Heap → Prop) (N3 : (Addr × Addr × Addr × Int) → Heap → Prop) : Addr × Addr × Addr × Int → Heap → Prop
  | (a_1, t2, out_3, i_4), h =>
    BIF ((decide (i_4 < (16 : Int)))) (
    IDX i_4 16 <|
    oF .f32 (cell h ((Addr.add a_1 ((Int.toNat i_4) * 1)))) fun r7 =>
    IDX i_4 16 <|
    ST1 h ((Addr.add out_3 ((Int.toNat i_4) * 1))) (.float .f32 r7) fun h8 =>
    N3 (a_1, t2, out_3, ((IntKind.i64.wrap (i_4 + (1 : Int))))) h8) (
    LDA 16 h out_3 fun a9 =>
    STA 16 h t2 a9 fun h10 =>
    LDA 16 h10 t2 fun a11 =>
    Post (.agg a11) h10)
def laws_toBlock.g3 (fr : Frame) : Addr × Addr × Addr × Int := ((gP (lget fr 1)), (gP (lget fr 2)), (gP (lget fr 3)), (gI (lget fr 4)))
def laws_toBlock.l3 (Post : Value → Heap → Prop) : Frame → Heap → Prop := fun fr h => GRD (shape (kds 15 [(1, .p), (2, .p), (3, .p), (4, .i .i64)]) fr) (LOOP (laws_toBlock.B3 Post) (laws_toBlock.g3 fr) h)
def laws_toBlock.S (a_0 : Array Value) (Post : Value → Heap → Prop) (h : Heap) : Prop :=
    ALC a_0 T_16_float32 (fun g1 h2 =>
    ALC ⟨Z_impl_Block⟩ T_impl_Block (fun g3 h4 =>
    ALC ⟨Z_impl_Block⟩ T_impl_Block (fun g5 h6 =>
    LOOP (laws_toBlock.B3 Post) (⟨g1, 0, none⟩, ⟨g3, 0, none⟩, ⟨g5, 0, none⟩, (0 : Int)) h6) h4) h2) h
noncomputable def laws_toBlock.code : Code := (Try.f10.body).getD .skip
theorem laws_toBlock.call {a_0 : Array Value} {Post : Value → Heap → Prop} {h : Heap} (H : laws_toBlock.S a_0 Post h) : CALL prg f_laws_toBlock #[.agg a_0] Post h :=
  fn_call tau_ok mixed (c := laws_toBlock.code) (Λ := lookL [(1000003, laws_toBlock.l3 Post)]) Try.func10 (by kernel_rfl) (by kernel_rfl)
    (Rq.seq (by kernel_rfl) (Rq.free (by kernel_rfl)) (Rq.seq (by kernel_rfl) (Rq.free (by kernel_rfl)) (Rq.seq (by kernel_rfl) (Rq.seq (by kernel_rfl) (Rq.free (by kernel_rfl)) (Rq.block (Rq.loop (laws_toBlock.l3 Post) (by kernel_rfl) (segL (g := laws_toBlock.g3) tau_ok mixed (Λ := fun N3 => lookL []) (fun _ _ _ => by kernel_rfl) (fun N3 => (Rq.free (by kernel_rfl))))))) (Rq.free (by kernel_rfl)))))
    (Eq.mp (by kernel_rfl) H)

/-! #### loop.example/g01173/spec.l10Mix (function 62) -/
def spec_l10Mix.S (h_0 : Int) (x_1 : Int) (Post : Value → Heap → Prop) (h : Heap) : Prop :=
    Post (.int .u32 ((IntKind.u32.wrap ((bitI .xor .u32 h_0 x_1) * (16777619 : Int))))) h
noncomputable def spec_l10Mix.code : Code := (Try.f62.body).getD .skip
theorem spec_l10Mix.call {h_0 : Int} {x_1 : Int} {Post : Value → Heap → Prop} {h : Heap} (H : spec_l10Mix.S h_0 x_1 Post h) : CALL prg f_spec_l10Mix #[.int .u32 h_0, .int .u32 x_1] Post h :=
  fn_call tau_ok mixed (c := spec_l10Mix.code) (Λ := lookL []) Try.func62 (by kernel_rfl) (by kernel_rfl)
    (Rq.free (by kernel_rfl))
    (Eq.mp (by kernel_rfl) H)

/-! #### loop.example/g01173/spec.l01NaN (function 77) -/
def spec_l01NaN.S (a_0 : Nat) (Post : Value → Heap → Prop) (h : Heap) : Prop :=
    Post (.bool (FloatKind.f32.format.order a_0 a_0 != some .eq)) h
noncomputable def spec_l01NaN.code : Code := (Try.f77.body).getD .skip
theorem spec_l01NaN.call {a_0 : Nat} {Post : Value → Heap → Prop} {h : Heap} (H : spec_l01NaN.S a_0 Post h) : CALL prg f_spec_l01NaN #[.float .f32 a_0] Post h :=
  fn_call tau_ok mixed (c := spec_l01NaN.code) (Λ := lookL []) Try.func77 (by kernel_rfl) (by kernel_rfl)
    (Rq.free (by kernel_rfl))
    (Eq.mp (by kernel_rfl) H)

/-! #### loop.example/g01173/spec.l01Bits (function 63) -/
def spec_l01Bits.S (a_0 : Nat) (Post : Value → Heap → Prop) (h : Heap) : Prop :=
    CALL prg f_spec_l01NaN #[.float .f32 a_0] (fun q1 h2 =>
    asB q1 fun b3 =>
    BIF b3 (
    Post (.int .u32 (2143289344 : Int)) h2) (
    CALL prg f_math_Float32bits #[.float .f32 a_0] (fun q4 h5 =>
    asI .u32 q4 fun n6 =>
    Post (.int .u32 n6) h5) h2)) h
noncomputable def spec_l01Bits.code : Code := (Try.f63.body).getD .skip
theorem spec_l01Bits.call {a_0 : Nat} {Post : Value → Heap → Prop} {h : Heap} (H : spec_l01Bits.S a_0 Post h) : CALL prg f_spec_l01Bits #[.float .f32 a_0] Post h :=
  fn_call tau_ok mixed (c := spec_l01Bits.code) (Λ := lookL []) Try.func63 (by kernel_rfl) (by kernel_rfl)
    (Rq.free (by kernel_rfl))
    (Eq.mp (by kernel_rfl) H)

/-! #### loop.example/g01173/spec.l10Check (function 35) -/
def spec_l10Check.B8 (Post : Value → Heap → Prop) (N8 : (Addr × Int × Int) → Heap → Prop) : Addr × Int × Int → Heap → Prop
  | (b_2, h_7, i_9), h =>
    BIF ((decide (i_9 < (16 : Int)))) (
    IDX i_9 16 <|
    oF .f32 (cell h ((Addr.add b_2 ((Int.toNat i_9) * 1)))) fun r9 =>
    CALL prg f_spec_l01Bits #[.float .f32 r9] (fun q10 h11 =>
    asI .u32 q10 fun n12 =>
    CALL prg f_spec_l10Mix #[.int .u32 h_7, .int .u32 n12] (fun q13 h14 =>
    asI .u32 q13 fun n15 =>
    N8 (b_2, n15, ((IntKind.i64.wrap (i_9 + (1 : Int))))) h14) h11) h) (
    Post (.int .u32 h_7) h)
def spec_l10Check.g8 (fr : Frame) : Addr × Int × Int := ((gP (lget fr 2)), (gI (lget fr 7)), (gI (lget fr 9)))
def spec_l10Check.l8 (Post : Value → Heap → Prop) : Frame → Heap → Prop := fun fr h => GRD (shape (kds 39 [(2, .p), (7, .i .u32), (9, .i .i64)]) fr) (LOOP (spec_l10Check.B8 Post) (spec_l10Check.g8 fr) h)
def spec_l10Check.B3 (Post : Value → Heap → Prop) (N3 : (Int × ByteArray × Addr × Int × Int) → Heap → Prop) : Int × ByteArray × Addr × Int × Int → Heap → Prop
  | (index_0, state_1, b_2, h_7, i_8), h =>
    BIF ((decide (i_8 < ((ByteArray.size state_1) : Int)))) (
    IDX i_8 (ByteArray.size state_1) <|
    CALL prg f_spec_l10Mix #[.int .u32 h_7, .int .u32 (IntKind.u32.wrap (byteAt state_1 i_8))] (fun q3 h4 =>
    asI .u32 q3 fun n5 =>
    N3 (index_0, state_1, b_2, n5, ((IntKind.i64.wrap (i_8 + (1 : Int))))) h4) h) (
    CALL prg f_spec_l10Mix #[.int .u32 h_7, .int .u32 (IntKind.u32.wrap index_0)] (fun q6 h7 =>
    asI .u32 q6 fun n8 =>
    LOOP (spec_l10Check.B8 Post) (b_2, n8, (0 : Int)) h7) h)
def spec_l10Check.g3 (fr : Frame) : Int × ByteArray × Addr × Int × Int := ((gI (lget fr 0)), (gS (lget fr 1)), (gP (lget fr 2)), (gI (lget fr 7)), (gI (lget fr 8)))
def spec_l10Check.l3 (Post : Value → Heap → Prop) : Frame → Heap → Prop := fun fr h => GRD (shape (kds 39 [(0, .i .i64), (1, .s), (2, .p), (7, .i .u32), (8, .i .i64)]) fr) (LOOP (spec_l10Check.B3 Post) (spec_l10Check.g3 fr) h)
def spec_l10Check.S (index_0 : Int) (state_1 : ByteArray) (b_2 : Addr) (Post : Value → Heap → Prop) (h : Heap) : Prop :=
    LOOP (spec_l10Check.B3 Post) (index_0, state_1, b_2, (2166136261 : Int), (0 : Int)) h
noncomputable def spec_l10Check.code : Code := (Try.f35.body).getD .skip
theorem spec_l10Check.call {index_0 : Int} {state_1 : ByteArray} {b_2 : Addr} {Post : Value → Heap → Prop} {h : Heap} (H : spec_l10Check.S index_0 state_1 b_2 Post h) : CALL prg f_spec_l10Check #[.int .i64 index_0, .string state_1, .pointer (some b_2)] Post h :=
  fn_call tau_ok mixed (c := spec_l10Check.code) (Λ := lookL [(1000003, spec_l10Check.l3 Post), (1000008, spec_l10Check.l8 Post)]) Try.func35 (by kernel_rfl) (by kernel_rfl)
    (Rq.seq (by kernel_rfl) (Rq.free (by kernel_rfl)) (Rq.seq (by kernel_rfl) (Rq.free (by kernel_rfl)) (Rq.seq (by kernel_rfl) (Rq.seq (by kernel_rfl) (Rq.free (by kernel_rfl)) (Rq.block (Rq.loop (spec_l10Check.l3 Post) (by kernel_rfl) (segL (g := spec_l10Check.g3) tau_ok mixed (Λ := fun N3 => lookL []) (fun _ _ _ => by kernel_rfl) (fun N3 => (Rq.free (by kernel_rfl))))))) (Rq.seq (by kernel_rfl) (Rq.free (by kernel_rfl)) (Rq.seq (by kernel_rfl) (Rq.seq (by kernel_rfl) (Rq.free (by kernel_rfl)) (Rq.block (Rq.loop (spec_l10Check.l8 Post) (by kernel_rfl) (segL (g := spec_l10Check.g8) tau_ok mixed (Λ := fun N8 => lookL []) (fun _ _ _ => by kernel_rfl) (fun N8 => (Rq.free (by kernel_rfl))))))) (Rq.free (by kernel_rfl)))))))
    (Eq.mp (by kernel_rfl) H)

/-! #### loop.example/g01173/spec.CheckOf (function 9) -/
def spec_CheckOf.S (index_0 : Int) (state_1 : ByteArray) (b_2 : Array Value) (Post : Value → Heap → Prop) (h : Heap) : Prop :=
    ALC b_2 T_impl_Block (fun g1 h2 =>
    CALL prg f_spec_l10Check #[.int .i64 index_0, .string state_1, .pointer (some ⟨g1, 0, none⟩)] (fun q3 h4 =>
    asI .u32 q3 fun n5 =>
    Post (.int .u32 n5) h4) h2) h
noncomputable def spec_CheckOf.code : Code := (Try.f9.body).getD .skip
theorem spec_CheckOf.call {index_0 : Int} {state_1 : ByteArray} {b_2 : Array Value} {Post : Value → Heap → Prop} {h : Heap} (H : spec_CheckOf.S index_0 state_1 b_2 Post h) : CALL prg f_spec_CheckOf #[.int .i64 index_0, .string state_1, .agg b_2] Post h :=
  fn_call tau_ok mixed (c := spec_CheckOf.code) (Λ := lookL []) Try.func9 (by kernel_rfl) (by kernel_rfl)
    (Rq.free (by kernel_rfl))
    (Eq.mp (by kernel_rfl) H)

/-! #### loop.example/g01173/impl.checked (function 36) -/
def impl_checked.S (check_0 : Int) (n_1 : Int) (Post : Value → Heap → Prop) (h : Heap) : Prop :=
    Post (.int .u32 ((IntKind.u32.wrap ((bitI .xor .u32 check_0 n_1) * (16777619 : Int))))) h
noncomputable def impl_checked.code : Code := (Try.f36.body).getD .skip
theorem impl_checked.call {check_0 : Int} {n_1 : Int} {Post : Value → Heap → Prop} {h : Heap} (H : impl_checked.S check_0 n_1 Post h) : CALL prg f_impl_checked #[.int .u32 check_0, .int .u32 n_1] Post h :=
  fn_call tau_ok mixed (c := impl_checked.code) (Λ := lookL []) Try.func36 (by kernel_rfl) (by kernel_rfl)
    (Rq.free (by kernel_rfl))
    (Eq.mp (by kernel_rfl) H)

/-! #### loop.example/g01173/impl.checkOfBytes[string] (function 37) -/
def impl_checkOfBytes_string.B3 (Post : Value → Heap → Prop) (N3 : (ByteArray × Int × Int × Int) → Heap → Prop) : ByteArray × Int × Int × Int → Heap → Prop
  | (data_0, check_3, t6, t7), h =>
    BIF (decide (t7 < t6)) (
    IDX t7 (ByteArray.size data_0) <|
    CALL prg f_impl_checked #[.int .u32 check_3, .int .u32 (IntKind.u32.wrap (byteAt data_0 t7))] (fun q3 h4 =>
    asI .u32 q3 fun n5 =>
    N3 (data_0, n5, t6, ((IntKind.i64.wrap (t7 + (1 : Int))))) h4) h) (
    Post (.int .u32 check_3) h)
def impl_checkOfBytes_string.g3 (fr : Frame) : ByteArray × Int × Int × Int := ((gS (lget fr 0)), (gI (lget fr 3)), (gI (lget fr 6)), (gI (lget fr 7)))
def impl_checkOfBytes_string.l3 (Post : Value → Heap → Prop) : Frame → Heap → Prop := fun fr h => GRD (shape (kds 18 [(0, .s), (3, .i .u32), (6, .i .i64), (7, .i .i64)]) fr) (LOOP (impl_checkOfBytes_string.B3 Post) (impl_checkOfBytes_string.g3 fr) h)
def impl_checkOfBytes_string.S (data_0 : ByteArray) (Post : Value → Heap → Prop) (h : Heap) : Prop :=
    LOOP (impl_checkOfBytes_string.B3 Post) (data_0, (2166136261 : Int), ((ByteArray.size data_0) : Int), (0 : Int)) h
noncomputable def impl_checkOfBytes_string.code : Code := (Try.f37.body).getD .skip
theorem impl_checkOfBytes_string.call {data_0 : ByteArray} {Post : Value → Heap → Prop} {h : Heap} (H : impl_checkOfBytes_string.S data_0 Post h) : CALL prg f_impl_checkOfBytes_string #[.string data_0] Post h :=
  fn_call tau_ok mixed (c := impl_checkOfBytes_string.code) (Λ := lookL [(1000003, impl_checkOfBytes_string.l3 Post)]) Try.func37 (by kernel_rfl) (by kernel_rfl)
    (Rq.seq (by kernel_rfl) (Rq.free (by kernel_rfl)) (Rq.seq (by kernel_rfl) (Rq.free (by kernel_rfl)) (Rq.seq (by kernel_rfl) (Rq.seq (by kernel_rfl) (Rq.free (by kernel_rfl)) (Rq.block (Rq.loop (impl_checkOfBytes_string.l3 Post) (by kernel_rfl) (segL (g := impl_checkOfBytes_string.g3) tau_ok mixed (Λ := fun N3 => lookL []) (fun _ _ _ => by kernel_rfl) (fun N3 => (Rq.free (by kernel_rfl))))))) (Rq.free (by kernel_rfl)))))
    (Eq.mp (by kernel_rfl) H)

/-! #### loop.example/g01173/impl.bitsOf (function 38) -/
def impl_bitsOf.S (a_0 : Nat) (Post : Value → Heap → Prop) (h : Heap) : Prop :=
    BIF (FloatKind.f32.format.order a_0 a_0 != some .eq) (
    Post (.int .u32 (2143289344 : Int)) h) (
    CALL prg f_math_Float32bits #[.float .f32 a_0] (fun q1 h2 =>
    asI .u32 q1 fun n3 =>
    Post (.int .u32 n3) h2) h)
noncomputable def impl_bitsOf.code : Code := (Try.f38.body).getD .skip
theorem impl_bitsOf.call {a_0 : Nat} {Post : Value → Heap → Prop} {h : Heap} (H : impl_bitsOf.S a_0 Post h) : CALL prg f_impl_bitsOf #[.float .f32 a_0] Post h :=
  fn_call tau_ok mixed (c := impl_bitsOf.code) (Λ := lookL []) Try.func38 (by kernel_rfl) (by kernel_rfl)
    (Rq.free (by kernel_rfl))
    (Eq.mp (by kernel_rfl) H)

/-! #### loop.example/g01173/impl.CheckOf (function 11) -/
def impl_CheckOf.B3 (Post : Value → Heap → Prop) (N3 : (Int × Array Value × Int) → Heap → Prop) : Int × Array Value × Int → Heap → Prop
  | (check_7, t15, t16), h =>
    BIF ((decide (t16 < (16 : Int)))) (
    IDX t16 16 <|
    oF .f32 t15[((Int.toNat t16) * 1)]? fun r10 =>
    CALL prg f_impl_bitsOf #[.float .f32 r10] (fun q11 h12 =>
    asI .u32 q11 fun n13 =>
    CALL prg f_impl_checked #[.int .u32 check_7, .int .u32 n13] (fun q14 h15 =>
    asI .u32 q14 fun n16 =>
    N3 (n16, t15, ((IntKind.i64.wrap (t16 + (1 : Int))))) h15) h12) h) (
    Post (.int .u32 check_7) h)
def impl_CheckOf.g3 (fr : Frame) : Int × Array Value × Int := ((gI (lget fr 7)), (gA (lget fr 15)), (gI (lget fr 16)))
def impl_CheckOf.l3 (Post : Value → Heap → Prop) : Frame → Heap → Prop := fun fr h => GRD (shape (kds 25 [(7, .i .u32), (15, .a), (16, .i .i64)]) fr) (LOOP (impl_CheckOf.B3 Post) (impl_CheckOf.g3 fr) h)
def impl_CheckOf.S (index_0 : Int) (state_1 : ByteArray) (b_2 : Array Value) (Post : Value → Heap → Prop) (h : Heap) : Prop :=
    ALC b_2 T_impl_Block (fun g1 h2 =>
    CALL prg f_impl_checkOfBytes_string #[.string state_1] (fun q3 h4 =>
    asI .u32 q3 fun n5 =>
    CALL prg f_impl_checked #[.int .u32 n5, .int .u32 (IntKind.u32.wrap index_0)] (fun q6 h7 =>
    asI .u32 q6 fun n8 =>
    LDA 16 h7 ⟨g1, 0, none⟩ fun a9 =>
    LOOP (impl_CheckOf.B3 Post) (n8, a9, (0 : Int)) h7) h4) h2) h
noncomputable def impl_CheckOf.code : Code := (Try.f11.body).getD .skip
theorem impl_CheckOf.call {index_0 : Int} {state_1 : ByteArray} {b_2 : Array Value} {Post : Value → Heap → Prop} {h : Heap} (H : impl_CheckOf.S index_0 state_1 b_2 Post h) : CALL prg f_impl_CheckOf #[.int .i64 index_0, .string state_1, .agg b_2] Post h :=
  fn_call tau_ok mixed (c := impl_CheckOf.code) (Λ := lookL [(1000003, impl_CheckOf.l3 Post)]) Try.func11 (by kernel_rfl) (by kernel_rfl)
    (Rq.seq (by kernel_rfl) (Rq.free (by kernel_rfl)) (Rq.seq (by kernel_rfl) (Rq.free (by kernel_rfl)) (Rq.seq (by kernel_rfl) (Rq.seq (by kernel_rfl) (Rq.free (by kernel_rfl)) (Rq.block (Rq.loop (impl_CheckOf.l3 Post) (by kernel_rfl) (segL (g := impl_CheckOf.g3) tau_ok mixed (Λ := fun N3 => lookL []) (fun _ _ _ => by kernel_rfl) (fun N3 => (Rq.free (by kernel_rfl))))))) (Rq.free (by kernel_rfl)))))
    (Eq.mp (by kernel_rfl) H)

/-! #### loop.example/g01173/laws.FnExactCheckOf (function 3) -/
def laws_FnExactCheckOf.S (aIndex_0 : Int) (aState_1 : ByteArray) (aB_2 : Array Value) (Post : Value → Heap → Prop) (h : Heap) : Prop :=
    ALC aB_2 T_16_float32 (fun g1 h2 =>
    BIF ((decide ((1048576 : Int) < ((ByteArray.size aState_1) : Int)))) (
    Post (.bool true) h2) (
    LDA 16 h2 ⟨g1, 0, none⟩ fun a5 =>
    CALL prg f_laws_toBlock #[.agg a5] (fun q6 h7 =>
    asA q6 fun a8 =>
    CALL prg f_spec_CheckOf #[.int .i64 aIndex_0, .string aState_1, .agg a8] (fun q9 h10 =>
    asI .u32 q9 fun n11 =>
    LDA 16 h10 ⟨g1, 0, none⟩ fun a12 =>
    CALL prg f_laws_toBlock #[.agg a12] (fun q13 h14 =>
    asA q13 fun a15 =>
    CALL prg f_impl_CheckOf #[.int .i64 aIndex_0, .string aState_1, .agg a15] (fun q16 h17 =>
    asI .u32 q16 fun n18 =>
    BIF (n18 != n11) (
    Post (.bool false) h17) (
    Post (.bool true) h17)) h14) h10) h7) h2)) h
noncomputable def laws_FnExactCheckOf.code : Code := (Try.f3.body).getD .skip
theorem laws_FnExactCheckOf.call {aIndex_0 : Int} {aState_1 : ByteArray} {aB_2 : Array Value} {Post : Value → Heap → Prop} {h : Heap} (H : laws_FnExactCheckOf.S aIndex_0 aState_1 aB_2 Post h) : CALL prg f_laws_FnExactCheckOf #[.int .i64 aIndex_0, .string aState_1, .agg aB_2] Post h :=
  fn_call tau_ok mixed (c := laws_FnExactCheckOf.code) (Λ := lookL []) Try.func3 (by kernel_rfl) (by kernel_rfl)
    (Rq.free (by kernel_rfl))
    (Eq.mp (by kernel_rfl) H)

end Go.Sx
