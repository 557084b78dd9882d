/- What functions of this seat's program compute, told in words (a predicate over heaps for each), and the proofs that the words are no more than the code's own weakest precondition. -/
import Derived.Test.YthgnpepchedpbaaDoorTab
namespace Go.Sx
open Go.Proofs
set_option linter.unusedVariables false
set_option maxRecDepth 100000

def impl_decimal.S (n_0 : Int) (Post : Value → Heap → Prop) (h : Heap) : Prop :=
    CALL prg f_strconv_FormatInt #[.int .i64 n_0, .int .i64 (10 : Int)] (fun q1 h2 =>
    asS q1 fun s3 =>
    Post (.string s3) h2) h
noncomputable def impl_decimal.code : Code := (Tryd.f17.body).getD .skip
theorem impl_decimal.call {n_0 : Int} {Post : Value → Heap → Prop} {h : Heap} (H : impl_decimal.S n_0 Post h) : CALL prg f_impl_decimal #[.int .i64 n_0] Post h :=
  fn_call tau_ok mixed (c := impl_decimal.code) (Λ := lookL []) Tryd.func17 (by kernel_rfl) (by kernel_rfl)
    (Rq.free (by kernel_rfl))
    (Eq.mp (by kernel_rfl) H)

def spec_Decimal.S (n_0 : Int) (Post : Value → Heap → Prop) (h : Heap) : Prop :=
    BIF ((decide ((10 : Int) ≤ n_0))) (
    NZ (10 : Int) <|
    NZ (10 : Int) <|
    (CALL prg f_spec_Decimal #[.int .i64 ((IntKind.i64.wrap (Int.tdiv n_0 (10 : Int))))] (fun q1 h2 =>
    asS q1 fun s3 =>
    ALC ⟨[.int .u8 ((IntKind.u8.wrap ((IntKind.i64.wrap ((48 : Int) + (Int.tmod n_0 (10 : Int)))))))]⟩ T_uint8 (fun g4 h5 =>
    SEMV prg (convert T_sl_uint8 T_string (.slice (some ⟨g4, 0, none⟩) 1 1)) (fun q6 h7 =>
    asS q6 fun s8 =>
    ((ByteArray.size s3 + ByteArray.size s8 : Nat) : Int) ≤ 9223372036854775807 ∧ (
    Post (.string (s3 ++ s8)) h7)) h5) h2) h) ∧ (ALC ⟨[.int .u8 ((IntKind.u8.wrap ((IntKind.i64.wrap ((48 : Int) + (Int.tmod n_0 (10 : Int)))))))]⟩ T_uint8 (fun g9 h10 =>
    (CALL prg f_spec_Decimal #[.int .i64 ((IntKind.i64.wrap (Int.tdiv n_0 (10 : Int))))] (fun q11 h12 =>
    asS q11 fun s13 =>
    SEMV prg (convert T_sl_uint8 T_string (.slice (some ⟨g9, 0, none⟩) 1 1)) (fun q14 h15 =>
    asS q14 fun s16 =>
    ((ByteArray.size s13 + ByteArray.size s16 : Nat) : Int) ≤ 9223372036854775807 ∧ (
    Post (.string (s13 ++ s16)) h15)) h12) h10) ∧ (SEMV prg (convert T_sl_uint8 T_string (.slice (some ⟨g9, 0, none⟩) 1 1)) (fun q17 h18 =>
    asS q17 fun s19 =>
    CALL prg f_spec_Decimal #[.int .i64 ((IntKind.i64.wrap (Int.tdiv n_0 (10 : Int))))] (fun q20 h21 =>
    asS q20 fun s22 =>
    ((ByteArray.size s22 + ByteArray.size s19 : Nat) : Int) ≤ 9223372036854775807 ∧ (
    Post (.string (s22 ++ s19)) h21)) h18) h10)) h)) (
    ALC ⟨[.int .u8 ((IntKind.u8.wrap ((IntKind.i64.wrap ((48 : Int) + n_0)))))]⟩ T_uint8 (fun g23 h24 =>
    SEMV prg (convert T_sl_uint8 T_string (.slice (some ⟨g23, 0, none⟩) 1 1)) (fun q25 h26 =>
    asS q25 fun s27 =>
    Post (.string s27) h26) h24) h)
noncomputable def spec_Decimal.code : Code := (Tryd.f14.body).getD .skip
theorem spec_Decimal.call {n_0 : Int} {Post : Value → Heap → Prop} {h : Heap} (H : spec_Decimal.S n_0 Post h) : CALL prg f_spec_Decimal #[.int .i64 n_0] Post h :=
  fn_call tau_ok mixed (c := spec_Decimal.code) (Λ := lookL []) Tryd.func14 (by kernel_rfl) (by kernel_rfl)
    (Rq.free (by kernel_rfl))
    (Eq.mp (by kernel_rfl) H)

end Go.Sx
