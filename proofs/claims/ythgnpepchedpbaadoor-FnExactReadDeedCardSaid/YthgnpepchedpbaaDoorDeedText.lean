/- What functions of this seat's program compute, told in words (a predicate over heaps for each), and the proofs that the words are no more than the code's own weakest precondition. -/
import Derived.Test.YthgnpepchedpbaaDoorTab
namespace Go.Sx
open Go.Proofs
set_option linter.unusedVariables false
set_option maxRecDepth 100000

def spec_DeedText.J6 (Post : Value → Heap → Prop) (d_1 : Addr) (out_3 : ByteArray) (h : Heap) : Prop :=
    oI .i64 (cell h d_1) fun n21 =>
    CALL prg f_spec_l10Numbers #[.int .i64 n21] (fun q22 h23 =>
    asI .i64 q22 fun n24 =>
    BIF ((decide ((1 : Int) < n24))) (
    oI .i64 (cell h23 (Addr.add d_1 2)) fun n25 =>
    CALL prg f_spec_Decimal #[.int .i64 n25] (fun q26 h27 =>
    asS q26 fun s28 =>
    ((ByteArray.size (⟨#[32]⟩ : ByteArray) + ByteArray.size s28 : Nat) : Int) ≤ 9223372036854775807 ∧ (
    ((ByteArray.size out_3 + ByteArray.size ((⟨#[32]⟩ : ByteArray) ++ s28) : Nat) : Int) ≤ 9223372036854775807 ∧ (
    Post (.string ((out_3 ++ ((⟨#[32]⟩ : ByteArray) ++ s28)))) h27))) h23) (
    Post (.string out_3) h23)) h
def spec_DeedText.j6 (Post : Value → Heap → Prop) : Frame → Heap → Prop := fun fr h => GRD (shape (kds 33 [(1, .p), (3, .s)]) fr) (spec_DeedText.J6 Post (gP (lget fr 1)) (gS (lget fr 3)) h)
def spec_DeedText.S (d_0 : Array Value) (Post : Value → Heap → Prop) (h : Heap) : Prop :=
    ALC d_0 T_impl_Deed (fun g1 h2 =>
    LDA 3 h2 ⟨g1, 0, none⟩ fun a3 =>
    CALL prg f_spec_ValidDeed #[.agg a3] (fun q4 h5 =>
    asB q4 fun b6 =>
    BIF (!b6) (
    Post (.string (⟨#[]⟩ : ByteArray)) h5) (
    oI .i64 (cell h5 ⟨g1, 0, none⟩) fun n7 =>
    CALL prg f_spec_l10Names #[] (fun q8 h9 =>
    asL q8 fun l10b l10l l10c =>
    PIN h5 ⟨g1, 0, none⟩ 1 h9 <|
    IDXS l10b n7 l10l fun p11 =>
    oS (cell h9 ((Addr.add p11 ((Int.toNat n7) * 1)))) fun s12 =>
    oI .i64 (cell h9 ⟨g1, 0, none⟩) fun n13 =>
    CALL prg f_spec_l10Numbers #[.int .i64 n13] (fun q14 h15 =>
    asI .i64 q14 fun n16 =>
    BIF ((decide ((0 : Int) < n16))) (
    oI .i64 (cell h15 ⟨g1, 1, none⟩) fun n17 =>
    CALL prg f_spec_Decimal #[.int .i64 n17] (fun q18 h19 =>
    asS q18 fun s20 =>
    ((ByteArray.size (⟨#[32]⟩ : ByteArray) + ByteArray.size s20 : Nat) : Int) ≤ 9223372036854775807 ∧ (
    ((ByteArray.size s12 + ByteArray.size ((⟨#[32]⟩ : ByteArray) ++ s20) : Nat) : Int) ≤ 9223372036854775807 ∧ (
    spec_DeedText.J6 Post ⟨g1, 0, none⟩ ((s12 ++ ((⟨#[32]⟩ : ByteArray) ++ s20))) h19))) h15) (
    spec_DeedText.J6 Post ⟨g1, 0, none⟩ s12 h15)) h9) h5)) h2) h
noncomputable def spec_DeedText.code : Code := (Tryd.f5.body).getD .skip
theorem spec_DeedText.call {d_0 : Array Value} {Post : Value → Heap → Prop} {h : Heap} (H : spec_DeedText.S d_0 Post h) : CALL prg f_spec_DeedText #[.agg d_0] Post h :=
  fn_call tau_ok mixed (c := spec_DeedText.code) (Λ := lookL [(6, spec_DeedText.j6 Post)]) Tryd.func5 (by kernel_rfl) (by kernel_rfl)
    (Rq.seq (by kernel_rfl) (Rq.free (by kernel_rfl)) (Rq.seq (by kernel_rfl) (Rq.free (by kernel_rfl)) (Rq.seq (by kernel_rfl) (Rq.free (by kernel_rfl)) (Rq.seqJ (spec_DeedText.j6 Post) (by kernel_rfl) (seg (fun _ _ => by kernel_rfl)) (Rq.free (by kernel_rfl))
(Rq.free (by kernel_rfl))))))
    (Eq.mp (by kernel_rfl) H)

def impl_DeedText.B5 (Post : Value → Heap → Prop) (N5 : (ByteArray × Option Addr × Nat × Nat × Int × Int) → Heap → Prop) : ByteArray × Option Addr × Nat × Nat × Int × Int → Heap → Prop
  | (text_3, t22b, t22l, t22c, t23, t24), h =>
    BIF (decide (t24 < t23)) (
    IDXS t22b t24 t22l fun p20 =>
    oI .i64 (cell h ((Addr.add p20 ((Int.toNat t24) * 1)))) fun n21 =>
    CALL prg f_impl_decimal #[.int .i64 n21] (fun q22 h23 =>
    asS q22 fun s24 =>
    ((ByteArray.size (⟨#[32]⟩ : ByteArray) + ByteArray.size s24 : Nat) : Int) ≤ 9223372036854775807 ∧ (
    ((ByteArray.size text_3 + ByteArray.size ((⟨#[32]⟩ : ByteArray) ++ s24) : Nat) : Int) ≤ 9223372036854775807 ∧ (
    N5 (((text_3 ++ ((⟨#[32]⟩ : ByteArray) ++ s24))), t22b, t22l, t22c, t23, ((IntKind.i64.wrap (t24 + (1 : Int))))) h23))) h) (
    Post (.string text_3) h)
def impl_DeedText.g5 (fr : Frame) : ByteArray × Option Addr × Nat × Nat × Int × Int := ((gS (lget fr 3)), (gLb (lget fr 22)), (gLl (lget fr 22)), (gLc (lget fr 22)), (gI (lget fr 23)), (gI (lget fr 24)))
def impl_DeedText.l5 (Post : Value → Heap → Prop) : Frame → Heap → Prop := fun fr h => GRD (shape (kds 35 [(3, .s), (22, .l), (23, .i .i64), (24, .i .i64)]) fr) (LOOP (impl_DeedText.B5 Post) (impl_DeedText.g5 fr) h)
def impl_DeedText.S (d_0 : Array Value) (Post : Value → Heap → Prop) (h : Heap) : Prop :=
    ALC d_0 T_impl_Deed (fun g1 h2 =>
    LDA 3 h2 ⟨g1, 0, none⟩ fun a3 =>
    CALL prg f_impl_ValidDeed #[.agg a3] (fun q4 h5 =>
    asB q4 fun b6 =>
    BIF (!b6) (
    Post (.string (⟨#[]⟩ : ByteArray)) h5) (
    oI .i64 (cell h5 ⟨g1, 0, none⟩) fun n7 =>
    CALL prg f_impl_deedWord #[.int .i64 n7] (fun q8 h9 =>
    TUP2 q8 fun q10 q11 =>
    asS q10 fun s12 =>
    asI .i64 q11 fun n13 =>
    oI .i64 (cell h9 ⟨g1, 1, none⟩) fun n14 =>
    oI .i64 (cell h9 ⟨g1, 2, none⟩) fun n15 =>
    ALC ⟨[.int .i64 n14, .int .i64 n15]⟩ T_int64 (fun g16 h17 =>
    SLB (0 : Int) n13 (2 : Int) <|
    LOOP (impl_DeedText.B5 Post) (s12, (slA (some ⟨g16, 0, none⟩) 2 0 1), ((Int.toNat n13) - 0), (2 - 0), (((((Int.toNat n13) - 0) : Nat) : Int)), (0 : Int)) h17) h9) h5)) h2) h
noncomputable def impl_DeedText.code : Code := (Tryd.f7.body).getD .skip
theorem impl_DeedText.call {d_0 : Array Value} {Post : Value → Heap → Prop} {h : Heap} (H : impl_DeedText.S d_0 Post h) : CALL prg f_impl_DeedText #[.agg d_0] Post h :=
  fn_call tau_ok mixed (c := impl_DeedText.code) (Λ := lookL [(1000005, impl_DeedText.l5 Post)]) Tryd.func7 (by kernel_rfl) (by kernel_rfl)
    (Rq.seq (by kernel_rfl) (Rq.free (by kernel_rfl)) (Rq.seq (by kernel_rfl) (Rq.free (by kernel_rfl)) (Rq.seq (by kernel_rfl) (Rq.free (by kernel_rfl)) (Rq.seq (by kernel_rfl) (Rq.seq (by kernel_rfl) (Rq.free (by kernel_rfl)) (Rq.block (Rq.loop (impl_DeedText.l5 Post) (by kernel_rfl) (segL (g := impl_DeedText.g5) tau_ok mixed (Λ := fun N5 => lookL []) (fun _ _ _ => by kernel_rfl) (fun N5 => (Rq.free (by kernel_rfl))))))) (Rq.free (by kernel_rfl))))))
    (Eq.mp (by kernel_rfl) H)

end Go.Sx
