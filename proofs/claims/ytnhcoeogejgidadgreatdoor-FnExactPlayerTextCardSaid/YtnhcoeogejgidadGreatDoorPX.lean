/- What functions of this seat's program compute, told in words (a predicate over heaps for each), and the proofs that the words are no more than the code's own weakest precondition. -/
import Derived.Test.YtnhcoeogejgidadGreatDoorTab
namespace Go.Sx
open Go.Proofs
set_option linter.unusedVariables false
set_option maxRecDepth 100000

def impl_voiceText.J4 (Post : Value → Heap → Prop) (kind_1 : Int) (v_2 : Addr) (hold_5 : ByteArray) (h : Heap) : Prop :=
    oI .i64 (cell h v_2) fun n4 =>
    oI .i64 (cell h (Addr.add v_2 1)) fun n5 =>
    oI .i64 (cell h (Addr.add v_2 2)) fun n6 =>
    oF .f32 (cell h (Addr.add v_2 4)) fun r7 =>
    CALL prg f_impl_decimal #[.int .i64 n4] (fun q8 h9 =>
    asS q8 fun s10 =>
    PIN h (Addr.add v_2 4) 1 h9 <|
    PIN h (Addr.add v_2 2) 1 h9 <|
    PIN h (Addr.add v_2 1) 1 h9 <|
    ((ByteArray.size (⟨#[118, 111, 105, 99, 101, 32]⟩ : ByteArray) + ByteArray.size s10 : Nat) : Int) ≤ 9223372036854775807 ∧ (
    ((ByteArray.size ((⟨#[118, 111, 105, 99, 101, 32]⟩ : ByteArray) ++ s10) + ByteArray.size (⟨#[32]⟩ : ByteArray) : Nat) : Int) ≤ 9223372036854775807 ∧ (
    CALL prg f_impl_decimal #[.int .i64 n5] (fun q11 h12 =>
    asS q11 fun s13 =>
    PIN h (Addr.add v_2 4) 1 h12 <|
    PIN h (Addr.add v_2 2) 1 h12 <|
    ((ByteArray.size ((((⟨#[118, 111, 105, 99, 101, 32]⟩ : ByteArray) ++ s10) ++ (⟨#[32]⟩ : ByteArray))) + ByteArray.size s13 : Nat) : Int) ≤ 9223372036854775807 ∧ (
    ((ByteArray.size (((((⟨#[118, 111, 105, 99, 101, 32]⟩ : ByteArray) ++ s10) ++ (⟨#[32]⟩ : ByteArray)) ++ s13)) + ByteArray.size (⟨#[32]⟩ : ByteArray) : Nat) : Int) ≤ 9223372036854775807 ∧ (
    CALL prg f_impl_decimal #[.int .i64 n6] (fun q14 h15 =>
    asS q14 fun s16 =>
    PIN h (Addr.add v_2 4) 1 h15 <|
    ((ByteArray.size ((((((⟨#[118, 111, 105, 99, 101, 32]⟩ : ByteArray) ++ s10) ++ (⟨#[32]⟩ : ByteArray)) ++ s13) ++ (⟨#[32]⟩ : ByteArray))) + ByteArray.size s16 : Nat) : Int) ≤ 9223372036854775807 ∧ (
    ((ByteArray.size (((((((⟨#[118, 111, 105, 99, 101, 32]⟩ : ByteArray) ++ s10) ++ (⟨#[32]⟩ : ByteArray)) ++ s13) ++ (⟨#[32]⟩ : ByteArray)) ++ s16)) + ByteArray.size (⟨#[32]⟩ : ByteArray) : Nat) : Int) ≤ 9223372036854775807 ∧ (
    ((ByteArray.size ((((((((⟨#[118, 111, 105, 99, 101, 32]⟩ : ByteArray) ++ s10) ++ (⟨#[32]⟩ : ByteArray)) ++ s13) ++ (⟨#[32]⟩ : ByteArray)) ++ s16) ++ (⟨#[32]⟩ : ByteArray))) + ByteArray.size hold_5 : Nat) : Int) ≤ 9223372036854775807 ∧ (
    ((ByteArray.size (((((((((⟨#[118, 111, 105, 99, 101, 32]⟩ : ByteArray) ++ s10) ++ (⟨#[32]⟩ : ByteArray)) ++ s13) ++ (⟨#[32]⟩ : ByteArray)) ++ s16) ++ (⟨#[32]⟩ : ByteArray)) ++ hold_5)) + ByteArray.size (⟨#[32]⟩ : ByteArray) : Nat) : Int) ≤ 9223372036854775807 ∧ (
    CALL prg f_impl_bitsText #[.float .f32 r7] (fun q17 h18 =>
    asS q17 fun s19 =>
    ((ByteArray.size ((((((((((⟨#[118, 111, 105, 99, 101, 32]⟩ : ByteArray) ++ s10) ++ (⟨#[32]⟩ : ByteArray)) ++ s13) ++ (⟨#[32]⟩ : ByteArray)) ++ s16) ++ (⟨#[32]⟩ : ByteArray)) ++ hold_5) ++ (⟨#[32]⟩ : ByteArray))) + ByteArray.size s19 : Nat) : Int) ≤ 9223372036854775807 ∧ (
    ((ByteArray.size (((((((((((⟨#[118, 111, 105, 99, 101, 32]⟩ : ByteArray) ++ s10) ++ (⟨#[32]⟩ : ByteArray)) ++ s13) ++ (⟨#[32]⟩ : ByteArray)) ++ s16) ++ (⟨#[32]⟩ : ByteArray)) ++ hold_5) ++ (⟨#[32]⟩ : ByteArray)) ++ s19)) + ByteArray.size (⟨#[10]⟩ : ByteArray) : Nat) : Int) ≤ 9223372036854775807 ∧ (
    BIF (kind_1 == (1 : Int)) (
    LDA 15 h18 (Addr.add v_2 5) fun a20 =>
    CALL prg f_impl_StringText #[.agg a20] (fun q21 h22 =>
    asS q21 fun s23 =>
    ((ByteArray.size ((((((((((((⟨#[118, 111, 105, 99, 101, 32]⟩ : ByteArray) ++ s10) ++ (⟨#[32]⟩ : ByteArray)) ++ s13) ++ (⟨#[32]⟩ : ByteArray)) ++ s16) ++ (⟨#[32]⟩ : ByteArray)) ++ hold_5) ++ (⟨#[32]⟩ : ByteArray)) ++ s19) ++ (⟨#[10]⟩ : ByteArray))) + ByteArray.size s23 : Nat) : Int) ≤ 9223372036854775807 ∧ (
    Post (.string (((((((((((((⟨#[118, 111, 105, 99, 101, 32]⟩ : ByteArray) ++ s10) ++ (⟨#[32]⟩ : ByteArray)) ++ s13) ++ (⟨#[32]⟩ : ByteArray)) ++ s16) ++ (⟨#[32]⟩ : ByteArray)) ++ hold_5) ++ (⟨#[32]⟩ : ByteArray)) ++ s19) ++ (⟨#[10]⟩ : ByteArray)) ++ s23))) h22)) h18) (
    BIF (kind_1 == (2 : Int)) (
    LDA 13 h18 (Addr.add v_2 20) fun a24 =>
    CALL prg f_impl_PipeText #[.agg a24] (fun q25 h26 =>
    asS q25 fun s27 =>
    ((ByteArray.size ((((((((((((⟨#[118, 111, 105, 99, 101, 32]⟩ : ByteArray) ++ s10) ++ (⟨#[32]⟩ : ByteArray)) ++ s13) ++ (⟨#[32]⟩ : ByteArray)) ++ s16) ++ (⟨#[32]⟩ : ByteArray)) ++ hold_5) ++ (⟨#[32]⟩ : ByteArray)) ++ s19) ++ (⟨#[10]⟩ : ByteArray))) + ByteArray.size s27 : Nat) : Int) ≤ 9223372036854775807 ∧ (
    Post (.string (((((((((((((⟨#[118, 111, 105, 99, 101, 32]⟩ : ByteArray) ++ s10) ++ (⟨#[32]⟩ : ByteArray)) ++ s13) ++ (⟨#[32]⟩ : ByteArray)) ++ s16) ++ (⟨#[32]⟩ : ByteArray)) ++ hold_5) ++ (⟨#[32]⟩ : ByteArray)) ++ s19) ++ (⟨#[10]⟩ : ByteArray)) ++ s27))) h26)) h18) (
    LDA 12 h18 (Addr.add v_2 33) fun a28 =>
    CALL prg f_impl_BowText #[.agg a28] (fun q29 h30 =>
    asS q29 fun s31 =>
    ((ByteArray.size ((((((((((((⟨#[118, 111, 105, 99, 101, 32]⟩ : ByteArray) ++ s10) ++ (⟨#[32]⟩ : ByteArray)) ++ s13) ++ (⟨#[32]⟩ : ByteArray)) ++ s16) ++ (⟨#[32]⟩ : ByteArray)) ++ hold_5) ++ (⟨#[32]⟩ : ByteArray)) ++ s19) ++ (⟨#[10]⟩ : ByteArray))) + ByteArray.size s31 : Nat) : Int) ≤ 9223372036854775807 ∧ (
    Post (.string (((((((((((((⟨#[118, 111, 105, 99, 101, 32]⟩ : ByteArray) ++ s10) ++ (⟨#[32]⟩ : ByteArray)) ++ s13) ++ (⟨#[32]⟩ : ByteArray)) ++ s16) ++ (⟨#[32]⟩ : ByteArray)) ++ hold_5) ++ (⟨#[32]⟩ : ByteArray)) ++ s19) ++ (⟨#[10]⟩ : ByteArray)) ++ s31))) h30)) h18))))) h15))))) h12))) h9))) h
def impl_voiceText.j4 (Post : Value → Heap → Prop) : Frame → Heap → Prop := fun fr h => GRD (shape (kds 52 [(1, .i .i64), (2, .p), (5, .s)]) fr) (impl_voiceText.J4 Post (gI (lget fr 1)) (gP (lget fr 2)) (gS (lget fr 5)) h)
def impl_voiceText.S (v_0 : Array Value) (kind_1 : Int) (Post : Value → Heap → Prop) (h : Heap) : Prop :=
    ALC v_0 T_impl_Voice (fun g1 h2 =>
    oB (cell h2 ⟨g1, 3, none⟩) fun b3 =>
    BIF b3 (
    impl_voiceText.J4 Post kind_1 ⟨g1, 0, none⟩ (⟨#[103, 111, 110, 101]⟩ : ByteArray) h2) (
    impl_voiceText.J4 Post kind_1 ⟨g1, 0, none⟩ (⟨#[104, 101, 108, 100]⟩ : ByteArray) h2)) h
noncomputable def impl_voiceText.code : Code := (Tryz.f26.body).getD .skip
theorem impl_voiceText.call {v_0 : Array Value} {kind_1 : Int} {Post : Value → Heap → Prop} {h : Heap} (H : impl_voiceText.S v_0 kind_1 Post h) : CALL prg f_impl_voiceText #[.agg v_0, .int .i64 kind_1] Post h :=
  fn_call tau_ok mixed (c := impl_voiceText.code) (Λ := lookL [(4, impl_voiceText.j4 Post)]) Tryz.func26 (by kernel_rfl) (by kernel_rfl)
    (Rq.seq (by kernel_rfl) (Rq.free (by kernel_rfl)) (Rq.seq (by kernel_rfl) (Rq.free (by kernel_rfl)) (Rq.seqJ (impl_voiceText.j4 Post) (by kernel_rfl) (seg (fun _ _ => by kernel_rfl)) (Rq.free (by kernel_rfl))
(Rq.free (by kernel_rfl)))))
    (Eq.mp (by kernel_rfl) H)

def impl_PlayerText.B5 (Post : Value → Heap → Prop) (N5 : (Addr × ByteArray × Option Addr × Nat × Nat × Int × Int) → Heap → Prop) : Addr × ByteArray × Option Addr × Nat × Nat × Int × Int → Heap → Prop
  | (p_1, text_3, t25b, t25l, t25c, t26, t27), h =>
    BIF (decide (t27 < t26)) (
    IDXS t25b t27 t25l fun p22 =>
    LDA 45 h ((Addr.add p22 ((Int.toNat t27) * 45))) fun a23 =>
    ALC ⟨Z_impl_Voice⟩ T_impl_Voice (fun g24 h25 =>
    STA 45 h25 ⟨g24, 0, none⟩ a23 fun h26 =>
    LDA 45 h26 ⟨g24, 0, none⟩ fun a27 =>
    CALL prg f_impl_Voice_isFree #[.agg a27] (fun q28 h29 =>
    asB q28 fun b30 =>
    BIF b30 (
    ((ByteArray.size text_3 + ByteArray.size (⟨#[102, 114, 101, 101, 10]⟩ : ByteArray) : Nat) : Int) ≤ 9223372036854775807 ∧ (
    N5 (p_1, (text_3 ++ (⟨#[102, 114, 101, 101, 10]⟩ : ByteArray)), t25b, t25l, t25c, t26, ((IntKind.i64.wrap (t27 + (1 : Int))))) h29)) (
    LDA 45 h29 ⟨g24, 0, none⟩ fun a31 =>
    oL (cell h29 (Addr.add p_1 4)) fun l32b l32l l32c =>
    oI .i64 (cell h29 ⟨g24, 1, none⟩) fun n33 =>
    IDXS l32b n33 l32l fun p34 =>
    oI .i64 (cell h29 ((Addr.add ((Addr.add p34 ((Int.toNat n33) * 5))) 1))) fun n35 =>
    CALL prg f_impl_voiceText #[.agg a31, .int .i64 n35] (fun q36 h37 =>
    asS q36 fun s38 =>
    ((ByteArray.size text_3 + ByteArray.size s38 : Nat) : Int) ≤ 9223372036854775807 ∧ (
    N5 (p_1, (text_3 ++ s38), t25b, t25l, t25c, t26, ((IntKind.i64.wrap (t27 + (1 : Int))))) h37)) h29)) h26) h) (
    Post (.string text_3) h)
def impl_PlayerText.g5 (fr : Frame) : Addr × ByteArray × Option Addr × Nat × Nat × Int × Int := ((gP (lget fr 1)), (gS (lget fr 3)), (gLb (lget fr 25)), (gLl (lget fr 25)), (gLc (lget fr 25)), (gI (lget fr 26)), (gI (lget fr 27)))
def impl_PlayerText.l5 (Post : Value → Heap → Prop) : Frame → Heap → Prop := fun fr h => GRD (shape (kds 49 [(1, .p), (3, .s), (25, .l), (26, .i .i64), (27, .i .i64)]) fr) (LOOP (impl_PlayerText.B5 Post) (impl_PlayerText.g5 fr) h)
def impl_PlayerText.S (p_0 : Array Value) (Post : Value → Heap → Prop) (h : Heap) : Prop :=
    ALC p_0 T_impl_Player (fun g1 h2 =>
    LDA 10 h2 ⟨g1, 0, none⟩ fun a3 =>
    CALL prg f_impl_ValidPlayer #[.agg a3] (fun q4 h5 =>
    asB q4 fun b6 =>
    BIF (!b6) (
    Post (.string (⟨#[]⟩ : ByteArray)) h5) (
    oI .i64 (cell h5 ⟨g1, 7, none⟩) fun n7 =>
    oI .i64 (cell h5 ⟨g1, 8, none⟩) fun n8 =>
    oI .i64 (cell h5 ⟨g1, 9, none⟩) fun n9 =>
    CALL prg f_impl_decimal #[.int .i64 n7] (fun q10 h11 =>
    asS q10 fun s12 =>
    PIN h5 ⟨g1, 9, none⟩ 1 h11 <|
    PIN h5 ⟨g1, 8, none⟩ 1 h11 <|
    ((ByteArray.size (⟨#[112, 108, 97, 121, 101, 114, 32]⟩ : ByteArray) + ByteArray.size s12 : Nat) : Int) ≤ 9223372036854775807 ∧ (
    ((ByteArray.size ((⟨#[112, 108, 97, 121, 101, 114, 32]⟩ : ByteArray) ++ s12) + ByteArray.size (⟨#[32]⟩ : ByteArray) : Nat) : Int) ≤ 9223372036854775807 ∧ (
    CALL prg f_impl_decimal #[.int .i64 n8] (fun q13 h14 =>
    asS q13 fun s15 =>
    PIN h5 ⟨g1, 9, none⟩ 1 h14 <|
    ((ByteArray.size ((((⟨#[112, 108, 97, 121, 101, 114, 32]⟩ : ByteArray) ++ s12) ++ (⟨#[32]⟩ : ByteArray))) + ByteArray.size s15 : Nat) : Int) ≤ 9223372036854775807 ∧ (
    ((ByteArray.size (((((⟨#[112, 108, 97, 121, 101, 114, 32]⟩ : ByteArray) ++ s12) ++ (⟨#[32]⟩ : ByteArray)) ++ s15)) + ByteArray.size (⟨#[32]⟩ : ByteArray) : Nat) : Int) ≤ 9223372036854775807 ∧ (
    CALL prg f_impl_decimal #[.int .i64 n9] (fun q16 h17 =>
    asS q16 fun s18 =>
    ((ByteArray.size ((((((⟨#[112, 108, 97, 121, 101, 114, 32]⟩ : ByteArray) ++ s12) ++ (⟨#[32]⟩ : ByteArray)) ++ s15) ++ (⟨#[32]⟩ : ByteArray))) + ByteArray.size s18 : Nat) : Int) ≤ 9223372036854775807 ∧ (
    ((ByteArray.size (((((((⟨#[112, 108, 97, 121, 101, 114, 32]⟩ : ByteArray) ++ s12) ++ (⟨#[32]⟩ : ByteArray)) ++ s15) ++ (⟨#[32]⟩ : ByteArray)) ++ s18)) + ByteArray.size (⟨#[10]⟩ : ByteArray) : Nat) : Int) ≤ 9223372036854775807 ∧ (
    oL (cell h17 ⟨g1, 6, none⟩) fun l19b l19l l19c =>
    LOOP (impl_PlayerText.B5 Post) (⟨g1, 0, none⟩, ((((((((⟨#[112, 108, 97, 121, 101, 114, 32]⟩ : ByteArray) ++ s12) ++ (⟨#[32]⟩ : ByteArray)) ++ s15) ++ (⟨#[32]⟩ : ByteArray)) ++ s18) ++ (⟨#[10]⟩ : ByteArray))), l19b, l19l, l19c, (l19l : Int), (0 : Int)) h17))) h14))) h11))) h5)) h2) h
noncomputable def impl_PlayerText.code : Code := (Tryz.f8.body).getD .skip
theorem impl_PlayerText.call {p_0 : Array Value} {Post : Value → Heap → Prop} {h : Heap} (H : impl_PlayerText.S p_0 Post h) : CALL prg f_impl_PlayerText #[.agg p_0] Post h :=
  fn_call tau_ok mixed (c := impl_PlayerText.code) (Λ := lookL [(1000005, impl_PlayerText.l5 Post)]) Tryz.func8 (by kernel_rfl) (by kernel_rfl)
    (Rq.seq (by kernel_rfl) (Rq.free (by kernel_rfl)) (Rq.seq (by kernel_rfl) (Rq.free (by kernel_rfl)) (Rq.seq (by kernel_rfl) (Rq.free (by kernel_rfl)) (Rq.seq (by kernel_rfl) (Rq.seq (by kernel_rfl) (Rq.free (by kernel_rfl)) (Rq.block (Rq.loop (impl_PlayerText.l5 Post) (by kernel_rfl) (segL (g := impl_PlayerText.g5) tau_ok mixed (Λ := fun N5 => lookL []) (fun _ _ _ => by kernel_rfl) (fun N5 => (Rq.free (by kernel_rfl))))))) (Rq.free (by kernel_rfl))))))
    (Eq.mp (by kernel_rfl) H)

end Go.Sx
/- What functions of this seat's program compute, told in words (a predicate over heaps for each), and the proofs that the words are no more than the code's own weakest precondition. -/
namespace Go.Sx
open Go.Proofs
set_option linter.unusedVariables false
set_option maxRecDepth 100000

def spec_l09VoiceText.J6 (Post : Value → Heap → Prop) (s_0 : Addr) (v_1 : Addr) (held_5 : ByteArray) (h : Heap) : Prop :=
    oI .i64 (cell h v_1) fun n3 =>
    oI .i64 (cell h (Addr.add v_1 1)) fun n4 =>
    oI .i64 (cell h (Addr.add v_1 2)) fun n5 =>
    oF .f32 (cell h (Addr.add v_1 4)) fun r6 =>
    CALL prg f_spec_Decimal #[.int .i64 n3] (fun q7 h8 =>
    asS q7 fun s9 =>
    PIN h (Addr.add v_1 4) 1 h8 <|
    PIN h (Addr.add v_1 2) 1 h8 <|
    PIN h (Addr.add v_1 1) 1 h8 <|
    ((ByteArray.size (⟨#[118, 111, 105, 99, 101, 32]⟩ : ByteArray) + ByteArray.size s9 : Nat) : Int) ≤ 9223372036854775807 ∧ (
    ((ByteArray.size ((⟨#[118, 111, 105, 99, 101, 32]⟩ : ByteArray) ++ s9) + ByteArray.size (⟨#[32]⟩ : ByteArray) : Nat) : Int) ≤ 9223372036854775807 ∧ (
    CALL prg f_spec_Decimal #[.int .i64 n4] (fun q10 h11 =>
    asS q10 fun s12 =>
    PIN h (Addr.add v_1 4) 1 h11 <|
    PIN h (Addr.add v_1 2) 1 h11 <|
    ((ByteArray.size ((((⟨#[118, 111, 105, 99, 101, 32]⟩ : ByteArray) ++ s9) ++ (⟨#[32]⟩ : ByteArray))) + ByteArray.size s12 : Nat) : Int) ≤ 9223372036854775807 ∧ (
    ((ByteArray.size (((((⟨#[118, 111, 105, 99, 101, 32]⟩ : ByteArray) ++ s9) ++ (⟨#[32]⟩ : ByteArray)) ++ s12)) + ByteArray.size (⟨#[32]⟩ : ByteArray) : Nat) : Int) ≤ 9223372036854775807 ∧ (
    CALL prg f_spec_Decimal #[.int .i64 n5] (fun q13 h14 =>
    asS q13 fun s15 =>
    PIN h (Addr.add v_1 4) 1 h14 <|
    ((ByteArray.size ((((((⟨#[118, 111, 105, 99, 101, 32]⟩ : ByteArray) ++ s9) ++ (⟨#[32]⟩ : ByteArray)) ++ s12) ++ (⟨#[32]⟩ : ByteArray))) + ByteArray.size s15 : Nat) : Int) ≤ 9223372036854775807 ∧ (
    ((ByteArray.size (((((((⟨#[118, 111, 105, 99, 101, 32]⟩ : ByteArray) ++ s9) ++ (⟨#[32]⟩ : ByteArray)) ++ s12) ++ (⟨#[32]⟩ : ByteArray)) ++ s15)) + ByteArray.size (⟨#[32]⟩ : ByteArray) : Nat) : Int) ≤ 9223372036854775807 ∧ (
    ((ByteArray.size ((((((((⟨#[118, 111, 105, 99, 101, 32]⟩ : ByteArray) ++ s9) ++ (⟨#[32]⟩ : ByteArray)) ++ s12) ++ (⟨#[32]⟩ : ByteArray)) ++ s15) ++ (⟨#[32]⟩ : ByteArray))) + ByteArray.size held_5 : Nat) : Int) ≤ 9223372036854775807 ∧ (
    ((ByteArray.size (((((((((⟨#[118, 111, 105, 99, 101, 32]⟩ : ByteArray) ++ s9) ++ (⟨#[32]⟩ : ByteArray)) ++ s12) ++ (⟨#[32]⟩ : ByteArray)) ++ s15) ++ (⟨#[32]⟩ : ByteArray)) ++ held_5)) + ByteArray.size (⟨#[32]⟩ : ByteArray) : Nat) : Int) ≤ 9223372036854775807 ∧ (
    CALL prg f_spec_l01Hex #[.float .f32 r6] (fun q16 h17 =>
    asS q16 fun s18 =>
    ((ByteArray.size ((((((((((⟨#[118, 111, 105, 99, 101, 32]⟩ : ByteArray) ++ s9) ++ (⟨#[32]⟩ : ByteArray)) ++ s12) ++ (⟨#[32]⟩ : ByteArray)) ++ s15) ++ (⟨#[32]⟩ : ByteArray)) ++ held_5) ++ (⟨#[32]⟩ : ByteArray))) + ByteArray.size s18 : Nat) : Int) ≤ 9223372036854775807 ∧ (
    ((ByteArray.size (((((((((((⟨#[118, 111, 105, 99, 101, 32]⟩ : ByteArray) ++ s9) ++ (⟨#[32]⟩ : ByteArray)) ++ s12) ++ (⟨#[32]⟩ : ByteArray)) ++ s15) ++ (⟨#[32]⟩ : ByteArray)) ++ held_5) ++ (⟨#[32]⟩ : ByteArray)) ++ s18)) + ByteArray.size (⟨#[10]⟩ : ByteArray) : Nat) : Int) ≤ 9223372036854775807 ∧ (
    oL (cell h17 (Addr.add s_0 4)) fun l19b l19l l19c =>
    oI .i64 (cell h17 (Addr.add v_1 1)) fun n20 =>
    IDXS l19b n20 l19l fun p21 =>
    oI .i64 (cell h17 ((Addr.add ((Addr.add p21 ((Int.toNat n20) * 5))) 1))) fun n22 =>
    BIF (n22 == (1 : Int)) (
    LDA 15 h17 (Addr.add v_1 5) fun a23 =>
    CALL prg f_spec_StringText #[.agg a23] (fun q24 h25 =>
    asS q24 fun s26 =>
    ((ByteArray.size ((((((((((((⟨#[118, 111, 105, 99, 101, 32]⟩ : ByteArray) ++ s9) ++ (⟨#[32]⟩ : ByteArray)) ++ s12) ++ (⟨#[32]⟩ : ByteArray)) ++ s15) ++ (⟨#[32]⟩ : ByteArray)) ++ held_5) ++ (⟨#[32]⟩ : ByteArray)) ++ s18) ++ (⟨#[10]⟩ : ByteArray))) + ByteArray.size s26 : Nat) : Int) ≤ 9223372036854775807 ∧ (
    Post (.string (((((((((((((⟨#[118, 111, 105, 99, 101, 32]⟩ : ByteArray) ++ s9) ++ (⟨#[32]⟩ : ByteArray)) ++ s12) ++ (⟨#[32]⟩ : ByteArray)) ++ s15) ++ (⟨#[32]⟩ : ByteArray)) ++ held_5) ++ (⟨#[32]⟩ : ByteArray)) ++ s18) ++ (⟨#[10]⟩ : ByteArray)) ++ s26))) h25)) h17) (
    BIF (n22 == (2 : Int)) (
    LDA 13 h17 (Addr.add v_1 20) fun a27 =>
    CALL prg f_spec_PipeText #[.agg a27] (fun q28 h29 =>
    asS q28 fun s30 =>
    ((ByteArray.size ((((((((((((⟨#[118, 111, 105, 99, 101, 32]⟩ : ByteArray) ++ s9) ++ (⟨#[32]⟩ : ByteArray)) ++ s12) ++ (⟨#[32]⟩ : ByteArray)) ++ s15) ++ (⟨#[32]⟩ : ByteArray)) ++ held_5) ++ (⟨#[32]⟩ : ByteArray)) ++ s18) ++ (⟨#[10]⟩ : ByteArray))) + ByteArray.size s30 : Nat) : Int) ≤ 9223372036854775807 ∧ (
    Post (.string (((((((((((((⟨#[118, 111, 105, 99, 101, 32]⟩ : ByteArray) ++ s9) ++ (⟨#[32]⟩ : ByteArray)) ++ s12) ++ (⟨#[32]⟩ : ByteArray)) ++ s15) ++ (⟨#[32]⟩ : ByteArray)) ++ held_5) ++ (⟨#[32]⟩ : ByteArray)) ++ s18) ++ (⟨#[10]⟩ : ByteArray)) ++ s30))) h29)) h17) (
    LDA 12 h17 (Addr.add v_1 33) fun a31 =>
    CALL prg f_spec_BowText #[.agg a31] (fun q32 h33 =>
    asS q32 fun s34 =>
    ((ByteArray.size ((((((((((((⟨#[118, 111, 105, 99, 101, 32]⟩ : ByteArray) ++ s9) ++ (⟨#[32]⟩ : ByteArray)) ++ s12) ++ (⟨#[32]⟩ : ByteArray)) ++ s15) ++ (⟨#[32]⟩ : ByteArray)) ++ held_5) ++ (⟨#[32]⟩ : ByteArray)) ++ s18) ++ (⟨#[10]⟩ : ByteArray))) + ByteArray.size s34 : Nat) : Int) ≤ 9223372036854775807 ∧ (
    Post (.string (((((((((((((⟨#[118, 111, 105, 99, 101, 32]⟩ : ByteArray) ++ s9) ++ (⟨#[32]⟩ : ByteArray)) ++ s12) ++ (⟨#[32]⟩ : ByteArray)) ++ s15) ++ (⟨#[32]⟩ : ByteArray)) ++ held_5) ++ (⟨#[32]⟩ : ByteArray)) ++ s18) ++ (⟨#[10]⟩ : ByteArray)) ++ s34))) h33)) h17))))) h14))))) h11))) h8))) h
def spec_l09VoiceText.j6 (Post : Value → Heap → Prop) : Frame → Heap → Prop := fun fr h => GRD (shape (kds 83 [(0, .p), (1, .p), (5, .s)]) fr) (spec_l09VoiceText.J6 Post (gP (lget fr 0)) (gP (lget fr 1)) (gS (lget fr 5)) h)
def spec_l09VoiceText.S (s_0 : Addr) (v_1 : Addr) (Post : Value → Heap → Prop) (h : Heap) : Prop :=
    oI .i64 (cell h v_1) fun n1 =>
    BIF (n1 == (-1 : Int)) (
    Post (.string (⟨#[102, 114, 101, 101, 10]⟩ : ByteArray)) h) (
    oB (cell h (Addr.add v_1 3)) fun b2 =>
    BIF b2 (
    spec_l09VoiceText.J6 Post s_0 v_1 (⟨#[103, 111, 110, 101]⟩ : ByteArray) h) (
    spec_l09VoiceText.J6 Post s_0 v_1 (⟨#[104, 101, 108, 100]⟩ : ByteArray) h))
noncomputable def spec_l09VoiceText.code : Code := (Tryz.f21.body).getD .skip
theorem spec_l09VoiceText.call {s_0 : Addr} {v_1 : Addr} {Post : Value → Heap → Prop} {h : Heap} (H : spec_l09VoiceText.S s_0 v_1 Post h) : CALL prg f_spec_l09VoiceText #[.pointer (some s_0), .pointer (some v_1)] Post h :=
  fn_call tau_ok mixed (c := spec_l09VoiceText.code) (Λ := lookL [(6, spec_l09VoiceText.j6 Post)]) Tryz.func21 (by kernel_rfl) (by kernel_rfl)
    (Rq.seq (by kernel_rfl) (Rq.free (by kernel_rfl)) (Rq.seq (by kernel_rfl) (Rq.free (by kernel_rfl)) (Rq.seq (by kernel_rfl) (Rq.free (by kernel_rfl)) (Rq.seqJ (spec_l09VoiceText.j6 Post) (by kernel_rfl) (seg (fun _ _ => by kernel_rfl)) (Rq.free (by kernel_rfl))
(Rq.free (by kernel_rfl))))))
    (Eq.mp (by kernel_rfl) H)

def spec_PlayerText.B5 (Post : Value → Heap → Prop) (N5 : (Addr × ByteArray × Int) → Heap → Prop) : Addr × ByteArray × Int → Heap → Prop
  | (p_1, out_3, i_4), h =>
    oL (cell h (Addr.add p_1 6)) fun l18b l18l l18c =>
    BIF ((decide (i_4 < (l18l : Int)))) (
    oL (cell h (Addr.add p_1 6)) fun l21b l21l l21c =>
    IDXS l21b i_4 l21l fun p22 =>
    CALL prg f_spec_l09VoiceText #[.pointer (some p_1), .pointer (some ((Addr.add p22 ((Int.toNat i_4) * 45))))] (fun q23 h24 =>
    asS q23 fun s25 =>
    ((ByteArray.size out_3 + ByteArray.size s25 : Nat) : Int) ≤ 9223372036854775807 ∧ (
    N5 (p_1, (out_3 ++ s25), ((IntKind.i64.wrap (i_4 + (1 : Int))))) h24)) h) (
    Post (.string out_3) h)
def spec_PlayerText.g5 (fr : Frame) : Addr × ByteArray × Int := ((gP (lget fr 1)), (gS (lget fr 3)), (gI (lget fr 4)))
def spec_PlayerText.l5 (Post : Value → Heap → Prop) : Frame → Heap → Prop := fun fr h => GRD (shape (kds 38 [(1, .p), (3, .s), (4, .i .i64)]) fr) (LOOP (spec_PlayerText.B5 Post) (spec_PlayerText.g5 fr) h)
def spec_PlayerText.S (p_0 : Array Value) (Post : Value → Heap → Prop) (h : Heap) : Prop :=
    ALC p_0 T_impl_Player (fun g1 h2 =>
    CALL prg f_spec_l09Ok #[.pointer (some ⟨g1, 0, none⟩)] (fun q3 h4 =>
    asB q3 fun b5 =>
    BIF (!b5) (
    Post (.string (⟨#[]⟩ : ByteArray)) h4) (
    oI .i64 (cell h4 ⟨g1, 7, none⟩) fun n6 =>
    oI .i64 (cell h4 ⟨g1, 8, none⟩) fun n7 =>
    oI .i64 (cell h4 ⟨g1, 9, none⟩) fun n8 =>
    CALL prg f_spec_Decimal #[.int .i64 n6] (fun q9 h10 =>
    asS q9 fun s11 =>
    PIN h4 ⟨g1, 9, none⟩ 1 h10 <|
    PIN h4 ⟨g1, 8, none⟩ 1 h10 <|
    ((ByteArray.size (⟨#[112, 108, 97, 121, 101, 114, 32]⟩ : ByteArray) + ByteArray.size s11 : Nat) : Int) ≤ 9223372036854775807 ∧ (
    ((ByteArray.size ((⟨#[112, 108, 97, 121, 101, 114, 32]⟩ : ByteArray) ++ s11) + ByteArray.size (⟨#[32]⟩ : ByteArray) : Nat) : Int) ≤ 9223372036854775807 ∧ (
    CALL prg f_spec_Decimal #[.int .i64 n7] (fun q12 h13 =>
    asS q12 fun s14 =>
    PIN h4 ⟨g1, 9, none⟩ 1 h13 <|
    ((ByteArray.size ((((⟨#[112, 108, 97, 121, 101, 114, 32]⟩ : ByteArray) ++ s11) ++ (⟨#[32]⟩ : ByteArray))) + ByteArray.size s14 : Nat) : Int) ≤ 9223372036854775807 ∧ (
    ((ByteArray.size (((((⟨#[112, 108, 97, 121, 101, 114, 32]⟩ : ByteArray) ++ s11) ++ (⟨#[32]⟩ : ByteArray)) ++ s14)) + ByteArray.size (⟨#[32]⟩ : ByteArray) : Nat) : Int) ≤ 9223372036854775807 ∧ (
    CALL prg f_spec_Decimal #[.int .i64 n8] (fun q15 h16 =>
    asS q15 fun s17 =>
    ((ByteArray.size ((((((⟨#[112, 108, 97, 121, 101, 114, 32]⟩ : ByteArray) ++ s11) ++ (⟨#[32]⟩ : ByteArray)) ++ s14) ++ (⟨#[32]⟩ : ByteArray))) + ByteArray.size s17 : Nat) : Int) ≤ 9223372036854775807 ∧ (
    ((ByteArray.size (((((((⟨#[112, 108, 97, 121, 101, 114, 32]⟩ : ByteArray) ++ s11) ++ (⟨#[32]⟩ : ByteArray)) ++ s14) ++ (⟨#[32]⟩ : ByteArray)) ++ s17)) + ByteArray.size (⟨#[10]⟩ : ByteArray) : Nat) : Int) ≤ 9223372036854775807 ∧ (
    LOOP (spec_PlayerText.B5 Post) (⟨g1, 0, none⟩, ((((((((⟨#[112, 108, 97, 121, 101, 114, 32]⟩ : ByteArray) ++ s11) ++ (⟨#[32]⟩ : ByteArray)) ++ s14) ++ (⟨#[32]⟩ : ByteArray)) ++ s17) ++ (⟨#[10]⟩ : ByteArray))), (0 : Int)) h16))) h13))) h10))) h4)) h2) h
noncomputable def spec_PlayerText.code : Code := (Tryz.f6.body).getD .skip
theorem spec_PlayerText.call {p_0 : Array Value} {Post : Value → Heap → Prop} {h : Heap} (H : spec_PlayerText.S p_0 Post h) : CALL prg f_spec_PlayerText #[.agg p_0] Post h :=
  fn_call tau_ok mixed (c := spec_PlayerText.code) (Λ := lookL [(1000005, spec_PlayerText.l5 Post)]) Tryz.func6 (by kernel_rfl) (by kernel_rfl)
    (Rq.seq (by kernel_rfl) (Rq.free (by kernel_rfl)) (Rq.seq (by kernel_rfl) (Rq.free (by kernel_rfl)) (Rq.seq (by kernel_rfl) (Rq.free (by kernel_rfl)) (Rq.seq (by kernel_rfl) (Rq.seq (by kernel_rfl) (Rq.free (by kernel_rfl)) (Rq.block (Rq.loop (spec_PlayerText.l5 Post) (by kernel_rfl) (segL (g := spec_PlayerText.g5) tau_ok mixed (Λ := fun N5 => lookL []) (fun _ _ _ => by kernel_rfl) (fun N5 => (Rq.free (by kernel_rfl))))))) (Rq.free (by kernel_rfl))))))
    (Eq.mp (by kernel_rfl) H)

end Go.Sx
