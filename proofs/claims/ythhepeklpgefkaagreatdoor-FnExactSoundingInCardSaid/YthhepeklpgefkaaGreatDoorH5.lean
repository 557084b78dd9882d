/- What functions of this seat's program compute, told in words (a predicate over heaps for each), and the proofs that the words are no more than the code's own weakest precondition. -/
import Derived.Test.YthhepeklpgefkaaGreatDoorTab
namespace Go.Sx
open Go.Proofs
set_option linter.unusedVariables false
set_option maxRecDepth 100000

def laws_markTuning.S (a_0 : Array Value) (k_1 : Int) (Post : Value → Heap → Prop) (h : Heap) : Prop :=
    ALC a_0 T_impl_Tuning (fun g1 h2 =>
    oL (cell h2 ⟨g1, 2, none⟩) fun l3b l3l l3c =>
    CALL prg f_laws_markFloat32S #[.slice l3b l3l l3c, .int .i64 k_1] (fun q4 h5 =>
    asI .i64 q4 fun n6 =>
    Post (.int .i64 n6) h5) h2) h
noncomputable def laws_markTuning.code : Code := (Tryz.f74.body).getD .skip
theorem laws_markTuning.call {a_0 : Array Value} {k_1 : Int} {Post : Value → Heap → Prop} {h : Heap} (H : laws_markTuning.S a_0 k_1 Post h) : CALL prg f_laws_markTuning #[.agg a_0, .int .i64 k_1] Post h :=
  fn_call tau_ok mixed (c := laws_markTuning.code) (Λ := lookL []) Tryz.func74 (by kernel_rfl) (by kernel_rfl)
    (Rq.free (by kernel_rfl))
    (Eq.mp (by kernel_rfl) H)

def laws_markText.B4 (Post : Value → Heap → Prop) (N4 : (Int × ByteArray) → Heap → Prop) : Int × ByteArray → Heap → Prop
  | (k_0, out_3), h =>
    BIF ((decide ((0 : Int) < k_0))) (
    NZ (10 : Int) <|
    ALC ⟨[.int .u8 ((IntKind.u8.wrap ((IntKind.i64.wrap ((48 : Int) + (Int.tmod k_0 (10 : Int)))))))]⟩ T_uint8 (fun g1 h2 =>
    SEMV prg (convert T_sl_uint8 T_string (.slice (some ⟨g1, 0, none⟩) 1 1)) (fun q3 h4 =>
    asS q3 fun s5 =>
    ((ByteArray.size s5 + ByteArray.size out_3 : Nat) : Int) ≤ 9223372036854775807 ∧ (
    NZ (10 : Int) <|
    N4 (((IntKind.i64.wrap (Int.tdiv k_0 (10 : Int)))), (s5 ++ out_3)) h4)) h2) h) (
    ((ByteArray.size (⟨#[109]⟩ : ByteArray) + ByteArray.size out_3 : Nat) : Int) ≤ 9223372036854775807 ∧ (
    Post (.string ((⟨#[109]⟩ : ByteArray) ++ out_3)) h))
def laws_markText.g4 (fr : Frame) : Int × ByteArray := ((gI (lget fr 0)), (gS (lget fr 3)))
def laws_markText.l4 (Post : Value → Heap → Prop) : Frame → Heap → Prop := fun fr h => GRD (shape (kds 20 [(0, .i .i64), (3, .s)]) fr) (LOOP (laws_markText.B4 Post) (laws_markText.g4 fr) h)
def laws_markText.S (k_0 : Int) (Post : Value → Heap → Prop) (h : Heap) : Prop :=
    BIF ((decide (k_0 ≤ (0 : Int)))) (
    Post (.string (⟨#[109, 48]⟩ : ByteArray)) h) (
    LOOP (laws_markText.B4 Post) (k_0, (⟨#[]⟩ : ByteArray)) h)
noncomputable def laws_markText.code : Code := (Tryz.f141.body).getD .skip
theorem laws_markText.call {k_0 : Int} {Post : Value → Heap → Prop} {h : Heap} (H : laws_markText.S k_0 Post h) : CALL prg f_laws_markText #[.int .i64 k_0] Post h :=
  fn_call tau_ok mixed (c := laws_markText.code) (Λ := lookL [(1000004, laws_markText.l4 Post)]) Tryz.func141 (by kernel_rfl) (by kernel_rfl)
    (Rq.seq (by kernel_rfl) (Rq.free (by kernel_rfl)) (Rq.seq (by kernel_rfl) (Rq.free (by kernel_rfl)) (Rq.seq (by kernel_rfl) (Rq.free (by kernel_rfl)) (Rq.seq (by kernel_rfl) (Rq.block (Rq.loop (laws_markText.l4 Post) (by kernel_rfl) (segL (g := laws_markText.g4) tau_ok mixed (Λ := fun N4 => lookL []) (fun _ _ _ => by kernel_rfl) (fun N4 => (Rq.free (by kernel_rfl)))))) (Rq.free (by kernel_rfl))))))
    (Eq.mp (by kernel_rfl) H)

def laws_markInstrumentS.B2 (Post : Value → Heap → Prop) (N2 : (Option Addr × Nat × Nat × Int × Int) → Heap → Prop) : Option Addr × Nat × Nat × Int × Int → Heap → Prop
  | (a_0b, a_0l, a_0c, k_1, i_5), h =>
    BIF ((decide (i_5 < (a_0l : Int)))) (
    CALL prg f_laws_markText #[.int .i64 k_1] (fun q3 h4 =>
    asS q3 fun s5 =>
    IDXS a_0b i_5 a_0l fun p6 =>
    ST1 h4 ((Addr.add p6 ((Int.toNat i_5) * 5))) (.string s5) fun h7 =>
    IDXS a_0b i_5 a_0l fun p8 =>
    ST1 h7 ((Addr.add ((Addr.add p8 ((Int.toNat i_5) * 5))) 1)) (.int .i64 ((IntKind.i64.wrap (k_1 + (1 : Int))))) fun h9 =>
    IDXS a_0b i_5 a_0l fun p10 =>
    ST1 h9 ((Addr.add ((Addr.add p10 ((Int.toNat i_5) * 5))) 2)) (.float .f32 ((FloatKind.f32.nearest ((IntKind.i64.wrap ((IntKind.i64.wrap (k_1 + (1 : Int))) + (1 : Int))))))) fun h11 =>
    IDXS a_0b i_5 a_0l fun p12 =>
    ST1 h11 ((Addr.add ((Addr.add p12 ((Int.toNat i_5) * 5))) 3)) (.float .f32 ((FloatKind.f32.nearest ((IntKind.i64.wrap ((IntKind.i64.wrap ((IntKind.i64.wrap (k_1 + (1 : Int))) + (1 : Int))) + (1 : Int))))))) fun h13 =>
    IDXS a_0b i_5 a_0l fun p14 =>
    ST1 h13 ((Addr.add ((Addr.add p14 ((Int.toNat i_5) * 5))) 4)) (.float .f32 ((FloatKind.f32.nearest ((IntKind.i64.wrap ((IntKind.i64.wrap ((IntKind.i64.wrap ((IntKind.i64.wrap (k_1 + (1 : Int))) + (1 : Int))) + (1 : Int))) + (1 : Int))))))) fun h15 =>
    N2 (a_0b, a_0l, a_0c, ((IntKind.i64.wrap ((IntKind.i64.wrap ((IntKind.i64.wrap ((IntKind.i64.wrap ((IntKind.i64.wrap (k_1 + (1 : Int))) + (1 : Int))) + (1 : Int))) + (1 : Int))) + (1 : Int)))), ((IntKind.i64.wrap (i_5 + (1 : Int))))) h15) h) (
    Post (.int .i64 k_1) h)
def laws_markInstrumentS.g2 (fr : Frame) : Option Addr × Nat × Nat × Int × Int := ((gLb (lget fr 0)), (gLl (lget fr 0)), (gLc (lget fr 0)), (gI (lget fr 1)), (gI (lget fr 5)))
def laws_markInstrumentS.l2 (Post : Value → Heap → Prop) : Frame → Heap → Prop := fun fr h => GRD (shape (kds 52 [(0, .l), (1, .i .i64), (5, .i .i64)]) fr) (LOOP (laws_markInstrumentS.B2 Post) (laws_markInstrumentS.g2 fr) h)
def laws_markInstrumentS.S (a_0b : Option Addr) (a_0l a_0c : Nat) (k_1 : Int) (Post : Value → Heap → Prop) (h : Heap) : Prop :=
    LOOP (laws_markInstrumentS.B2 Post) (a_0b, a_0l, a_0c, k_1, (0 : Int)) h
noncomputable def laws_markInstrumentS.code : Code := (Tryz.f75.body).getD .skip
theorem laws_markInstrumentS.call {a_0b : Option Addr} {a_0l a_0c : Nat} {k_1 : Int} {Post : Value → Heap → Prop} {h : Heap} (H : laws_markInstrumentS.S a_0b a_0l a_0c k_1 Post h) : CALL prg f_laws_markInstrumentS #[.slice a_0b a_0l a_0c, .int .i64 k_1] Post h :=
  fn_call tau_ok mixed (c := laws_markInstrumentS.code) (Λ := lookL [(1000002, laws_markInstrumentS.l2 Post)]) Tryz.func75 (by kernel_rfl) (by kernel_rfl)
    (Rq.seq (by kernel_rfl) (Rq.free (by kernel_rfl)) (Rq.seq (by kernel_rfl) (Rq.seq (by kernel_rfl) (Rq.free (by kernel_rfl)) (Rq.block (Rq.loop (laws_markInstrumentS.l2 Post) (by kernel_rfl) (segL (g := laws_markInstrumentS.g2) tau_ok mixed (Λ := fun N2 => lookL []) (fun _ _ _ => by kernel_rfl) (fun N2 => (Rq.free (by kernel_rfl))))))) (Rq.free (by kernel_rfl))))
    (Eq.mp (by kernel_rfl) H)

def laws_markEventS.B2 (Post : Value → Heap → Prop) (N2 : (Option Addr × Nat × Nat × Int × Int) → Heap → Prop) : Option Addr × Nat × Nat × Int × Int → Heap → Prop
  | (a_0b, a_0l, a_0c, k_1, i_5), h =>
    BIF ((decide (i_5 < (a_0l : Int)))) (
    IDXS a_0b i_5 a_0l fun p3 =>
    ST1 h ((Addr.add p3 ((Int.toNat i_5) * 6))) (.int .i64 k_1) fun h4 =>
    IDXS a_0b i_5 a_0l fun p5 =>
    ST1 h4 ((Addr.add ((Addr.add p5 ((Int.toNat i_5) * 6))) 1)) (.int .i64 ((IntKind.i64.wrap (k_1 + (1 : Int))))) fun h6 =>
    IDXS a_0b i_5 a_0l fun p7 =>
    ST1 h6 ((Addr.add ((Addr.add p7 ((Int.toNat i_5) * 6))) 2)) (.int .i64 ((IntKind.i64.wrap ((IntKind.i64.wrap (k_1 + (1 : Int))) + (1 : Int))))) fun h8 =>
    IDXS a_0b i_5 a_0l fun p9 =>
    ST1 h8 ((Addr.add ((Addr.add p9 ((Int.toNat i_5) * 6))) 3)) (.int .i64 ((IntKind.i64.wrap ((IntKind.i64.wrap ((IntKind.i64.wrap (k_1 + (1 : Int))) + (1 : Int))) + (1 : Int))))) fun h10 =>
    IDXS a_0b i_5 a_0l fun p11 =>
    ST1 h10 ((Addr.add ((Addr.add p11 ((Int.toNat i_5) * 6))) 4)) (.int .i64 ((IntKind.i64.wrap ((IntKind.i64.wrap ((IntKind.i64.wrap ((IntKind.i64.wrap (k_1 + (1 : Int))) + (1 : Int))) + (1 : Int))) + (1 : Int))))) fun h12 =>
    IDXS a_0b i_5 a_0l fun p13 =>
    ST1 h12 ((Addr.add ((Addr.add p13 ((Int.toNat i_5) * 6))) 5)) (.float .f32 ((FloatKind.f32.nearest ((IntKind.i64.wrap ((IntKind.i64.wrap ((IntKind.i64.wrap ((IntKind.i64.wrap ((IntKind.i64.wrap (k_1 + (1 : Int))) + (1 : Int))) + (1 : Int))) + (1 : Int))) + (1 : Int))))))) fun h14 =>
    N2 (a_0b, a_0l, a_0c, ((IntKind.i64.wrap ((IntKind.i64.wrap ((IntKind.i64.wrap ((IntKind.i64.wrap ((IntKind.i64.wrap ((IntKind.i64.wrap (k_1 + (1 : Int))) + (1 : Int))) + (1 : Int))) + (1 : Int))) + (1 : Int))) + (1 : Int)))), ((IntKind.i64.wrap (i_5 + (1 : Int))))) h14) (
    Post (.int .i64 k_1) h)
def laws_markEventS.g2 (fr : Frame) : Option Addr × Nat × Nat × Int × Int := ((gLb (lget fr 0)), (gLl (lget fr 0)), (gLc (lget fr 0)), (gI (lget fr 1)), (gI (lget fr 5)))
def laws_markEventS.l2 (Post : Value → Heap → Prop) : Frame → Heap → Prop := fun fr h => GRD (shape (kds 56 [(0, .l), (1, .i .i64), (5, .i .i64)]) fr) (LOOP (laws_markEventS.B2 Post) (laws_markEventS.g2 fr) h)
def laws_markEventS.S (a_0b : Option Addr) (a_0l a_0c : Nat) (k_1 : Int) (Post : Value → Heap → Prop) (h : Heap) : Prop :=
    LOOP (laws_markEventS.B2 Post) (a_0b, a_0l, a_0c, k_1, (0 : Int)) h
noncomputable def laws_markEventS.code : Code := (Tryz.f76.body).getD .skip
theorem laws_markEventS.call {a_0b : Option Addr} {a_0l a_0c : Nat} {k_1 : Int} {Post : Value → Heap → Prop} {h : Heap} (H : laws_markEventS.S a_0b a_0l a_0c k_1 Post h) : CALL prg f_laws_markEventS #[.slice a_0b a_0l a_0c, .int .i64 k_1] Post h :=
  fn_call tau_ok mixed (c := laws_markEventS.code) (Λ := lookL [(1000002, laws_markEventS.l2 Post)]) Tryz.func76 (by kernel_rfl) (by kernel_rfl)
    (Rq.seq (by kernel_rfl) (Rq.free (by kernel_rfl)) (Rq.seq (by kernel_rfl) (Rq.seq (by kernel_rfl) (Rq.free (by kernel_rfl)) (Rq.block (Rq.loop (laws_markEventS.l2 Post) (by kernel_rfl) (segL (g := laws_markEventS.g2) tau_ok mixed (Λ := fun N2 => lookL []) (fun _ _ _ => by kernel_rfl) (fun N2 => (Rq.free (by kernel_rfl))))))) (Rq.free (by kernel_rfl))))
    (Eq.mp (by kernel_rfl) H)

def laws_markScore.S (a_0 : Array Value) (k_1 : Int) (Post : Value → Heap → Prop) (h : Heap) : Prop :=
    ALC a_0 T_impl_Score (fun g1 h2 =>
    LDA 3 h2 ⟨g1, 1, none⟩ fun a3 =>
    CALL prg f_laws_markTuning #[.agg a3, .int .i64 k_1] (fun q4 h5 =>
    asI .i64 q4 fun n6 =>
    oL (cell h5 ⟨g1, 4, none⟩) fun l7b l7l l7c =>
    CALL prg f_laws_markInstrumentS #[.slice l7b l7l l7c, .int .i64 n6] (fun q8 h9 =>
    asI .i64 q8 fun n10 =>
    oL (cell h9 ⟨g1, 5, none⟩) fun l11b l11l l11c =>
    CALL prg f_laws_markEventS #[.slice l11b l11l l11c, .int .i64 n10] (fun q12 h13 =>
    asI .i64 q12 fun n14 =>
    Post (.int .i64 n14) h13) h9) h5) h2) h
noncomputable def laws_markScore.code : Code := (Tryz.f18.body).getD .skip
theorem laws_markScore.call {a_0 : Array Value} {k_1 : Int} {Post : Value → Heap → Prop} {h : Heap} (H : laws_markScore.S a_0 k_1 Post h) : CALL prg f_laws_markScore #[.agg a_0, .int .i64 k_1] Post h :=
  fn_call tau_ok mixed (c := laws_markScore.code) (Λ := lookL []) Tryz.func18 (by kernel_rfl) (by kernel_rfl)
    (Rq.free (by kernel_rfl))
    (Eq.mp (by kernel_rfl) H)

def laws_markVoiceS.B80 (N2 : (Option Addr × Nat × Nat × Int × Int) → Heap → Prop) (Post : Value → Heap → Prop) (N80 : (Option Addr × Nat × Nat × Int × Int × Int) → Heap → Prop) : Option Addr × Nat × Nat × Int × Int × Int → Heap → Prop
  | (a_0b, a_0l, a_0c, k_1, i_5, j_13), h =>
    BIF ((decide (j_13 < (2 : Int)))) (
    IDXS a_0b i_5 a_0l fun p81 =>
    IDX j_13 2 <|
    ST1 h ((Addr.add ((Addr.add ((Addr.add ((Addr.add ((Addr.add p81 ((Int.toNat i_5) * 45))) 33)) 4)) 4)) ((Int.toNat j_13) * 1))) (.float .f32 (FloatKind.f32.nearest k_1)) fun h82 =>
    N80 (a_0b, a_0l, a_0c, ((IntKind.i64.wrap (k_1 + (1 : Int)))), i_5, ((IntKind.i64.wrap (j_13 + (1 : Int))))) h82) (
    IDXS a_0b i_5 a_0l fun p83 =>
    ST1 h ((Addr.add ((Addr.add ((Addr.add p83 ((Int.toNat i_5) * 45))) 33)) 10)) (.float .f32 (FloatKind.f32.nearest k_1)) fun h84 =>
    IDXS a_0b i_5 a_0l fun p85 =>
    ST1 h84 ((Addr.add ((Addr.add ((Addr.add p85 ((Int.toNat i_5) * 45))) 33)) 11)) (.float .f32 ((FloatKind.f32.nearest ((IntKind.i64.wrap (k_1 + (1 : Int))))))) fun h86 =>
    N2 (a_0b, a_0l, a_0c, ((IntKind.i64.wrap ((IntKind.i64.wrap (k_1 + (1 : Int))) + (1 : Int)))), ((IntKind.i64.wrap (i_5 + (1 : Int))))) h86)
def laws_markVoiceS.g80 (fr : Frame) : Option Addr × Nat × Nat × Int × Int × Int := ((gLb (lget fr 0)), (gLl (lget fr 0)), (gLc (lget fr 0)), (gI (lget fr 1)), (gI (lget fr 5)), (gI (lget fr 13)))
def laws_markVoiceS.l80 (N2 : (Option Addr × Nat × Nat × Int × Int) → Heap → Prop) (Post : Value → Heap → Prop) : Frame → Heap → Prop := fun fr h => GRD (shape (kds 365 [(0, .l), (1, .i .i64), (5, .i .i64), (13, .i .i64)]) fr) (LOOP (laws_markVoiceS.B80 N2 Post) (laws_markVoiceS.g80 fr) h)
def laws_markVoiceS.B75 (N2 : (Option Addr × Nat × Nat × Int × Int) → Heap → Prop) (Post : Value → Heap → Prop) (N75 : (Option Addr × Nat × Nat × Int × Int × Int) → Heap → Prop) : Option Addr × Nat × Nat × Int × Int × Int → Heap → Prop
  | (a_0b, a_0l, a_0c, k_1, i_5, j_12), h =>
    BIF ((decide (j_12 < (3 : Int)))) (
    IDXS a_0b i_5 a_0l fun p79 =>
    IDX j_12 3 <|
    ST1 h ((Addr.add ((Addr.add ((Addr.add ((Addr.add ((Addr.add p79 ((Int.toNat i_5) * 45))) 33)) 4)) 1)) ((Int.toNat j_12) * 1))) (.float .f32 (FloatKind.f32.nearest k_1)) fun h80 =>
    N75 (a_0b, a_0l, a_0c, ((IntKind.i64.wrap (k_1 + (1 : Int)))), i_5, ((IntKind.i64.wrap (j_12 + (1 : Int))))) h80) (
    LOOP (laws_markVoiceS.B80 N2 Post) (a_0b, a_0l, a_0c, k_1, i_5, (0 : Int)) h)
def laws_markVoiceS.g75 (fr : Frame) : Option Addr × Nat × Nat × Int × Int × Int := ((gLb (lget fr 0)), (gLl (lget fr 0)), (gLc (lget fr 0)), (gI (lget fr 1)), (gI (lget fr 5)), (gI (lget fr 12)))
def laws_markVoiceS.l75 (N2 : (Option Addr × Nat × Nat × Int × Int) → Heap → Prop) (Post : Value → Heap → Prop) : Frame → Heap → Prop := fun fr h => GRD (shape (kds 365 [(0, .l), (1, .i .i64), (5, .i .i64), (12, .i .i64)]) fr) (LOOP (laws_markVoiceS.B75 N2 Post) (laws_markVoiceS.g75 fr) h)
def laws_markVoiceS.B54 (N2 : (Option Addr × Nat × Nat × Int × Int) → Heap → Prop) (Post : Value → Heap → Prop) (N54 : (Option Addr × Nat × Nat × Int × Int × Int) → Heap → Prop) : Option Addr × Nat × Nat × Int × Int × Int → Heap → Prop
  | (a_0b, a_0l, a_0c, k_1, i_5, j_11), h =>
    BIF ((decide (j_11 < (2 : Int)))) (
    IDXS a_0b i_5 a_0l fun p53 =>
    IDX j_11 2 <|
    ST1 h ((Addr.add ((Addr.add ((Addr.add ((Addr.add ((Addr.add p53 ((Int.toNat i_5) * 45))) 20)) 3)) 4)) ((Int.toNat j_11) * 1))) (.float .f32 (FloatKind.f32.nearest k_1)) fun h54 =>
    N54 (a_0b, a_0l, a_0c, ((IntKind.i64.wrap (k_1 + (1 : Int)))), i_5, ((IntKind.i64.wrap (j_11 + (1 : Int))))) h54) (
    NZ (3 : Int) <|
    IDXS a_0b i_5 a_0l fun p55 =>
    ST1 h ((Addr.add ((Addr.add ((Addr.add p55 ((Int.toNat i_5) * 45))) 20)) 9)) (.bool (((Int.tmod k_1 (3 : Int)) == (0 : Int)))) fun h56 =>
    IDXS a_0b i_5 a_0l fun p57 =>
    ST1 h56 ((Addr.add ((Addr.add ((Addr.add p57 ((Int.toNat i_5) * 45))) 20)) 10)) (.float .f32 ((FloatKind.f32.nearest ((IntKind.i64.wrap (k_1 + (1 : Int))))))) fun h58 =>
    IDXS a_0b i_5 a_0l fun p59 =>
    ST1 h58 ((Addr.add ((Addr.add ((Addr.add p59 ((Int.toNat i_5) * 45))) 20)) 11)) (.float .f32 ((FloatKind.f32.nearest ((IntKind.i64.wrap ((IntKind.i64.wrap (k_1 + (1 : Int))) + (1 : Int))))))) fun h60 =>
    IDXS a_0b i_5 a_0l fun p61 =>
    ST1 h60 ((Addr.add ((Addr.add ((Addr.add p61 ((Int.toNat i_5) * 45))) 20)) 12)) (.float .f32 ((FloatKind.f32.nearest ((IntKind.i64.wrap ((IntKind.i64.wrap ((IntKind.i64.wrap (k_1 + (1 : Int))) + (1 : Int))) + (1 : Int))))))) fun h62 =>
    IDXS a_0b i_5 a_0l fun p63 =>
    oL (cell h62 ((Addr.add ((Addr.add p63 ((Int.toNat i_5) * 45))) 33))) fun l64b l64l l64c =>
    CALL prg f_laws_markFloat32S #[.slice l64b l64l l64c, .int .i64 ((IntKind.i64.wrap ((IntKind.i64.wrap ((IntKind.i64.wrap ((IntKind.i64.wrap (k_1 + (1 : Int))) + (1 : Int))) + (1 : Int))) + (1 : Int))))] (fun q65 h66 =>
    asI .i64 q65 fun n67 =>
    IDXS a_0b i_5 a_0l fun p68 =>
    ST1 h66 ((Addr.add ((Addr.add ((Addr.add p68 ((Int.toNat i_5) * 45))) 33)) 1)) (.int .i64 n67) fun h69 =>
    IDXS a_0b i_5 a_0l fun p70 =>
    oL (cell h69 ((Addr.add ((Addr.add ((Addr.add p70 ((Int.toNat i_5) * 45))) 33)) 2))) fun l71b l71l l71c =>
    CALL prg f_laws_markFloat32S #[.slice l71b l71l l71c, .int .i64 ((IntKind.i64.wrap (n67 + (1 : Int))))] (fun q72 h73 =>
    asI .i64 q72 fun n74 =>
    IDXS a_0b i_5 a_0l fun p75 =>
    ST1 h73 ((Addr.add ((Addr.add ((Addr.add ((Addr.add p75 ((Int.toNat i_5) * 45))) 33)) 2)) 1)) (.int .i64 n74) fun h76 =>
    IDXS a_0b i_5 a_0l fun p77 =>
    ST1 h76 ((Addr.add ((Addr.add ((Addr.add p77 ((Int.toNat i_5) * 45))) 33)) 4)) (.int .i64 ((IntKind.i64.wrap (n74 + (1 : Int))))) fun h78 =>
    LOOP (laws_markVoiceS.B75 N2 Post) (a_0b, a_0l, a_0c, ((IntKind.i64.wrap ((IntKind.i64.wrap (n74 + (1 : Int))) + (1 : Int)))), i_5, (0 : Int)) h78) h69) h62)
def laws_markVoiceS.g54 (fr : Frame) : Option Addr × Nat × Nat × Int × Int × Int := ((gLb (lget fr 0)), (gLl (lget fr 0)), (gLc (lget fr 0)), (gI (lget fr 1)), (gI (lget fr 5)), (gI (lget fr 11)))
def laws_markVoiceS.l54 (N2 : (Option Addr × Nat × Nat × Int × Int) → Heap → Prop) (Post : Value → Heap → Prop) : Frame → Heap → Prop := fun fr h => GRD (shape (kds 365 [(0, .l), (1, .i .i64), (5, .i .i64), (11, .i .i64)]) fr) (LOOP (laws_markVoiceS.B54 N2 Post) (laws_markVoiceS.g54 fr) h)
def laws_markVoiceS.B49 (N2 : (Option Addr × Nat × Nat × Int × Int) → Heap → Prop) (Post : Value → Heap → Prop) (N49 : (Option Addr × Nat × Nat × Int × Int × Int) → Heap → Prop) : Option Addr × Nat × Nat × Int × Int × Int → Heap → Prop
  | (a_0b, a_0l, a_0c, k_1, i_5, j_10), h =>
    BIF ((decide (j_10 < (3 : Int)))) (
    IDXS a_0b i_5 a_0l fun p51 =>
    IDX j_10 3 <|
    ST1 h ((Addr.add ((Addr.add ((Addr.add ((Addr.add ((Addr.add p51 ((Int.toNat i_5) * 45))) 20)) 3)) 1)) ((Int.toNat j_10) * 1))) (.float .f32 (FloatKind.f32.nearest k_1)) fun h52 =>
    N49 (a_0b, a_0l, a_0c, ((IntKind.i64.wrap (k_1 + (1 : Int)))), i_5, ((IntKind.i64.wrap (j_10 + (1 : Int))))) h52) (
    LOOP (laws_markVoiceS.B54 N2 Post) (a_0b, a_0l, a_0c, k_1, i_5, (0 : Int)) h)
def laws_markVoiceS.g49 (fr : Frame) : Option Addr × Nat × Nat × Int × Int × Int := ((gLb (lget fr 0)), (gLl (lget fr 0)), (gLc (lget fr 0)), (gI (lget fr 1)), (gI (lget fr 5)), (gI (lget fr 10)))
def laws_markVoiceS.l49 (N2 : (Option Addr × Nat × Nat × Int × Int) → Heap → Prop) (Post : Value → Heap → Prop) : Frame → Heap → Prop := fun fr h => GRD (shape (kds 365 [(0, .l), (1, .i .i64), (5, .i .i64), (10, .i .i64)]) fr) (LOOP (laws_markVoiceS.B49 N2 Post) (laws_markVoiceS.g49 fr) h)
def laws_markVoiceS.B37 (N2 : (Option Addr × Nat × Nat × Int × Int) → Heap → Prop) (Post : Value → Heap → Prop) (N37 : (Option Addr × Nat × Nat × Int × Int × Int) → Heap → Prop) : Option Addr × Nat × Nat × Int × Int × Int → Heap → Prop
  | (a_0b, a_0l, a_0c, k_1, i_5, j_9), h =>
    BIF ((decide (j_9 < (2 : Int)))) (
    IDXS a_0b i_5 a_0l fun p30 =>
    IDX j_9 2 <|
    ST1 h ((Addr.add ((Addr.add ((Addr.add ((Addr.add ((Addr.add p30 ((Int.toNat i_5) * 45))) 5)) 8)) 4)) ((Int.toNat j_9) * 1))) (.float .f32 (FloatKind.f32.nearest k_1)) fun h31 =>
    N37 (a_0b, a_0l, a_0c, ((IntKind.i64.wrap (k_1 + (1 : Int)))), i_5, ((IntKind.i64.wrap (j_9 + (1 : Int))))) h31) (
    IDXS a_0b i_5 a_0l fun p32 =>
    ST1 h ((Addr.add ((Addr.add ((Addr.add p32 ((Int.toNat i_5) * 45))) 5)) 14)) (.float .f32 (FloatKind.f32.nearest k_1)) fun h33 =>
    IDXS a_0b i_5 a_0l fun p34 =>
    oL (cell h33 ((Addr.add ((Addr.add p34 ((Int.toNat i_5) * 45))) 20))) fun l35b l35l l35c =>
    CALL prg f_laws_markRingS #[.slice l35b l35l l35c, .int .i64 ((IntKind.i64.wrap (k_1 + (1 : Int))))] (fun q36 h37 =>
    asI .i64 q36 fun n38 =>
    IDXS a_0b i_5 a_0l fun p39 =>
    oL (cell h37 ((Addr.add ((Addr.add ((Addr.add p39 ((Int.toNat i_5) * 45))) 20)) 1))) fun l40b l40l l40c =>
    CALL prg f_laws_markRingS #[.slice l40b l40l l40c, .int .i64 n38] (fun q41 h42 =>
    asI .i64 q41 fun n43 =>
    IDXS a_0b i_5 a_0l fun p44 =>
    oL (cell h42 ((Addr.add ((Addr.add ((Addr.add p44 ((Int.toNat i_5) * 45))) 20)) 2))) fun l45b l45l l45c =>
    CALL prg f_laws_markFloat32S #[.slice l45b l45l l45c, .int .i64 n43] (fun q46 h47 =>
    asI .i64 q46 fun n48 =>
    IDXS a_0b i_5 a_0l fun p49 =>
    ST1 h47 ((Addr.add ((Addr.add ((Addr.add p49 ((Int.toNat i_5) * 45))) 20)) 3)) (.int .i64 n48) fun h50 =>
    LOOP (laws_markVoiceS.B49 N2 Post) (a_0b, a_0l, a_0c, ((IntKind.i64.wrap (n48 + (1 : Int)))), i_5, (0 : Int)) h50) h42) h37) h33)
def laws_markVoiceS.g37 (fr : Frame) : Option Addr × Nat × Nat × Int × Int × Int := ((gLb (lget fr 0)), (gLl (lget fr 0)), (gLc (lget fr 0)), (gI (lget fr 1)), (gI (lget fr 5)), (gI (lget fr 9)))
def laws_markVoiceS.l37 (N2 : (Option Addr × Nat × Nat × Int × Int) → Heap → Prop) (Post : Value → Heap → Prop) : Frame → Heap → Prop := fun fr h => GRD (shape (kds 365 [(0, .l), (1, .i .i64), (5, .i .i64), (9, .i .i64)]) fr) (LOOP (laws_markVoiceS.B37 N2 Post) (laws_markVoiceS.g37 fr) h)
def laws_markVoiceS.B32 (N2 : (Option Addr × Nat × Nat × Int × Int) → Heap → Prop) (Post : Value → Heap → Prop) (N32 : (Option Addr × Nat × Nat × Int × Int × Int) → Heap → Prop) : Option Addr × Nat × Nat × Int × Int × Int → Heap → Prop
  | (a_0b, a_0l, a_0c, k_1, i_5, j_8), h =>
    BIF ((decide (j_8 < (3 : Int)))) (
    IDXS a_0b i_5 a_0l fun p28 =>
    IDX j_8 3 <|
    ST1 h ((Addr.add ((Addr.add ((Addr.add ((Addr.add ((Addr.add p28 ((Int.toNat i_5) * 45))) 5)) 8)) 1)) ((Int.toNat j_8) * 1))) (.float .f32 (FloatKind.f32.nearest k_1)) fun h29 =>
    N32 (a_0b, a_0l, a_0c, ((IntKind.i64.wrap (k_1 + (1 : Int)))), i_5, ((IntKind.i64.wrap (j_8 + (1 : Int))))) h29) (
    LOOP (laws_markVoiceS.B37 N2 Post) (a_0b, a_0l, a_0c, k_1, i_5, (0 : Int)) h)
def laws_markVoiceS.g32 (fr : Frame) : Option Addr × Nat × Nat × Int × Int × Int := ((gLb (lget fr 0)), (gLl (lget fr 0)), (gLc (lget fr 0)), (gI (lget fr 1)), (gI (lget fr 5)), (gI (lget fr 8)))
def laws_markVoiceS.l32 (N2 : (Option Addr × Nat × Nat × Int × Int) → Heap → Prop) (Post : Value → Heap → Prop) : Frame → Heap → Prop := fun fr h => GRD (shape (kds 365 [(0, .l), (1, .i .i64), (5, .i .i64), (8, .i .i64)]) fr) (LOOP (laws_markVoiceS.B32 N2 Post) (laws_markVoiceS.g32 fr) h)
def laws_markVoiceS.B25 (N2 : (Option Addr × Nat × Nat × Int × Int) → Heap → Prop) (Post : Value → Heap → Prop) (N25 : (Option Addr × Nat × Nat × Int × Int × Int) → Heap → Prop) : Option Addr × Nat × Nat × Int × Int × Int → Heap → Prop
  | (a_0b, a_0l, a_0c, k_1, i_5, j_7), h =>
    BIF ((decide (j_7 < (2 : Int)))) (
    IDXS a_0b i_5 a_0l fun p24 =>
    IDX j_7 2 <|
    ST1 h ((Addr.add ((Addr.add ((Addr.add ((Addr.add ((Addr.add p24 ((Int.toNat i_5) * 45))) 5)) 2)) 4)) ((Int.toNat j_7) * 1))) (.float .f32 (FloatKind.f32.nearest k_1)) fun h25 =>
    N25 (a_0b, a_0l, a_0c, ((IntKind.i64.wrap (k_1 + (1 : Int)))), i_5, ((IntKind.i64.wrap (j_7 + (1 : Int))))) h25) (
    IDXS a_0b i_5 a_0l fun p26 =>
    ST1 h ((Addr.add ((Addr.add ((Addr.add p26 ((Int.toNat i_5) * 45))) 5)) 8)) (.int .i64 k_1) fun h27 =>
    LOOP (laws_markVoiceS.B32 N2 Post) (a_0b, a_0l, a_0c, ((IntKind.i64.wrap (k_1 + (1 : Int)))), i_5, (0 : Int)) h27)
def laws_markVoiceS.g25 (fr : Frame) : Option Addr × Nat × Nat × Int × Int × Int := ((gLb (lget fr 0)), (gLl (lget fr 0)), (gLc (lget fr 0)), (gI (lget fr 1)), (gI (lget fr 5)), (gI (lget fr 7)))
def laws_markVoiceS.l25 (N2 : (Option Addr × Nat × Nat × Int × Int) → Heap → Prop) (Post : Value → Heap → Prop) : Frame → Heap → Prop := fun fr h => GRD (shape (kds 365 [(0, .l), (1, .i .i64), (5, .i .i64), (7, .i .i64)]) fr) (LOOP (laws_markVoiceS.B25 N2 Post) (laws_markVoiceS.g25 fr) h)
def laws_markVoiceS.B20 (N2 : (Option Addr × Nat × Nat × Int × Int) → Heap → Prop) (Post : Value → Heap → Prop) (N20 : (Option Addr × Nat × Nat × Int × Int × Int) → Heap → Prop) : Option Addr × Nat × Nat × Int × Int × Int → Heap → Prop
  | (a_0b, a_0l, a_0c, k_1, i_5, j_6), h =>
    BIF ((decide (j_6 < (3 : Int)))) (
    IDXS a_0b i_5 a_0l fun p22 =>
    IDX j_6 3 <|
    ST1 h ((Addr.add ((Addr.add ((Addr.add ((Addr.add ((Addr.add p22 ((Int.toNat i_5) * 45))) 5)) 2)) 1)) ((Int.toNat j_6) * 1))) (.float .f32 (FloatKind.f32.nearest k_1)) fun h23 =>
    N20 (a_0b, a_0l, a_0c, ((IntKind.i64.wrap (k_1 + (1 : Int)))), i_5, ((IntKind.i64.wrap (j_6 + (1 : Int))))) h23) (
    LOOP (laws_markVoiceS.B25 N2 Post) (a_0b, a_0l, a_0c, k_1, i_5, (0 : Int)) h)
def laws_markVoiceS.g20 (fr : Frame) : Option Addr × Nat × Nat × Int × Int × Int := ((gLb (lget fr 0)), (gLl (lget fr 0)), (gLc (lget fr 0)), (gI (lget fr 1)), (gI (lget fr 5)), (gI (lget fr 6)))
def laws_markVoiceS.l20 (N2 : (Option Addr × Nat × Nat × Int × Int) → Heap → Prop) (Post : Value → Heap → Prop) : Frame → Heap → Prop := fun fr h => GRD (shape (kds 365 [(0, .l), (1, .i .i64), (5, .i .i64), (6, .i .i64)]) fr) (LOOP (laws_markVoiceS.B20 N2 Post) (laws_markVoiceS.g20 fr) h)
def laws_markVoiceS.B2 (Post : Value → Heap → Prop) (N2 : (Option Addr × Nat × Nat × Int × Int) → Heap → Prop) : Option Addr × Nat × Nat × Int × Int → Heap → Prop
  | (a_0b, a_0l, a_0c, k_1, i_5), h =>
    BIF ((decide (i_5 < (a_0l : Int)))) (
    IDXS a_0b i_5 a_0l fun p3 =>
    ST1 h ((Addr.add p3 ((Int.toNat i_5) * 45))) (.int .i64 k_1) fun h4 =>
    IDXS a_0b i_5 a_0l fun p5 =>
    ST1 h4 ((Addr.add ((Addr.add p5 ((Int.toNat i_5) * 45))) 1)) (.int .i64 ((IntKind.i64.wrap (k_1 + (1 : Int))))) fun h6 =>
    IDXS a_0b i_5 a_0l fun p7 =>
    ST1 h6 ((Addr.add ((Addr.add p7 ((Int.toNat i_5) * 45))) 2)) (.int .i64 ((IntKind.i64.wrap ((IntKind.i64.wrap (k_1 + (1 : Int))) + (1 : Int))))) fun h8 =>
    NZ (3 : Int) <|
    IDXS a_0b i_5 a_0l fun p9 =>
    ST1 h8 ((Addr.add ((Addr.add p9 ((Int.toNat i_5) * 45))) 3)) (.bool (((Int.tmod ((IntKind.i64.wrap ((IntKind.i64.wrap ((IntKind.i64.wrap (k_1 + (1 : Int))) + (1 : Int))) + (1 : Int)))) (3 : Int)) == (0 : Int)))) fun h10 =>
    IDXS a_0b i_5 a_0l fun p11 =>
    ST1 h10 ((Addr.add ((Addr.add p11 ((Int.toNat i_5) * 45))) 4)) (.float .f32 ((FloatKind.f32.nearest ((IntKind.i64.wrap ((IntKind.i64.wrap ((IntKind.i64.wrap ((IntKind.i64.wrap (k_1 + (1 : Int))) + (1 : Int))) + (1 : Int))) + (1 : Int))))))) fun h12 =>
    IDXS a_0b i_5 a_0l fun p13 =>
    oL (cell h12 ((Addr.add ((Addr.add p13 ((Int.toNat i_5) * 45))) 5))) fun l14b l14l l14c =>
    CALL prg f_laws_markFloat32S #[.slice l14b l14l l14c, .int .i64 ((IntKind.i64.wrap ((IntKind.i64.wrap ((IntKind.i64.wrap ((IntKind.i64.wrap ((IntKind.i64.wrap (k_1 + (1 : Int))) + (1 : Int))) + (1 : Int))) + (1 : Int))) + (1 : Int))))] (fun q15 h16 =>
    asI .i64 q15 fun n17 =>
    IDXS a_0b i_5 a_0l fun p18 =>
    ST1 h16 ((Addr.add ((Addr.add ((Addr.add p18 ((Int.toNat i_5) * 45))) 5)) 1)) (.int .i64 n17) fun h19 =>
    IDXS a_0b i_5 a_0l fun p20 =>
    ST1 h19 ((Addr.add ((Addr.add ((Addr.add p20 ((Int.toNat i_5) * 45))) 5)) 2)) (.int .i64 ((IntKind.i64.wrap (n17 + (1 : Int))))) fun h21 =>
    LOOP (laws_markVoiceS.B20 N2 Post) (a_0b, a_0l, a_0c, ((IntKind.i64.wrap ((IntKind.i64.wrap (n17 + (1 : Int))) + (1 : Int)))), i_5, (0 : Int)) h21) h12) (
    Post (.int .i64 k_1) h)
def laws_markVoiceS.g2 (fr : Frame) : Option Addr × Nat × Nat × Int × Int := ((gLb (lget fr 0)), (gLl (lget fr 0)), (gLc (lget fr 0)), (gI (lget fr 1)), (gI (lget fr 5)))
def laws_markVoiceS.l2 (Post : Value → Heap → Prop) : Frame → Heap → Prop := fun fr h => GRD (shape (kds 365 [(0, .l), (1, .i .i64), (5, .i .i64)]) fr) (LOOP (laws_markVoiceS.B2 Post) (laws_markVoiceS.g2 fr) h)
def laws_markVoiceS.S (a_0b : Option Addr) (a_0l a_0c : Nat) (k_1 : Int) (Post : Value → Heap → Prop) (h : Heap) : Prop :=
    LOOP (laws_markVoiceS.B2 Post) (a_0b, a_0l, a_0c, k_1, (0 : Int)) h
noncomputable def laws_markVoiceS.code : Code := (Tryz.f77.body).getD .skip
theorem laws_markVoiceS.call {a_0b : Option Addr} {a_0l a_0c : Nat} {k_1 : Int} {Post : Value → Heap → Prop} {h : Heap} (H : laws_markVoiceS.S a_0b a_0l a_0c k_1 Post h) : CALL prg f_laws_markVoiceS #[.slice a_0b a_0l a_0c, .int .i64 k_1] Post h :=
  fn_call tau_ok mixed (c := laws_markVoiceS.code) (Λ := lookL [(1000002, laws_markVoiceS.l2 Post)]) Tryz.func77 (by kernel_rfl) (by kernel_rfl)
    (Rq.seq (by kernel_rfl) (Rq.free (by kernel_rfl)) (Rq.seq (by kernel_rfl) (Rq.seq (by kernel_rfl) (Rq.free (by kernel_rfl)) (Rq.block (Rq.loop (laws_markVoiceS.l2 Post) (by kernel_rfl) (segL (g := laws_markVoiceS.g2) tau_ok mixed (Λ := fun N2 => lookL [(1000020, laws_markVoiceS.l20 N2 Post), (1000025, laws_markVoiceS.l25 N2 Post), (1000032, laws_markVoiceS.l32 N2 Post), (1000037, laws_markVoiceS.l37 N2 Post), (1000049, laws_markVoiceS.l49 N2 Post), (1000054, laws_markVoiceS.l54 N2 Post), (1000075, laws_markVoiceS.l75 N2 Post), (1000080, laws_markVoiceS.l80 N2 Post)]) (fun _ _ _ => by kernel_rfl) (fun N2 => (Rq.seq (by kernel_rfl) (Rq.free (by kernel_rfl)) (Rq.seq (by kernel_rfl) (Rq.block (Rq.seq (by kernel_rfl) (Rq.free (by kernel_rfl)) (Rq.seq (by kernel_rfl) (Rq.free (by kernel_rfl)) (Rq.seq (by kernel_rfl) (Rq.free (by kernel_rfl)) (Rq.seq (by kernel_rfl) (Rq.free (by kernel_rfl)) (Rq.seq (by kernel_rfl) (Rq.free (by kernel_rfl)) (Rq.seq (by kernel_rfl) (Rq.free (by kernel_rfl)) (Rq.seq (by kernel_rfl) (Rq.free (by kernel_rfl)) (Rq.seq (by kernel_rfl) (Rq.free (by kernel_rfl)) (Rq.seq (by kernel_rfl) (Rq.free (by kernel_rfl)) (Rq.seq (by kernel_rfl) (Rq.free (by kernel_rfl)) (Rq.seq (by kernel_rfl) (Rq.free (by kernel_rfl)) (Rq.seq (by kernel_rfl) (Rq.free (by kernel_rfl)) (Rq.seq (by kernel_rfl) (Rq.free (by kernel_rfl)) (Rq.seq (by kernel_rfl) (Rq.free (by kernel_rfl)) (Rq.seq (by kernel_rfl) (Rq.free (by kernel_rfl)) (Rq.seq (by kernel_rfl) (Rq.seq (by kernel_rfl) (Rq.free (by kernel_rfl)) (Rq.block (Rq.loop (laws_markVoiceS.l20 N2 Post) (by kernel_rfl) (segL (g := laws_markVoiceS.g20) tau_ok mixed (Λ := fun N20 => lookL []) (fun _ _ _ => by kernel_rfl) (fun N20 => (Rq.free (by kernel_rfl))))))) (Rq.seq (by kernel_rfl) (Rq.seq (by kernel_rfl) (Rq.free (by kernel_rfl)) (Rq.block (Rq.loop (laws_markVoiceS.l25 N2 Post) (by kernel_rfl) (segL (g := laws_markVoiceS.g25) tau_ok mixed (Λ := fun N25 => lookL []) (fun _ _ _ => by kernel_rfl) (fun N25 => (Rq.free (by kernel_rfl))))))) (Rq.seq (by kernel_rfl) (Rq.free (by kernel_rfl)) (Rq.seq (by kernel_rfl) (Rq.free (by kernel_rfl)) (Rq.seq (by kernel_rfl) (Rq.seq (by kernel_rfl) (Rq.free (by kernel_rfl)) (Rq.block (Rq.loop (laws_markVoiceS.l32 N2 Post) (by kernel_rfl) (segL (g := laws_markVoiceS.g32) tau_ok mixed (Λ := fun N32 => lookL []) (fun _ _ _ => by kernel_rfl) (fun N32 => (Rq.free (by kernel_rfl))))))) (Rq.seq (by kernel_rfl) (Rq.seq (by kernel_rfl) (Rq.free (by kernel_rfl)) (Rq.block (Rq.loop (laws_markVoiceS.l37 N2 Post) (by kernel_rfl) (segL (g := laws_markVoiceS.g37) tau_ok mixed (Λ := fun N37 => lookL []) (fun _ _ _ => by kernel_rfl) (fun N37 => (Rq.free (by kernel_rfl))))))) (Rq.seq (by kernel_rfl) (Rq.free (by kernel_rfl)) (Rq.seq (by kernel_rfl) (Rq.free (by kernel_rfl)) (Rq.seq (by kernel_rfl) (Rq.free (by kernel_rfl)) (Rq.seq (by kernel_rfl) (Rq.free (by kernel_rfl)) (Rq.seq (by kernel_rfl) (Rq.free (by kernel_rfl)) (Rq.seq (by kernel_rfl) (Rq.free (by kernel_rfl)) (Rq.seq (by kernel_rfl) (Rq.free (by kernel_rfl)) (Rq.seq (by kernel_rfl) (Rq.seq (by kernel_rfl) (Rq.free (by kernel_rfl)) (Rq.block (Rq.loop (laws_markVoiceS.l49 N2 Post) (by kernel_rfl) (segL (g := laws_markVoiceS.g49) tau_ok mixed (Λ := fun N49 => lookL []) (fun _ _ _ => by kernel_rfl) (fun N49 => (Rq.free (by kernel_rfl))))))) (Rq.seq (by kernel_rfl) (Rq.seq (by kernel_rfl) (Rq.free (by kernel_rfl)) (Rq.block (Rq.loop (laws_markVoiceS.l54 N2 Post) (by kernel_rfl) (segL (g := laws_markVoiceS.g54) tau_ok mixed (Λ := fun N54 => lookL []) (fun _ _ _ => by kernel_rfl) (fun N54 => (Rq.free (by kernel_rfl))))))) (Rq.seq (by kernel_rfl) (Rq.free (by kernel_rfl)) (Rq.seq (by kernel_rfl) (Rq.free (by kernel_rfl)) (Rq.seq (by kernel_rfl) (Rq.free (by kernel_rfl)) (Rq.seq (by kernel_rfl) (Rq.free (by kernel_rfl)) (Rq.seq (by kernel_rfl) (Rq.free (by kernel_rfl)) (Rq.seq (by kernel_rfl) (Rq.free (by kernel_rfl)) (Rq.seq (by kernel_rfl) (Rq.free (by kernel_rfl)) (Rq.seq (by kernel_rfl) (Rq.free (by kernel_rfl)) (Rq.seq (by kernel_rfl) (Rq.free (by kernel_rfl)) (Rq.seq (by kernel_rfl) (Rq.free (by kernel_rfl)) (Rq.seq (by kernel_rfl) (Rq.free (by kernel_rfl)) (Rq.seq (by kernel_rfl) (Rq.free (by kernel_rfl)) (Rq.seq (by kernel_rfl) (Rq.free (by kernel_rfl)) (Rq.seq (by kernel_rfl) (Rq.free (by kernel_rfl)) (Rq.seq (by kernel_rfl) (Rq.free (by kernel_rfl)) (Rq.seq (by kernel_rfl) (Rq.free (by kernel_rfl)) (Rq.seq (by kernel_rfl) (Rq.seq (by kernel_rfl) (Rq.free (by kernel_rfl)) (Rq.block (Rq.loop (laws_markVoiceS.l75 N2 Post) (by kernel_rfl) (segL (g := laws_markVoiceS.g75) tau_ok mixed (Λ := fun N75 => lookL []) (fun _ _ _ => by kernel_rfl) (fun N75 => (Rq.free (by kernel_rfl))))))) (Rq.seq (by kernel_rfl) (Rq.seq (by kernel_rfl) (Rq.free (by kernel_rfl)) (Rq.block (Rq.loop (laws_markVoiceS.l80 N2 Post) (by kernel_rfl) (segL (g := laws_markVoiceS.g80) tau_ok mixed (Λ := fun N80 => lookL []) (fun _ _ _ => by kernel_rfl) (fun N80 => (Rq.free (by kernel_rfl))))))) (Rq.free (by kernel_rfl))))))))))))))))))))))))))))))))))))))))))))))))))) (Rq.free (by kernel_rfl))))))))) (Rq.free (by kernel_rfl))))
    (Eq.mp (by kernel_rfl) H)

def laws_markPlayer.S (a_0 : Array Value) (k_1 : Int) (Post : Value → Heap → Prop) (h : Heap) : Prop :=
    ALC a_0 T_impl_Player (fun g1 h2 =>
    LDA 6 h2 ⟨g1, 0, none⟩ fun a3 =>
    CALL prg f_laws_markScore #[.agg a3, .int .i64 k_1] (fun q4 h5 =>
    asI .i64 q4 fun n6 =>
    oL (cell h5 ⟨g1, 6, none⟩) fun l7b l7l l7c =>
    CALL prg f_laws_markVoiceS #[.slice l7b l7l l7c, .int .i64 n6] (fun q8 h9 =>
    asI .i64 q8 fun n10 =>
    Post (.int .i64 n10) h9) h5) h2) h
noncomputable def laws_markPlayer.code : Code := (Tryz.f19.body).getD .skip
theorem laws_markPlayer.call {a_0 : Array Value} {k_1 : Int} {Post : Value → Heap → Prop} {h : Heap} (H : laws_markPlayer.S a_0 k_1 Post h) : CALL prg f_laws_markPlayer #[.agg a_0, .int .i64 k_1] Post h :=
  fn_call tau_ok mixed (c := laws_markPlayer.code) (Λ := lookL []) Tryz.func19 (by kernel_rfl) (by kernel_rfl)
    (Rq.free (by kernel_rfl))
    (Eq.mp (by kernel_rfl) H)

end Go.Sx
