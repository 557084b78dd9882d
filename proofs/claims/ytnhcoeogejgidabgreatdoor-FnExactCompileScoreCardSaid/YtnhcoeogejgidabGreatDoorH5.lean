/- What functions of this seat's program compute, told in words (a predicate over heaps for each), and the proofs that the words are no more than the code's own weakest precondition. -/
import Derived.Test.YtnhcoeogejgidabGreatDoorTab
namespace Go.Sx
open Go.Proofs
set_option linter.unusedVariables false
set_option maxRecDepth 100000

def laws_markTuning.S (a_0 : Array Value) (k_1 : Int) (Post : Value → Heap → Prop) (h : Heap) : Prop :=
    ALC a_0 T_impl_Tuning (fun g1 h2 =>
    oL (cell h2 ⟨g1, 2, none⟩) fun l3b l3l l3c =>
    CALL prg f_laws_markFloat32S #[.slice l3b l3l l3c, .int .i64 k_1] (fun q4 h5 =>
    asI .i64 q4 fun n6 =>
    Post (.int .i64 n6) h5) h2) h
noncomputable def laws_markTuning.code : Code := (Tryz.f30.body).getD .skip
theorem laws_markTuning.call {a_0 : Array Value} {k_1 : Int} {Post : Value → Heap → Prop} {h : Heap} (H : laws_markTuning.S a_0 k_1 Post h) : CALL prg f_laws_markTuning #[.agg a_0, .int .i64 k_1] Post h :=
  fn_call tau_ok mixed (c := laws_markTuning.code) (Λ := lookL []) Tryz.func30 (by kernel_rfl) (by kernel_rfl)
    (Rq.free (by kernel_rfl))
    (Eq.mp (by kernel_rfl) H)

def laws_markText.B4 (Post : Value → Heap → Prop) (N4 : (Int × ByteArray) → Heap → Prop) : Int × ByteArray → Heap → Prop
  | (k_0, out_3), h =>
    BIF ((decide ((0 : Int) < k_0))) (
    NZ (10 : Int) <|
    ALC ⟨[.int .u8 ((IntKind.u8.wrap ((IntKind.i64.wrap ((48 : Int) + (Int.tmod k_0 (10 : Int)))))))]⟩ T_uint8 (fun g1 h2 =>
    SEMV prg (convert T_sl_uint8 T_string (.slice (some ⟨g1, 0, none⟩) 1 1)) (fun q3 h4 =>
    asS q3 fun s5 =>
    ((ByteArray.size s5 + ByteArray.size out_3 : Nat) : Int) ≤ 9223372036854775807 ∧ (
    NZ (10 : Int) <|
    N4 (((IntKind.i64.wrap (Int.tdiv k_0 (10 : Int)))), (s5 ++ out_3)) h4)) h2) h) (
    ((ByteArray.size (⟨#[109]⟩ : ByteArray) + ByteArray.size out_3 : Nat) : Int) ≤ 9223372036854775807 ∧ (
    Post (.string ((⟨#[109]⟩ : ByteArray) ++ out_3)) h))
def laws_markText.g4 (fr : Frame) : Int × ByteArray := ((gI (lget fr 0)), (gS (lget fr 3)))
def laws_markText.l4 (Post : Value → Heap → Prop) : Frame → Heap → Prop := fun fr h => GRD (shape (kds 20 [(0, .i .i64), (3, .s)]) fr) (LOOP (laws_markText.B4 Post) (laws_markText.g4 fr) h)
def laws_markText.S (k_0 : Int) (Post : Value → Heap → Prop) (h : Heap) : Prop :=
    BIF ((decide (k_0 ≤ (0 : Int)))) (
    Post (.string (⟨#[109, 48]⟩ : ByteArray)) h) (
    LOOP (laws_markText.B4 Post) (k_0, (⟨#[]⟩ : ByteArray)) h)
noncomputable def laws_markText.code : Code := (Tryz.f69.body).getD .skip
theorem laws_markText.call {k_0 : Int} {Post : Value → Heap → Prop} {h : Heap} (H : laws_markText.S k_0 Post h) : CALL prg f_laws_markText #[.int .i64 k_0] Post h :=
  fn_call tau_ok mixed (c := laws_markText.code) (Λ := lookL [(1000004, laws_markText.l4 Post)]) Tryz.func69 (by kernel_rfl) (by kernel_rfl)
    (Rq.seq (by kernel_rfl) (Rq.free (by kernel_rfl)) (Rq.seq (by kernel_rfl) (Rq.free (by kernel_rfl)) (Rq.seq (by kernel_rfl) (Rq.free (by kernel_rfl)) (Rq.seq (by kernel_rfl) (Rq.block (Rq.loop (laws_markText.l4 Post) (by kernel_rfl) (segL (g := laws_markText.g4) tau_ok mixed (Λ := fun N4 => lookL []) (fun _ _ _ => by kernel_rfl) (fun N4 => (Rq.free (by kernel_rfl)))))) (Rq.free (by kernel_rfl))))))
    (Eq.mp (by kernel_rfl) H)

def laws_markInstrumentS.B2 (Post : Value → Heap → Prop) (N2 : (Option Addr × Nat × Nat × Int × Int) → Heap → Prop) : Option Addr × Nat × Nat × Int × Int → Heap → Prop
  | (a_0b, a_0l, a_0c, k_1, i_5), h =>
    BIF ((decide (i_5 < (a_0l : Int)))) (
    CALL prg f_laws_markText #[.int .i64 k_1] (fun q3 h4 =>
    asS q3 fun s5 =>
    IDXS a_0b i_5 a_0l fun p6 =>
    ST1 h4 ((Addr.add p6 ((Int.toNat i_5) * 5))) (.string s5) fun h7 =>
    IDXS a_0b i_5 a_0l fun p8 =>
    ST1 h7 ((Addr.add ((Addr.add p8 ((Int.toNat i_5) * 5))) 1)) (.int .i64 ((IntKind.i64.wrap (k_1 + (1 : Int))))) fun h9 =>
    IDXS a_0b i_5 a_0l fun p10 =>
    ST1 h9 ((Addr.add ((Addr.add p10 ((Int.toNat i_5) * 5))) 2)) (.float .f32 ((FloatKind.f32.nearest ((IntKind.i64.wrap ((IntKind.i64.wrap (k_1 + (1 : Int))) + (1 : Int))))))) fun h11 =>
    IDXS a_0b i_5 a_0l fun p12 =>
    ST1 h11 ((Addr.add ((Addr.add p12 ((Int.toNat i_5) * 5))) 3)) (.float .f32 ((FloatKind.f32.nearest ((IntKind.i64.wrap ((IntKind.i64.wrap ((IntKind.i64.wrap (k_1 + (1 : Int))) + (1 : Int))) + (1 : Int))))))) fun h13 =>
    IDXS a_0b i_5 a_0l fun p14 =>
    ST1 h13 ((Addr.add ((Addr.add p14 ((Int.toNat i_5) * 5))) 4)) (.float .f32 ((FloatKind.f32.nearest ((IntKind.i64.wrap ((IntKind.i64.wrap ((IntKind.i64.wrap ((IntKind.i64.wrap (k_1 + (1 : Int))) + (1 : Int))) + (1 : Int))) + (1 : Int))))))) fun h15 =>
    N2 (a_0b, a_0l, a_0c, ((IntKind.i64.wrap ((IntKind.i64.wrap ((IntKind.i64.wrap ((IntKind.i64.wrap ((IntKind.i64.wrap (k_1 + (1 : Int))) + (1 : Int))) + (1 : Int))) + (1 : Int))) + (1 : Int)))), ((IntKind.i64.wrap (i_5 + (1 : Int))))) h15) h) (
    Post (.int .i64 k_1) h)
def laws_markInstrumentS.g2 (fr : Frame) : Option Addr × Nat × Nat × Int × Int := ((gLb (lget fr 0)), (gLl (lget fr 0)), (gLc (lget fr 0)), (gI (lget fr 1)), (gI (lget fr 5)))
def laws_markInstrumentS.l2 (Post : Value → Heap → Prop) : Frame → Heap → Prop := fun fr h => GRD (shape (kds 52 [(0, .l), (1, .i .i64), (5, .i .i64)]) fr) (LOOP (laws_markInstrumentS.B2 Post) (laws_markInstrumentS.g2 fr) h)
def laws_markInstrumentS.S (a_0b : Option Addr) (a_0l a_0c : Nat) (k_1 : Int) (Post : Value → Heap → Prop) (h : Heap) : Prop :=
    LOOP (laws_markInstrumentS.B2 Post) (a_0b, a_0l, a_0c, k_1, (0 : Int)) h
noncomputable def laws_markInstrumentS.code : Code := (Tryz.f31.body).getD .skip
theorem laws_markInstrumentS.call {a_0b : Option Addr} {a_0l a_0c : Nat} {k_1 : Int} {Post : Value → Heap → Prop} {h : Heap} (H : laws_markInstrumentS.S a_0b a_0l a_0c k_1 Post h) : CALL prg f_laws_markInstrumentS #[.slice a_0b a_0l a_0c, .int .i64 k_1] Post h :=
  fn_call tau_ok mixed (c := laws_markInstrumentS.code) (Λ := lookL [(1000002, laws_markInstrumentS.l2 Post)]) Tryz.func31 (by kernel_rfl) (by kernel_rfl)
    (Rq.seq (by kernel_rfl) (Rq.free (by kernel_rfl)) (Rq.seq (by kernel_rfl) (Rq.seq (by kernel_rfl) (Rq.free (by kernel_rfl)) (Rq.block (Rq.loop (laws_markInstrumentS.l2 Post) (by kernel_rfl) (segL (g := laws_markInstrumentS.g2) tau_ok mixed (Λ := fun N2 => lookL []) (fun _ _ _ => by kernel_rfl) (fun N2 => (Rq.free (by kernel_rfl))))))) (Rq.free (by kernel_rfl))))
    (Eq.mp (by kernel_rfl) H)

def laws_markEventS.B2 (Post : Value → Heap → Prop) (N2 : (Option Addr × Nat × Nat × Int × Int) → Heap → Prop) : Option Addr × Nat × Nat × Int × Int → Heap → Prop
  | (a_0b, a_0l, a_0c, k_1, i_5), h =>
    BIF ((decide (i_5 < (a_0l : Int)))) (
    IDXS a_0b i_5 a_0l fun p3 =>
    ST1 h ((Addr.add p3 ((Int.toNat i_5) * 6))) (.int .i64 k_1) fun h4 =>
    IDXS a_0b i_5 a_0l fun p5 =>
    ST1 h4 ((Addr.add ((Addr.add p5 ((Int.toNat i_5) * 6))) 1)) (.int .i64 ((IntKind.i64.wrap (k_1 + (1 : Int))))) fun h6 =>
    IDXS a_0b i_5 a_0l fun p7 =>
    ST1 h6 ((Addr.add ((Addr.add p7 ((Int.toNat i_5) * 6))) 2)) (.int .i64 ((IntKind.i64.wrap ((IntKind.i64.wrap (k_1 + (1 : Int))) + (1 : Int))))) fun h8 =>
    IDXS a_0b i_5 a_0l fun p9 =>
    ST1 h8 ((Addr.add ((Addr.add p9 ((Int.toNat i_5) * 6))) 3)) (.int .i64 ((IntKind.i64.wrap ((IntKind.i64.wrap ((IntKind.i64.wrap (k_1 + (1 : Int))) + (1 : Int))) + (1 : Int))))) fun h10 =>
    IDXS a_0b i_5 a_0l fun p11 =>
    ST1 h10 ((Addr.add ((Addr.add p11 ((Int.toNat i_5) * 6))) 4)) (.int .i64 ((IntKind.i64.wrap ((IntKind.i64.wrap ((IntKind.i64.wrap ((IntKind.i64.wrap (k_1 + (1 : Int))) + (1 : Int))) + (1 : Int))) + (1 : Int))))) fun h12 =>
    IDXS a_0b i_5 a_0l fun p13 =>
    ST1 h12 ((Addr.add ((Addr.add p13 ((Int.toNat i_5) * 6))) 5)) (.float .f32 ((FloatKind.f32.nearest ((IntKind.i64.wrap ((IntKind.i64.wrap ((IntKind.i64.wrap ((IntKind.i64.wrap ((IntKind.i64.wrap (k_1 + (1 : Int))) + (1 : Int))) + (1 : Int))) + (1 : Int))) + (1 : Int))))))) fun h14 =>
    N2 (a_0b, a_0l, a_0c, ((IntKind.i64.wrap ((IntKind.i64.wrap ((IntKind.i64.wrap ((IntKind.i64.wrap ((IntKind.i64.wrap ((IntKind.i64.wrap (k_1 + (1 : Int))) + (1 : Int))) + (1 : Int))) + (1 : Int))) + (1 : Int))) + (1 : Int)))), ((IntKind.i64.wrap (i_5 + (1 : Int))))) h14) (
    Post (.int .i64 k_1) h)
def laws_markEventS.g2 (fr : Frame) : Option Addr × Nat × Nat × Int × Int := ((gLb (lget fr 0)), (gLl (lget fr 0)), (gLc (lget fr 0)), (gI (lget fr 1)), (gI (lget fr 5)))
def laws_markEventS.l2 (Post : Value → Heap → Prop) : Frame → Heap → Prop := fun fr h => GRD (shape (kds 56 [(0, .l), (1, .i .i64), (5, .i .i64)]) fr) (LOOP (laws_markEventS.B2 Post) (laws_markEventS.g2 fr) h)
def laws_markEventS.S (a_0b : Option Addr) (a_0l a_0c : Nat) (k_1 : Int) (Post : Value → Heap → Prop) (h : Heap) : Prop :=
    LOOP (laws_markEventS.B2 Post) (a_0b, a_0l, a_0c, k_1, (0 : Int)) h
noncomputable def laws_markEventS.code : Code := (Tryz.f32.body).getD .skip
theorem laws_markEventS.call {a_0b : Option Addr} {a_0l a_0c : Nat} {k_1 : Int} {Post : Value → Heap → Prop} {h : Heap} (H : laws_markEventS.S a_0b a_0l a_0c k_1 Post h) : CALL prg f_laws_markEventS #[.slice a_0b a_0l a_0c, .int .i64 k_1] Post h :=
  fn_call tau_ok mixed (c := laws_markEventS.code) (Λ := lookL [(1000002, laws_markEventS.l2 Post)]) Tryz.func32 (by kernel_rfl) (by kernel_rfl)
    (Rq.seq (by kernel_rfl) (Rq.free (by kernel_rfl)) (Rq.seq (by kernel_rfl) (Rq.seq (by kernel_rfl) (Rq.free (by kernel_rfl)) (Rq.block (Rq.loop (laws_markEventS.l2 Post) (by kernel_rfl) (segL (g := laws_markEventS.g2) tau_ok mixed (Λ := fun N2 => lookL []) (fun _ _ _ => by kernel_rfl) (fun N2 => (Rq.free (by kernel_rfl))))))) (Rq.free (by kernel_rfl))))
    (Eq.mp (by kernel_rfl) H)

def laws_markScore.S (a_0 : Array Value) (k_1 : Int) (Post : Value → Heap → Prop) (h : Heap) : Prop :=
    ALC a_0 T_impl_Score (fun g1 h2 =>
    LDA 3 h2 ⟨g1, 1, none⟩ fun a3 =>
    CALL prg f_laws_markTuning #[.agg a3, .int .i64 k_1] (fun q4 h5 =>
    asI .i64 q4 fun n6 =>
    oL (cell h5 ⟨g1, 4, none⟩) fun l7b l7l l7c =>
    CALL prg f_laws_markInstrumentS #[.slice l7b l7l l7c, .int .i64 n6] (fun q8 h9 =>
    asI .i64 q8 fun n10 =>
    oL (cell h9 ⟨g1, 5, none⟩) fun l11b l11l l11c =>
    CALL prg f_laws_markEventS #[.slice l11b l11l l11c, .int .i64 n10] (fun q12 h13 =>
    asI .i64 q12 fun n14 =>
    Post (.int .i64 n14) h13) h9) h5) h2) h
noncomputable def laws_markScore.code : Code := (Tryz.f8.body).getD .skip
theorem laws_markScore.call {a_0 : Array Value} {k_1 : Int} {Post : Value → Heap → Prop} {h : Heap} (H : laws_markScore.S a_0 k_1 Post h) : CALL prg f_laws_markScore #[.agg a_0, .int .i64 k_1] Post h :=
  fn_call tau_ok mixed (c := laws_markScore.code) (Λ := lookL []) Tryz.func8 (by kernel_rfl) (by kernel_rfl)
    (Rq.free (by kernel_rfl))
    (Eq.mp (by kernel_rfl) H)

def laws_heldTuning.S (a_0 : Array Value) (k_1 : Int) (Post : Value → Heap → Prop) (h : Heap) : Prop :=
    ALC a_0 T_impl_Tuning (fun g1 h2 =>
    oL (cell h2 ⟨g1, 2, none⟩) fun l3b l3l l3c =>
    CALL prg f_laws_heldFloat32S #[.slice l3b l3l l3c, .int .i64 k_1] (fun q4 h5 =>
    asI .i64 q4 fun n6 =>
    BIF ((decide (n6 < (0 : Int)))) (
    Post (.int .i64 (-1 : Int)) h5) (
    Post (.int .i64 n6) h5)) h2) h
noncomputable def laws_heldTuning.code : Code := (Tryz.f33.body).getD .skip
theorem laws_heldTuning.call {a_0 : Array Value} {k_1 : Int} {Post : Value → Heap → Prop} {h : Heap} (H : laws_heldTuning.S a_0 k_1 Post h) : CALL prg f_laws_heldTuning #[.agg a_0, .int .i64 k_1] Post h :=
  fn_call tau_ok mixed (c := laws_heldTuning.code) (Λ := lookL []) Tryz.func33 (by kernel_rfl) (by kernel_rfl)
    (Rq.free (by kernel_rfl))
    (Eq.mp (by kernel_rfl) H)

def laws_heldInstrumentS.B2 (Post : Value → Heap → Prop) (N2 : (Option Addr × Nat × Nat × Int × Int) → Heap → Prop) : Option Addr × Nat × Nat × Int × Int → Heap → Prop
  | (a_0b, a_0l, a_0c, k_1, i_5), h =>
    BIF ((decide (i_5 < (a_0l : Int)))) (
    IDXS a_0b i_5 a_0l fun p3 =>
    oS (cell h ((Addr.add p3 ((Int.toNat i_5) * 5)))) fun s4 =>
    CALL prg f_laws_markText #[.int .i64 k_1] (fun q5 h6 =>
    asS q5 fun s7 =>
    PIN h ((Addr.add p3 ((Int.toNat i_5) * 5))) 1 h6 <|
    BIF (!(ByteArray.toList s4 == ByteArray.toList s7)) (
    Post (.int .i64 (-1 : Int)) h6) (
    IDXS a_0b i_5 a_0l fun p8 =>
    oI .i64 (cell h6 ((Addr.add ((Addr.add p8 ((Int.toNat i_5) * 5))) 1))) fun n9 =>
    BIF ((n9 != (IntKind.i64.wrap (k_1 + (1 : Int))))) (
    Post (.int .i64 (-1 : Int)) h6) (
    IDXS a_0b i_5 a_0l fun p10 =>
    oF .f32 (cell h6 ((Addr.add ((Addr.add p10 ((Int.toNat i_5) * 5))) 2))) fun r11 =>
    BIF ((FloatKind.f32.format.order r11 ((FloatKind.f32.nearest ((IntKind.i64.wrap ((IntKind.i64.wrap (k_1 + (1 : Int))) + (1 : Int)))))) != some .eq)) (
    Post (.int .i64 (-1 : Int)) h6) (
    IDXS a_0b i_5 a_0l fun p12 =>
    oF .f32 (cell h6 ((Addr.add ((Addr.add p12 ((Int.toNat i_5) * 5))) 3))) fun r13 =>
    BIF ((FloatKind.f32.format.order r13 ((FloatKind.f32.nearest ((IntKind.i64.wrap ((IntKind.i64.wrap ((IntKind.i64.wrap (k_1 + (1 : Int))) + (1 : Int))) + (1 : Int)))))) != some .eq)) (
    Post (.int .i64 (-1 : Int)) h6) (
    IDXS a_0b i_5 a_0l fun p14 =>
    oF .f32 (cell h6 ((Addr.add ((Addr.add p14 ((Int.toNat i_5) * 5))) 4))) fun r15 =>
    BIF ((FloatKind.f32.format.order r15 ((FloatKind.f32.nearest ((IntKind.i64.wrap ((IntKind.i64.wrap ((IntKind.i64.wrap ((IntKind.i64.wrap (k_1 + (1 : Int))) + (1 : Int))) + (1 : Int))) + (1 : Int)))))) != some .eq)) (
    Post (.int .i64 (-1 : Int)) h6) (
    N2 (a_0b, a_0l, a_0c, ((IntKind.i64.wrap ((IntKind.i64.wrap ((IntKind.i64.wrap ((IntKind.i64.wrap ((IntKind.i64.wrap (k_1 + (1 : Int))) + (1 : Int))) + (1 : Int))) + (1 : Int))) + (1 : Int)))), ((IntKind.i64.wrap (i_5 + (1 : Int))))) h6)))))) h) (
    Post (.int .i64 k_1) h)
def laws_heldInstrumentS.g2 (fr : Frame) : Option Addr × Nat × Nat × Int × Int := ((gLb (lget fr 0)), (gLl (lget fr 0)), (gLc (lget fr 0)), (gI (lget fr 1)), (gI (lget fr 5)))
def laws_heldInstrumentS.l2 (Post : Value → Heap → Prop) : Frame → Heap → Prop := fun fr h => GRD (shape (kds 62 [(0, .l), (1, .i .i64), (5, .i .i64)]) fr) (LOOP (laws_heldInstrumentS.B2 Post) (laws_heldInstrumentS.g2 fr) h)
def laws_heldInstrumentS.S (a_0b : Option Addr) (a_0l a_0c : Nat) (k_1 : Int) (Post : Value → Heap → Prop) (h : Heap) : Prop :=
    LOOP (laws_heldInstrumentS.B2 Post) (a_0b, a_0l, a_0c, k_1, (0 : Int)) h
noncomputable def laws_heldInstrumentS.code : Code := (Tryz.f34.body).getD .skip
theorem laws_heldInstrumentS.call {a_0b : Option Addr} {a_0l a_0c : Nat} {k_1 : Int} {Post : Value → Heap → Prop} {h : Heap} (H : laws_heldInstrumentS.S a_0b a_0l a_0c k_1 Post h) : CALL prg f_laws_heldInstrumentS #[.slice a_0b a_0l a_0c, .int .i64 k_1] Post h :=
  fn_call tau_ok mixed (c := laws_heldInstrumentS.code) (Λ := lookL [(1000002, laws_heldInstrumentS.l2 Post)]) Tryz.func34 (by kernel_rfl) (by kernel_rfl)
    (Rq.seq (by kernel_rfl) (Rq.free (by kernel_rfl)) (Rq.seq (by kernel_rfl) (Rq.seq (by kernel_rfl) (Rq.free (by kernel_rfl)) (Rq.block (Rq.loop (laws_heldInstrumentS.l2 Post) (by kernel_rfl) (segL (g := laws_heldInstrumentS.g2) tau_ok mixed (Λ := fun N2 => lookL []) (fun _ _ _ => by kernel_rfl) (fun N2 => (Rq.free (by kernel_rfl))))))) (Rq.free (by kernel_rfl))))
    (Eq.mp (by kernel_rfl) H)

def laws_heldEventS.B2 (Post : Value → Heap → Prop) (N2 : (Option Addr × Nat × Nat × Int × Int) → Heap → Prop) : Option Addr × Nat × Nat × Int × Int → Heap → Prop
  | (a_0b, a_0l, a_0c, k_1, i_5), h =>
    BIF ((decide (i_5 < (a_0l : Int)))) (
    IDXS a_0b i_5 a_0l fun p3 =>
    oI .i64 (cell h ((Addr.add p3 ((Int.toNat i_5) * 6)))) fun n4 =>
    BIF (n4 != k_1) (
    Post (.int .i64 (-1 : Int)) h) (
    IDXS a_0b i_5 a_0l fun p5 =>
    oI .i64 (cell h ((Addr.add ((Addr.add p5 ((Int.toNat i_5) * 6))) 1))) fun n6 =>
    BIF ((n6 != (IntKind.i64.wrap (k_1 + (1 : Int))))) (
    Post (.int .i64 (-1 : Int)) h) (
    IDXS a_0b i_5 a_0l fun p7 =>
    oI .i64 (cell h ((Addr.add ((Addr.add p7 ((Int.toNat i_5) * 6))) 2))) fun n8 =>
    BIF ((n8 != (IntKind.i64.wrap ((IntKind.i64.wrap (k_1 + (1 : Int))) + (1 : Int))))) (
    Post (.int .i64 (-1 : Int)) h) (
    IDXS a_0b i_5 a_0l fun p9 =>
    oI .i64 (cell h ((Addr.add ((Addr.add p9 ((Int.toNat i_5) * 6))) 3))) fun n10 =>
    BIF ((n10 != (IntKind.i64.wrap ((IntKind.i64.wrap ((IntKind.i64.wrap (k_1 + (1 : Int))) + (1 : Int))) + (1 : Int))))) (
    Post (.int .i64 (-1 : Int)) h) (
    IDXS a_0b i_5 a_0l fun p11 =>
    oI .i64 (cell h ((Addr.add ((Addr.add p11 ((Int.toNat i_5) * 6))) 4))) fun n12 =>
    BIF ((n12 != (IntKind.i64.wrap ((IntKind.i64.wrap ((IntKind.i64.wrap ((IntKind.i64.wrap (k_1 + (1 : Int))) + (1 : Int))) + (1 : Int))) + (1 : Int))))) (
    Post (.int .i64 (-1 : Int)) h) (
    IDXS a_0b i_5 a_0l fun p13 =>
    oF .f32 (cell h ((Addr.add ((Addr.add p13 ((Int.toNat i_5) * 6))) 5))) fun r14 =>
    BIF ((FloatKind.f32.format.order r14 ((FloatKind.f32.nearest ((IntKind.i64.wrap ((IntKind.i64.wrap ((IntKind.i64.wrap ((IntKind.i64.wrap ((IntKind.i64.wrap (k_1 + (1 : Int))) + (1 : Int))) + (1 : Int))) + (1 : Int))) + (1 : Int)))))) != some .eq)) (
    Post (.int .i64 (-1 : Int)) h) (
    N2 (a_0b, a_0l, a_0c, ((IntKind.i64.wrap ((IntKind.i64.wrap ((IntKind.i64.wrap ((IntKind.i64.wrap ((IntKind.i64.wrap ((IntKind.i64.wrap (k_1 + (1 : Int))) + (1 : Int))) + (1 : Int))) + (1 : Int))) + (1 : Int))) + (1 : Int)))), ((IntKind.i64.wrap (i_5 + (1 : Int))))) h))))))) (
    Post (.int .i64 k_1) h)
def laws_heldEventS.g2 (fr : Frame) : Option Addr × Nat × Nat × Int × Int := ((gLb (lget fr 0)), (gLl (lget fr 0)), (gLc (lget fr 0)), (gI (lget fr 1)), (gI (lget fr 5)))
def laws_heldEventS.l2 (Post : Value → Heap → Prop) : Frame → Heap → Prop := fun fr h => GRD (shape (kds 68 [(0, .l), (1, .i .i64), (5, .i .i64)]) fr) (LOOP (laws_heldEventS.B2 Post) (laws_heldEventS.g2 fr) h)
def laws_heldEventS.S (a_0b : Option Addr) (a_0l a_0c : Nat) (k_1 : Int) (Post : Value → Heap → Prop) (h : Heap) : Prop :=
    LOOP (laws_heldEventS.B2 Post) (a_0b, a_0l, a_0c, k_1, (0 : Int)) h
noncomputable def laws_heldEventS.code : Code := (Tryz.f35.body).getD .skip
theorem laws_heldEventS.call {a_0b : Option Addr} {a_0l a_0c : Nat} {k_1 : Int} {Post : Value → Heap → Prop} {h : Heap} (H : laws_heldEventS.S a_0b a_0l a_0c k_1 Post h) : CALL prg f_laws_heldEventS #[.slice a_0b a_0l a_0c, .int .i64 k_1] Post h :=
  fn_call tau_ok mixed (c := laws_heldEventS.code) (Λ := lookL [(1000002, laws_heldEventS.l2 Post)]) Tryz.func35 (by kernel_rfl) (by kernel_rfl)
    (Rq.seq (by kernel_rfl) (Rq.free (by kernel_rfl)) (Rq.seq (by kernel_rfl) (Rq.seq (by kernel_rfl) (Rq.free (by kernel_rfl)) (Rq.block (Rq.loop (laws_heldEventS.l2 Post) (by kernel_rfl) (segL (g := laws_heldEventS.g2) tau_ok mixed (Λ := fun N2 => lookL []) (fun _ _ _ => by kernel_rfl) (fun N2 => (Rq.free (by kernel_rfl))))))) (Rq.free (by kernel_rfl))))
    (Eq.mp (by kernel_rfl) H)

def laws_heldScore.S (a_0 : Array Value) (k_1 : Int) (Post : Value → Heap → Prop) (h : Heap) : Prop :=
    ALC a_0 T_impl_Score (fun g1 h2 =>
    LDA 3 h2 ⟨g1, 1, none⟩ fun a3 =>
    CALL prg f_laws_heldTuning #[.agg a3, .int .i64 k_1] (fun q4 h5 =>
    asI .i64 q4 fun n6 =>
    BIF ((decide (n6 < (0 : Int)))) (
    Post (.int .i64 (-1 : Int)) h5) (
    oL (cell h5 ⟨g1, 4, none⟩) fun l7b l7l l7c =>
    CALL prg f_laws_heldInstrumentS #[.slice l7b l7l l7c, .int .i64 n6] (fun q8 h9 =>
    asI .i64 q8 fun n10 =>
    BIF ((decide (n10 < (0 : Int)))) (
    Post (.int .i64 (-1 : Int)) h9) (
    oL (cell h9 ⟨g1, 5, none⟩) fun l11b l11l l11c =>
    CALL prg f_laws_heldEventS #[.slice l11b l11l l11c, .int .i64 n10] (fun q12 h13 =>
    asI .i64 q12 fun n14 =>
    BIF ((decide (n14 < (0 : Int)))) (
    Post (.int .i64 (-1 : Int)) h13) (
    Post (.int .i64 n14) h13)) h9)) h5)) h2) h
noncomputable def laws_heldScore.code : Code := (Tryz.f9.body).getD .skip
theorem laws_heldScore.call {a_0 : Array Value} {k_1 : Int} {Post : Value → Heap → Prop} {h : Heap} (H : laws_heldScore.S a_0 k_1 Post h) : CALL prg f_laws_heldScore #[.agg a_0, .int .i64 k_1] Post h :=
  fn_call tau_ok mixed (c := laws_heldScore.code) (Λ := lookL []) Tryz.func9 (by kernel_rfl) (by kernel_rfl)
    (Rq.free (by kernel_rfl))
    (Eq.mp (by kernel_rfl) H)

end Go.Sx
