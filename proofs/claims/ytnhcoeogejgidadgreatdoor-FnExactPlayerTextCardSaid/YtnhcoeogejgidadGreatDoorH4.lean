/- What functions of this seat's program compute, told in words (a predicate over heaps for each), and the proofs that the words are no more than the code's own weakest precondition. -/
import Derived.Test.YtnhcoeogejgidadGreatDoorTab
namespace Go.Sx
open Go.Proofs
set_option linter.unusedVariables false
set_option maxRecDepth 100000

def laws_szTuning.S (a_0 : Array Value) (left_1 : Int) (Post : Value → Heap → Prop) (h : Heap) : Prop :=
    ALC a_0 T_laws_Tuning (fun g1 h2 =>
    oL (cell h2 ⟨g1, 2, none⟩) fun l3b l3l l3c =>
    CALL prg f_laws_szFloat32S #[.slice l3b l3l l3c, .int .i64 left_1] (fun q4 h5 =>
    asI .i64 q4 fun n6 =>
    BIF ((decide (n6 < (0 : Int)))) (
    Post (.int .i64 (-1 : Int)) h5) (
    Post (.int .i64 n6) h5)) h2) h
noncomputable def laws_szTuning.code : Code := (Tryz.f28.body).getD .skip
theorem laws_szTuning.call {a_0 : Array Value} {left_1 : Int} {Post : Value → Heap → Prop} {h : Heap} (H : laws_szTuning.S a_0 left_1 Post h) : CALL prg f_laws_szTuning #[.agg a_0, .int .i64 left_1] Post h :=
  fn_call tau_ok mixed (c := laws_szTuning.code) (Λ := lookL []) Tryz.func28 (by kernel_rfl) (by kernel_rfl)
    (Rq.free (by kernel_rfl))
    (Eq.mp (by kernel_rfl) H)

def laws_szInstrument.S (a_0 : Array Value) (left_1 : Int) (Post : Value → Heap → Prop) (h : Heap) : Prop :=
    ALC a_0 T_laws_Instrument (fun g1 h2 =>
    oS (cell h2 ⟨g1, 0, none⟩) fun s3 =>
    BIF ((decide ((IntKind.i64.wrap (left_1 - ((ByteArray.size s3) : Int))) < (0 : Int)))) (
    Post (.int .i64 (-1 : Int)) h2) (
    Post (.int .i64 ((IntKind.i64.wrap (left_1 - ((ByteArray.size s3) : Int))))) h2)) h
noncomputable def laws_szInstrument.code : Code := (Tryz.f80.body).getD .skip
theorem laws_szInstrument.call {a_0 : Array Value} {left_1 : Int} {Post : Value → Heap → Prop} {h : Heap} (H : laws_szInstrument.S a_0 left_1 Post h) : CALL prg f_laws_szInstrument #[.agg a_0, .int .i64 left_1] Post h :=
  fn_call tau_ok mixed (c := laws_szInstrument.code) (Λ := lookL []) Tryz.func80 (by kernel_rfl) (by kernel_rfl)
    (Rq.free (by kernel_rfl))
    (Eq.mp (by kernel_rfl) H)

def laws_szInstrumentS.B5 (Post : Value → Heap → Prop) (N5 : (Option Addr × Nat × Nat × Int × Int) → Heap → Prop) : Option Addr × Nat × Nat × Int × Int → Heap → Prop
  | (a_0b, a_0l, a_0c, left_1, i_5), h =>
    BIF ((decide (i_5 < (a_0l : Int)))) (
    IDXS a_0b i_5 a_0l fun p5 =>
    LDA 5 h ((Addr.add p5 ((Int.toNat i_5) * 5))) fun a6 =>
    CALL prg f_laws_szInstrument #[.agg a6, .int .i64 left_1] (fun q7 h8 =>
    asI .i64 q7 fun n9 =>
    BIF ((decide (n9 < (0 : Int)))) (
    Post (.int .i64 (-1 : Int)) h8) (
    N5 (a_0b, a_0l, a_0c, n9, ((IntKind.i64.wrap (i_5 + (1 : Int))))) h8)) h) (
    Post (.int .i64 left_1) h)
def laws_szInstrumentS.g5 (fr : Frame) : Option Addr × Nat × Nat × Int × Int := ((gLb (lget fr 0)), (gLl (lget fr 0)), (gLc (lget fr 0)), (gI (lget fr 1)), (gI (lget fr 5)))
def laws_szInstrumentS.l5 (Post : Value → Heap → Prop) : Frame → Heap → Prop := fun fr h => GRD (shape (kds 27 [(0, .l), (1, .i .i64), (5, .i .i64)]) fr) (LOOP (laws_szInstrumentS.B5 Post) (laws_szInstrumentS.g5 fr) h)
def laws_szInstrumentS.S (a_0b : Option Addr) (a_0l a_0c : Nat) (left_1 : Int) (Post : Value → Heap → Prop) (h : Heap) : Prop :=
    BIF ((decide ((IntKind.i64.wrap (left_1 - (a_0l : Int))) < (0 : Int)))) (
    Post (.int .i64 (-1 : Int)) h) (
    LOOP (laws_szInstrumentS.B5 Post) (a_0b, a_0l, a_0c, ((IntKind.i64.wrap (left_1 - (a_0l : Int)))), (0 : Int)) h)
noncomputable def laws_szInstrumentS.code : Code := (Tryz.f29.body).getD .skip
theorem laws_szInstrumentS.call {a_0b : Option Addr} {a_0l a_0c : Nat} {left_1 : Int} {Post : Value → Heap → Prop} {h : Heap} (H : laws_szInstrumentS.S a_0b a_0l a_0c left_1 Post h) : CALL prg f_laws_szInstrumentS #[.slice a_0b a_0l a_0c, .int .i64 left_1] Post h :=
  fn_call tau_ok mixed (c := laws_szInstrumentS.code) (Λ := lookL [(1000005, laws_szInstrumentS.l5 Post)]) Tryz.func29 (by kernel_rfl) (by kernel_rfl)
    (Rq.seq (by kernel_rfl) (Rq.free (by kernel_rfl)) (Rq.seq (by kernel_rfl) (Rq.free (by kernel_rfl)) (Rq.seq (by kernel_rfl) (Rq.free (by kernel_rfl)) (Rq.seq (by kernel_rfl) (Rq.seq (by kernel_rfl) (Rq.free (by kernel_rfl)) (Rq.block (Rq.loop (laws_szInstrumentS.l5 Post) (by kernel_rfl) (segL (g := laws_szInstrumentS.g5) tau_ok mixed (Λ := fun N5 => lookL []) (fun _ _ _ => by kernel_rfl) (fun N5 => (Rq.free (by kernel_rfl))))))) (Rq.free (by kernel_rfl))))))
    (Eq.mp (by kernel_rfl) H)

def laws_szEventS.S (a_0b : Option Addr) (a_0l a_0c : Nat) (left_1 : Int) (Post : Value → Heap → Prop) (h : Heap) : Prop :=
    BIF ((decide ((IntKind.i64.wrap (left_1 - (a_0l : Int))) < (0 : Int)))) (
    Post (.int .i64 (-1 : Int)) h) (
    Post (.int .i64 ((IntKind.i64.wrap (left_1 - (a_0l : Int))))) h)
noncomputable def laws_szEventS.code : Code := (Tryz.f30.body).getD .skip
theorem laws_szEventS.call {a_0b : Option Addr} {a_0l a_0c : Nat} {left_1 : Int} {Post : Value → Heap → Prop} {h : Heap} (H : laws_szEventS.S a_0b a_0l a_0c left_1 Post h) : CALL prg f_laws_szEventS #[.slice a_0b a_0l a_0c, .int .i64 left_1] Post h :=
  fn_call tau_ok mixed (c := laws_szEventS.code) (Λ := lookL []) Tryz.func30 (by kernel_rfl) (by kernel_rfl)
    (Rq.free (by kernel_rfl))
    (Eq.mp (by kernel_rfl) H)

def laws_szScore.S (a_0 : Array Value) (left_1 : Int) (Post : Value → Heap → Prop) (h : Heap) : Prop :=
    ALC a_0 T_laws_Score (fun g1 h2 =>
    LDA 3 h2 ⟨g1, 1, none⟩ fun a3 =>
    CALL prg f_laws_szTuning #[.agg a3, .int .i64 left_1] (fun q4 h5 =>
    asI .i64 q4 fun n6 =>
    BIF ((decide (n6 < (0 : Int)))) (
    Post (.int .i64 (-1 : Int)) h5) (
    oL (cell h5 ⟨g1, 4, none⟩) fun l7b l7l l7c =>
    CALL prg f_laws_szInstrumentS #[.slice l7b l7l l7c, .int .i64 n6] (fun q8 h9 =>
    asI .i64 q8 fun n10 =>
    BIF ((decide (n10 < (0 : Int)))) (
    Post (.int .i64 (-1 : Int)) h9) (
    oL (cell h9 ⟨g1, 5, none⟩) fun l11b l11l l11c =>
    CALL prg f_laws_szEventS #[.slice l11b l11l l11c, .int .i64 n10] (fun q12 h13 =>
    asI .i64 q12 fun n14 =>
    BIF ((decide (n14 < (0 : Int)))) (
    Post (.int .i64 (-1 : Int)) h13) (
    Post (.int .i64 n14) h13)) h9)) h5)) h2) h
noncomputable def laws_szScore.code : Code := (Tryz.f10.body).getD .skip
theorem laws_szScore.call {a_0 : Array Value} {left_1 : Int} {Post : Value → Heap → Prop} {h : Heap} (H : laws_szScore.S a_0 left_1 Post h) : CALL prg f_laws_szScore #[.agg a_0, .int .i64 left_1] Post h :=
  fn_call tau_ok mixed (c := laws_szScore.code) (Λ := lookL []) Tryz.func10 (by kernel_rfl) (by kernel_rfl)
    (Rq.free (by kernel_rfl))
    (Eq.mp (by kernel_rfl) H)

def laws_szString.S (a_0 : Array Value) (left_1 : Int) (Post : Value → Heap → Prop) (h : Heap) : Prop :=
    ALC a_0 T_laws_String (fun g1 h2 =>
    LDA 2 h2 ⟨g1, 0, none⟩ fun a3 =>
    CALL prg f_laws_szRing #[.agg a3, .int .i64 left_1] (fun q4 h5 =>
    asI .i64 q4 fun n6 =>
    BIF ((decide (n6 < (0 : Int)))) (
    Post (.int .i64 (-1 : Int)) h5) (
    Post (.int .i64 n6) h5)) h2) h
noncomputable def laws_szString.code : Code := (Tryz.f129.body).getD .skip
theorem laws_szString.call {a_0 : Array Value} {left_1 : Int} {Post : Value → Heap → Prop} {h : Heap} (H : laws_szString.S a_0 left_1 Post h) : CALL prg f_laws_szString #[.agg a_0, .int .i64 left_1] Post h :=
  fn_call tau_ok mixed (c := laws_szString.code) (Λ := lookL []) Tryz.func129 (by kernel_rfl) (by kernel_rfl)
    (Rq.free (by kernel_rfl))
    (Eq.mp (by kernel_rfl) H)

def laws_szBow.S (a_0 : Array Value) (left_1 : Int) (Post : Value → Heap → Prop) (h : Heap) : Prop :=
    ALC a_0 T_laws_Bow (fun g1 h2 =>
    LDA 2 h2 ⟨g1, 0, none⟩ fun a3 =>
    CALL prg f_laws_szRing #[.agg a3, .int .i64 left_1] (fun q4 h5 =>
    asI .i64 q4 fun n6 =>
    BIF ((decide (n6 < (0 : Int)))) (
    Post (.int .i64 (-1 : Int)) h5) (
    LDA 2 h5 ⟨g1, 2, none⟩ fun a7 =>
    CALL prg f_laws_szRing #[.agg a7, .int .i64 n6] (fun q8 h9 =>
    asI .i64 q8 fun n10 =>
    BIF ((decide (n10 < (0 : Int)))) (
    Post (.int .i64 (-1 : Int)) h9) (
    Post (.int .i64 n10) h9)) h5)) h2) h
noncomputable def laws_szBow.code : Code := (Tryz.f131.body).getD .skip
theorem laws_szBow.call {a_0 : Array Value} {left_1 : Int} {Post : Value → Heap → Prop} {h : Heap} (H : laws_szBow.S a_0 left_1 Post h) : CALL prg f_laws_szBow #[.agg a_0, .int .i64 left_1] Post h :=
  fn_call tau_ok mixed (c := laws_szBow.code) (Λ := lookL []) Tryz.func131 (by kernel_rfl) (by kernel_rfl)
    (Rq.free (by kernel_rfl))
    (Eq.mp (by kernel_rfl) H)

def laws_szVoice.S (a_0 : Array Value) (left_1 : Int) (Post : Value → Heap → Prop) (h : Heap) : Prop :=
    ALC a_0 T_laws_Voice (fun g1 h2 =>
    LDA 15 h2 ⟨g1, 5, none⟩ fun a3 =>
    CALL prg f_laws_szString #[.agg a3, .int .i64 left_1] (fun q4 h5 =>
    asI .i64 q4 fun n6 =>
    BIF ((decide (n6 < (0 : Int)))) (
    Post (.int .i64 (-1 : Int)) h5) (
    LDA 13 h5 ⟨g1, 20, none⟩ fun a7 =>
    CALL prg f_laws_szPipe #[.agg a7, .int .i64 n6] (fun q8 h9 =>
    asI .i64 q8 fun n10 =>
    BIF ((decide (n10 < (0 : Int)))) (
    Post (.int .i64 (-1 : Int)) h9) (
    LDA 12 h9 ⟨g1, 33, none⟩ fun a11 =>
    CALL prg f_laws_szBow #[.agg a11, .int .i64 n10] (fun q12 h13 =>
    asI .i64 q12 fun n14 =>
    BIF ((decide (n14 < (0 : Int)))) (
    Post (.int .i64 (-1 : Int)) h13) (
    Post (.int .i64 n14) h13)) h9)) h5)) h2) h
noncomputable def laws_szVoice.code : Code := (Tryz.f59.body).getD .skip
theorem laws_szVoice.call {a_0 : Array Value} {left_1 : Int} {Post : Value → Heap → Prop} {h : Heap} (H : laws_szVoice.S a_0 left_1 Post h) : CALL prg f_laws_szVoice #[.agg a_0, .int .i64 left_1] Post h :=
  fn_call tau_ok mixed (c := laws_szVoice.code) (Λ := lookL []) Tryz.func59 (by kernel_rfl) (by kernel_rfl)
    (Rq.free (by kernel_rfl))
    (Eq.mp (by kernel_rfl) H)

def laws_szVoiceS.B5 (Post : Value → Heap → Prop) (N5 : (Option Addr × Nat × Nat × Int × Int) → Heap → Prop) : Option Addr × Nat × Nat × Int × Int → Heap → Prop
  | (a_0b, a_0l, a_0c, left_1, i_5), h =>
    BIF ((decide (i_5 < (a_0l : Int)))) (
    IDXS a_0b i_5 a_0l fun p5 =>
    LDA 45 h ((Addr.add p5 ((Int.toNat i_5) * 45))) fun a6 =>
    CALL prg f_laws_szVoice #[.agg a6, .int .i64 left_1] (fun q7 h8 =>
    asI .i64 q7 fun n9 =>
    BIF ((decide (n9 < (0 : Int)))) (
    Post (.int .i64 (-1 : Int)) h8) (
    N5 (a_0b, a_0l, a_0c, n9, ((IntKind.i64.wrap (i_5 + (1 : Int))))) h8)) h) (
    Post (.int .i64 left_1) h)
def laws_szVoiceS.g5 (fr : Frame) : Option Addr × Nat × Nat × Int × Int := ((gLb (lget fr 0)), (gLl (lget fr 0)), (gLc (lget fr 0)), (gI (lget fr 1)), (gI (lget fr 5)))
def laws_szVoiceS.l5 (Post : Value → Heap → Prop) : Frame → Heap → Prop := fun fr h => GRD (shape (kds 27 [(0, .l), (1, .i .i64), (5, .i .i64)]) fr) (LOOP (laws_szVoiceS.B5 Post) (laws_szVoiceS.g5 fr) h)
def laws_szVoiceS.S (a_0b : Option Addr) (a_0l a_0c : Nat) (left_1 : Int) (Post : Value → Heap → Prop) (h : Heap) : Prop :=
    BIF ((decide ((IntKind.i64.wrap (left_1 - (a_0l : Int))) < (0 : Int)))) (
    Post (.int .i64 (-1 : Int)) h) (
    LOOP (laws_szVoiceS.B5 Post) (a_0b, a_0l, a_0c, ((IntKind.i64.wrap (left_1 - (a_0l : Int)))), (0 : Int)) h)
noncomputable def laws_szVoiceS.code : Code := (Tryz.f18.body).getD .skip
theorem laws_szVoiceS.call {a_0b : Option Addr} {a_0l a_0c : Nat} {left_1 : Int} {Post : Value → Heap → Prop} {h : Heap} (H : laws_szVoiceS.S a_0b a_0l a_0c left_1 Post h) : CALL prg f_laws_szVoiceS #[.slice a_0b a_0l a_0c, .int .i64 left_1] Post h :=
  fn_call tau_ok mixed (c := laws_szVoiceS.code) (Λ := lookL [(1000005, laws_szVoiceS.l5 Post)]) Tryz.func18 (by kernel_rfl) (by kernel_rfl)
    (Rq.seq (by kernel_rfl) (Rq.free (by kernel_rfl)) (Rq.seq (by kernel_rfl) (Rq.free (by kernel_rfl)) (Rq.seq (by kernel_rfl) (Rq.free (by kernel_rfl)) (Rq.seq (by kernel_rfl) (Rq.seq (by kernel_rfl) (Rq.free (by kernel_rfl)) (Rq.block (Rq.loop (laws_szVoiceS.l5 Post) (by kernel_rfl) (segL (g := laws_szVoiceS.g5) tau_ok mixed (Λ := fun N5 => lookL []) (fun _ _ _ => by kernel_rfl) (fun N5 => (Rq.free (by kernel_rfl))))))) (Rq.free (by kernel_rfl))))))
    (Eq.mp (by kernel_rfl) H)

def laws_szPlayer.S (a_0 : Array Value) (left_1 : Int) (Post : Value → Heap → Prop) (h : Heap) : Prop :=
    ALC a_0 T_laws_Player (fun g1 h2 =>
    LDA 6 h2 ⟨g1, 0, none⟩ fun a3 =>
    CALL prg f_laws_szScore #[.agg a3, .int .i64 left_1] (fun q4 h5 =>
    asI .i64 q4 fun n6 =>
    BIF ((decide (n6 < (0 : Int)))) (
    Post (.int .i64 (-1 : Int)) h5) (
    oL (cell h5 ⟨g1, 6, none⟩) fun l7b l7l l7c =>
    CALL prg f_laws_szVoiceS #[.slice l7b l7l l7c, .int .i64 n6] (fun q8 h9 =>
    asI .i64 q8 fun n10 =>
    BIF ((decide (n10 < (0 : Int)))) (
    Post (.int .i64 (-1 : Int)) h9) (
    Post (.int .i64 n10) h9)) h5)) h2) h
noncomputable def laws_szPlayer.code : Code := (Tryz.f5.body).getD .skip
theorem laws_szPlayer.call {a_0 : Array Value} {left_1 : Int} {Post : Value → Heap → Prop} {h : Heap} (H : laws_szPlayer.S a_0 left_1 Post h) : CALL prg f_laws_szPlayer #[.agg a_0, .int .i64 left_1] Post h :=
  fn_call tau_ok mixed (c := laws_szPlayer.code) (Λ := lookL []) Tryz.func5 (by kernel_rfl) (by kernel_rfl)
    (Rq.free (by kernel_rfl))
    (Eq.mp (by kernel_rfl) H)

def laws_toTuning.S (a_0 : Array Value) (Post : Value → Heap → Prop) (h : Heap) : Prop :=
    ALC a_0 T_laws_Tuning (fun g1 h2 =>
    ALC ⟨Z_impl_Tuning⟩ T_impl_Tuning (fun g3 h4 =>
    ALC ⟨Z_impl_Tuning⟩ T_impl_Tuning (fun g5 h6 =>
    oF .f32 (cell h6 ⟨g1, 0, none⟩) fun r7 =>
    ST1 h6 ⟨g5, 0, none⟩ (.float .f32 r7) fun h8 =>
    oF .f32 (cell h8 ⟨g1, 1, none⟩) fun r9 =>
    ST1 h8 ⟨g5, 1, none⟩ (.float .f32 r9) fun h10 =>
    oL (cell h10 ⟨g1, 2, none⟩) fun l11b l11l l11c =>
    CALL prg f_laws_toFloat32S #[.slice l11b l11l l11c] (fun q12 h13 =>
    asL q12 fun l14b l14l l14c =>
    ST1 h13 ⟨g5, 2, none⟩ (.slice l14b l14l l14c) fun h15 =>
    LDA 3 h15 ⟨g5, 0, none⟩ fun a16 =>
    STA 3 h15 ⟨g3, 0, none⟩ a16 fun h17 =>
    LDA 3 h17 ⟨g3, 0, none⟩ fun a18 =>
    Post (.agg a18) h17) h10) h4) h2) h
noncomputable def laws_toTuning.code : Code := (Tryz.f36.body).getD .skip
theorem laws_toTuning.call {a_0 : Array Value} {Post : Value → Heap → Prop} {h : Heap} (H : laws_toTuning.S a_0 Post h) : CALL prg f_laws_toTuning #[.agg a_0] Post h :=
  fn_call tau_ok mixed (c := laws_toTuning.code) (Λ := lookL []) Tryz.func36 (by kernel_rfl) (by kernel_rfl)
    (Rq.free (by kernel_rfl))
    (Eq.mp (by kernel_rfl) H)

def laws_toInstrument.S (a_0 : Array Value) (Post : Value → Heap → Prop) (h : Heap) : Prop :=
    ALC a_0 T_laws_Instrument (fun g1 h2 =>
    ALC ⟨Z_impl_Instrument⟩ T_impl_Instrument (fun g3 h4 =>
    ALC ⟨Z_impl_Instrument⟩ T_impl_Instrument (fun g5 h6 =>
    oS (cell h6 ⟨g1, 0, none⟩) fun s7 =>
    ST1 h6 ⟨g5, 0, none⟩ (.string s7) fun h8 =>
    oI .i64 (cell h8 ⟨g1, 1, none⟩) fun n9 =>
    ST1 h8 ⟨g5, 1, none⟩ (.int .i64 n9) fun h10 =>
    oF .f32 (cell h10 ⟨g1, 2, none⟩) fun r11 =>
    ST1 h10 ⟨g5, 2, none⟩ (.float .f32 r11) fun h12 =>
    oF .f32 (cell h12 ⟨g1, 3, none⟩) fun r13 =>
    ST1 h12 ⟨g5, 3, none⟩ (.float .f32 r13) fun h14 =>
    oF .f32 (cell h14 ⟨g1, 4, none⟩) fun r15 =>
    ST1 h14 ⟨g5, 4, none⟩ (.float .f32 r15) fun h16 =>
    LDA 5 h16 ⟨g5, 0, none⟩ fun a17 =>
    STA 5 h16 ⟨g3, 0, none⟩ a17 fun h18 =>
    LDA 5 h18 ⟨g3, 0, none⟩ fun a19 =>
    Post (.agg a19) h18) h4) h2) h
noncomputable def laws_toInstrument.code : Code := (Tryz.f90.body).getD .skip
theorem laws_toInstrument.call {a_0 : Array Value} {Post : Value → Heap → Prop} {h : Heap} (H : laws_toInstrument.S a_0 Post h) : CALL prg f_laws_toInstrument #[.agg a_0] Post h :=
  fn_call tau_ok mixed (c := laws_toInstrument.code) (Λ := lookL []) Tryz.func90 (by kernel_rfl) (by kernel_rfl)
    (Rq.free (by kernel_rfl))
    (Eq.mp (by kernel_rfl) H)

def laws_toInstrumentS.B3 (Post : Value → Heap → Prop) (N3 : (Option Addr × Nat × Nat × Option Addr × Nat × Nat × Int) → Heap → Prop) : Option Addr × Nat × Nat × Option Addr × Nat × Nat × Int → Heap → Prop
  | (a_0b, a_0l, a_0c, out_3b, out_3l, out_3c, i_4), h =>
    BIF ((decide (i_4 < (a_0l : Int)))) (
    IDXS a_0b i_4 a_0l fun p7 =>
    LDA 5 h ((Addr.add p7 ((Int.toNat i_4) * 5))) fun a8 =>
    CALL prg f_laws_toInstrument #[.agg a8] (fun q9 h10 =>
    asA q9 fun a11 =>
    IDXS out_3b i_4 out_3l fun p12 =>
    STA 5 h10 ((Addr.add p12 ((Int.toNat i_4) * 5))) a11 fun h13 =>
    N3 (a_0b, a_0l, a_0c, out_3b, out_3l, out_3c, ((IntKind.i64.wrap (i_4 + (1 : Int))))) h13) h) (
    Post (.slice out_3b out_3l out_3c) h)
def laws_toInstrumentS.g3 (fr : Frame) : Option Addr × Nat × Nat × Option Addr × Nat × Nat × Int := ((gLb (lget fr 0)), (gLl (lget fr 0)), (gLc (lget fr 0)), (gLb (lget fr 3)), (gLl (lget fr 3)), (gLc (lget fr 3)), (gI (lget fr 4)))
def laws_toInstrumentS.l3 (Post : Value → Heap → Prop) : Frame → Heap → Prop := fun fr h => GRD (shape (kds 23 [(0, .l), (3, .l), (4, .i .i64)]) fr) (LOOP (laws_toInstrumentS.B3 Post) (laws_toInstrumentS.g3 fr) h)
def laws_toInstrumentS.S (a_0b : Option Addr) (a_0l a_0c : Nat) (Post : Value → Heap → Prop) (h : Heap) : Prop :=
    MKS ti_impl_Instrument T_impl_Instrument (a_0l : Int) (a_0l : Int) (fun g3 h4 =>
    LOOP (laws_toInstrumentS.B3 Post) (a_0b, a_0l, a_0c, (some ⟨g3, 0, none⟩), a_0l, a_0l, (0 : Int)) h4) h
noncomputable def laws_toInstrumentS.code : Code := (Tryz.f37.body).getD .skip
theorem laws_toInstrumentS.call {a_0b : Option Addr} {a_0l a_0c : Nat} {Post : Value → Heap → Prop} {h : Heap} (H : laws_toInstrumentS.S a_0b a_0l a_0c Post h) : CALL prg f_laws_toInstrumentS #[.slice a_0b a_0l a_0c] Post h :=
  fn_call tau_ok mixed (c := laws_toInstrumentS.code) (Λ := lookL [(1000003, laws_toInstrumentS.l3 Post)]) Tryz.func37 (by kernel_rfl) (by kernel_rfl)
    (Rq.seq (by kernel_rfl) (Rq.free (by kernel_rfl)) (Rq.seq (by kernel_rfl) (Rq.free (by kernel_rfl)) (Rq.seq (by kernel_rfl) (Rq.seq (by kernel_rfl) (Rq.free (by kernel_rfl)) (Rq.block (Rq.loop (laws_toInstrumentS.l3 Post) (by kernel_rfl) (segL (g := laws_toInstrumentS.g3) tau_ok mixed (Λ := fun N3 => lookL []) (fun _ _ _ => by kernel_rfl) (fun N3 => (Rq.free (by kernel_rfl))))))) (Rq.free (by kernel_rfl)))))
    (Eq.mp (by kernel_rfl) H)

def laws_toEvent.S (a_0 : Array Value) (Post : Value → Heap → Prop) (h : Heap) : Prop :=
    ALC a_0 T_laws_Event (fun g1 h2 =>
    ALC ⟨Z_impl_Event⟩ T_impl_Event (fun g3 h4 =>
    ALC ⟨Z_impl_Event⟩ T_impl_Event (fun g5 h6 =>
    oI .i64 (cell h6 ⟨g1, 0, none⟩) fun n7 =>
    ST1 h6 ⟨g5, 0, none⟩ (.int .i64 n7) fun h8 =>
    oI .i64 (cell h8 ⟨g1, 1, none⟩) fun n9 =>
    ST1 h8 ⟨g5, 1, none⟩ (.int .i64 n9) fun h10 =>
    oI .i64 (cell h10 ⟨g1, 2, none⟩) fun n11 =>
    ST1 h10 ⟨g5, 2, none⟩ (.int .i64 n11) fun h12 =>
    oI .i64 (cell h12 ⟨g1, 3, none⟩) fun n13 =>
    ST1 h12 ⟨g5, 3, none⟩ (.int .i64 n13) fun h14 =>
    oI .i64 (cell h14 ⟨g1, 4, none⟩) fun n15 =>
    ST1 h14 ⟨g5, 4, none⟩ (.int .i64 n15) fun h16 =>
    oF .f32 (cell h16 ⟨g1, 5, none⟩) fun r17 =>
    ST1 h16 ⟨g5, 5, none⟩ (.float .f32 r17) fun h18 =>
    LDA 6 h18 ⟨g5, 0, none⟩ fun a19 =>
    STA 6 h18 ⟨g3, 0, none⟩ a19 fun h20 =>
    LDA 6 h20 ⟨g3, 0, none⟩ fun a21 =>
    Post (.agg a21) h20) h4) h2) h
noncomputable def laws_toEvent.code : Code := (Tryz.f91.body).getD .skip
theorem laws_toEvent.call {a_0 : Array Value} {Post : Value → Heap → Prop} {h : Heap} (H : laws_toEvent.S a_0 Post h) : CALL prg f_laws_toEvent #[.agg a_0] Post h :=
  fn_call tau_ok mixed (c := laws_toEvent.code) (Λ := lookL []) Tryz.func91 (by kernel_rfl) (by kernel_rfl)
    (Rq.free (by kernel_rfl))
    (Eq.mp (by kernel_rfl) H)

def laws_toEventS.B3 (Post : Value → Heap → Prop) (N3 : (Option Addr × Nat × Nat × Option Addr × Nat × Nat × Int) → Heap → Prop) : Option Addr × Nat × Nat × Option Addr × Nat × Nat × Int → Heap → Prop
  | (a_0b, a_0l, a_0c, out_3b, out_3l, out_3c, i_4), h =>
    BIF ((decide (i_4 < (a_0l : Int)))) (
    IDXS a_0b i_4 a_0l fun p7 =>
    LDA 6 h ((Addr.add p7 ((Int.toNat i_4) * 6))) fun a8 =>
    CALL prg f_laws_toEvent #[.agg a8] (fun q9 h10 =>
    asA q9 fun a11 =>
    IDXS out_3b i_4 out_3l fun p12 =>
    STA 6 h10 ((Addr.add p12 ((Int.toNat i_4) * 6))) a11 fun h13 =>
    N3 (a_0b, a_0l, a_0c, out_3b, out_3l, out_3c, ((IntKind.i64.wrap (i_4 + (1 : Int))))) h13) h) (
    Post (.slice out_3b out_3l out_3c) h)
def laws_toEventS.g3 (fr : Frame) : Option Addr × Nat × Nat × Option Addr × Nat × Nat × Int := ((gLb (lget fr 0)), (gLl (lget fr 0)), (gLc (lget fr 0)), (gLb (lget fr 3)), (gLl (lget fr 3)), (gLc (lget fr 3)), (gI (lget fr 4)))
def laws_toEventS.l3 (Post : Value → Heap → Prop) : Frame → Heap → Prop := fun fr h => GRD (shape (kds 23 [(0, .l), (3, .l), (4, .i .i64)]) fr) (LOOP (laws_toEventS.B3 Post) (laws_toEventS.g3 fr) h)
def laws_toEventS.S (a_0b : Option Addr) (a_0l a_0c : Nat) (Post : Value → Heap → Prop) (h : Heap) : Prop :=
    MKS ti_impl_Event T_impl_Event (a_0l : Int) (a_0l : Int) (fun g3 h4 =>
    LOOP (laws_toEventS.B3 Post) (a_0b, a_0l, a_0c, (some ⟨g3, 0, none⟩), a_0l, a_0l, (0 : Int)) h4) h
noncomputable def laws_toEventS.code : Code := (Tryz.f38.body).getD .skip
theorem laws_toEventS.call {a_0b : Option Addr} {a_0l a_0c : Nat} {Post : Value → Heap → Prop} {h : Heap} (H : laws_toEventS.S a_0b a_0l a_0c Post h) : CALL prg f_laws_toEventS #[.slice a_0b a_0l a_0c] Post h :=
  fn_call tau_ok mixed (c := laws_toEventS.code) (Λ := lookL [(1000003, laws_toEventS.l3 Post)]) Tryz.func38 (by kernel_rfl) (by kernel_rfl)
    (Rq.seq (by kernel_rfl) (Rq.free (by kernel_rfl)) (Rq.seq (by kernel_rfl) (Rq.free (by kernel_rfl)) (Rq.seq (by kernel_rfl) (Rq.seq (by kernel_rfl) (Rq.free (by kernel_rfl)) (Rq.block (Rq.loop (laws_toEventS.l3 Post) (by kernel_rfl) (segL (g := laws_toEventS.g3) tau_ok mixed (Λ := fun N3 => lookL []) (fun _ _ _ => by kernel_rfl) (fun N3 => (Rq.free (by kernel_rfl))))))) (Rq.free (by kernel_rfl)))))
    (Eq.mp (by kernel_rfl) H)

def laws_toScore.S (a_0 : Array Value) (Post : Value → Heap → Prop) (h : Heap) : Prop :=
    ALC a_0 T_laws_Score (fun g1 h2 =>
    ALC ⟨Z_impl_Score⟩ T_impl_Score (fun g3 h4 =>
    ALC ⟨Z_impl_Score⟩ T_impl_Score (fun g5 h6 =>
    oF .f32 (cell h6 ⟨g1, 0, none⟩) fun r7 =>
    ST1 h6 ⟨g5, 0, none⟩ (.float .f32 r7) fun h8 =>
    LDA 3 h8 ⟨g1, 1, none⟩ fun a9 =>
    CALL prg f_laws_toTuning #[.agg a9] (fun q10 h11 =>
    asA q10 fun a12 =>
    STA 3 h11 ⟨g5, 1, none⟩ a12 fun h13 =>
    oL (cell h13 ⟨g1, 4, none⟩) fun l14b l14l l14c =>
    CALL prg f_laws_toInstrumentS #[.slice l14b l14l l14c] (fun q15 h16 =>
    asL q15 fun l17b l17l l17c =>
    ST1 h16 ⟨g5, 4, none⟩ (.slice l17b l17l l17c) fun h18 =>
    oL (cell h18 ⟨g1, 5, none⟩) fun l19b l19l l19c =>
    CALL prg f_laws_toEventS #[.slice l19b l19l l19c] (fun q20 h21 =>
    asL q20 fun l22b l22l l22c =>
    ST1 h21 ⟨g5, 5, none⟩ (.slice l22b l22l l22c) fun h23 =>
    LDA 6 h23 ⟨g5, 0, none⟩ fun a24 =>
    STA 6 h23 ⟨g3, 0, none⟩ a24 fun h25 =>
    LDA 6 h25 ⟨g3, 0, none⟩ fun a26 =>
    Post (.agg a26) h25) h18) h13) h8) h4) h2) h
noncomputable def laws_toScore.code : Code := (Tryz.f12.body).getD .skip
theorem laws_toScore.call {a_0 : Array Value} {Post : Value → Heap → Prop} {h : Heap} (H : laws_toScore.S a_0 Post h) : CALL prg f_laws_toScore #[.agg a_0] Post h :=
  fn_call tau_ok mixed (c := laws_toScore.code) (Λ := lookL []) Tryz.func12 (by kernel_rfl) (by kernel_rfl)
    (Rq.free (by kernel_rfl))
    (Eq.mp (by kernel_rfl) H)

def laws_toString.S (a_0 : Array Value) (Post : Value → Heap → Prop) (h : Heap) : Prop :=
    ALC a_0 T_laws_String (fun g1 h2 =>
    ALC ⟨Z_impl_String⟩ T_impl_String (fun g3 h4 =>
    ALC ⟨Z_impl_String⟩ T_impl_String (fun g5 h6 =>
    LDA 2 h6 ⟨g1, 0, none⟩ fun a7 =>
    CALL prg f_laws_toRing #[.agg a7] (fun q8 h9 =>
    asA q8 fun a10 =>
    STA 2 h9 ⟨g5, 0, none⟩ a10 fun h11 =>
    LDA 6 h11 ⟨g1, 2, none⟩ fun a12 =>
    CALL prg f_laws_toFilter #[.agg a12] (fun q13 h14 =>
    asA q13 fun a15 =>
    STA 6 h14 ⟨g5, 2, none⟩ a15 fun h16 =>
    LDA 6 h16 ⟨g1, 8, none⟩ fun a17 =>
    CALL prg f_laws_toFilter #[.agg a17] (fun q18 h19 =>
    asA q18 fun a20 =>
    STA 6 h19 ⟨g5, 8, none⟩ a20 fun h21 =>
    oF .f32 (cell h21 ⟨g1, 14, none⟩) fun r22 =>
    ST1 h21 ⟨g5, 14, none⟩ (.float .f32 r22) fun h23 =>
    LDA 15 h23 ⟨g5, 0, none⟩ fun a24 =>
    STA 15 h23 ⟨g3, 0, none⟩ a24 fun h25 =>
    LDA 15 h25 ⟨g3, 0, none⟩ fun a26 =>
    Post (.agg a26) h25) h16) h11) h6) h4) h2) h
noncomputable def laws_toString.code : Code := (Tryz.f145.body).getD .skip
theorem laws_toString.call {a_0 : Array Value} {Post : Value → Heap → Prop} {h : Heap} (H : laws_toString.S a_0 Post h) : CALL prg f_laws_toString #[.agg a_0] Post h :=
  fn_call tau_ok mixed (c := laws_toString.code) (Λ := lookL []) Tryz.func145 (by kernel_rfl) (by kernel_rfl)
    (Rq.free (by kernel_rfl))
    (Eq.mp (by kernel_rfl) H)

def laws_toBow.S (a_0 : Array Value) (Post : Value → Heap → Prop) (h : Heap) : Prop :=
    ALC a_0 T_laws_Bow (fun g1 h2 =>
    ALC ⟨Z_impl_Bow⟩ T_impl_Bow (fun g3 h4 =>
    ALC ⟨Z_impl_Bow⟩ T_impl_Bow (fun g5 h6 =>
    LDA 2 h6 ⟨g1, 0, none⟩ fun a7 =>
    CALL prg f_laws_toRing #[.agg a7] (fun q8 h9 =>
    asA q8 fun a10 =>
    STA 2 h9 ⟨g5, 0, none⟩ a10 fun h11 =>
    LDA 2 h11 ⟨g1, 2, none⟩ fun a12 =>
    CALL prg f_laws_toRing #[.agg a12] (fun q13 h14 =>
    asA q13 fun a15 =>
    STA 2 h14 ⟨g5, 2, none⟩ a15 fun h16 =>
    LDA 6 h16 ⟨g1, 4, none⟩ fun a17 =>
    CALL prg f_laws_toFilter #[.agg a17] (fun q18 h19 =>
    asA q18 fun a20 =>
    STA 6 h19 ⟨g5, 4, none⟩ a20 fun h21 =>
    oF .f32 (cell h21 ⟨g1, 10, none⟩) fun r22 =>
    ST1 h21 ⟨g5, 10, none⟩ (.float .f32 r22) fun h23 =>
    oF .f32 (cell h23 ⟨g1, 11, none⟩) fun r24 =>
    ST1 h23 ⟨g5, 11, none⟩ (.float .f32 r24) fun h25 =>
    LDA 12 h25 ⟨g5, 0, none⟩ fun a26 =>
    STA 12 h25 ⟨g3, 0, none⟩ a26 fun h27 =>
    LDA 12 h27 ⟨g3, 0, none⟩ fun a28 =>
    Post (.agg a28) h27) h16) h11) h6) h4) h2) h
noncomputable def laws_toBow.code : Code := (Tryz.f147.body).getD .skip
theorem laws_toBow.call {a_0 : Array Value} {Post : Value → Heap → Prop} {h : Heap} (H : laws_toBow.S a_0 Post h) : CALL prg f_laws_toBow #[.agg a_0] Post h :=
  fn_call tau_ok mixed (c := laws_toBow.code) (Λ := lookL []) Tryz.func147 (by kernel_rfl) (by kernel_rfl)
    (Rq.free (by kernel_rfl))
    (Eq.mp (by kernel_rfl) H)

def laws_toVoice.S (a_0 : Array Value) (Post : Value → Heap → Prop) (h : Heap) : Prop :=
    ALC a_0 T_laws_Voice (fun g1 h2 =>
    ALC ⟨Z_impl_Voice⟩ T_impl_Voice (fun g3 h4 =>
    ALC ⟨Z_impl_Voice⟩ T_impl_Voice (fun g5 h6 =>
    oI .i64 (cell h6 ⟨g1, 0, none⟩) fun n7 =>
    ST1 h6 ⟨g5, 0, none⟩ (.int .i64 n7) fun h8 =>
    oI .i64 (cell h8 ⟨g1, 1, none⟩) fun n9 =>
    ST1 h8 ⟨g5, 1, none⟩ (.int .i64 n9) fun h10 =>
    oI .i64 (cell h10 ⟨g1, 2, none⟩) fun n11 =>
    ST1 h10 ⟨g5, 2, none⟩ (.int .i64 n11) fun h12 =>
    oB (cell h12 ⟨g1, 3, none⟩) fun b13 =>
    ST1 h12 ⟨g5, 3, none⟩ (.bool b13) fun h14 =>
    oF .f32 (cell h14 ⟨g1, 4, none⟩) fun r15 =>
    ST1 h14 ⟨g5, 4, none⟩ (.float .f32 r15) fun h16 =>
    LDA 15 h16 ⟨g1, 5, none⟩ fun a17 =>
    CALL prg f_laws_toString #[.agg a17] (fun q18 h19 =>
    asA q18 fun a20 =>
    STA 15 h19 ⟨g5, 5, none⟩ a20 fun h21 =>
    LDA 13 h21 ⟨g1, 20, none⟩ fun a22 =>
    CALL prg f_laws_toPipe #[.agg a22] (fun q23 h24 =>
    asA q23 fun a25 =>
    STA 13 h24 ⟨g5, 20, none⟩ a25 fun h26 =>
    LDA 12 h26 ⟨g1, 33, none⟩ fun a27 =>
    CALL prg f_laws_toBow #[.agg a27] (fun q28 h29 =>
    asA q28 fun a30 =>
    STA 12 h29 ⟨g5, 33, none⟩ a30 fun h31 =>
    LDA 45 h31 ⟨g5, 0, none⟩ fun a32 =>
    STA 45 h31 ⟨g3, 0, none⟩ a32 fun h33 =>
    LDA 45 h33 ⟨g3, 0, none⟩ fun a34 =>
    Post (.agg a34) h33) h26) h21) h16) h4) h2) h
noncomputable def laws_toVoice.code : Code := (Tryz.f67.body).getD .skip
theorem laws_toVoice.call {a_0 : Array Value} {Post : Value → Heap → Prop} {h : Heap} (H : laws_toVoice.S a_0 Post h) : CALL prg f_laws_toVoice #[.agg a_0] Post h :=
  fn_call tau_ok mixed (c := laws_toVoice.code) (Λ := lookL []) Tryz.func67 (by kernel_rfl) (by kernel_rfl)
    (Rq.free (by kernel_rfl))
    (Eq.mp (by kernel_rfl) H)

def laws_toVoiceS.B3 (Post : Value → Heap → Prop) (N3 : (Option Addr × Nat × Nat × Option Addr × Nat × Nat × Int) → Heap → Prop) : Option Addr × Nat × Nat × Option Addr × Nat × Nat × Int → Heap → Prop
  | (a_0b, a_0l, a_0c, out_3b, out_3l, out_3c, i_4), h =>
    BIF ((decide (i_4 < (a_0l : Int)))) (
    IDXS a_0b i_4 a_0l fun p7 =>
    LDA 45 h ((Addr.add p7 ((Int.toNat i_4) * 45))) fun a8 =>
    CALL prg f_laws_toVoice #[.agg a8] (fun q9 h10 =>
    asA q9 fun a11 =>
    IDXS out_3b i_4 out_3l fun p12 =>
    STA 45 h10 ((Addr.add p12 ((Int.toNat i_4) * 45))) a11 fun h13 =>
    N3 (a_0b, a_0l, a_0c, out_3b, out_3l, out_3c, ((IntKind.i64.wrap (i_4 + (1 : Int))))) h13) h) (
    Post (.slice out_3b out_3l out_3c) h)
def laws_toVoiceS.g3 (fr : Frame) : Option Addr × Nat × Nat × Option Addr × Nat × Nat × Int := ((gLb (lget fr 0)), (gLl (lget fr 0)), (gLc (lget fr 0)), (gLb (lget fr 3)), (gLl (lget fr 3)), (gLc (lget fr 3)), (gI (lget fr 4)))
def laws_toVoiceS.l3 (Post : Value → Heap → Prop) : Frame → Heap → Prop := fun fr h => GRD (shape (kds 23 [(0, .l), (3, .l), (4, .i .i64)]) fr) (LOOP (laws_toVoiceS.B3 Post) (laws_toVoiceS.g3 fr) h)
def laws_toVoiceS.S (a_0b : Option Addr) (a_0l a_0c : Nat) (Post : Value → Heap → Prop) (h : Heap) : Prop :=
    MKS ti_impl_Voice T_impl_Voice (a_0l : Int) (a_0l : Int) (fun g3 h4 =>
    LOOP (laws_toVoiceS.B3 Post) (a_0b, a_0l, a_0c, (some ⟨g3, 0, none⟩), a_0l, a_0l, (0 : Int)) h4) h
noncomputable def laws_toVoiceS.code : Code := (Tryz.f22.body).getD .skip
theorem laws_toVoiceS.call {a_0b : Option Addr} {a_0l a_0c : Nat} {Post : Value → Heap → Prop} {h : Heap} (H : laws_toVoiceS.S a_0b a_0l a_0c Post h) : CALL prg f_laws_toVoiceS #[.slice a_0b a_0l a_0c] Post h :=
  fn_call tau_ok mixed (c := laws_toVoiceS.code) (Λ := lookL [(1000003, laws_toVoiceS.l3 Post)]) Tryz.func22 (by kernel_rfl) (by kernel_rfl)
    (Rq.seq (by kernel_rfl) (Rq.free (by kernel_rfl)) (Rq.seq (by kernel_rfl) (Rq.free (by kernel_rfl)) (Rq.seq (by kernel_rfl) (Rq.seq (by kernel_rfl) (Rq.free (by kernel_rfl)) (Rq.block (Rq.loop (laws_toVoiceS.l3 Post) (by kernel_rfl) (segL (g := laws_toVoiceS.g3) tau_ok mixed (Λ := fun N3 => lookL []) (fun _ _ _ => by kernel_rfl) (fun N3 => (Rq.free (by kernel_rfl))))))) (Rq.free (by kernel_rfl)))))
    (Eq.mp (by kernel_rfl) H)

def laws_toPlayer.S (a_0 : Array Value) (Post : Value → Heap → Prop) (h : Heap) : Prop :=
    ALC a_0 T_laws_Player (fun g1 h2 =>
    ALC ⟨Z_impl_Player⟩ T_impl_Player (fun g3 h4 =>
    ALC ⟨Z_impl_Player⟩ T_impl_Player (fun g5 h6 =>
    LDA 6 h6 ⟨g1, 0, none⟩ fun a7 =>
    CALL prg f_laws_toScore #[.agg a7] (fun q8 h9 =>
    asA q8 fun a10 =>
    STA 6 h9 ⟨g5, 0, none⟩ a10 fun h11 =>
    oL (cell h11 ⟨g1, 6, none⟩) fun l12b l12l l12c =>
    CALL prg f_laws_toVoiceS #[.slice l12b l12l l12c] (fun q13 h14 =>
    asL q13 fun l15b l15l l15c =>
    ST1 h14 ⟨g5, 6, none⟩ (.slice l15b l15l l15c) fun h16 =>
    oI .i64 (cell h16 ⟨g1, 7, none⟩) fun n17 =>
    ST1 h16 ⟨g5, 7, none⟩ (.int .i64 n17) fun h18 =>
    oI .i64 (cell h18 ⟨g1, 8, none⟩) fun n19 =>
    ST1 h18 ⟨g5, 8, none⟩ (.int .i64 n19) fun h20 =>
    oI .i64 (cell h20 ⟨g1, 9, none⟩) fun n21 =>
    ST1 h20 ⟨g5, 9, none⟩ (.int .i64 n21) fun h22 =>
    LDA 10 h22 ⟨g5, 0, none⟩ fun a23 =>
    STA 10 h22 ⟨g3, 0, none⟩ a23 fun h24 =>
    LDA 10 h24 ⟨g3, 0, none⟩ fun a25 =>
    Post (.agg a25) h24) h11) h6) h4) h2) h
noncomputable def laws_toPlayer.code : Code := (Tryz.f7.body).getD .skip
theorem laws_toPlayer.call {a_0 : Array Value} {Post : Value → Heap → Prop} {h : Heap} (H : laws_toPlayer.S a_0 Post h) : CALL prg f_laws_toPlayer #[.agg a_0] Post h :=
  fn_call tau_ok mixed (c := laws_toPlayer.code) (Λ := lookL []) Tryz.func7 (by kernel_rfl) (by kernel_rfl)
    (Rq.free (by kernel_rfl))
    (Eq.mp (by kernel_rfl) H)

def laws_eqTuning.S (a_0 : Array Value) (b_1 : Array Value) (Post : Value → Heap → Prop) (h : Heap) : Prop :=
    ALC a_0 T_impl_Tuning (fun g1 h2 =>
    ALC b_1 T_impl_Tuning (fun g3 h4 =>
    oF .f32 (cell h4 ⟨g1, 0, none⟩) fun r5 =>
    FFC .f32 r5 .f64 fun r6 =>
    oF .f32 (cell h4 ⟨g3, 0, none⟩) fun r7 =>
    FFC .f32 r7 .f64 fun r8 =>
    CALL prg f_laws_sameFloat #[.float .f64 r6, .float .f64 r8] (fun q9 h10 =>
    asB q9 fun b11 =>
    BIF (!b11) (
    Post (.bool false) h10) (
    oF .f32 (cell h10 ⟨g1, 1, none⟩) fun r12 =>
    FFC .f32 r12 .f64 fun r13 =>
    oF .f32 (cell h10 ⟨g3, 1, none⟩) fun r14 =>
    FFC .f32 r14 .f64 fun r15 =>
    CALL prg f_laws_sameFloat #[.float .f64 r13, .float .f64 r15] (fun q16 h17 =>
    asB q16 fun b18 =>
    BIF (!b18) (
    Post (.bool false) h17) (
    oL (cell h17 ⟨g1, 2, none⟩) fun l19b l19l l19c =>
    oL (cell h17 ⟨g3, 2, none⟩) fun l20b l20l l20c =>
    CALL prg f_laws_eqFloat32S #[.slice l19b l19l l19c, .slice l20b l20l l20c] (fun q21 h22 =>
    asB q21 fun b23 =>
    BIF (!b23) (
    Post (.bool false) h22) (
    Post (.bool true) h22)) h17)) h10)) h4) h2) h
noncomputable def laws_eqTuning.code : Code := (Tryz.f50.body).getD .skip
theorem laws_eqTuning.call {a_0 : Array Value} {b_1 : Array Value} {Post : Value → Heap → Prop} {h : Heap} (H : laws_eqTuning.S a_0 b_1 Post h) : CALL prg f_laws_eqTuning #[.agg a_0, .agg b_1] Post h :=
  fn_call tau_ok mixed (c := laws_eqTuning.code) (Λ := lookL []) Tryz.func50 (by kernel_rfl) (by kernel_rfl)
    (Rq.free (by kernel_rfl))
    (Eq.mp (by kernel_rfl) H)

def laws_eqInstrument.S (a_0 : Array Value) (b_1 : Array Value) (Post : Value → Heap → Prop) (h : Heap) : Prop :=
    ALC a_0 T_impl_Instrument (fun g1 h2 =>
    ALC b_1 T_impl_Instrument (fun g3 h4 =>
    oS (cell h4 ⟨g1, 0, none⟩) fun s5 =>
    oS (cell h4 ⟨g3, 0, none⟩) fun s6 =>
    BIF (!(ByteArray.toList s5 == ByteArray.toList s6)) (
    Post (.bool false) h4) (
    oI .i64 (cell h4 ⟨g1, 1, none⟩) fun n7 =>
    oI .i64 (cell h4 ⟨g3, 1, none⟩) fun n8 =>
    BIF (n7 != n8) (
    Post (.bool false) h4) (
    oF .f32 (cell h4 ⟨g1, 2, none⟩) fun r9 =>
    FFC .f32 r9 .f64 fun r10 =>
    oF .f32 (cell h4 ⟨g3, 2, none⟩) fun r11 =>
    FFC .f32 r11 .f64 fun r12 =>
    CALL prg f_laws_sameFloat #[.float .f64 r10, .float .f64 r12] (fun q13 h14 =>
    asB q13 fun b15 =>
    BIF (!b15) (
    Post (.bool false) h14) (
    oF .f32 (cell h14 ⟨g1, 3, none⟩) fun r16 =>
    FFC .f32 r16 .f64 fun r17 =>
    oF .f32 (cell h14 ⟨g3, 3, none⟩) fun r18 =>
    FFC .f32 r18 .f64 fun r19 =>
    CALL prg f_laws_sameFloat #[.float .f64 r17, .float .f64 r19] (fun q20 h21 =>
    asB q20 fun b22 =>
    BIF (!b22) (
    Post (.bool false) h21) (
    oF .f32 (cell h21 ⟨g1, 4, none⟩) fun r23 =>
    FFC .f32 r23 .f64 fun r24 =>
    oF .f32 (cell h21 ⟨g3, 4, none⟩) fun r25 =>
    FFC .f32 r25 .f64 fun r26 =>
    CALL prg f_laws_sameFloat #[.float .f64 r24, .float .f64 r26] (fun q27 h28 =>
    asB q27 fun b29 =>
    BIF (!b29) (
    Post (.bool false) h28) (
    Post (.bool true) h28)) h21)) h14)) h4))) h2) h
noncomputable def laws_eqInstrument.code : Code := (Tryz.f119.body).getD .skip
theorem laws_eqInstrument.call {a_0 : Array Value} {b_1 : Array Value} {Post : Value → Heap → Prop} {h : Heap} (H : laws_eqInstrument.S a_0 b_1 Post h) : CALL prg f_laws_eqInstrument #[.agg a_0, .agg b_1] Post h :=
  fn_call tau_ok mixed (c := laws_eqInstrument.code) (Λ := lookL []) Tryz.func119 (by kernel_rfl) (by kernel_rfl)
    (Rq.free (by kernel_rfl))
    (Eq.mp (by kernel_rfl) H)

def laws_eqInstrumentS.B4 (Post : Value → Heap → Prop) (N4 : (Option Addr × Nat × Nat × Option Addr × Nat × Nat × Int) → Heap → Prop) : Option Addr × Nat × Nat × Option Addr × Nat × Nat × Int → Heap → Prop
  | (a_0b, a_0l, a_0c, b_1b, b_1l, b_1c, i_5), h =>
    BIF ((decide (i_5 < (a_0l : Int)))) (
    IDXS a_0b i_5 a_0l fun p7 =>
    LDA 5 h ((Addr.add p7 ((Int.toNat i_5) * 5))) fun a8 =>
    IDXS b_1b i_5 b_1l fun p9 =>
    LDA 5 h ((Addr.add p9 ((Int.toNat i_5) * 5))) fun a10 =>
    CALL prg f_laws_eqInstrument #[.agg a8, .agg a10] (fun q11 h12 =>
    asB q11 fun b13 =>
    BIF (!b13) (
    Post (.bool false) h12) (
    N4 (a_0b, a_0l, a_0c, b_1b, b_1l, b_1c, ((IntKind.i64.wrap (i_5 + (1 : Int))))) h12)) h) (
    Post (.bool true) h)
def laws_eqInstrumentS.g4 (fr : Frame) : Option Addr × Nat × Nat × Option Addr × Nat × Nat × Int := ((gLb (lget fr 0)), (gLl (lget fr 0)), (gLc (lget fr 0)), (gLb (lget fr 1)), (gLl (lget fr 1)), (gLc (lget fr 1)), (gI (lget fr 5)))
def laws_eqInstrumentS.l4 (Post : Value → Heap → Prop) : Frame → Heap → Prop := fun fr h => GRD (shape (kds 27 [(0, .l), (1, .l), (5, .i .i64)]) fr) (LOOP (laws_eqInstrumentS.B4 Post) (laws_eqInstrumentS.g4 fr) h)
def laws_eqInstrumentS.S (a_0b : Option Addr) (a_0l a_0c : Nat) (b_1b : Option Addr) (b_1l b_1c : Nat) (Post : Value → Heap → Prop) (h : Heap) : Prop :=
    BIF ((a_0l : Int) != (b_1l : Int)) (
    Post (.bool false) h) (
    LOOP (laws_eqInstrumentS.B4 Post) (a_0b, a_0l, a_0c, b_1b, b_1l, b_1c, (0 : Int)) h)
noncomputable def laws_eqInstrumentS.code : Code := (Tryz.f51.body).getD .skip
theorem laws_eqInstrumentS.call {a_0b : Option Addr} {a_0l a_0c : Nat} {b_1b : Option Addr} {b_1l b_1c : Nat} {Post : Value → Heap → Prop} {h : Heap} (H : laws_eqInstrumentS.S a_0b a_0l a_0c b_1b b_1l b_1c Post h) : CALL prg f_laws_eqInstrumentS #[.slice a_0b a_0l a_0c, .slice b_1b b_1l b_1c] Post h :=
  fn_call tau_ok mixed (c := laws_eqInstrumentS.code) (Λ := lookL [(1000004, laws_eqInstrumentS.l4 Post)]) Tryz.func51 (by kernel_rfl) (by kernel_rfl)
    (Rq.seq (by kernel_rfl) (Rq.free (by kernel_rfl)) (Rq.seq (by kernel_rfl) (Rq.free (by kernel_rfl)) (Rq.seq (by kernel_rfl) (Rq.seq (by kernel_rfl) (Rq.free (by kernel_rfl)) (Rq.block (Rq.loop (laws_eqInstrumentS.l4 Post) (by kernel_rfl) (segL (g := laws_eqInstrumentS.g4) tau_ok mixed (Λ := fun N4 => lookL []) (fun _ _ _ => by kernel_rfl) (fun N4 => (Rq.free (by kernel_rfl))))))) (Rq.free (by kernel_rfl)))))
    (Eq.mp (by kernel_rfl) H)

def laws_eqEvent.S (a_0 : Array Value) (b_1 : Array Value) (Post : Value → Heap → Prop) (h : Heap) : Prop :=
    ALC a_0 T_impl_Event (fun g1 h2 =>
    ALC b_1 T_impl_Event (fun g3 h4 =>
    oI .i64 (cell h4 ⟨g1, 0, none⟩) fun n5 =>
    oI .i64 (cell h4 ⟨g3, 0, none⟩) fun n6 =>
    BIF (n5 != n6) (
    Post (.bool false) h4) (
    oI .i64 (cell h4 ⟨g1, 1, none⟩) fun n7 =>
    oI .i64 (cell h4 ⟨g3, 1, none⟩) fun n8 =>
    BIF (n7 != n8) (
    Post (.bool false) h4) (
    oI .i64 (cell h4 ⟨g1, 2, none⟩) fun n9 =>
    oI .i64 (cell h4 ⟨g3, 2, none⟩) fun n10 =>
    BIF (n9 != n10) (
    Post (.bool false) h4) (
    oI .i64 (cell h4 ⟨g1, 3, none⟩) fun n11 =>
    oI .i64 (cell h4 ⟨g3, 3, none⟩) fun n12 =>
    BIF (n11 != n12) (
    Post (.bool false) h4) (
    oI .i64 (cell h4 ⟨g1, 4, none⟩) fun n13 =>
    oI .i64 (cell h4 ⟨g3, 4, none⟩) fun n14 =>
    BIF (n13 != n14) (
    Post (.bool false) h4) (
    oF .f32 (cell h4 ⟨g1, 5, none⟩) fun r15 =>
    FFC .f32 r15 .f64 fun r16 =>
    oF .f32 (cell h4 ⟨g3, 5, none⟩) fun r17 =>
    FFC .f32 r17 .f64 fun r18 =>
    CALL prg f_laws_sameFloat #[.float .f64 r16, .float .f64 r18] (fun q19 h20 =>
    asB q19 fun b21 =>
    BIF (!b21) (
    Post (.bool false) h20) (
    Post (.bool true) h20)) h4)))))) h2) h
noncomputable def laws_eqEvent.code : Code := (Tryz.f120.body).getD .skip
theorem laws_eqEvent.call {a_0 : Array Value} {b_1 : Array Value} {Post : Value → Heap → Prop} {h : Heap} (H : laws_eqEvent.S a_0 b_1 Post h) : CALL prg f_laws_eqEvent #[.agg a_0, .agg b_1] Post h :=
  fn_call tau_ok mixed (c := laws_eqEvent.code) (Λ := lookL []) Tryz.func120 (by kernel_rfl) (by kernel_rfl)
    (Rq.free (by kernel_rfl))
    (Eq.mp (by kernel_rfl) H)

def laws_eqEventS.B4 (Post : Value → Heap → Prop) (N4 : (Option Addr × Nat × Nat × Option Addr × Nat × Nat × Int) → Heap → Prop) : Option Addr × Nat × Nat × Option Addr × Nat × Nat × Int → Heap → Prop
  | (a_0b, a_0l, a_0c, b_1b, b_1l, b_1c, i_5), h =>
    BIF ((decide (i_5 < (a_0l : Int)))) (
    IDXS a_0b i_5 a_0l fun p7 =>
    LDA 6 h ((Addr.add p7 ((Int.toNat i_5) * 6))) fun a8 =>
    IDXS b_1b i_5 b_1l fun p9 =>
    LDA 6 h ((Addr.add p9 ((Int.toNat i_5) * 6))) fun a10 =>
    CALL prg f_laws_eqEvent #[.agg a8, .agg a10] (fun q11 h12 =>
    asB q11 fun b13 =>
    BIF (!b13) (
    Post (.bool false) h12) (
    N4 (a_0b, a_0l, a_0c, b_1b, b_1l, b_1c, ((IntKind.i64.wrap (i_5 + (1 : Int))))) h12)) h) (
    Post (.bool true) h)
def laws_eqEventS.g4 (fr : Frame) : Option Addr × Nat × Nat × Option Addr × Nat × Nat × Int := ((gLb (lget fr 0)), (gLl (lget fr 0)), (gLc (lget fr 0)), (gLb (lget fr 1)), (gLl (lget fr 1)), (gLc (lget fr 1)), (gI (lget fr 5)))
def laws_eqEventS.l4 (Post : Value → Heap → Prop) : Frame → Heap → Prop := fun fr h => GRD (shape (kds 27 [(0, .l), (1, .l), (5, .i .i64)]) fr) (LOOP (laws_eqEventS.B4 Post) (laws_eqEventS.g4 fr) h)
def laws_eqEventS.S (a_0b : Option Addr) (a_0l a_0c : Nat) (b_1b : Option Addr) (b_1l b_1c : Nat) (Post : Value → Heap → Prop) (h : Heap) : Prop :=
    BIF ((a_0l : Int) != (b_1l : Int)) (
    Post (.bool false) h) (
    LOOP (laws_eqEventS.B4 Post) (a_0b, a_0l, a_0c, b_1b, b_1l, b_1c, (0 : Int)) h)
noncomputable def laws_eqEventS.code : Code := (Tryz.f52.body).getD .skip
theorem laws_eqEventS.call {a_0b : Option Addr} {a_0l a_0c : Nat} {b_1b : Option Addr} {b_1l b_1c : Nat} {Post : Value → Heap → Prop} {h : Heap} (H : laws_eqEventS.S a_0b a_0l a_0c b_1b b_1l b_1c Post h) : CALL prg f_laws_eqEventS #[.slice a_0b a_0l a_0c, .slice b_1b b_1l b_1c] Post h :=
  fn_call tau_ok mixed (c := laws_eqEventS.code) (Λ := lookL [(1000004, laws_eqEventS.l4 Post)]) Tryz.func52 (by kernel_rfl) (by kernel_rfl)
    (Rq.seq (by kernel_rfl) (Rq.free (by kernel_rfl)) (Rq.seq (by kernel_rfl) (Rq.free (by kernel_rfl)) (Rq.seq (by kernel_rfl) (Rq.seq (by kernel_rfl) (Rq.free (by kernel_rfl)) (Rq.block (Rq.loop (laws_eqEventS.l4 Post) (by kernel_rfl) (segL (g := laws_eqEventS.g4) tau_ok mixed (Λ := fun N4 => lookL []) (fun _ _ _ => by kernel_rfl) (fun N4 => (Rq.free (by kernel_rfl))))))) (Rq.free (by kernel_rfl)))))
    (Eq.mp (by kernel_rfl) H)

def laws_eqScore.S (a_0 : Array Value) (b_1 : Array Value) (Post : Value → Heap → Prop) (h : Heap) : Prop :=
    ALC a_0 T_impl_Score (fun g1 h2 =>
    ALC b_1 T_impl_Score (fun g3 h4 =>
    oF .f32 (cell h4 ⟨g1, 0, none⟩) fun r5 =>
    FFC .f32 r5 .f64 fun r6 =>
    oF .f32 (cell h4 ⟨g3, 0, none⟩) fun r7 =>
    FFC .f32 r7 .f64 fun r8 =>
    CALL prg f_laws_sameFloat #[.float .f64 r6, .float .f64 r8] (fun q9 h10 =>
    asB q9 fun b11 =>
    BIF (!b11) (
    Post (.bool false) h10) (
    LDA 3 h10 ⟨g1, 1, none⟩ fun a12 =>
    LDA 3 h10 ⟨g3, 1, none⟩ fun a13 =>
    CALL prg f_laws_eqTuning #[.agg a12, .agg a13] (fun q14 h15 =>
    asB q14 fun b16 =>
    BIF (!b16) (
    Post (.bool false) h15) (
    oL (cell h15 ⟨g1, 4, none⟩) fun l17b l17l l17c =>
    oL (cell h15 ⟨g3, 4, none⟩) fun l18b l18l l18c =>
    CALL prg f_laws_eqInstrumentS #[.slice l17b l17l l17c, .slice l18b l18l l18c] (fun q19 h20 =>
    asB q19 fun b21 =>
    BIF (!b21) (
    Post (.bool false) h20) (
    oL (cell h20 ⟨g1, 5, none⟩) fun l22b l22l l22c =>
    oL (cell h20 ⟨g3, 5, none⟩) fun l23b l23l l23c =>
    CALL prg f_laws_eqEventS #[.slice l22b l22l l22c, .slice l23b l23l l23c] (fun q24 h25 =>
    asB q24 fun b26 =>
    BIF (!b26) (
    Post (.bool false) h25) (
    Post (.bool true) h25)) h20)) h15)) h10)) h4) h2) h
noncomputable def laws_eqScore.code : Code := (Tryz.f14.body).getD .skip
theorem laws_eqScore.call {a_0 : Array Value} {b_1 : Array Value} {Post : Value → Heap → Prop} {h : Heap} (H : laws_eqScore.S a_0 b_1 Post h) : CALL prg f_laws_eqScore #[.agg a_0, .agg b_1] Post h :=
  fn_call tau_ok mixed (c := laws_eqScore.code) (Λ := lookL []) Tryz.func14 (by kernel_rfl) (by kernel_rfl)
    (Rq.free (by kernel_rfl))
    (Eq.mp (by kernel_rfl) H)

def laws_eqString.S (a_0 : Array Value) (b_1 : Array Value) (Post : Value → Heap → Prop) (h : Heap) : Prop :=
    ALC a_0 T_impl_String (fun g1 h2 =>
    ALC b_1 T_impl_String (fun g3 h4 =>
    LDA 2 h4 ⟨g1, 0, none⟩ fun a5 =>
    LDA 2 h4 ⟨g3, 0, none⟩ fun a6 =>
    CALL prg f_laws_eqRing #[.agg a5, .agg a6] (fun q7 h8 =>
    asB q7 fun b9 =>
    BIF (!b9) (
    Post (.bool false) h8) (
    LDA 6 h8 ⟨g1, 2, none⟩ fun a10 =>
    LDA 6 h8 ⟨g3, 2, none⟩ fun a11 =>
    CALL prg f_laws_eqFilter #[.agg a10, .agg a11] (fun q12 h13 =>
    asB q12 fun b14 =>
    BIF (!b14) (
    Post (.bool false) h13) (
    LDA 6 h13 ⟨g1, 8, none⟩ fun a15 =>
    LDA 6 h13 ⟨g3, 8, none⟩ fun a16 =>
    CALL prg f_laws_eqFilter #[.agg a15, .agg a16] (fun q17 h18 =>
    asB q17 fun b19 =>
    BIF (!b19) (
    Post (.bool false) h18) (
    oF .f32 (cell h18 ⟨g1, 14, none⟩) fun r20 =>
    FFC .f32 r20 .f64 fun r21 =>
    oF .f32 (cell h18 ⟨g3, 14, none⟩) fun r22 =>
    FFC .f32 r22 .f64 fun r23 =>
    CALL prg f_laws_sameFloat #[.float .f64 r21, .float .f64 r23] (fun q24 h25 =>
    asB q24 fun b26 =>
    BIF (!b26) (
    Post (.bool false) h25) (
    Post (.bool true) h25)) h18)) h13)) h8)) h4) h2) h
noncomputable def laws_eqString.code : Code := (Tryz.f165.body).getD .skip
theorem laws_eqString.call {a_0 : Array Value} {b_1 : Array Value} {Post : Value → Heap → Prop} {h : Heap} (H : laws_eqString.S a_0 b_1 Post h) : CALL prg f_laws_eqString #[.agg a_0, .agg b_1] Post h :=
  fn_call tau_ok mixed (c := laws_eqString.code) (Λ := lookL []) Tryz.func165 (by kernel_rfl) (by kernel_rfl)
    (Rq.free (by kernel_rfl))
    (Eq.mp (by kernel_rfl) H)

def laws_eqBow.S (a_0 : Array Value) (b_1 : Array Value) (Post : Value → Heap → Prop) (h : Heap) : Prop :=
    ALC a_0 T_impl_Bow (fun g1 h2 =>
    ALC b_1 T_impl_Bow (fun g3 h4 =>
    LDA 2 h4 ⟨g1, 0, none⟩ fun a5 =>
    LDA 2 h4 ⟨g3, 0, none⟩ fun a6 =>
    CALL prg f_laws_eqRing #[.agg a5, .agg a6] (fun q7 h8 =>
    asB q7 fun b9 =>
    BIF (!b9) (
    Post (.bool false) h8) (
    LDA 2 h8 ⟨g1, 2, none⟩ fun a10 =>
    LDA 2 h8 ⟨g3, 2, none⟩ fun a11 =>
    CALL prg f_laws_eqRing #[.agg a10, .agg a11] (fun q12 h13 =>
    asB q12 fun b14 =>
    BIF (!b14) (
    Post (.bool false) h13) (
    LDA 6 h13 ⟨g1, 4, none⟩ fun a15 =>
    LDA 6 h13 ⟨g3, 4, none⟩ fun a16 =>
    CALL prg f_laws_eqFilter #[.agg a15, .agg a16] (fun q17 h18 =>
    asB q17 fun b19 =>
    BIF (!b19) (
    Post (.bool false) h18) (
    oF .f32 (cell h18 ⟨g1, 10, none⟩) fun r20 =>
    FFC .f32 r20 .f64 fun r21 =>
    oF .f32 (cell h18 ⟨g3, 10, none⟩) fun r22 =>
    FFC .f32 r22 .f64 fun r23 =>
    CALL prg f_laws_sameFloat #[.float .f64 r21, .float .f64 r23] (fun q24 h25 =>
    asB q24 fun b26 =>
    BIF (!b26) (
    Post (.bool false) h25) (
    oF .f32 (cell h25 ⟨g1, 11, none⟩) fun r27 =>
    FFC .f32 r27 .f64 fun r28 =>
    oF .f32 (cell h25 ⟨g3, 11, none⟩) fun r29 =>
    FFC .f32 r29 .f64 fun r30 =>
    CALL prg f_laws_sameFloat #[.float .f64 r28, .float .f64 r30] (fun q31 h32 =>
    asB q31 fun b33 =>
    BIF (!b33) (
    Post (.bool false) h32) (
    Post (.bool true) h32)) h25)) h18)) h13)) h8)) h4) h2) h
noncomputable def laws_eqBow.code : Code := (Tryz.f167.body).getD .skip
theorem laws_eqBow.call {a_0 : Array Value} {b_1 : Array Value} {Post : Value → Heap → Prop} {h : Heap} (H : laws_eqBow.S a_0 b_1 Post h) : CALL prg f_laws_eqBow #[.agg a_0, .agg b_1] Post h :=
  fn_call tau_ok mixed (c := laws_eqBow.code) (Λ := lookL []) Tryz.func167 (by kernel_rfl) (by kernel_rfl)
    (Rq.free (by kernel_rfl))
    (Eq.mp (by kernel_rfl) H)

def laws_eqVoice.S (a_0 : Array Value) (b_1 : Array Value) (Post : Value → Heap → Prop) (h : Heap) : Prop :=
    ALC a_0 T_impl_Voice (fun g1 h2 =>
    ALC b_1 T_impl_Voice (fun g3 h4 =>
    oI .i64 (cell h4 ⟨g1, 0, none⟩) fun n5 =>
    oI .i64 (cell h4 ⟨g3, 0, none⟩) fun n6 =>
    BIF (n5 != n6) (
    Post (.bool false) h4) (
    oI .i64 (cell h4 ⟨g1, 1, none⟩) fun n7 =>
    oI .i64 (cell h4 ⟨g3, 1, none⟩) fun n8 =>
    BIF (n7 != n8) (
    Post (.bool false) h4) (
    oI .i64 (cell h4 ⟨g1, 2, none⟩) fun n9 =>
    oI .i64 (cell h4 ⟨g3, 2, none⟩) fun n10 =>
    BIF (n9 != n10) (
    Post (.bool false) h4) (
    oB (cell h4 ⟨g1, 3, none⟩) fun b11 =>
    oB (cell h4 ⟨g3, 3, none⟩) fun b12 =>
    BIF (!(b11 == b12)) (
    Post (.bool false) h4) (
    oF .f32 (cell h4 ⟨g1, 4, none⟩) fun r13 =>
    FFC .f32 r13 .f64 fun r14 =>
    oF .f32 (cell h4 ⟨g3, 4, none⟩) fun r15 =>
    FFC .f32 r15 .f64 fun r16 =>
    CALL prg f_laws_sameFloat #[.float .f64 r14, .float .f64 r16] (fun q17 h18 =>
    asB q17 fun b19 =>
    BIF (!b19) (
    Post (.bool false) h18) (
    LDA 15 h18 ⟨g1, 5, none⟩ fun a20 =>
    LDA 15 h18 ⟨g3, 5, none⟩ fun a21 =>
    CALL prg f_laws_eqString #[.agg a20, .agg a21] (fun q22 h23 =>
    asB q22 fun b24 =>
    BIF (!b24) (
    Post (.bool false) h23) (
    LDA 13 h23 ⟨g1, 20, none⟩ fun a25 =>
    LDA 13 h23 ⟨g3, 20, none⟩ fun a26 =>
    CALL prg f_laws_eqPipe #[.agg a25, .agg a26] (fun q27 h28 =>
    asB q27 fun b29 =>
    BIF (!b29) (
    Post (.bool false) h28) (
    LDA 12 h28 ⟨g1, 33, none⟩ fun a30 =>
    LDA 12 h28 ⟨g3, 33, none⟩ fun a31 =>
    CALL prg f_laws_eqBow #[.agg a30, .agg a31] (fun q32 h33 =>
    asB q32 fun b34 =>
    BIF (!b34) (
    Post (.bool false) h33) (
    Post (.bool true) h33)) h28)) h23)) h18)) h4))))) h2) h
noncomputable def laws_eqVoice.code : Code := (Tryz.f78.body).getD .skip
theorem laws_eqVoice.call {a_0 : Array Value} {b_1 : Array Value} {Post : Value → Heap → Prop} {h : Heap} (H : laws_eqVoice.S a_0 b_1 Post h) : CALL prg f_laws_eqVoice #[.agg a_0, .agg b_1] Post h :=
  fn_call tau_ok mixed (c := laws_eqVoice.code) (Λ := lookL []) Tryz.func78 (by kernel_rfl) (by kernel_rfl)
    (Rq.free (by kernel_rfl))
    (Eq.mp (by kernel_rfl) H)

def laws_eqVoiceS.B4 (Post : Value → Heap → Prop) (N4 : (Option Addr × Nat × Nat × Option Addr × Nat × Nat × Int) → Heap → Prop) : Option Addr × Nat × Nat × Option Addr × Nat × Nat × Int → Heap → Prop
  | (a_0b, a_0l, a_0c, b_1b, b_1l, b_1c, i_5), h =>
    BIF ((decide (i_5 < (a_0l : Int)))) (
    IDXS a_0b i_5 a_0l fun p7 =>
    LDA 45 h ((Addr.add p7 ((Int.toNat i_5) * 45))) fun a8 =>
    IDXS b_1b i_5 b_1l fun p9 =>
    LDA 45 h ((Addr.add p9 ((Int.toNat i_5) * 45))) fun a10 =>
    CALL prg f_laws_eqVoice #[.agg a8, .agg a10] (fun q11 h12 =>
    asB q11 fun b13 =>
    BIF (!b13) (
    Post (.bool false) h12) (
    N4 (a_0b, a_0l, a_0c, b_1b, b_1l, b_1c, ((IntKind.i64.wrap (i_5 + (1 : Int))))) h12)) h) (
    Post (.bool true) h)
def laws_eqVoiceS.g4 (fr : Frame) : Option Addr × Nat × Nat × Option Addr × Nat × Nat × Int := ((gLb (lget fr 0)), (gLl (lget fr 0)), (gLc (lget fr 0)), (gLb (lget fr 1)), (gLl (lget fr 1)), (gLc (lget fr 1)), (gI (lget fr 5)))
def laws_eqVoiceS.l4 (Post : Value → Heap → Prop) : Frame → Heap → Prop := fun fr h => GRD (shape (kds 27 [(0, .l), (1, .l), (5, .i .i64)]) fr) (LOOP (laws_eqVoiceS.B4 Post) (laws_eqVoiceS.g4 fr) h)
def laws_eqVoiceS.S (a_0b : Option Addr) (a_0l a_0c : Nat) (b_1b : Option Addr) (b_1l b_1c : Nat) (Post : Value → Heap → Prop) (h : Heap) : Prop :=
    BIF ((a_0l : Int) != (b_1l : Int)) (
    Post (.bool false) h) (
    LOOP (laws_eqVoiceS.B4 Post) (a_0b, a_0l, a_0c, b_1b, b_1l, b_1c, (0 : Int)) h)
noncomputable def laws_eqVoiceS.code : Code := (Tryz.f27.body).getD .skip
theorem laws_eqVoiceS.call {a_0b : Option Addr} {a_0l a_0c : Nat} {b_1b : Option Addr} {b_1l b_1c : Nat} {Post : Value → Heap → Prop} {h : Heap} (H : laws_eqVoiceS.S a_0b a_0l a_0c b_1b b_1l b_1c Post h) : CALL prg f_laws_eqVoiceS #[.slice a_0b a_0l a_0c, .slice b_1b b_1l b_1c] Post h :=
  fn_call tau_ok mixed (c := laws_eqVoiceS.code) (Λ := lookL [(1000004, laws_eqVoiceS.l4 Post)]) Tryz.func27 (by kernel_rfl) (by kernel_rfl)
    (Rq.seq (by kernel_rfl) (Rq.free (by kernel_rfl)) (Rq.seq (by kernel_rfl) (Rq.free (by kernel_rfl)) (Rq.seq (by kernel_rfl) (Rq.seq (by kernel_rfl) (Rq.free (by kernel_rfl)) (Rq.block (Rq.loop (laws_eqVoiceS.l4 Post) (by kernel_rfl) (segL (g := laws_eqVoiceS.g4) tau_ok mixed (Λ := fun N4 => lookL []) (fun _ _ _ => by kernel_rfl) (fun N4 => (Rq.free (by kernel_rfl))))))) (Rq.free (by kernel_rfl)))))
    (Eq.mp (by kernel_rfl) H)

def laws_eqPlayer.S (a_0 : Array Value) (b_1 : Array Value) (Post : Value → Heap → Prop) (h : Heap) : Prop :=
    ALC a_0 T_impl_Player (fun g1 h2 =>
    ALC b_1 T_impl_Player (fun g3 h4 =>
    LDA 6 h4 ⟨g1, 0, none⟩ fun a5 =>
    LDA 6 h4 ⟨g3, 0, none⟩ fun a6 =>
    CALL prg f_laws_eqScore #[.agg a5, .agg a6] (fun q7 h8 =>
    asB q7 fun b9 =>
    BIF (!b9) (
    Post (.bool false) h8) (
    oL (cell h8 ⟨g1, 6, none⟩) fun l10b l10l l10c =>
    oL (cell h8 ⟨g3, 6, none⟩) fun l11b l11l l11c =>
    CALL prg f_laws_eqVoiceS #[.slice l10b l10l l10c, .slice l11b l11l l11c] (fun q12 h13 =>
    asB q12 fun b14 =>
    BIF (!b14) (
    Post (.bool false) h13) (
    oI .i64 (cell h13 ⟨g1, 7, none⟩) fun n15 =>
    oI .i64 (cell h13 ⟨g3, 7, none⟩) fun n16 =>
    BIF (n15 != n16) (
    Post (.bool false) h13) (
    oI .i64 (cell h13 ⟨g1, 8, none⟩) fun n17 =>
    oI .i64 (cell h13 ⟨g3, 8, none⟩) fun n18 =>
    BIF (n17 != n18) (
    Post (.bool false) h13) (
    oI .i64 (cell h13 ⟨g1, 9, none⟩) fun n19 =>
    oI .i64 (cell h13 ⟨g3, 9, none⟩) fun n20 =>
    BIF (n19 != n20) (
    Post (.bool false) h13) (
    Post (.bool true) h13))))) h8)) h4) h2) h
noncomputable def laws_eqPlayer.code : Code := (Tryz.f9.body).getD .skip
theorem laws_eqPlayer.call {a_0 : Array Value} {b_1 : Array Value} {Post : Value → Heap → Prop} {h : Heap} (H : laws_eqPlayer.S a_0 b_1 Post h) : CALL prg f_laws_eqPlayer #[.agg a_0, .agg b_1] Post h :=
  fn_call tau_ok mixed (c := laws_eqPlayer.code) (Λ := lookL []) Tryz.func9 (by kernel_rfl) (by kernel_rfl)
    (Rq.free (by kernel_rfl))
    (Eq.mp (by kernel_rfl) H)

end Go.Sx
