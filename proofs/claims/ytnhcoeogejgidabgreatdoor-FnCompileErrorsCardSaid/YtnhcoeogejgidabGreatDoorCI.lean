/- What functions of this seat's program compute, told in words (a predicate over heaps for each), and the proofs that the words are no more than the code's own weakest precondition. -/
import Derived.Test.YtnhcoeogejgidabGreatDoorTab
namespace Go.Sx
open Go.Proofs
set_option linter.unusedVariables false
set_option maxRecDepth 100000

def p_impl_compiler_notes.S (c_0 : Addr) (Post : Value → Heap → Prop) (h : Heap) : Prop :=
    oL (cell h (Addr.add c_0 5)) fun l1b l1l l1c =>
    CALL prg f_impl_length_impl_Event #[.slice l1b l1l l1c] (fun q2 h3 =>
    asI .i64 q2 fun n4 =>
    NZ (2 : Int) <|
    Post (.int .i64 ((IntKind.i64.wrap (Int.tdiv n4 (2 : Int))))) h3) h
noncomputable def p_impl_compiler_notes.code : Code := (Tryz.f84.body).getD .skip
theorem p_impl_compiler_notes.call {c_0 : Addr} {Post : Value → Heap → Prop} {h : Heap} (H : p_impl_compiler_notes.S c_0 Post h) : CALL prg f_p_impl_compiler_notes #[.pointer (some c_0)] Post h :=
  fn_call tau_ok mixed (c := p_impl_compiler_notes.code) (Λ := lookL []) Tryz.func84 (by kernel_rfl) (by kernel_rfl)
    (Rq.free (by kernel_rfl))
    (Eq.mp (by kernel_rfl) H)

def p_impl_compiler_rate.S (c_0 : Addr) (w_1b : Option Addr) (w_1l w_1c : Nat) (Post : Value → Heap → Prop) (h : Heap) : Prop :=
    IDXS w_1b (1 : Int) w_1l fun p1 =>
    oS (cell h (Addr.add p1 1)) fun s2 =>
    CALL prg f_impl_readWhole #[.string s2] (fun q3 h4 =>
    TUP2 q3 fun q5 q6 =>
    asI .i64 q5 fun n7 =>
    asB q6 fun b8 =>
    BIF (!b8) (
    Post (.int .i64 (5 : Int)) h4) (
    CALL prg f_impl_within #[.int .i64 n7, .int .i64 (1 : Int), .int .i64 (1000000 : Int)] (fun q9 h10 =>
    asB q9 fun b11 =>
    BIF (!b11) (
    Post (.int .i64 (2 : Int)) h10) (
    CALL prg f_p_impl_compiler_notes #[.pointer (some c_0)] (fun q12 h13 =>
    asI .i64 q12 fun n14 =>
    BIF ((decide ((0 : Int) < n14))) (
    Post (.int .i64 (4 : Int)) h13) (
    ST1 h13 c_0 (.float .f32 (FloatKind.f32.nearest n7)) fun h15 =>
    Post (.int .i64 (0 : Int)) h15)) h10)) h4)) h
noncomputable def p_impl_compiler_rate.code : Code := (Tryz.f53.body).getD .skip
theorem p_impl_compiler_rate.call {c_0 : Addr} {w_1b : Option Addr} {w_1l w_1c : Nat} {Post : Value → Heap → Prop} {h : Heap} (H : p_impl_compiler_rate.S c_0 w_1b w_1l w_1c Post h) : CALL prg f_p_impl_compiler_rate #[.pointer (some c_0), .slice w_1b w_1l w_1c] Post h :=
  fn_call tau_ok mixed (c := p_impl_compiler_rate.code) (Λ := lookL []) Tryz.func53 (by kernel_rfl) (by kernel_rfl)
    (Rq.free (by kernel_rfl))
    (Eq.mp (by kernel_rfl) H)

def p_impl_compiler_tuning.J5 (Post : Value → Heap → Prop) (c_0 : Addr) (base_5 : Nat) (n_7 : Int) (h : Heap) : Prop :=
    CALL prg f_impl_EqualTuning #[.float .f32 base_5, .int .i64 n_7] (fun q17 h18 =>
    TUP2 q17 fun q19 q20 =>
    asA q19 fun a21 =>
    asI .i64 q20 fun n22 =>
    ALC ⟨Z_impl_Tuning⟩ T_impl_Tuning (fun g23 h24 =>
    STA 3 h24 ⟨g23, 0, none⟩ a21 fun h25 =>
    BIF (n22 != (0 : Int)) (
    Post (.int .i64 n22) h25) (
    CALL prg f_p_impl_compiler_notes #[.pointer (some c_0)] (fun q26 h27 =>
    asI .i64 q26 fun n28 =>
    BIF ((decide ((0 : Int) < n28))) (
    Post (.int .i64 (4 : Int)) h27) (
    LDA 3 h27 ⟨g23, 0, none⟩ fun a29 =>
    STA 3 h27 (Addr.add c_0 1) a29 fun h30 =>
    Post (.int .i64 (0 : Int)) h30)) h25)) h18) h
def p_impl_compiler_tuning.j5 (Post : Value → Heap → Prop) : Frame → Heap → Prop := fun fr h => GRD (shape (kds 50 [(0, .p), (5, .f .f32), (7, .i .i64)]) fr) (p_impl_compiler_tuning.J5 Post (gP (lget fr 0)) (gF (lget fr 5)) (gI (lget fr 7)) h)
def p_impl_compiler_tuning.S (c_0 : Addr) (w_1b : Option Addr) (w_1l w_1c : Nat) (Post : Value → Heap → Prop) (h : Heap) : Prop :=
    IDXS w_1b (1 : Int) w_1l fun p1 =>
    oS (cell h (Addr.add p1 1)) fun s2 =>
    CALL prg f_impl_readFraction #[.string s2] (fun q3 h4 =>
    TUP2 q3 fun q5 q6 =>
    asF .f32 q5 fun r7 =>
    asB q6 fun b8 =>
    IDXS w_1b (2 : Int) w_1l fun p9 =>
    oS (cell h4 (Addr.add p9 2)) fun s10 =>
    CALL prg f_impl_readWhole #[.string s10] (fun q11 h12 =>
    TUP2 q11 fun q13 q14 =>
    asI .i64 q13 fun n15 =>
    asB q14 fun b16 =>
    BIF (!b8) (
    Post (.int .i64 (5 : Int)) h12) (
    BIF (!b16) (
    Post (.int .i64 (5 : Int)) h12) (
    p_impl_compiler_tuning.J5 Post c_0 r7 n15 h12))) h4) h
noncomputable def p_impl_compiler_tuning.code : Code := (Tryz.f54.body).getD .skip
theorem p_impl_compiler_tuning.call {c_0 : Addr} {w_1b : Option Addr} {w_1l w_1c : Nat} {Post : Value → Heap → Prop} {h : Heap} (H : p_impl_compiler_tuning.S c_0 w_1b w_1l w_1c Post h) : CALL prg f_p_impl_compiler_tuning #[.pointer (some c_0), .slice w_1b w_1l w_1c] Post h :=
  fn_call tau_ok mixed (c := p_impl_compiler_tuning.code) (Λ := lookL [(5, p_impl_compiler_tuning.j5 Post)]) Tryz.func54 (by kernel_rfl) (by kernel_rfl)
    (Rq.seq (by kernel_rfl) (Rq.free (by kernel_rfl)) (Rq.seq (by kernel_rfl) (Rq.free (by kernel_rfl)) (Rq.seq (by kernel_rfl) (Rq.free (by kernel_rfl)) (Rq.seqJ (p_impl_compiler_tuning.j5 Post) (by kernel_rfl) (seg (fun _ _ => by kernel_rfl)) (Rq.free (by kernel_rfl))
(Rq.free (by kernel_rfl))))))
    (Eq.mp (by kernel_rfl) H)

def p_impl_compiler_instrument.J15 (Post : Value → Heap → Prop) (c_0 : Addr) (w_1b : Option Addr) (w_1l : Nat) (w_1c : Nat) (kind_5 : Int) (a_7 : Nat) (b_9 : Nat) (last_11 : Nat) (h : Heap) : Prop :=
    IDXS w_1b (1 : Int) w_1l fun p37 =>
    oS (cell h (Addr.add p37 1)) fun s38 =>
    ALC ⟨Z_impl_Instrument⟩ T_impl_Instrument (fun g39 h40 =>
    STA 5 h40 ⟨g39, 0, none⟩ (⟨[.string s38, .int .i64 kind_5, .float .f32 a_7, .float .f32 b_9, .float .f32 last_11]⟩ : Array Value) fun h41 =>
    LDA 5 h41 ⟨g39, 0, none⟩ fun a42 =>
    CALL prg f_impl_ValidInstrument #[.agg a42] (fun q43 h44 =>
    asB q43 fun b45 =>
    BIF (!b45) (
    Post (.int .i64 (2 : Int)) h44) (
    oL (cell h44 (Addr.add c_0 4)) fun l46b l46l l46c =>
    oS (cell h44 ⟨g39, 0, none⟩) fun s47 =>
    CALL prg f_impl_nameIn #[.slice l46b l46l l46c, .string s47] (fun q48 h49 =>
    asI .i64 q48 fun n50 =>
    BIF ((decide ((0 : Int) ≤ n50))) (
    Post (.int .i64 (4 : Int)) h49) (
    oL (cell h49 (Addr.add c_0 4)) fun l51b l51l l51c =>
    BIF ((decide ((6 : Int) ≤ (l51l : Int)))) (
    Post (.int .i64 (3 : Int)) h49) (
    oL (cell h49 (Addr.add c_0 4)) fun l54b l54l l54c =>
    LDA 5 h49 ⟨g39, 0, none⟩ fun a55 =>
    SIZ (Array.size a55) 5 <|
    ALC ⟨(splice 0 5 a55 [.string (⟨#[]⟩ : ByteArray), .int .i64 (0 : Int), .float .f32 0, .float .f32 0, .float .f32 0])⟩ T_impl_Instrument (fun g56 h57 =>
    PIN h49 (Addr.add c_0 4) 1 h57 <|
    SEMV prg (Builtin.append_ #[T_sl_impl_Instrument, T_sl_impl_Instrument] T_sl_impl_Instrument #[.slice l54b l54l l54c, .slice (some ⟨g56, 0, none⟩) 1 1]) (fun q58 h59 =>
    asL q58 fun l60b l60l l60c =>
    ST1 h59 (Addr.add c_0 4) (.slice l60b l60l l60c) fun h61 =>
    Post (.int .i64 (0 : Int)) h61) h57) h49))) h44)) h41) h
def p_impl_compiler_instrument.j15 (Post : Value → Heap → Prop) : Frame → Heap → Prop := fun fr h => GRD (shape (kds 108 [(0, .p), (1, .l), (5, .i .i64), (7, .f .f32), (9, .f .f32), (11, .f .f32)]) fr) (p_impl_compiler_instrument.J15 Post (gP (lget fr 0)) (gLb (lget fr 1)) (gLl (lget fr 1)) (gLc (lget fr 1)) (gI (lget fr 5)) (gF (lget fr 7)) (gF (lget fr 9)) (gF (lget fr 11)) h)
def p_impl_compiler_instrument.J10 (Post : Value → Heap → Prop) (c_0 : Addr) (w_1b : Option Addr) (w_1l : Nat) (w_1c : Nat) (kind_5 : Int) (third_6 : ByteArray) (h : Heap) : Prop :=
    IDXS w_1b (2 : Int) w_1l fun p10 =>
    oS (cell h (Addr.add p10 2)) fun s11 =>
    CALL prg f_impl_readFraction #[.string s11] (fun q12 h13 =>
    TUP2 q12 fun q14 q15 =>
    asF .f32 q14 fun r16 =>
    asB q15 fun b17 =>
    IDXS w_1b (3 : Int) w_1l fun p18 =>
    oS (cell h13 (Addr.add p18 3)) fun s19 =>
    CALL prg f_impl_readFraction #[.string s19] (fun q20 h21 =>
    TUP2 q20 fun q22 q23 =>
    asF .f32 q22 fun r24 =>
    asB q23 fun b25 =>
    CALL prg f_impl_readFraction #[.string third_6] (fun q26 h27 =>
    TUP2 q26 fun q28 q29 =>
    asF .f32 q28 fun r30 =>
    asB q29 fun b31 =>
    IDXS w_1b (1 : Int) w_1l fun p32 =>
    oS (cell h27 (Addr.add p32 1)) fun s33 =>
    CALL prg f_impl_isName #[.string s33] (fun q34 h35 =>
    asB q34 fun b36 =>
    BIF (!b36) (
    Post (.int .i64 (5 : Int)) h35) (
    BIF (!b17) (
    Post (.int .i64 (5 : Int)) h35) (
    BIF (!b25) (
    Post (.int .i64 (5 : Int)) h35) (
    BIF (!b31) (
    Post (.int .i64 (5 : Int)) h35) (
    p_impl_compiler_instrument.J15 Post c_0 w_1b w_1l w_1c kind_5 r16 r24 r30 h35))))) h27) h21) h13) h
def p_impl_compiler_instrument.j10 (Post : Value → Heap → Prop) : Frame → Heap → Prop := fun fr h => GRD (shape (kds 108 [(0, .p), (1, .l), (5, .i .i64), (6, .s)]) fr) (p_impl_compiler_instrument.J10 Post (gP (lget fr 0)) (gLb (lget fr 1)) (gLl (lget fr 1)) (gLc (lget fr 1)) (gI (lget fr 5)) (gS (lget fr 6)) h)
def p_impl_compiler_instrument.S (c_0 : Addr) (w_1b : Option Addr) (w_1l w_1c : Nat) (Post : Value → Heap → Prop) (h : Heap) : Prop :=
    ALC ⟨[.string (⟨#[115, 116, 114, 105, 110, 103]⟩ : ByteArray), .string (⟨#[112, 105, 112, 101]⟩ : ByteArray), .string (⟨#[98, 111, 119]⟩ : ByteArray)]⟩ T_string (fun g1 h2 =>
    IDXS w_1b (0 : Int) w_1l fun p3 =>
    oS (cell h2 p3) fun s4 =>
    CALL prg f_slices_Index_sl_string_string #[.slice (some ⟨g1, 0, none⟩) 3 3, .string s4] (fun q5 h6 =>
    asI .i64 q5 fun n7 =>
    IDXS w_1b (4 : Int) w_1l fun p8 =>
    oS (cell h6 (Addr.add p8 4)) fun s9 =>
    BIF (((IntKind.i64.wrap (n7 + (1 : Int))) == (2 : Int))) (
    BIF (ByteArray.toList s9 == ByteArray.toList (⟨#[111, 112, 101, 110]⟩ : ByteArray)) (
    p_impl_compiler_instrument.J10 Post c_0 w_1b w_1l w_1c ((IntKind.i64.wrap (n7 + (1 : Int)))) (⟨#[49]⟩ : ByteArray) h6) (
    BIF (ByteArray.toList s9 == ByteArray.toList (⟨#[99, 108, 111, 115, 101, 100]⟩ : ByteArray)) (
    p_impl_compiler_instrument.J10 Post c_0 w_1b w_1l w_1c ((IntKind.i64.wrap (n7 + (1 : Int)))) (⟨#[48]⟩ : ByteArray) h6) (
    Post (.int .i64 (5 : Int)) h6))) (
    p_impl_compiler_instrument.J10 Post c_0 w_1b w_1l w_1c ((IntKind.i64.wrap (n7 + (1 : Int)))) s9 h6)) h2) h
noncomputable def p_impl_compiler_instrument.code : Code := (Tryz.f55.body).getD .skip
theorem p_impl_compiler_instrument.call {c_0 : Addr} {w_1b : Option Addr} {w_1l w_1c : Nat} {Post : Value → Heap → Prop} {h : Heap} (H : p_impl_compiler_instrument.S c_0 w_1b w_1l w_1c Post h) : CALL prg f_p_impl_compiler_instrument #[.pointer (some c_0), .slice w_1b w_1l w_1c] Post h :=
  fn_call tau_ok mixed (c := p_impl_compiler_instrument.code) (Λ := lookL [(10, p_impl_compiler_instrument.j10 Post), (15, p_impl_compiler_instrument.j15 Post)]) Tryz.func55 (by kernel_rfl) (by kernel_rfl)
    (Rq.seq (by kernel_rfl) (Rq.free (by kernel_rfl)) (Rq.seq (by kernel_rfl) (Rq.free (by kernel_rfl)) (Rq.seq (by kernel_rfl) (Rq.free (by kernel_rfl)) (Rq.seqJ (p_impl_compiler_instrument.j10 Post) (by kernel_rfl) (seg (fun _ _ => by kernel_rfl)) (Rq.free (by kernel_rfl))
(Rq.seq (by kernel_rfl) (Rq.free (by kernel_rfl)) (Rq.seq (by kernel_rfl) (Rq.free (by kernel_rfl)) (Rq.seq (by kernel_rfl) (Rq.free (by kernel_rfl)) (Rq.seqJ (p_impl_compiler_instrument.j15 Post) (by kernel_rfl) (seg (fun _ _ => by kernel_rfl)) (Rq.free (by kernel_rfl))
(Rq.free (by kernel_rfl))))))))))
    (Eq.mp (by kernel_rfl) H)

def p_impl_compiler_move.S (c_0 : Addr) (w_1b : Option Addr) (w_1l w_1c : Nat) (Post : Value → Heap → Prop) (h : Heap) : Prop :=
    IDXS w_1b (1 : Int) w_1l fun p1 =>
    oS (cell h (Addr.add p1 1)) fun s2 =>
    CALL prg f_impl_readWhole #[.string s2] (fun q3 h4 =>
    TUP2 q3 fun q5 q6 =>
    asI .i64 q5 fun n7 =>
    asB q6 fun b8 =>
    BIF (!b8) (
    Post (.int .i64 (5 : Int)) h4) (
    IDXS w_1b (0 : Int) w_1l fun p9 =>
    oS (cell h4 p9) fun s10 =>
    BIF (ByteArray.toList s10 == ByteArray.toList (⟨#[119, 97, 105, 116]⟩ : ByteArray)) (
    oI .i64 (cell h4 (Addr.add c_0 6)) fun n11 =>
    BIF ((decide ((100000 : Int) < (IntKind.i64.wrap (n7 + n11))))) (
    Post (.int .i64 (2 : Int)) h4) (
    ST1 h4 (Addr.add c_0 6) (.int .i64 (IntKind.i64.wrap (n7 + n11))) fun h12 =>
    Post (.int .i64 (0 : Int)) h12)) (
    BIF ((decide ((100000 : Int) < n7))) (
    Post (.int .i64 (2 : Int)) h4) (
    ST1 h4 (Addr.add c_0 6) (.int .i64 n7) fun h13 =>
    Post (.int .i64 (0 : Int)) h13)))) h
noncomputable def p_impl_compiler_move.code : Code := (Tryz.f56.body).getD .skip
theorem p_impl_compiler_move.call {c_0 : Addr} {w_1b : Option Addr} {w_1l w_1c : Nat} {Post : Value → Heap → Prop} {h : Heap} (H : p_impl_compiler_move.S c_0 w_1b w_1l w_1c Post h) : CALL prg f_p_impl_compiler_move #[.pointer (some c_0), .slice w_1b w_1l w_1c] Post h :=
  fn_call tau_ok mixed (c := p_impl_compiler_move.code) (Λ := lookL []) Tryz.func56 (by kernel_rfl) (by kernel_rfl)
    (Rq.free (by kernel_rfl))
    (Eq.mp (by kernel_rfl) H)

def p_impl_compiler_play.J13 (Post : Value → Heap → Prop) (c_0 : Addr) (key_5 : Int) (force_7 : Nat) (long_9 : Int) (i_11 : Int) (h : Heap) : Prop :=
    CALL prg f_p_impl_compiler_notes #[.pointer (some c_0)] (fun q43 h44 =>
    asI .i64 q43 fun n45 =>
    oL (cell h44 (Addr.add c_0 5)) fun l46b l46l l46c =>
    oI .i64 (cell h44 (Addr.add c_0 6)) fun n47 =>
    oI .i64 (cell h44 (Addr.add c_0 6)) fun n48 =>
    SIZ (Array.size (⟨[.int .i64 n47, .int .i64 (2 : Int), .int .i64 n45, .int .i64 i_11, .int .i64 key_5, .float .f32 force_7]⟩ : Array Value)) 6 <|
    SIZ (Array.size (⟨[.int .i64 (IntKind.i64.wrap (n48 + long_9)), .int .i64 (1 : Int), .int .i64 n45, .int .i64 (0 : Int), .int .i64 (0 : Int), .float .f32 0]⟩ : Array Value)) 6 <|
    ALC ⟨[.int .i64 n47, .int .i64 (2 : Int), .int .i64 n45, .int .i64 i_11, .int .i64 key_5, .float .f32 force_7, .int .i64 (IntKind.i64.wrap (n48 + long_9)), .int .i64 (1 : Int), .int .i64 n45, .int .i64 (0 : Int), .int .i64 (0 : Int), .float .f32 0]⟩ T_impl_Event (fun g49 h50 =>
    PIN h44 (Addr.add c_0 5) 1 h50 <|
    SEMV prg (Builtin.append_ #[T_sl_impl_Event, T_sl_impl_Event] T_sl_impl_Event #[.slice l46b l46l l46c, .slice (some ⟨g49, 0, none⟩) 2 2]) (fun q51 h52 =>
    asL q51 fun l53b l53l l53c =>
    ST1 h52 (Addr.add c_0 5) (.slice l53b l53l l53c) fun h54 =>
    Post (.int .i64 (0 : Int)) h54) h50) h44) h
def p_impl_compiler_play.j13 (Post : Value → Heap → Prop) : Frame → Heap → Prop := fun fr h => GRD (shape (kds 110 [(0, .p), (5, .i .i64), (7, .f .f32), (9, .i .i64), (11, .i .i64)]) fr) (p_impl_compiler_play.J13 Post (gP (lget fr 0)) (gI (lget fr 5)) (gF (lget fr 7)) (gI (lget fr 9)) (gI (lget fr 11)) h)
def p_impl_compiler_play.J6 (Post : Value → Heap → Prop) (c_0 : Addr) (w_1b : Option Addr) (w_1l : Nat) (w_1c : Nat) (key_5 : Int) (force_7 : Nat) (long_9 : Int) (h : Heap) : Prop :=
    oL (cell h (Addr.add c_0 4)) fun l30b l30l l30c =>
    IDXS w_1b (1 : Int) w_1l fun p31 =>
    oS (cell h (Addr.add p31 1)) fun s32 =>
    CALL prg f_impl_nameIn #[.slice l30b l30l l30c, .string s32] (fun q33 h34 =>
    asI .i64 q33 fun n35 =>
    CALL prg f_impl_isKey #[.int .i64 key_5] (fun q36 h37 =>
    asB q36 fun b38 =>
    BIF (!b38) (
    Post (.int .i64 (2 : Int)) h37) (
    oI .i64 (cell h37 (Addr.add c_0 6)) fun n39 =>
    BIF ((decide ((100000 : Int) < (IntKind.i64.wrap (n39 + long_9))))) (
    Post (.int .i64 (2 : Int)) h37) (
    BIF ((decide (n35 < (0 : Int)))) (
    Post (.int .i64 (6 : Int)) h37) (
    CALL prg f_p_impl_compiler_notes #[.pointer (some c_0)] (fun q40 h41 =>
    asI .i64 q40 fun n42 =>
    BIF ((decide ((64 : Int) ≤ n42))) (
    Post (.int .i64 (3 : Int)) h41) (
    p_impl_compiler_play.J13 Post c_0 key_5 force_7 long_9 n35 h41)) h37)))) h34) h
def p_impl_compiler_play.j6 (Post : Value → Heap → Prop) : Frame → Heap → Prop := fun fr h => GRD (shape (kds 110 [(0, .p), (1, .l), (5, .i .i64), (7, .f .f32), (9, .i .i64)]) fr) (p_impl_compiler_play.J6 Post (gP (lget fr 0)) (gLb (lget fr 1)) (gLl (lget fr 1)) (gLc (lget fr 1)) (gI (lget fr 5)) (gF (lget fr 7)) (gI (lget fr 9)) h)
def p_impl_compiler_play.S (c_0 : Addr) (w_1b : Option Addr) (w_1l w_1c : Nat) (Post : Value → Heap → Prop) (h : Heap) : Prop :=
    IDXS w_1b (2 : Int) w_1l fun p1 =>
    oS (cell h (Addr.add p1 2)) fun s2 =>
    CALL prg f_impl_readSigned #[.string s2] (fun q3 h4 =>
    TUP2 q3 fun q5 q6 =>
    asI .i64 q5 fun n7 =>
    asB q6 fun b8 =>
    IDXS w_1b (3 : Int) w_1l fun p9 =>
    oS (cell h4 (Addr.add p9 3)) fun s10 =>
    CALL prg f_impl_readFraction #[.string s10] (fun q11 h12 =>
    TUP2 q11 fun q13 q14 =>
    asF .f32 q13 fun r15 =>
    asB q14 fun b16 =>
    IDXS w_1b (4 : Int) w_1l fun p17 =>
    oS (cell h12 (Addr.add p17 4)) fun s18 =>
    CALL prg f_impl_readWhole #[.string s18] (fun q19 h20 =>
    TUP2 q19 fun q21 q22 =>
    asI .i64 q21 fun n23 =>
    asB q22 fun b24 =>
    IDXS w_1b (1 : Int) w_1l fun p25 =>
    oS (cell h20 (Addr.add p25 1)) fun s26 =>
    CALL prg f_impl_isName #[.string s26] (fun q27 h28 =>
    asB q27 fun b29 =>
    BIF (!b29) (
    Post (.int .i64 (5 : Int)) h28) (
    BIF (!b8) (
    Post (.int .i64 (5 : Int)) h28) (
    BIF (!b16) (
    Post (.int .i64 (5 : Int)) h28) (
    BIF (!b24) (
    Post (.int .i64 (5 : Int)) h28) (
    p_impl_compiler_play.J6 Post c_0 w_1b w_1l w_1c n7 r15 n23 h28))))) h20) h12) h4) h
noncomputable def p_impl_compiler_play.code : Code := (Tryz.f57.body).getD .skip
theorem p_impl_compiler_play.call {c_0 : Addr} {w_1b : Option Addr} {w_1l w_1c : Nat} {Post : Value → Heap → Prop} {h : Heap} (H : p_impl_compiler_play.S c_0 w_1b w_1l w_1c Post h) : CALL prg f_p_impl_compiler_play #[.pointer (some c_0), .slice w_1b w_1l w_1c] Post h :=
  fn_call tau_ok mixed (c := p_impl_compiler_play.code) (Λ := lookL [(6, p_impl_compiler_play.j6 Post), (13, p_impl_compiler_play.j13 Post)]) Tryz.func57 (by kernel_rfl) (by kernel_rfl)
    (Rq.seq (by kernel_rfl) (Rq.free (by kernel_rfl)) (Rq.seq (by kernel_rfl) (Rq.free (by kernel_rfl)) (Rq.seq (by kernel_rfl) (Rq.free (by kernel_rfl)) (Rq.seq (by kernel_rfl) (Rq.free (by kernel_rfl)) (Rq.seqJ (p_impl_compiler_play.j6 Post) (by kernel_rfl) (seg (fun _ _ => by kernel_rfl)) (Rq.free (by kernel_rfl))
(Rq.seq (by kernel_rfl) (Rq.free (by kernel_rfl)) (Rq.seqJ (p_impl_compiler_play.j13 Post) (by kernel_rfl) (seg (fun _ _ => by kernel_rfl)) (Rq.free (by kernel_rfl))
(Rq.free (by kernel_rfl)))))))))
    (Eq.mp (by kernel_rfl) H)

def p_impl_compiler_repeat.S (c_0 : Addr) (w_1b : Option Addr) (w_1l w_1c : Nat) (Post : Value → Heap → Prop) (h : Heap) : Prop :=
    IDXS w_1b (1 : Int) w_1l fun p1 =>
    oS (cell h (Addr.add p1 1)) fun s2 =>
    CALL prg f_impl_readWhole #[.string s2] (fun q3 h4 =>
    TUP2 q3 fun q5 q6 =>
    asI .i64 q5 fun n7 =>
    asB q6 fun b8 =>
    BIF (!b8) (
    Post (.int .i64 (5 : Int)) h4) (
    CALL prg f_impl_within #[.int .i64 n7, .int .i64 (1 : Int), .int .i64 (16 : Int)] (fun q9 h10 =>
    asB q9 fun b11 =>
    BIF (!b11) (
    Post (.int .i64 (2 : Int)) h10) (
    oL (cell h10 (Addr.add c_0 7)) fun l12b l12l l12c =>
    BIF ((decide ((3 : Int) ≤ (l12l : Int)))) (
    Post (.int .i64 (3 : Int)) h10) (
    oL (cell h10 (Addr.add c_0 7)) fun l15b l15l l15c =>
    oI .i64 (cell h10 (Addr.add c_0 8)) fun n16 =>
    SIZ (Array.size (⟨[.int .i64 n16, .int .i64 ((IntKind.i64.wrap (n7 - (1 : Int))))]⟩ : Array Value)) 2 <|
    ALC ⟨[.int .i64 n16, .int .i64 ((IntKind.i64.wrap (n7 - (1 : Int))))]⟩ T_impl_loop (fun g17 h18 =>
    PIN h10 (Addr.add c_0 7) 1 h18 <|
    SEMV prg (Builtin.append_ #[T_sl_impl_loop, T_sl_impl_loop] T_sl_impl_loop #[.slice l15b l15l l15c, .slice (some ⟨g17, 0, none⟩) 1 1]) (fun q19 h20 =>
    asL q19 fun l21b l21l l21c =>
    ST1 h20 (Addr.add c_0 7) (.slice l21b l21l l21c) fun h22 =>
    Post (.int .i64 (0 : Int)) h22) h18) h10))) h4)) h
noncomputable def p_impl_compiler_repeat.code : Code := (Tryz.f58.body).getD .skip
theorem p_impl_compiler_repeat.call {c_0 : Addr} {w_1b : Option Addr} {w_1l w_1c : Nat} {Post : Value → Heap → Prop} {h : Heap} (H : p_impl_compiler_repeat.S c_0 w_1b w_1l w_1c Post h) : CALL prg f_p_impl_compiler_repeat #[.pointer (some c_0), .slice w_1b w_1l w_1c] Post h :=
  fn_call tau_ok mixed (c := p_impl_compiler_repeat.code) (Λ := lookL []) Tryz.func58 (by kernel_rfl) (by kernel_rfl)
    (Rq.free (by kernel_rfl))
    (Eq.mp (by kernel_rfl) H)

def p_impl_compiler_end.S (c_0 : Addr) (Post : Value → Heap → Prop) (h : Heap) : Prop :=
    oL (cell h (Addr.add c_0 7)) fun l1b l1l l1c =>
    BIF ((decide ((IntKind.i64.wrap ((l1l : Int) - (1 : Int))) < (0 : Int)))) (
    Post (.int .i64 (4 : Int)) h) (
    oL (cell h (Addr.add c_0 7)) fun l4b l4l l4c =>
    IDXS l4b ((IntKind.i64.wrap ((l1l : Int) - (1 : Int)))) l4l fun p5 =>
    oI .i64 (cell h ((Addr.add ((Addr.add p5 ((Int.toNat ((IntKind.i64.wrap ((l1l : Int) - (1 : Int))))) * 2))) 1))) fun n6 =>
    BIF (n6 == (0 : Int)) (
    oL (cell h (Addr.add c_0 7)) fun l7b l7l l7c =>
    SLB (0 : Int) ((IntKind.i64.wrap ((l1l : Int) - (1 : Int)))) (l7c : Int) <|
    ST1 h (Addr.add c_0 7) (.slice (slA l7b l7c 0 2) (((Int.toNat ((IntKind.i64.wrap ((l1l : Int) - (1 : Int))))) - 0)) (l7c - 0)) fun h8 =>
    Post (.int .i64 (0 : Int)) h8) (
    oL (cell h (Addr.add c_0 7)) fun l9b l9l l9c =>
    IDXS l9b ((IntKind.i64.wrap ((l1l : Int) - (1 : Int)))) l9l fun p10 =>
    oI .i64 (cell h ((Addr.add ((Addr.add p10 ((Int.toNat ((IntKind.i64.wrap ((l1l : Int) - (1 : Int))))) * 2))) 1))) fun n11 =>
    IDXS l9b ((IntKind.i64.wrap ((l1l : Int) - (1 : Int)))) l9l fun p12 =>
    ST1 h ((Addr.add ((Addr.add p12 ((Int.toNat ((IntKind.i64.wrap ((l1l : Int) - (1 : Int))))) * 2))) 1)) (.int .i64 ((IntKind.i64.wrap (n11 - (1 : Int))))) fun h13 =>
    oL (cell h13 (Addr.add c_0 7)) fun l14b l14l l14c =>
    IDXS l14b ((IntKind.i64.wrap ((l1l : Int) - (1 : Int)))) l14l fun p15 =>
    oI .i64 (cell h13 ((Addr.add p15 ((Int.toNat ((IntKind.i64.wrap ((l1l : Int) - (1 : Int))))) * 2)))) fun n16 =>
    ST1 h13 (Addr.add c_0 8) (.int .i64 n16) fun h17 =>
    Post (.int .i64 (0 : Int)) h17))
noncomputable def p_impl_compiler_end.code : Code := (Tryz.f59.body).getD .skip
theorem p_impl_compiler_end.call {c_0 : Addr} {Post : Value → Heap → Prop} {h : Heap} (H : p_impl_compiler_end.S c_0 Post h) : CALL prg f_p_impl_compiler_end #[.pointer (some c_0)] Post h :=
  fn_call tau_ok mixed (c := p_impl_compiler_end.code) (Λ := lookL []) Tryz.func59 (by kernel_rfl) (by kernel_rfl)
    (Rq.free (by kernel_rfl))
    (Eq.mp (by kernel_rfl) H)

def p_impl_compiler_compile.J13 (Post : Value → Heap → Prop) (c_0 : Addr) (line_1 : ByteArray) (w_5b : Option Addr) (w_5l : Nat) (w_5c : Nat) (t80 : Bool) (h : Heap) : Prop :=
    BIF t80 (
    CALL prg f_p_impl_compiler_play #[.pointer (some c_0), .slice w_5b w_5l w_5c] (fun q51 h52 =>
    asI .i64 q51 fun n53 =>
    Post (.int .i64 n53) h52) h) (
    IDXS w_5b (0 : Int) w_5l fun p54 =>
    oS (cell h p54) fun s55 =>
    BIF (ByteArray.toList s55 == ByteArray.toList (⟨#[114, 101, 112, 101, 97, 116]⟩ : ByteArray)) (
    BIF ((w_5l : Int) == (2 : Int)) (
    CALL prg f_p_impl_compiler_repeat #[.pointer (some c_0), .slice w_5b w_5l w_5c] (fun q58 h59 =>
    asI .i64 q58 fun n60 =>
    Post (.int .i64 n60) h59) h) (
    BIF (ByteArray.toList line_1 == ByteArray.toList (⟨#[101, 110, 100]⟩ : ByteArray)) (
    CALL prg f_p_impl_compiler_end #[.pointer (some c_0)] (fun q61 h62 =>
    asI .i64 q61 fun n63 =>
    Post (.int .i64 n63) h62) h) (
    Post (.int .i64 (5 : Int)) h))) (
    BIF (ByteArray.toList line_1 == ByteArray.toList (⟨#[101, 110, 100]⟩ : ByteArray)) (
    CALL prg f_p_impl_compiler_end #[.pointer (some c_0)] (fun q64 h65 =>
    asI .i64 q64 fun n66 =>
    Post (.int .i64 n66) h65) h) (
    Post (.int .i64 (5 : Int)) h)))
def p_impl_compiler_compile.j13 (Post : Value → Heap → Prop) : Frame → Heap → Prop := fun fr h => GRD (shape (kds 111 [(0, .p), (1, .s), (5, .l), (80, .b)]) fr) (p_impl_compiler_compile.J13 Post (gP (lget fr 0)) (gS (lget fr 1)) (gLb (lget fr 5)) (gLl (lget fr 5)) (gLc (lget fr 5)) (gB (lget fr 80)) h)
def p_impl_compiler_compile.J11 (Post : Value → Heap → Prop) (c_0 : Addr) (line_1 : ByteArray) (w_5b : Option Addr) (w_5l : Nat) (w_5c : Nat) (t61 : Bool) (h : Heap) : Prop :=
    BIF t61 (
    CALL prg f_p_impl_compiler_move #[.pointer (some c_0), .slice w_5b w_5l w_5c] (fun q44 h45 =>
    asI .i64 q44 fun n46 =>
    Post (.int .i64 n46) h45) h) (
    IDXS w_5b (0 : Int) w_5l fun p47 =>
    oS (cell h p47) fun s48 =>
    BIF (ByteArray.toList s48 == ByteArray.toList (⟨#[112, 108, 97, 121]⟩ : ByteArray)) (
    p_impl_compiler_compile.J13 Post c_0 line_1 w_5b w_5l w_5c ((w_5l : Int) == (5 : Int)) h) (
    p_impl_compiler_compile.J13 Post c_0 line_1 w_5b w_5l w_5c false h))
def p_impl_compiler_compile.j11 (Post : Value → Heap → Prop) : Frame → Heap → Prop := fun fr h => GRD (shape (kds 111 [(0, .p), (1, .s), (5, .l), (61, .b)]) fr) (p_impl_compiler_compile.J11 Post (gP (lget fr 0)) (gS (lget fr 1)) (gLb (lget fr 5)) (gLl (lget fr 5)) (gLc (lget fr 5)) (gB (lget fr 61)) h)
def p_impl_compiler_compile.J9 (Post : Value → Heap → Prop) (c_0 : Addr) (line_1 : ByteArray) (w_5b : Option Addr) (w_5l : Nat) (w_5c : Nat) (t36 : Bool) (h : Heap) : Prop :=
    BIF t36 (
    CALL prg f_p_impl_compiler_instrument #[.pointer (some c_0), .slice w_5b w_5l w_5c] (fun q33 h34 =>
    asI .i64 q33 fun n35 =>
    Post (.int .i64 n35) h34) h) (
    IDXS w_5b (0 : Int) w_5l fun p36 =>
    oS (cell h p36) fun s37 =>
    BIF (ByteArray.toList s37 == ByteArray.toList (⟨#[97, 116]⟩ : ByteArray)) (
    p_impl_compiler_compile.J11 Post c_0 line_1 w_5b w_5l w_5c ((w_5l : Int) == (2 : Int)) h) (
    IDXS w_5b (0 : Int) w_5l fun p40 =>
    oS (cell h p40) fun s41 =>
    BIF (ByteArray.toList s41 == ByteArray.toList (⟨#[119, 97, 105, 116]⟩ : ByteArray)) (
    p_impl_compiler_compile.J11 Post c_0 line_1 w_5b w_5l w_5c ((w_5l : Int) == (2 : Int)) h) (
    p_impl_compiler_compile.J11 Post c_0 line_1 w_5b w_5l w_5c false h)))
def p_impl_compiler_compile.j9 (Post : Value → Heap → Prop) : Frame → Heap → Prop := fun fr h => GRD (shape (kds 111 [(0, .p), (1, .s), (5, .l), (36, .b)]) fr) (p_impl_compiler_compile.J9 Post (gP (lget fr 0)) (gS (lget fr 1)) (gLb (lget fr 5)) (gLl (lget fr 5)) (gLc (lget fr 5)) (gB (lget fr 36)) h)
def p_impl_compiler_compile.J7 (Post : Value → Heap → Prop) (c_0 : Addr) (line_1 : ByteArray) (w_5b : Option Addr) (w_5l : Nat) (w_5c : Nat) (t23 : Bool) (h : Heap) : Prop :=
    BIF t23 (
    CALL prg f_p_impl_compiler_tuning #[.pointer (some c_0), .slice w_5b w_5l w_5c] (fun q18 h19 =>
    asI .i64 q18 fun n20 =>
    Post (.int .i64 n20) h19) h) (
    IDXS w_5b (0 : Int) w_5l fun p21 =>
    oS (cell h p21) fun s22 =>
    BIF (ByteArray.toList s22 == ByteArray.toList (⟨#[115, 116, 114, 105, 110, 103]⟩ : ByteArray)) (
    p_impl_compiler_compile.J9 Post c_0 line_1 w_5b w_5l w_5c ((w_5l : Int) == (5 : Int)) h) (
    IDXS w_5b (0 : Int) w_5l fun p25 =>
    oS (cell h p25) fun s26 =>
    BIF (ByteArray.toList s26 == ByteArray.toList (⟨#[112, 105, 112, 101]⟩ : ByteArray)) (
    p_impl_compiler_compile.J9 Post c_0 line_1 w_5b w_5l w_5c ((w_5l : Int) == (5 : Int)) h) (
    IDXS w_5b (0 : Int) w_5l fun p29 =>
    oS (cell h p29) fun s30 =>
    BIF (ByteArray.toList s30 == ByteArray.toList (⟨#[98, 111, 119]⟩ : ByteArray)) (
    p_impl_compiler_compile.J9 Post c_0 line_1 w_5b w_5l w_5c ((w_5l : Int) == (5 : Int)) h) (
    p_impl_compiler_compile.J9 Post c_0 line_1 w_5b w_5l w_5c false h))))
def p_impl_compiler_compile.j7 (Post : Value → Heap → Prop) : Frame → Heap → Prop := fun fr h => GRD (shape (kds 111 [(0, .p), (1, .s), (5, .l), (23, .b)]) fr) (p_impl_compiler_compile.J7 Post (gP (lget fr 0)) (gS (lget fr 1)) (gLb (lget fr 5)) (gLl (lget fr 5)) (gLc (lget fr 5)) (gB (lget fr 23)) h)
def p_impl_compiler_compile.J5 (Post : Value → Heap → Prop) (c_0 : Addr) (line_1 : ByteArray) (w_5b : Option Addr) (w_5l : Nat) (w_5c : Nat) (t10 : Bool) (h : Heap) : Prop :=
    BIF t10 (
    CALL prg f_p_impl_compiler_rate #[.pointer (some c_0), .slice w_5b w_5l w_5c] (fun q11 h12 =>
    asI .i64 q11 fun n13 =>
    Post (.int .i64 n13) h12) h) (
    IDXS w_5b (0 : Int) w_5l fun p14 =>
    oS (cell h p14) fun s15 =>
    BIF (ByteArray.toList s15 == ByteArray.toList (⟨#[116, 117, 110, 105, 110, 103]⟩ : ByteArray)) (
    p_impl_compiler_compile.J7 Post c_0 line_1 w_5b w_5l w_5c ((w_5l : Int) == (3 : Int)) h) (
    p_impl_compiler_compile.J7 Post c_0 line_1 w_5b w_5l w_5c false h))
def p_impl_compiler_compile.j5 (Post : Value → Heap → Prop) : Frame → Heap → Prop := fun fr h => GRD (shape (kds 111 [(0, .p), (1, .s), (5, .l), (10, .b)]) fr) (p_impl_compiler_compile.J5 Post (gP (lget fr 0)) (gS (lget fr 1)) (gLb (lget fr 5)) (gLl (lget fr 5)) (gLc (lget fr 5)) (gB (lget fr 10)) h)
def p_impl_compiler_compile.S (c_0 : Addr) (line_1 : ByteArray) (Post : Value → Heap → Prop) (h : Heap) : Prop :=
    CALL prg f_strings_Split #[.string line_1, .string (⟨#[32]⟩ : ByteArray)] (fun q1 h2 =>
    asL q1 fun l3b l3l l3c =>
    CALL prg f_slices_Contains_sl_string_string #[.slice l3b l3l l3c, .string (⟨#[]⟩ : ByteArray)] (fun q4 h5 =>
    asB q4 fun b6 =>
    BIF b6 (
    Post (.int .i64 (5 : Int)) h5) (
    IDXS l3b (0 : Int) l3l fun p7 =>
    oS (cell h5 p7) fun s8 =>
    BIF (ByteArray.toList s8 == ByteArray.toList (⟨#[114, 97, 116, 101]⟩ : ByteArray)) (
    p_impl_compiler_compile.J5 Post c_0 line_1 l3b l3l l3c ((l3l : Int) == (2 : Int)) h5) (
    p_impl_compiler_compile.J5 Post c_0 line_1 l3b l3l l3c false h5))) h2) h
noncomputable def p_impl_compiler_compile.code : Code := (Tryz.f21.body).getD .skip
theorem p_impl_compiler_compile.call {c_0 : Addr} {line_1 : ByteArray} {Post : Value → Heap → Prop} {h : Heap} (H : p_impl_compiler_compile.S c_0 line_1 Post h) : CALL prg f_p_impl_compiler_compile #[.pointer (some c_0), .string line_1] Post h :=
  fn_call tau_ok mixed (c := p_impl_compiler_compile.code) (Λ := lookL [(5, p_impl_compiler_compile.j5 Post), (7, p_impl_compiler_compile.j7 Post), (9, p_impl_compiler_compile.j9 Post), (11, p_impl_compiler_compile.j11 Post), (13, p_impl_compiler_compile.j13 Post)]) Tryz.func21 (by kernel_rfl) (by kernel_rfl)
    (Rq.seq (by kernel_rfl) (Rq.free (by kernel_rfl)) (Rq.seq (by kernel_rfl) (Rq.free (by kernel_rfl)) (Rq.seq (by kernel_rfl) (Rq.free (by kernel_rfl)) (Rq.seq (by kernel_rfl) (Rq.block (Rq.seqJ (p_impl_compiler_compile.j5 Post) (by kernel_rfl) (seg (fun _ _ => by kernel_rfl)) (Rq.free (by kernel_rfl))
(Rq.cond (Rq.free (by kernel_rfl)) (Rq.seqJ (p_impl_compiler_compile.j7 Post) (by kernel_rfl) (seg (fun _ _ => by kernel_rfl)) (Rq.free (by kernel_rfl))
(Rq.cond (Rq.free (by kernel_rfl)) (Rq.seqJ (p_impl_compiler_compile.j9 Post) (by kernel_rfl) (seg (fun _ _ => by kernel_rfl)) (Rq.free (by kernel_rfl))
(Rq.cond (Rq.free (by kernel_rfl)) (Rq.seqJ (p_impl_compiler_compile.j11 Post) (by kernel_rfl) (seg (fun _ _ => by kernel_rfl)) (Rq.free (by kernel_rfl))
(Rq.cond (Rq.free (by kernel_rfl)) (Rq.seqJ (p_impl_compiler_compile.j13 Post) (by kernel_rfl) (seg (fun _ _ => by kernel_rfl)) (Rq.free (by kernel_rfl))
(Rq.free (by kernel_rfl)))))))))))) (Rq.free (by kernel_rfl))))))
    (Eq.mp (by kernel_rfl) H)

def impl_CompileScore.B8 (Post : Value → Heap → Prop) (N8 : (Addr × Option Addr × Nat × Nat × Addr) → Heap → Prop) : Addr × Option Addr × Nat × Nat × Addr → Heap → Prop
  | (t2, lines_5b, lines_5l, lines_5c, c_8), h =>
    oI .i64 (cell h (Addr.add c_8 8)) fun n32 =>
    BIF ((decide (n32 < (lines_5l : Int)))) (
    oI .i64 (cell h (Addr.add c_8 8)) fun n35 =>
    IDXS lines_5b n35 lines_5l fun p36 =>
    oS (cell h ((Addr.add p36 ((Int.toNat n35) * 1)))) fun s37 =>
    CALL prg f_p_impl_compiler_compile #[.pointer (some c_8), .string s37] (fun q38 h39 =>
    asI .i64 q38 fun n40 =>
    BIF (n40 != (0 : Int)) (
    STA 6 h39 t2 (⟨[.float .f32 0, .float .f32 0, .float .f32 0, .slice none 0 0, .slice none 0 0, .slice none 0 0]⟩ : Array Value) fun h41 =>
    LDA 6 h41 t2 fun a42 =>
    Post (.tuple ⟨[.agg a42, .int .i64 n35, .int .i64 n40]⟩) h41) (
    oI .i64 (cell h39 (Addr.add c_8 8)) fun n43 =>
    ST1 h39 (Addr.add c_8 8) (.int .i64 ((IntKind.i64.wrap (n43 + (1 : Int))))) fun h44 =>
    N8 (t2, lines_5b, lines_5l, lines_5c, c_8) h44)) h) (
    oL (cell h (Addr.add c_8 7)) fun l45b l45l l45c =>
    BIF ((decide ((0 : Int) < (l45l : Int)))) (
    CALL prg f_impl_length_string #[.slice lines_5b lines_5l lines_5c] (fun q48 h49 =>
    asI .i64 q48 fun n50 =>
    STA 6 h49 t2 (⟨[.float .f32 0, .float .f32 0, .float .f32 0, .slice none 0 0, .slice none 0 0, .slice none 0 0]⟩ : Array Value) fun h51 =>
    LDA 6 h51 t2 fun a52 =>
    Post (.tuple ⟨[.agg a52, .int .i64 n50, .int .i64 (4 : Int)]⟩) h51) h) (
    oL (cell h (Addr.add c_8 5)) fun l53b l53l l53c =>
    oL (cell h (Addr.add c_8 5)) fun l54b l54l l54c =>
    CALL prg f_impl_starts #[.slice l54b l54l l54c] (fun q55 h56 =>
    PIN h (Addr.add c_8 5) 1 h56 <|
    CALL prg f_impl_compareEvents #[q55] (fun q57 h58 =>
    PIN h (Addr.add c_8 5) 1 h58 <|
    CALL prg f_slices_SortFunc_sl_impl_Event_impl_Event #[.slice l53b l53l l53c, q57] (fun q59 h60 =>
    LDA 6 h60 c_8 fun a61 =>
    STA 6 h60 t2 a61 fun h62 =>
    LDA 6 h62 t2 fun a63 =>
    Post (.tuple ⟨[.agg a63, .int .i64 (0 : Int), .int .i64 (0 : Int)]⟩) h62) h58) h56) h))
def impl_CompileScore.g8 (fr : Frame) : Addr × Option Addr × Nat × Nat × Addr := ((gP (lget fr 2)), (gLb (lget fr 5)), (gLl (lget fr 5)), (gLc (lget fr 5)), (gP (lget fr 8)))
def impl_CompileScore.l8 (Post : Value → Heap → Prop) : Frame → Heap → Prop := fun fr h => GRD (shape (kds 97 [(2, .p), (5, .l), (8, .p)]) fr) (LOOP (impl_CompileScore.B8 Post) (impl_CompileScore.g8 fr) h)
def impl_CompileScore.J6 (Post : Value → Heap → Prop) (t2 : Addr) (lines_5b : Option Addr) (lines_5l : Nat) (lines_5c : Nat) (h : Heap) : Prop :=
    CALL prg f_impl_EqualTuning #[.float .f32 1138491392, .int .i64 (12 : Int)] (fun q20 h21 =>
    TUP2 q20 fun q22 q23 =>
    asA q22 fun a24 =>
    asI .i64 q23 fun n25 =>
    ALC ⟨Z_impl_Tuning⟩ T_impl_Tuning (fun g26 h27 =>
    STA 3 h27 ⟨g26, 0, none⟩ a24 fun h28 =>
    LDA 3 h28 ⟨g26, 0, none⟩ fun a29 =>
    SIZ (Array.size a29) 3 <|
    SIZ (Array.size ⟨(splice 1 3 a29 [.float .f32 1194083328, .float .f32 0, .float .f32 0, .slice none 0 0, .slice none 0 0, .slice none 0 0])⟩) 6 <|
    ALC (⟨(splice 0 6 ⟨(splice 1 3 a29 [.float .f32 1194083328, .float .f32 0, .float .f32 0, .slice none 0 0, .slice none 0 0, .slice none 0 0])⟩ [.float .f32 0, .float .f32 0, .float .f32 0, .slice none 0 0, .slice none 0 0, .slice none 0 0, .int .i64 (0 : Int), .slice none 0 0, .int .i64 (0 : Int)])⟩) T_impl_compiler (fun g30 h31 =>
    LOOP (impl_CompileScore.B8 Post) (t2, lines_5b, lines_5l, lines_5c, ⟨g30, 0, none⟩) h31) h28) h21) h
def impl_CompileScore.j6 (Post : Value → Heap → Prop) : Frame → Heap → Prop := fun fr h => GRD (shape (kds 97 [(2, .p), (5, .l)]) fr) (impl_CompileScore.J6 Post (gP (lget fr 2)) (gLb (lget fr 5)) (gLl (lget fr 5)) (gLc (lget fr 5)) h)
def impl_CompileScore.J4 (Post : Value → Heap → Prop) (text_0 : ByteArray) (t2 : Addr) (lines_5b : Option Addr) (lines_5l : Nat) (lines_5c : Nat) (h : Heap) : Prop :=
    BIF ((decide ((4000 : Int) < ((ByteArray.size text_0) : Int)))) (
    STA 6 h t2 (⟨[.float .f32 0, .float .f32 0, .float .f32 0, .slice none 0 0, .slice none 0 0, .slice none 0 0]⟩ : Array Value) fun h14 =>
    LDA 6 h14 t2 fun a15 =>
    Post (.tuple ⟨[.agg a15, .int .i64 (0 : Int), .int .i64 (2 : Int)]⟩) h14) (
    BIF ((decide ((200 : Int) < (lines_5l : Int)))) (
    STA 6 h t2 (⟨[.float .f32 0, .float .f32 0, .float .f32 0, .slice none 0 0, .slice none 0 0, .slice none 0 0]⟩ : Array Value) fun h18 =>
    LDA 6 h18 t2 fun a19 =>
    Post (.tuple ⟨[.agg a19, .int .i64 (0 : Int), .int .i64 (2 : Int)]⟩) h18) (
    impl_CompileScore.J6 Post t2 lines_5b lines_5l lines_5c h))
def impl_CompileScore.j4 (Post : Value → Heap → Prop) : Frame → Heap → Prop := fun fr h => GRD (shape (kds 97 [(0, .s), (2, .p), (5, .l)]) fr) (impl_CompileScore.J4 Post (gS (lget fr 0)) (gP (lget fr 2)) (gLb (lget fr 5)) (gLl (lget fr 5)) (gLc (lget fr 5)) h)
def impl_CompileScore.S (text_0 : ByteArray) (Post : Value → Heap → Prop) (h : Heap) : Prop :=
    ALC ⟨Z_impl_Score⟩ T_impl_Score (fun g1 h2 =>
    CALL prg f_strings_Split #[.string text_0, .string (⟨#[10]⟩ : ByteArray)] (fun q3 h4 =>
    asL q3 fun l5b l5l l5c =>
    IDXS l5b ((IntKind.i64.wrap ((l5l : Int) - (1 : Int)))) l5l fun p8 =>
    oS (cell h4 ((Addr.add p8 ((Int.toNat ((IntKind.i64.wrap ((l5l : Int) - (1 : Int))))) * 1)))) fun s9 =>
    BIF (ByteArray.toList s9 == ByteArray.toList (⟨#[]⟩ : ByteArray)) (
    SLB (0 : Int) ((IntKind.i64.wrap ((l5l : Int) - (1 : Int)))) (l5c : Int) <|
    impl_CompileScore.J4 Post text_0 ⟨g1, 0, none⟩ (slA l5b l5c 0 1) (((Int.toNat ((IntKind.i64.wrap ((l5l : Int) - (1 : Int))))) - 0)) (l5c - 0) h4) (
    impl_CompileScore.J4 Post text_0 ⟨g1, 0, none⟩ l5b l5l l5c h4)) h2) h
noncomputable def impl_CompileScore.code : Code := (Tryz.f6.body).getD .skip
theorem impl_CompileScore.call {text_0 : ByteArray} {Post : Value → Heap → Prop} {h : Heap} (H : impl_CompileScore.S text_0 Post h) : CALL prg f_impl_CompileScore #[.string text_0] Post h :=
  fn_call tau_ok mixed (c := impl_CompileScore.code) (Λ := lookL [(4, impl_CompileScore.j4 Post), (6, impl_CompileScore.j6 Post), (1000008, impl_CompileScore.l8 Post)]) Tryz.func6 (by kernel_rfl) (by kernel_rfl)
    (Rq.seq (by kernel_rfl) (Rq.free (by kernel_rfl)) (Rq.seq (by kernel_rfl) (Rq.free (by kernel_rfl)) (Rq.seqJ (impl_CompileScore.j4 Post) (by kernel_rfl) (seg (fun _ _ => by kernel_rfl)) (Rq.free (by kernel_rfl))
(Rq.seqJ (impl_CompileScore.j6 Post) (by kernel_rfl) (seg (fun _ _ => by kernel_rfl)) (Rq.free (by kernel_rfl))
(Rq.seq (by kernel_rfl) (Rq.free (by kernel_rfl)) (Rq.seq (by kernel_rfl) (Rq.free (by kernel_rfl)) (Rq.seq (by kernel_rfl) (Rq.block (Rq.loop (impl_CompileScore.l8 Post) (by kernel_rfl) (segL (g := impl_CompileScore.g8) tau_ok mixed (Λ := fun N8 => lookL []) (fun _ _ _ => by kernel_rfl) (fun N8 => (Rq.free (by kernel_rfl)))))) (Rq.free (by kernel_rfl)))))))))
    (Eq.mp (by kernel_rfl) H)

end Go.Sx
