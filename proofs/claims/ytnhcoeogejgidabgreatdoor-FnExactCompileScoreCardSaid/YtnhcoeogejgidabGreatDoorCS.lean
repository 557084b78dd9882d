/- What functions of this seat's program compute, told in words (a predicate over heaps for each), and the proofs that the words are no more than the code's own weakest precondition. -/
import Derived.Test.YtnhcoeogejgidabGreatDoorTab
namespace Go.Sx
open Go.Proofs
set_option linter.unusedVariables false
set_option maxRecDepth 100000

def p_spec_l08Work_add.B4 (Post : Value → Heap → Prop) (N4 : (Addr × Addr × Int) → Heap → Prop) : Addr × Addr × Int → Heap → Prop
  | (w_0, x_3, i_5), h =>
    oL (cell h (Addr.add w_0 4)) fun l6b l6l l6c =>
    BIF ((decide (i_5 < (l6l : Int)))) (
    oL (cell h (Addr.add w_0 4)) fun l9b l9l l9c =>
    IDXS l9b i_5 l9l fun p10 =>
    oS (cell h ((Addr.add p10 ((Int.toNat i_5) * 5)))) fun s11 =>
    oS (cell h x_3) fun s12 =>
    BIF (ByteArray.toList s11 == ByteArray.toList s12) (
    Post (.int .i64 (4 : Int)) h) (
    N4 (w_0, x_3, ((IntKind.i64.wrap (i_5 + (1 : Int))))) h)) (
    oL (cell h (Addr.add w_0 4)) fun l13b l13l l13c =>
    BIF ((l13l : Int) == (6 : Int)) (
    Post (.int .i64 (3 : Int)) h) (
    oL (cell h (Addr.add w_0 4)) fun l16b l16l l16c =>
    LDA 5 h x_3 fun a17 =>
    SIZ (Array.size a17) 5 <|
    ALC ⟨(splice 0 5 a17 [.string (⟨#[]⟩ : ByteArray), .int .i64 (0 : Int), .float .f32 0, .float .f32 0, .float .f32 0])⟩ T_impl_Instrument (fun g18 h19 =>
    PIN h (Addr.add w_0 4) 1 h19 <|
    SEMV prg (Builtin.append_ #[T_sl_impl_Instrument, T_sl_impl_Instrument] T_sl_impl_Instrument #[.slice l16b l16l l16c, .slice (some ⟨g18, 0, none⟩) 1 1]) (fun q20 h21 =>
    asL q20 fun l22b l22l l22c =>
    ST1 h21 (Addr.add w_0 4) (.slice l22b l22l l22c) fun h23 =>
    Post (.int .i64 (0 : Int)) h23) h19) h))
def p_spec_l08Work_add.g4 (fr : Frame) : Addr × Addr × Int := ((gP (lget fr 0)), (gP (lget fr 3)), (gI (lget fr 5)))
def p_spec_l08Work_add.l4 (Post : Value → Heap → Prop) : Frame → Heap → Prop := fun fr h => GRD (shape (kds 44 [(0, .p), (3, .p), (5, .i .i64)]) fr) (LOOP (p_spec_l08Work_add.B4 Post) (p_spec_l08Work_add.g4 fr) h)
def p_spec_l08Work_add.S (w_0 : Addr) (x_1 : Array Value) (Post : Value → Heap → Prop) (h : Heap) : Prop :=
    ALC x_1 T_impl_Instrument (fun g1 h2 =>
    CALL prg f_spec_l08Instrument #[.pointer (some ⟨g1, 0, none⟩)] (fun q3 h4 =>
    asB q3 fun b5 =>
    BIF (!b5) (
    Post (.int .i64 (2 : Int)) h4) (
    LOOP (p_spec_l08Work_add.B4 Post) (w_0, ⟨g1, 0, none⟩, (0 : Int)) h4)) h2) h
noncomputable def p_spec_l08Work_add.code : Code := (Tryz.f78.body).getD .skip
theorem p_spec_l08Work_add.call {w_0 : Addr} {x_1 : Array Value} {Post : Value → Heap → Prop} {h : Heap} (H : p_spec_l08Work_add.S w_0 x_1 Post h) : CALL prg f_p_spec_l08Work_add #[.pointer (some w_0), .agg x_1] Post h :=
  fn_call tau_ok mixed (c := p_spec_l08Work_add.code) (Λ := lookL [(1000004, p_spec_l08Work_add.l4 Post)]) Tryz.func78 (by kernel_rfl) (by kernel_rfl)
    (Rq.seq (by kernel_rfl) (Rq.free (by kernel_rfl)) (Rq.seq (by kernel_rfl) (Rq.free (by kernel_rfl)) (Rq.seq (by kernel_rfl) (Rq.seq (by kernel_rfl) (Rq.free (by kernel_rfl)) (Rq.block (Rq.loop (p_spec_l08Work_add.l4 Post) (by kernel_rfl) (segL (g := p_spec_l08Work_add.g4) tau_ok mixed (Λ := fun N4 => lookL []) (fun _ _ _ => by kernel_rfl) (fun N4 => (Rq.free (by kernel_rfl))))))) (Rq.free (by kernel_rfl)))))
    (Eq.mp (by kernel_rfl) H)

def p_spec_l08Work_sound.J20 (Post : Value → Heap → Prop) (w_0 : Addr) (x_5 : Addr) (a_6 : Nat) (b_8 : Nat) (c_10 : Nat) (h : Heap) : Prop :=
    ST1 h (Addr.add x_5 2) (.float .f32 a_6) fun h57 =>
    ST1 h57 (Addr.add x_5 3) (.float .f32 b_8) fun h58 =>
    ST1 h58 (Addr.add x_5 4) (.float .f32 c_10) fun h59 =>
    LDA 5 h59 x_5 fun a60 =>
    CALL prg f_p_spec_l08Work_add #[.pointer (some w_0), .agg a60] (fun q61 h62 =>
    asI .i64 q61 fun n63 =>
    Post (.int .i64 n63) h62) h59
def p_spec_l08Work_sound.j20 (Post : Value → Heap → Prop) : Frame → Heap → Prop := fun fr h => GRD (shape (kds 96 [(0, .p), (5, .p), (6, .f .f32), (8, .f .f32), (10, .f .f32)]) fr) (p_spec_l08Work_sound.J20 Post (gP (lget fr 0)) (gP (lget fr 5)) (gF (lget fr 6)) (gF (lget fr 8)) (gF (lget fr 10)) h)
def p_spec_l08Work_sound.J18 (Post : Value → Heap → Prop) (w_0 : Addr) (x_5 : Addr) (a_6 : Nat) (one_7 : Bool) (b_8 : Nat) (two_9 : Bool) (c_10 : Nat) (three_11 : Bool) (h : Heap) : Prop :=
    BIF (!one_7) (
    Post (.int .i64 (5 : Int)) h) (
    BIF (!two_9) (
    Post (.int .i64 (5 : Int)) h) (
    BIF (!three_11) (
    Post (.int .i64 (5 : Int)) h) (
    p_spec_l08Work_sound.J20 Post w_0 x_5 a_6 b_8 c_10 h)))
def p_spec_l08Work_sound.j18 (Post : Value → Heap → Prop) : Frame → Heap → Prop := fun fr h => GRD (shape (kds 96 [(0, .p), (5, .p), (6, .f .f32), (7, .b), (8, .f .f32), (9, .b), (10, .f .f32), (11, .b)]) fr) (p_spec_l08Work_sound.J18 Post (gP (lget fr 0)) (gP (lget fr 5)) (gF (lget fr 6)) (gB (lget fr 7)) (gF (lget fr 8)) (gB (lget fr 9)) (gF (lget fr 10)) (gB (lget fr 11)) h)
def p_spec_l08Work_sound.J3 (Post : Value → Heap → Prop) (w_0 : Addr) (words_1b : Option Addr) (words_1l : Nat) (words_1c : Nat) (h : Heap) : Prop :=
    IDXS words_1b (1 : Int) words_1l fun p8 =>
    oS (cell h (Addr.add p8 1)) fun s9 =>
    ALC ⟨Z_impl_Instrument⟩ T_impl_Instrument (fun g10 h11 =>
    STA 5 h11 ⟨g10, 0, none⟩ (⟨[.string s9, .int .i64 (1 : Int), .float .f32 0, .float .f32 0, .float .f32 0]⟩ : Array Value) fun h12 =>
    IDXS words_1b (2 : Int) words_1l fun p13 =>
    oS (cell h12 (Addr.add p13 2)) fun s14 =>
    CALL prg f_spec_l08Fraction #[.string s14] (fun q15 h16 =>
    TUP2 q15 fun q17 q18 =>
    asF .f32 q17 fun r19 =>
    asB q18 fun b20 =>
    IDXS words_1b (3 : Int) words_1l fun p21 =>
    oS (cell h16 (Addr.add p21 3)) fun s22 =>
    CALL prg f_spec_l08Fraction #[.string s22] (fun q23 h24 =>
    TUP2 q23 fun q25 q26 =>
    asF .f32 q25 fun r27 =>
    asB q26 fun b28 =>
    IDXS words_1b (0 : Int) words_1l fun p29 =>
    oS (cell h24 p29) fun s30 =>
    BIF (ByteArray.toList s30 == ByteArray.toList (⟨#[112, 105, 112, 101]⟩ : ByteArray)) (
    ST1 h24 ⟨g10, 1, none⟩ (.int .i64 (2 : Int)) fun h31 =>
    IDXS words_1b (4 : Int) words_1l fun p32 =>
    oS (cell h31 (Addr.add p32 4)) fun s33 =>
    BIF (ByteArray.toList s33 == ByteArray.toList (⟨#[111, 112, 101, 110]⟩ : ByteArray)) (
    IDXS words_1b (4 : Int) words_1l fun p34 =>
    oS (cell h31 (Addr.add p34 4)) fun s35 =>
    BIF (ByteArray.toList s35 == ByteArray.toList (⟨#[111, 112, 101, 110]⟩ : ByteArray)) (
    p_spec_l08Work_sound.J18 Post w_0 ⟨g10, 0, none⟩ r19 b20 r27 b28 1065353216 true h31) (
    p_spec_l08Work_sound.J18 Post w_0 ⟨g10, 0, none⟩ r19 b20 r27 b28 0 true h31)) (
    IDXS words_1b (4 : Int) words_1l fun p36 =>
    oS (cell h31 (Addr.add p36 4)) fun s37 =>
    IDXS words_1b (4 : Int) words_1l fun p38 =>
    oS (cell h31 (Addr.add p38 4)) fun s39 =>
    BIF (ByteArray.toList s39 == ByteArray.toList (⟨#[111, 112, 101, 110]⟩ : ByteArray)) (
    p_spec_l08Work_sound.J18 Post w_0 ⟨g10, 0, none⟩ r19 b20 r27 b28 1065353216 (ByteArray.toList s37 == ByteArray.toList (⟨#[99, 108, 111, 115, 101, 100]⟩ : ByteArray)) h31) (
    p_spec_l08Work_sound.J18 Post w_0 ⟨g10, 0, none⟩ r19 b20 r27 b28 0 (ByteArray.toList s37 == ByteArray.toList (⟨#[99, 108, 111, 115, 101, 100]⟩ : ByteArray)) h31))) (
    BIF (ByteArray.toList s30 == ByteArray.toList (⟨#[98, 111, 119]⟩ : ByteArray)) (
    ST1 h24 ⟨g10, 1, none⟩ (.int .i64 (3 : Int)) fun h40 =>
    IDXS words_1b (4 : Int) words_1l fun p41 =>
    oS (cell h40 (Addr.add p41 4)) fun s42 =>
    CALL prg f_spec_l08Fraction #[.string s42] (fun q43 h44 =>
    TUP2 q43 fun q45 q46 =>
    asF .f32 q45 fun r47 =>
    asB q46 fun b48 =>
    p_spec_l08Work_sound.J18 Post w_0 ⟨g10, 0, none⟩ r19 b20 r27 b28 r47 b48 h44) h40) (
    IDXS words_1b (4 : Int) words_1l fun p49 =>
    oS (cell h24 (Addr.add p49 4)) fun s50 =>
    CALL prg f_spec_l08Fraction #[.string s50] (fun q51 h52 =>
    TUP2 q51 fun q53 q54 =>
    asF .f32 q53 fun r55 =>
    asB q54 fun b56 =>
    p_spec_l08Work_sound.J18 Post w_0 ⟨g10, 0, none⟩ r19 b20 r27 b28 r55 b56 h52) h24))) h16) h12) h
def p_spec_l08Work_sound.j3 (Post : Value → Heap → Prop) : Frame → Heap → Prop := fun fr h => GRD (shape (kds 96 [(0, .p), (1, .l)]) fr) (p_spec_l08Work_sound.J3 Post (gP (lget fr 0)) (gLb (lget fr 1)) (gLl (lget fr 1)) (gLc (lget fr 1)) h)
def p_spec_l08Work_sound.S (w_0 : Addr) (words_1b : Option Addr) (words_1l words_1c : Nat) (Post : Value → Heap → Prop) (h : Heap) : Prop :=
    BIF ((words_1l : Int) != (5 : Int)) (
    Post (.int .i64 (5 : Int)) h) (
    IDXS words_1b (1 : Int) words_1l fun p3 =>
    oS (cell h (Addr.add p3 1)) fun s4 =>
    CALL prg f_spec_l08Name #[.string s4] (fun q5 h6 =>
    asB q5 fun b7 =>
    BIF (!b7) (
    Post (.int .i64 (5 : Int)) h6) (
    p_spec_l08Work_sound.J3 Post w_0 words_1b words_1l words_1c h6)) h)
noncomputable def p_spec_l08Work_sound.code : Code := (Tryz.f45.body).getD .skip
theorem p_spec_l08Work_sound.call {w_0 : Addr} {words_1b : Option Addr} {words_1l words_1c : Nat} {Post : Value → Heap → Prop} {h : Heap} (H : p_spec_l08Work_sound.S w_0 words_1b words_1l words_1c Post h) : CALL prg f_p_spec_l08Work_sound #[.pointer (some w_0), .slice words_1b words_1l words_1c] Post h :=
  fn_call tau_ok mixed (c := p_spec_l08Work_sound.code) (Λ := lookL [(3, p_spec_l08Work_sound.j3 Post), (18, p_spec_l08Work_sound.j18 Post), (20, p_spec_l08Work_sound.j20 Post)]) Tryz.func45 (by kernel_rfl) (by kernel_rfl)
    (Rq.seq (by kernel_rfl) (Rq.free (by kernel_rfl)) (Rq.seqJ (p_spec_l08Work_sound.j3 Post) (by kernel_rfl) (seg (fun _ _ => by kernel_rfl)) (Rq.free (by kernel_rfl))
(Rq.seq (by kernel_rfl) (Rq.free (by kernel_rfl)) (Rq.seq (by kernel_rfl) (Rq.free (by kernel_rfl)) (Rq.seq (by kernel_rfl) (Rq.free (by kernel_rfl)) (Rq.seq (by kernel_rfl) (Rq.free (by kernel_rfl)) (Rq.seq (by kernel_rfl) (Rq.free (by kernel_rfl)) (Rq.seqJ (p_spec_l08Work_sound.j18 Post) (by kernel_rfl) (seg (fun _ _ => by kernel_rfl)) (Rq.free (by kernel_rfl))
(Rq.seqJ (p_spec_l08Work_sound.j20 Post) (by kernel_rfl) (seg (fun _ _ => by kernel_rfl)) (Rq.free (by kernel_rfl))
(Rq.free (by kernel_rfl)))))))))))
    (Eq.mp (by kernel_rfl) H)

def p_spec_l08Work_play.B12 (Post : Value → Heap → Prop) (N12 : (Addr × Option Addr × Nat × Nat × Int × Nat × Int × Int × Int) → Heap → Prop) : Addr × Option Addr × Nat × Nat × Int × Nat × Int × Int × Int → Heap → Prop
  | (w_0, words_1b, words_1l, words_1c, key_5, force_7, length_9, at_11, i_12), h =>
    oL (cell h (Addr.add w_0 4)) fun l36b l36l l36c =>
    BIF ((decide (i_12 < (l36l : Int)))) (
    oL (cell h (Addr.add w_0 4)) fun l39b l39l l39c =>
    IDXS l39b i_12 l39l fun p40 =>
    oS (cell h ((Addr.add p40 ((Int.toNat i_12) * 5)))) fun s41 =>
    IDXS words_1b (1 : Int) words_1l fun p42 =>
    oS (cell h (Addr.add p42 1)) fun s43 =>
    BIF (ByteArray.toList s41 == ByteArray.toList s43) (
    N12 (w_0, words_1b, words_1l, words_1c, key_5, force_7, length_9, i_12, ((IntKind.i64.wrap (i_12 + (1 : Int))))) h) (
    N12 (w_0, words_1b, words_1l, words_1c, key_5, force_7, length_9, at_11, ((IntKind.i64.wrap (i_12 + (1 : Int))))) h)) (
    BIF ((decide (at_11 < (0 : Int)))) (
    Post (.int .i64 (6 : Int)) h) (
    oL (cell h (Addr.add w_0 5)) fun l44b l44l l44c =>
    BIF ((l44l : Int) == (64 : Int)) (
    Post (.int .i64 (3 : Int)) h) (
    oL (cell h (Addr.add w_0 5)) fun l47b l47l l47c =>
    oI .i64 (cell h (Addr.add w_0 6)) fun n48 =>
    oI .i64 (cell h (Addr.add w_0 6)) fun n49 =>
    SIZ (Array.size (⟨[.int .i64 n48, .int .i64 (IntKind.i64.wrap (n49 + length_9)), .int .i64 at_11, .int .i64 key_5, .float .f32 force_7]⟩ : Array Value)) 5 <|
    ALC ⟨[.int .i64 n48, .int .i64 (IntKind.i64.wrap (n49 + length_9)), .int .i64 at_11, .int .i64 key_5, .float .f32 force_7]⟩ T_spec_l08Note (fun g50 h51 =>
    PIN h (Addr.add w_0 5) 1 h51 <|
    SEMV prg (Builtin.append_ #[T_sl_spec_l08Note, T_sl_spec_l08Note] T_sl_spec_l08Note #[.slice l47b l47l l47c, .slice (some ⟨g50, 0, none⟩) 1 1]) (fun q52 h53 =>
    asL q52 fun l54b l54l l54c =>
    ST1 h53 (Addr.add w_0 5) (.slice l54b l54l l54c) fun h55 =>
    Post (.int .i64 (0 : Int)) h55) h51) h)))
def p_spec_l08Work_play.g12 (fr : Frame) : Addr × Option Addr × Nat × Nat × Int × Nat × Int × Int × Int := ((gP (lget fr 0)), (gLb (lget fr 1)), (gLl (lget fr 1)), (gLc (lget fr 1)), (gI (lget fr 5)), (gF (lget fr 7)), (gI (lget fr 9)), (gI (lget fr 11)), (gI (lget fr 12)))
def p_spec_l08Work_play.l12 (Post : Value → Heap → Prop) : Frame → Heap → Prop := fun fr h => GRD (shape (kds 119 [(0, .p), (1, .l), (5, .i .i64), (7, .f .f32), (9, .i .i64), (11, .i .i64), (12, .i .i64)]) fr) (LOOP (p_spec_l08Work_play.B12 Post) (p_spec_l08Work_play.g12 fr) h)
def p_spec_l08Work_play.J10 (Post : Value → Heap → Prop) (w_0 : Addr) (words_1b : Option Addr) (words_1l : Nat) (words_1c : Nat) (key_5 : Int) (force_7 : Nat) (length_9 : Int) (h : Heap) : Prop :=
    LOOP (p_spec_l08Work_play.B12 Post) (w_0, words_1b, words_1l, words_1c, key_5, force_7, length_9, (-1 : Int), (0 : Int)) h
def p_spec_l08Work_play.j10 (Post : Value → Heap → Prop) : Frame → Heap → Prop := fun fr h => GRD (shape (kds 119 [(0, .p), (1, .l), (5, .i .i64), (7, .f .f32), (9, .i .i64)]) fr) (p_spec_l08Work_play.J10 Post (gP (lget fr 0)) (gLb (lget fr 1)) (gLl (lget fr 1)) (gLc (lget fr 1)) (gI (lget fr 5)) (gF (lget fr 7)) (gI (lget fr 9)) h)
def p_spec_l08Work_play.J8 (Post : Value → Heap → Prop) (w_0 : Addr) (words_1b : Option Addr) (words_1l : Nat) (words_1c : Nat) (key_5 : Int) (force_7 : Nat) (length_9 : Int) (h : Heap) : Prop :=
    CALL prg f_spec_l00In #[.int .i64 key_5, .int .i64 (-100 : Int), .int .i64 (100 : Int)] (fun q32 h33 =>
    asB q32 fun b34 =>
    BIF (!b34) (
    Post (.int .i64 (2 : Int)) h33) (
    oI .i64 (cell h33 (Addr.add w_0 6)) fun n35 =>
    BIF ((decide ((100000 : Int) < (IntKind.i64.wrap (n35 + length_9))))) (
    Post (.int .i64 (2 : Int)) h33) (
    p_spec_l08Work_play.J10 Post w_0 words_1b words_1l words_1c key_5 force_7 length_9 h33))) h
def p_spec_l08Work_play.j8 (Post : Value → Heap → Prop) : Frame → Heap → Prop := fun fr h => GRD (shape (kds 119 [(0, .p), (1, .l), (5, .i .i64), (7, .f .f32), (9, .i .i64)]) fr) (p_spec_l08Work_play.J8 Post (gP (lget fr 0)) (gLb (lget fr 1)) (gLl (lget fr 1)) (gLc (lget fr 1)) (gI (lget fr 5)) (gF (lget fr 7)) (gI (lget fr 9)) h)
def p_spec_l08Work_play.J3 (Post : Value → Heap → Prop) (w_0 : Addr) (words_1b : Option Addr) (words_1l : Nat) (words_1c : Nat) (h : Heap) : Prop :=
    IDXS words_1b (2 : Int) words_1l fun p8 =>
    oS (cell h (Addr.add p8 2)) fun s9 =>
    CALL prg f_spec_l08Signed #[.string s9] (fun q10 h11 =>
    TUP2 q10 fun q12 q13 =>
    asI .i64 q12 fun n14 =>
    asB q13 fun b15 =>
    IDXS words_1b (3 : Int) words_1l fun p16 =>
    oS (cell h11 (Addr.add p16 3)) fun s17 =>
    CALL prg f_spec_l08Fraction #[.string s17] (fun q18 h19 =>
    TUP2 q18 fun q20 q21 =>
    asF .f32 q20 fun r22 =>
    asB q21 fun b23 =>
    IDXS words_1b (4 : Int) words_1l fun p24 =>
    oS (cell h19 (Addr.add p24 4)) fun s25 =>
    CALL prg f_spec_l08Whole #[.string s25] (fun q26 h27 =>
    TUP2 q26 fun q28 q29 =>
    asI .i64 q28 fun n30 =>
    asB q29 fun b31 =>
    BIF (!b15) (
    Post (.int .i64 (5 : Int)) h27) (
    BIF (!b23) (
    Post (.int .i64 (5 : Int)) h27) (
    BIF (!b31) (
    Post (.int .i64 (5 : Int)) h27) (
    p_spec_l08Work_play.J8 Post w_0 words_1b words_1l words_1c n14 r22 n30 h27)))) h19) h11) h
def p_spec_l08Work_play.j3 (Post : Value → Heap → Prop) : Frame → Heap → Prop := fun fr h => GRD (shape (kds 119 [(0, .p), (1, .l)]) fr) (p_spec_l08Work_play.J3 Post (gP (lget fr 0)) (gLb (lget fr 1)) (gLl (lget fr 1)) (gLc (lget fr 1)) h)
def p_spec_l08Work_play.S (w_0 : Addr) (words_1b : Option Addr) (words_1l words_1c : Nat) (Post : Value → Heap → Prop) (h : Heap) : Prop :=
    BIF ((words_1l : Int) != (5 : Int)) (
    Post (.int .i64 (5 : Int)) h) (
    IDXS words_1b (1 : Int) words_1l fun p3 =>
    oS (cell h (Addr.add p3 1)) fun s4 =>
    CALL prg f_spec_l08Name #[.string s4] (fun q5 h6 =>
    asB q5 fun b7 =>
    BIF (!b7) (
    Post (.int .i64 (5 : Int)) h6) (
    p_spec_l08Work_play.J3 Post w_0 words_1b words_1l words_1c h6)) h)
noncomputable def p_spec_l08Work_play.code : Code := (Tryz.f46.body).getD .skip
theorem p_spec_l08Work_play.call {w_0 : Addr} {words_1b : Option Addr} {words_1l words_1c : Nat} {Post : Value → Heap → Prop} {h : Heap} (H : p_spec_l08Work_play.S w_0 words_1b words_1l words_1c Post h) : CALL prg f_p_spec_l08Work_play #[.pointer (some w_0), .slice words_1b words_1l words_1c] Post h :=
  fn_call tau_ok mixed (c := p_spec_l08Work_play.code) (Λ := lookL [(3, p_spec_l08Work_play.j3 Post), (8, p_spec_l08Work_play.j8 Post), (10, p_spec_l08Work_play.j10 Post), (1000012, p_spec_l08Work_play.l12 Post)]) Tryz.func46 (by kernel_rfl) (by kernel_rfl)
    (Rq.seq (by kernel_rfl) (Rq.free (by kernel_rfl)) (Rq.seqJ (p_spec_l08Work_play.j3 Post) (by kernel_rfl) (seg (fun _ _ => by kernel_rfl)) (Rq.free (by kernel_rfl))
(Rq.seq (by kernel_rfl) (Rq.free (by kernel_rfl)) (Rq.seq (by kernel_rfl) (Rq.free (by kernel_rfl)) (Rq.seq (by kernel_rfl) (Rq.free (by kernel_rfl)) (Rq.seqJ (p_spec_l08Work_play.j8 Post) (by kernel_rfl) (seg (fun _ _ => by kernel_rfl)) (Rq.free (by kernel_rfl))
(Rq.seqJ (p_spec_l08Work_play.j10 Post) (by kernel_rfl) (seg (fun _ _ => by kernel_rfl)) (Rq.free (by kernel_rfl))
(Rq.seq (by kernel_rfl) (Rq.free (by kernel_rfl)) (Rq.seq (by kernel_rfl) (Rq.seq (by kernel_rfl) (Rq.free (by kernel_rfl)) (Rq.block (Rq.loop (p_spec_l08Work_play.l12 Post) (by kernel_rfl) (segL (g := p_spec_l08Work_play.g12) tau_ok mixed (Λ := fun N12 => lookL []) (fun _ _ _ => by kernel_rfl) (fun N12 => (Rq.free (by kernel_rfl))))))) (Rq.free (by kernel_rfl)))))))))))
    (Eq.mp (by kernel_rfl) H)

def p_spec_l08Work_one.S (w_0 : Addr) (word_1 : ByteArray) (n_2 : Int) (line_3 : Int) (Post : Value → Heap → Prop) (h : Heap) : Prop :=
    BIF (ByteArray.toList word_1 == ByteArray.toList (⟨#[114, 97, 116, 101]⟩ : ByteArray)) (
    CALL prg f_spec_l00In #[.int .i64 n_2, .int .i64 (1 : Int), .int .i64 (1000000 : Int)] (fun q1 h2 =>
    asB q1 fun b3 =>
    BIF (!b3) (
    Post (.int .i64 (2 : Int)) h2) (
    oL (cell h2 (Addr.add w_0 5)) fun l4b l4l l4c =>
    BIF ((decide ((0 : Int) < (l4l : Int)))) (
    Post (.int .i64 (4 : Int)) h2) (
    ST1 h2 w_0 (.float .f32 (FloatKind.f32.nearest n_2)) fun h7 =>
    Post (.int .i64 (0 : Int)) h7))) h) (
    BIF (ByteArray.toList word_1 == ByteArray.toList (⟨#[97, 116]⟩ : ByteArray)) (
    BIF ((decide ((100000 : Int) < n_2))) (
    Post (.int .i64 (2 : Int)) h) (
    ST1 h (Addr.add w_0 6) (.int .i64 n_2) fun h8 =>
    Post (.int .i64 (0 : Int)) h8)) (
    BIF (ByteArray.toList word_1 == ByteArray.toList (⟨#[119, 97, 105, 116]⟩ : ByteArray)) (
    oI .i64 (cell h (Addr.add w_0 6)) fun n9 =>
    BIF ((decide ((100000 : Int) < (IntKind.i64.wrap (n9 + n_2))))) (
    Post (.int .i64 (2 : Int)) h) (
    oI .i64 (cell h (Addr.add w_0 6)) fun n10 =>
    ST1 h (Addr.add w_0 6) (.int .i64 (IntKind.i64.wrap (n10 + n_2))) fun h11 =>
    Post (.int .i64 (0 : Int)) h11)) (
    CALL prg f_spec_l00In #[.int .i64 n_2, .int .i64 (1 : Int), .int .i64 (16 : Int)] (fun q12 h13 =>
    asB q12 fun b14 =>
    BIF (!b14) (
    Post (.int .i64 (2 : Int)) h13) (
    oL (cell h13 (Addr.add w_0 7)) fun l15b l15l l15c =>
    BIF ((l15l : Int) == (3 : Int)) (
    Post (.int .i64 (3 : Int)) h13) (
    oL (cell h13 (Addr.add w_0 7)) fun l18b l18l l18c =>
    ALC ⟨[.int .i64 ((IntKind.i64.wrap (line_3 + (1 : Int))))]⟩ T_int (fun g19 h20 =>
    SEMV prg (Builtin.append_ #[T_sl_int, T_sl_int] T_sl_int #[.slice l18b l18l l18c, .slice (some ⟨g19, 0, none⟩) 1 1]) (fun q21 h22 =>
    asL q21 fun l23b l23l l23c =>
    ST1 h22 (Addr.add w_0 7) (.slice l23b l23l l23c) fun h24 =>
    oL (cell h24 (Addr.add w_0 8)) fun l25b l25l l25c =>
    ALC ⟨[.int .i64 ((IntKind.i64.wrap (n_2 - (1 : Int))))]⟩ T_int64 (fun g26 h27 =>
    SEMV prg (Builtin.append_ #[T_sl_int64, T_sl_int64] T_sl_int64 #[.slice l25b l25l l25c, .slice (some ⟨g26, 0, none⟩) 1 1]) (fun q28 h29 =>
    asL q28 fun l30b l30l l30c =>
    ST1 h29 (Addr.add w_0 8) (.slice l30b l30l l30c) fun h31 =>
    Post (.int .i64 (0 : Int)) h31) h27) h24) h20) h13))) h)))
noncomputable def p_spec_l08Work_one.code : Code := (Tryz.f43.body).getD .skip
theorem p_spec_l08Work_one.call {w_0 : Addr} {word_1 : ByteArray} {n_2 : Int} {line_3 : Int} {Post : Value → Heap → Prop} {h : Heap} (H : p_spec_l08Work_one.S w_0 word_1 n_2 line_3 Post h) : CALL prg f_p_spec_l08Work_one #[.pointer (some w_0), .string word_1, .int .i64 n_2, .int .i64 line_3] Post h :=
  fn_call tau_ok mixed (c := p_spec_l08Work_one.code) (Λ := lookL []) Tryz.func43 (by kernel_rfl) (by kernel_rfl)
    (Rq.free (by kernel_rfl))
    (Eq.mp (by kernel_rfl) H)

def p_spec_l08Work_line.J20 (Post : Value → Heap → Prop) (w_0 : Addr) (line_2 : Int) (base_11 : Nat) (n_13 : Int) (h : Heap) : Prop :=
    CALL prg f_spec_EqualTuning #[.float .f32 base_11, .int .i64 n_13] (fun q39 h40 =>
    TUP2 q39 fun q41 q42 =>
    asA q41 fun a43 =>
    asI .i64 q42 fun n44 =>
    ALC ⟨Z_impl_Tuning⟩ T_impl_Tuning (fun g45 h46 =>
    STA 3 h46 ⟨g45, 0, none⟩ a43 fun h47 =>
    BIF (n44 != (0 : Int)) (
    Post (.tuple ⟨[.int .i64 line_2, .int .i64 (2 : Int)]⟩) h47) (
    oL (cell h47 (Addr.add w_0 5)) fun l48b l48l l48c =>
    BIF ((decide ((0 : Int) < (l48l : Int)))) (
    Post (.tuple ⟨[.int .i64 line_2, .int .i64 (4 : Int)]⟩) h47) (
    LDA 3 h47 ⟨g45, 0, none⟩ fun a51 =>
    STA 3 h47 (Addr.add w_0 1) a51 fun h52 =>
    Post (.tuple ⟨[.int .i64 ((IntKind.i64.wrap (line_2 + (1 : Int)))), .int .i64 (0 : Int)]⟩) h52))) h40) h
def p_spec_l08Work_line.j20 (Post : Value → Heap → Prop) : Frame → Heap → Prop := fun fr h => GRD (shape (kds 176 [(0, .p), (2, .i .i64), (11, .f .f32), (13, .i .i64)]) fr) (p_spec_l08Work_line.J20 Post (gP (lget fr 0)) (gI (lget fr 2)) (gF (lget fr 11)) (gI (lget fr 13)) h)
def p_spec_l08Work_line.J30 (Post : Value → Heap → Prop) (w_0 : Addr) (line_2 : Int) (words_8b : Option Addr) (words_8l : Nat) (words_8c : Nat) (t22 : ByteArray) (t100 : Bool) (h : Heap) : Prop :=
    BIF t100 (
    CALL prg f_p_spec_l08Work_sound #[.pointer (some w_0), .slice words_8b words_8l words_8c] (fun q53 h54 =>
    asI .i64 q53 fun n55 =>
    Post (.tuple ⟨[.int .i64 ((IntKind.i64.wrap (line_2 + (1 : Int)))), .int .i64 n55]⟩) h54) h) (
    BIF (ByteArray.toList t22 == ByteArray.toList (⟨#[112, 108, 97, 121]⟩ : ByteArray)) (
    CALL prg f_p_spec_l08Work_play #[.pointer (some w_0), .slice words_8b words_8l words_8c] (fun q56 h57 =>
    asI .i64 q56 fun n58 =>
    Post (.tuple ⟨[.int .i64 ((IntKind.i64.wrap (line_2 + (1 : Int)))), .int .i64 n58]⟩) h57) h) (
    BIF (ByteArray.toList t22 == ByteArray.toList (⟨#[101, 110, 100]⟩ : ByteArray)) (
    BIF ((words_8l : Int) != (1 : Int)) (
    Post (.tuple ⟨[.int .i64 line_2, .int .i64 (5 : Int)]⟩) h) (
    oL (cell h (Addr.add w_0 7)) fun l61b l61l l61c =>
    BIF ((decide ((IntKind.i64.wrap ((l61l : Int) - (1 : Int))) < (0 : Int)))) (
    Post (.tuple ⟨[.int .i64 line_2, .int .i64 (4 : Int)]⟩) h) (
    oL (cell h (Addr.add w_0 8)) fun l64b l64l l64c =>
    IDXS l64b ((IntKind.i64.wrap ((l61l : Int) - (1 : Int)))) l64l fun p65 =>
    oI .i64 (cell h ((Addr.add p65 ((Int.toNat ((IntKind.i64.wrap ((l61l : Int) - (1 : Int))))) * 1)))) fun n66 =>
    BIF ((decide ((0 : Int) < n66))) (
    oL (cell h (Addr.add w_0 8)) fun l67b l67l l67c =>
    IDXS l67b ((IntKind.i64.wrap ((l61l : Int) - (1 : Int)))) l67l fun p68 =>
    oI .i64 (cell h ((Addr.add p68 ((Int.toNat ((IntKind.i64.wrap ((l61l : Int) - (1 : Int))))) * 1)))) fun n69 =>
    IDXS l67b ((IntKind.i64.wrap ((l61l : Int) - (1 : Int)))) l67l fun p70 =>
    ST1 h ((Addr.add p70 ((Int.toNat ((IntKind.i64.wrap ((l61l : Int) - (1 : Int))))) * 1))) (.int .i64 ((IntKind.i64.wrap (n69 - (1 : Int))))) fun h71 =>
    oL (cell h71 (Addr.add w_0 7)) fun l72b l72l l72c =>
    IDXS l72b ((IntKind.i64.wrap ((l61l : Int) - (1 : Int)))) l72l fun p73 =>
    oI .i64 (cell h71 ((Addr.add p73 ((Int.toNat ((IntKind.i64.wrap ((l61l : Int) - (1 : Int))))) * 1)))) fun n74 =>
    Post (.tuple ⟨[.int .i64 n74, .int .i64 (0 : Int)]⟩) h71) (
    oL (cell h (Addr.add w_0 7)) fun l75b l75l l75c =>
    SLB (0 : Int) ((IntKind.i64.wrap ((l61l : Int) - (1 : Int)))) (l75c : Int) <|
    ST1 h (Addr.add w_0 7) (.slice (slA l75b l75c 0 1) (((Int.toNat ((IntKind.i64.wrap ((l61l : Int) - (1 : Int))))) - 0)) (l75c - 0)) fun h76 =>
    oL (cell h76 (Addr.add w_0 8)) fun l77b l77l l77c =>
    SLB (0 : Int) ((IntKind.i64.wrap ((l61l : Int) - (1 : Int)))) (l77c : Int) <|
    ST1 h76 (Addr.add w_0 8) (.slice (slA l77b l77c 0 1) (((Int.toNat ((IntKind.i64.wrap ((l61l : Int) - (1 : Int))))) - 0)) (l77c - 0)) fun h78 =>
    Post (.tuple ⟨[.int .i64 ((IntKind.i64.wrap (line_2 + (1 : Int)))), .int .i64 (0 : Int)]⟩) h78)))) (
    Post (.tuple ⟨[.int .i64 line_2, .int .i64 (5 : Int)]⟩) h)))
def p_spec_l08Work_line.j30 (Post : Value → Heap → Prop) : Frame → Heap → Prop := fun fr h => GRD (shape (kds 176 [(0, .p), (2, .i .i64), (8, .l), (22, .s), (100, .b)]) fr) (p_spec_l08Work_line.J30 Post (gP (lget fr 0)) (gI (lget fr 2)) (gLb (lget fr 8)) (gLl (lget fr 8)) (gLc (lget fr 8)) (gS (lget fr 22)) (gB (lget fr 100)) h)
def p_spec_l08Work_line.J7 (Post : Value → Heap → Prop) (w_0 : Addr) (line_2 : Int) (words_8b : Option Addr) (words_8l : Nat) (words_8c : Nat) (t22 : ByteArray) (t23 : Bool) (h : Heap) : Prop :=
    BIF t23 (
    BIF ((words_8l : Int) != (2 : Int)) (
    Post (.tuple ⟨[.int .i64 line_2, .int .i64 (5 : Int)]⟩) h) (
    IDXS words_8b (1 : Int) words_8l fun p8 =>
    oS (cell h (Addr.add p8 1)) fun s9 =>
    CALL prg f_spec_l08Whole #[.string s9] (fun q10 h11 =>
    TUP2 q10 fun q12 q13 =>
    asI .i64 q12 fun n14 =>
    asB q13 fun b15 =>
    BIF (!b15) (
    Post (.tuple ⟨[.int .i64 line_2, .int .i64 (5 : Int)]⟩) h11) (
    IDXS words_8b (0 : Int) words_8l fun p16 =>
    oS (cell h11 p16) fun s17 =>
    CALL prg f_p_spec_l08Work_one #[.pointer (some w_0), .string s17, .int .i64 n14, .int .i64 line_2] (fun q18 h19 =>
    asI .i64 q18 fun n20 =>
    Post (.tuple ⟨[.int .i64 ((IntKind.i64.wrap (line_2 + (1 : Int)))), .int .i64 n20]⟩) h19) h11)) h)) (
    BIF (ByteArray.toList t22 == ByteArray.toList (⟨#[116, 117, 110, 105, 110, 103]⟩ : ByteArray)) (
    BIF ((words_8l : Int) != (3 : Int)) (
    Post (.tuple ⟨[.int .i64 line_2, .int .i64 (5 : Int)]⟩) h) (
    IDXS words_8b (1 : Int) words_8l fun p23 =>
    oS (cell h (Addr.add p23 1)) fun s24 =>
    CALL prg f_spec_l08Fraction #[.string s24] (fun q25 h26 =>
    TUP2 q25 fun q27 q28 =>
    asF .f32 q27 fun r29 =>
    asB q28 fun b30 =>
    IDXS words_8b (2 : Int) words_8l fun p31 =>
    oS (cell h26 (Addr.add p31 2)) fun s32 =>
    CALL prg f_spec_l08Whole #[.string s32] (fun q33 h34 =>
    TUP2 q33 fun q35 q36 =>
    asI .i64 q35 fun n37 =>
    asB q36 fun b38 =>
    BIF (!b30) (
    Post (.tuple ⟨[.int .i64 line_2, .int .i64 (5 : Int)]⟩) h34) (
    BIF (!b38) (
    Post (.tuple ⟨[.int .i64 line_2, .int .i64 (5 : Int)]⟩) h34) (
    p_spec_l08Work_line.J20 Post w_0 line_2 r29 n37 h34))) h26) h)) (
    BIF (ByteArray.toList t22 == ByteArray.toList (⟨#[115, 116, 114, 105, 110, 103]⟩ : ByteArray)) (
    p_spec_l08Work_line.J30 Post w_0 line_2 words_8b words_8l words_8c t22 (ByteArray.toList t22 == ByteArray.toList (⟨#[115, 116, 114, 105, 110, 103]⟩ : ByteArray)) h) (
    BIF (ByteArray.toList t22 == ByteArray.toList (⟨#[112, 105, 112, 101]⟩ : ByteArray)) (
    p_spec_l08Work_line.J30 Post w_0 line_2 words_8b words_8l words_8c t22 (ByteArray.toList t22 == ByteArray.toList (⟨#[112, 105, 112, 101]⟩ : ByteArray)) h) (
    p_spec_l08Work_line.J30 Post w_0 line_2 words_8b words_8l words_8c t22 (ByteArray.toList t22 == ByteArray.toList (⟨#[98, 111, 119]⟩ : ByteArray)) h))))
def p_spec_l08Work_line.j7 (Post : Value → Heap → Prop) : Frame → Heap → Prop := fun fr h => GRD (shape (kds 176 [(0, .p), (2, .i .i64), (8, .l), (22, .s), (23, .b)]) fr) (p_spec_l08Work_line.J7 Post (gP (lget fr 0)) (gI (lget fr 2)) (gLb (lget fr 8)) (gLl (lget fr 8)) (gLc (lget fr 8)) (gS (lget fr 22)) (gB (lget fr 23)) h)
def p_spec_l08Work_line.S (w_0 : Addr) (text_1 : ByteArray) (line_2 : Int) (Post : Value → Heap → Prop) (h : Heap) : Prop :=
    CALL prg f_spec_l01Split #[.string text_1, .int .u8 (32 : Int)] (fun q1 h2 =>
    asL q1 fun l3b l3l l3c =>
    IDXS l3b (0 : Int) l3l fun p4 =>
    oS (cell h2 p4) fun s5 =>
    BIF (ByteArray.toList s5 == ByteArray.toList (⟨#[114, 97, 116, 101]⟩ : ByteArray)) (
    p_spec_l08Work_line.J7 Post w_0 line_2 l3b l3l l3c s5 (ByteArray.toList s5 == ByteArray.toList (⟨#[114, 97, 116, 101]⟩ : ByteArray)) h2) (
    BIF (ByteArray.toList s5 == ByteArray.toList (⟨#[97, 116]⟩ : ByteArray)) (
    p_spec_l08Work_line.J7 Post w_0 line_2 l3b l3l l3c s5 (ByteArray.toList s5 == ByteArray.toList (⟨#[97, 116]⟩ : ByteArray)) h2) (
    BIF (ByteArray.toList s5 == ByteArray.toList (⟨#[119, 97, 105, 116]⟩ : ByteArray)) (
    p_spec_l08Work_line.J7 Post w_0 line_2 l3b l3l l3c s5 (ByteArray.toList s5 == ByteArray.toList (⟨#[119, 97, 105, 116]⟩ : ByteArray)) h2) (
    p_spec_l08Work_line.J7 Post w_0 line_2 l3b l3l l3c s5 (ByteArray.toList s5 == ByteArray.toList (⟨#[114, 101, 112, 101, 97, 116]⟩ : ByteArray)) h2)))) h
noncomputable def p_spec_l08Work_line.code : Code := (Tryz.f17.body).getD .skip
theorem p_spec_l08Work_line.call {w_0 : Addr} {text_1 : ByteArray} {line_2 : Int} {Post : Value → Heap → Prop} {h : Heap} (H : p_spec_l08Work_line.S w_0 text_1 line_2 Post h) : CALL prg f_p_spec_l08Work_line #[.pointer (some w_0), .string text_1, .int .i64 line_2] Post h :=
  fn_call tau_ok mixed (c := p_spec_l08Work_line.code) (Λ := lookL [(7, p_spec_l08Work_line.j7 Post), (20, p_spec_l08Work_line.j20 Post), (30, p_spec_l08Work_line.j30 Post)]) Tryz.func17 (by kernel_rfl) (by kernel_rfl)
    (Rq.seq (by kernel_rfl) (Rq.free (by kernel_rfl)) (Rq.seq (by kernel_rfl) (Rq.free (by kernel_rfl)) (Rq.seq (by kernel_rfl) (Rq.seq (by kernel_rfl) (Rq.free (by kernel_rfl)) (Rq.block (Rq.seqJ (p_spec_l08Work_line.j7 Post) (by kernel_rfl) (seg (fun _ _ => by kernel_rfl)) (Rq.free (by kernel_rfl))
(Rq.cond (Rq.free (by kernel_rfl)) (Rq.seq (by kernel_rfl) (Rq.free (by kernel_rfl)) (Rq.cond (Rq.seq (by kernel_rfl) (Rq.free (by kernel_rfl)) (Rq.seq (by kernel_rfl) (Rq.free (by kernel_rfl)) (Rq.seq (by kernel_rfl) (Rq.free (by kernel_rfl)) (Rq.seqJ (p_spec_l08Work_line.j20 Post) (by kernel_rfl) (seg (fun _ _ => by kernel_rfl)) (Rq.free (by kernel_rfl))
(Rq.free (by kernel_rfl)))))) (Rq.seqJ (p_spec_l08Work_line.j30 Post) (by kernel_rfl) (seg (fun _ _ => by kernel_rfl)) (Rq.free (by kernel_rfl))
(Rq.free (by kernel_rfl))))))))) (Rq.free (by kernel_rfl)))))
    (Eq.mp (by kernel_rfl) H)

def spec_CompileScore.B9 (Post : Value → Heap → Prop) (N9 : (Addr × Option Addr × Nat × Nat × Addr × Int) → Heap → Prop) : Addr × Option Addr × Nat × Nat × Addr × Int → Heap → Prop
  | (t2, lines_5b, lines_5l, lines_5c, w_8, i_9), h =>
    BIF ((decide (i_9 < (lines_5l : Int)))) (
    IDXS lines_5b i_9 lines_5l fun p34 =>
    oS (cell h ((Addr.add p34 ((Int.toNat i_9) * 1)))) fun s35 =>
    CALL prg f_p_spec_l08Work_line #[.pointer (some w_8), .string s35, .int .i64 i_9] (fun q36 h37 =>
    TUP2 q36 fun q38 q39 =>
    asI .i64 q38 fun n40 =>
    asI .i64 q39 fun n41 =>
    BIF (n41 != (0 : Int)) (
    STA 6 h37 t2 (⟨[.float .f32 0, .float .f32 0, .float .f32 0, .slice none 0 0, .slice none 0 0, .slice none 0 0]⟩ : Array Value) fun h42 =>
    LDA 6 h42 t2 fun a43 =>
    Post (.tuple ⟨[.agg a43, .int .i64 i_9, .int .i64 n41]⟩) h42) (
    N9 (t2, lines_5b, lines_5l, lines_5c, w_8, n40) h37)) h) (
    oL (cell h (Addr.add w_8 7)) fun l44b l44l l44c =>
    BIF ((decide ((0 : Int) < (l44l : Int)))) (
    STA 6 h t2 (⟨[.float .f32 0, .float .f32 0, .float .f32 0, .slice none 0 0, .slice none 0 0, .slice none 0 0]⟩ : Array Value) fun h49 =>
    LDA 6 h49 t2 fun a50 =>
    Post (.tuple ⟨[.agg a50, .int .i64 (lines_5l : Int), .int .i64 (4 : Int)]⟩) h49) (
    oF .f32 (cell h w_8) fun r51 =>
    LDA 3 h (Addr.add w_8 1) fun a52 =>
    oL (cell h (Addr.add w_8 4)) fun l53b l53l l53c =>
    oL (cell h (Addr.add w_8 5)) fun l54b l54l l54c =>
    CALL prg f_spec_l08Compiled #[.slice l54b l54l l54c] (fun q55 h56 =>
    asL q55 fun l57b l57l l57c =>
    PIN h (Addr.add w_8 4) 1 h56 <|
    PIN h (Addr.add w_8 1) 3 h56 <|
    PIN h w_8 1 h56 <|
    SIZ (Array.size a52) 3 <|
    STA 6 h56 t2 ⟨(List.set (List.set (splice 1 3 a52 [.float .f32 r51, .float .f32 0, .float .f32 0, .slice none 0 0, .slice none 0 0, .slice none 0 0]) 4 (.slice l53b l53l l53c)) 5 (.slice l57b l57l l57c))⟩ fun h58 =>
    LDA 6 h58 t2 fun a59 =>
    Post (.tuple ⟨[.agg a59, .int .i64 (0 : Int), .int .i64 (0 : Int)]⟩) h58) h))
def spec_CompileScore.g9 (fr : Frame) : Addr × Option Addr × Nat × Nat × Addr × Int := ((gP (lget fr 2)), (gLb (lget fr 5)), (gLl (lget fr 5)), (gLc (lget fr 5)), (gP (lget fr 8)), (gI (lget fr 9)))
def spec_CompileScore.l9 (Post : Value → Heap → Prop) : Frame → Heap → Prop := fun fr h => GRD (shape (kds 89 [(2, .p), (5, .l), (8, .p), (9, .i .i64)]) fr) (LOOP (spec_CompileScore.B9 Post) (spec_CompileScore.g9 fr) h)
def spec_CompileScore.J6 (Post : Value → Heap → Prop) (t2 : Addr) (lines_5b : Option Addr) (lines_5l : Nat) (lines_5c : Nat) (h : Heap) : Prop :=
    CALL prg f_spec_EqualTuning #[.float .f32 1138491392, .int .i64 (12 : Int)] (fun q20 h21 =>
    TUP2 q20 fun q22 q23 =>
    asA q22 fun a24 =>
    asI .i64 q23 fun n25 =>
    ALC ⟨Z_impl_Tuning⟩ T_impl_Tuning (fun g26 h27 =>
    STA 3 h27 ⟨g26, 0, none⟩ a24 fun h28 =>
    LDA 3 h28 ⟨g26, 0, none⟩ fun a29 =>
    SIZ (Array.size a29) 3 <|
    ALC ⟨(splice 1 3 a29 [.float .f32 1194083328, .float .f32 0, .float .f32 0, .slice none 0 0, .slice none 0 0, .slice none 0 0, .int .i64 (0 : Int), .slice none 0 0, .slice none 0 0])⟩ T_spec_l08Work (fun g30 h31 =>
    LOOP (spec_CompileScore.B9 Post) (t2, lines_5b, lines_5l, lines_5c, ⟨g30, 0, none⟩, (0 : Int)) h31) h28) h21) h
def spec_CompileScore.j6 (Post : Value → Heap → Prop) : Frame → Heap → Prop := fun fr h => GRD (shape (kds 89 [(2, .p), (5, .l)]) fr) (spec_CompileScore.J6 Post (gP (lget fr 2)) (gLb (lget fr 5)) (gLl (lget fr 5)) (gLc (lget fr 5)) h)
def spec_CompileScore.J4 (Post : Value → Heap → Prop) (text_0 : ByteArray) (t2 : Addr) (lines_5b : Option Addr) (lines_5l : Nat) (lines_5c : Nat) (h : Heap) : Prop :=
    BIF ((decide ((4000 : Int) < ((ByteArray.size text_0) : Int)))) (
    STA 6 h t2 (⟨[.float .f32 0, .float .f32 0, .float .f32 0, .slice none 0 0, .slice none 0 0, .slice none 0 0]⟩ : Array Value) fun h14 =>
    LDA 6 h14 t2 fun a15 =>
    Post (.tuple ⟨[.agg a15, .int .i64 (0 : Int), .int .i64 (2 : Int)]⟩) h14) (
    BIF ((decide ((200 : Int) < (lines_5l : Int)))) (
    STA 6 h t2 (⟨[.float .f32 0, .float .f32 0, .float .f32 0, .slice none 0 0, .slice none 0 0, .slice none 0 0]⟩ : Array Value) fun h18 =>
    LDA 6 h18 t2 fun a19 =>
    Post (.tuple ⟨[.agg a19, .int .i64 (0 : Int), .int .i64 (2 : Int)]⟩) h18) (
    spec_CompileScore.J6 Post t2 lines_5b lines_5l lines_5c h))
def spec_CompileScore.j4 (Post : Value → Heap → Prop) : Frame → Heap → Prop := fun fr h => GRD (shape (kds 89 [(0, .s), (2, .p), (5, .l)]) fr) (spec_CompileScore.J4 Post (gS (lget fr 0)) (gP (lget fr 2)) (gLb (lget fr 5)) (gLl (lget fr 5)) (gLc (lget fr 5)) h)
def spec_CompileScore.S (text_0 : ByteArray) (Post : Value → Heap → Prop) (h : Heap) : Prop :=
    ALC ⟨Z_impl_Score⟩ T_impl_Score (fun g1 h2 =>
    CALL prg f_spec_l01Split #[.string text_0, .int .u8 (10 : Int)] (fun q3 h4 =>
    asL q3 fun l5b l5l l5c =>
    IDXS l5b ((IntKind.i64.wrap ((l5l : Int) - (1 : Int)))) l5l fun p8 =>
    oS (cell h4 ((Addr.add p8 ((Int.toNat ((IntKind.i64.wrap ((l5l : Int) - (1 : Int))))) * 1)))) fun s9 =>
    BIF (ByteArray.toList s9 == ByteArray.toList (⟨#[]⟩ : ByteArray)) (
    SLB (0 : Int) ((IntKind.i64.wrap ((l5l : Int) - (1 : Int)))) (l5c : Int) <|
    spec_CompileScore.J4 Post text_0 ⟨g1, 0, none⟩ (slA l5b l5c 0 1) (((Int.toNat ((IntKind.i64.wrap ((l5l : Int) - (1 : Int))))) - 0)) (l5c - 0) h4) (
    spec_CompileScore.J4 Post text_0 ⟨g1, 0, none⟩ l5b l5l l5c h4)) h2) h
noncomputable def spec_CompileScore.code : Code := (Tryz.f5.body).getD .skip
theorem spec_CompileScore.call {text_0 : ByteArray} {Post : Value → Heap → Prop} {h : Heap} (H : spec_CompileScore.S text_0 Post h) : CALL prg f_spec_CompileScore #[.string text_0] Post h :=
  fn_call tau_ok mixed (c := spec_CompileScore.code) (Λ := lookL [(4, spec_CompileScore.j4 Post), (6, spec_CompileScore.j6 Post), (1000009, spec_CompileScore.l9 Post)]) Tryz.func5 (by kernel_rfl) (by kernel_rfl)
    (Rq.seq (by kernel_rfl) (Rq.free (by kernel_rfl)) (Rq.seq (by kernel_rfl) (Rq.free (by kernel_rfl)) (Rq.seqJ (spec_CompileScore.j4 Post) (by kernel_rfl) (seg (fun _ _ => by kernel_rfl)) (Rq.free (by kernel_rfl))
(Rq.seqJ (spec_CompileScore.j6 Post) (by kernel_rfl) (seg (fun _ _ => by kernel_rfl)) (Rq.free (by kernel_rfl))
(Rq.seq (by kernel_rfl) (Rq.free (by kernel_rfl)) (Rq.seq (by kernel_rfl) (Rq.free (by kernel_rfl)) (Rq.seq (by kernel_rfl) (Rq.seq (by kernel_rfl) (Rq.free (by kernel_rfl)) (Rq.block (Rq.loop (spec_CompileScore.l9 Post) (by kernel_rfl) (segL (g := spec_CompileScore.g9) tau_ok mixed (Λ := fun N9 => lookL []) (fun _ _ _ => by kernel_rfl) (fun N9 => (Rq.free (by kernel_rfl))))))) (Rq.free (by kernel_rfl)))))))))
    (Eq.mp (by kernel_rfl) H)

end Go.Sx
