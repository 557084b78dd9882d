/- What functions of this seat's program compute, told in words (a predicate over heaps for each), and the proofs that the words are no more than the code's own weakest precondition. -/
import Derived.Test.YtnhcoeogejgidacGreatDoorTab
namespace Go.Sx
open Go.Proofs
set_option linter.unusedVariables false
set_option maxRecDepth 100000

def spec_JoinScores.J16 (Post : Value → Heap → Prop) (s_3 : Addr) (t6 : Addr) (notes_8b : Option Addr) (notes_8l : Nat) (notes_8c : Nat) (more_9b : Option Addr) (more_9l : Nat) (more_9c : Nat) (h : Heap) : Prop :=
    BIF ((decide ((64 : Int) < (IntKind.i64.wrap ((notes_8l : Int) + (more_9l : Int)))))) (
    STA 6 h t6 (⟨[.float .f32 0, .float .f32 0, .float .f32 0, .slice none 0 0, .slice none 0 0, .slice none 0 0]⟩ : Array Value) fun h67 =>
    LDA 6 h67 t6 fun a68 =>
    Post (.tuple ⟨[.agg a68, .int .i64 (3 : Int)]⟩) h67) (
    CALL prg f_spec_l08Copy #[.pointer (some s_3)] (fun q69 h70 =>
    asA q69 fun a71 =>
    ALC ⟨Z_impl_Score⟩ T_impl_Score (fun g72 h73 =>
    STA 6 h73 ⟨g72, 0, none⟩ a71 fun h74 =>
    SEMV prg (Builtin.append_ #[T_sl_spec_l08Note, T_sl_spec_l08Note] T_sl_spec_l08Note #[.slice notes_8b notes_8l notes_8c, .slice more_9b more_9l more_9c]) (fun q75 h76 =>
    asL q75 fun l77b l77l l77c =>
    CALL prg f_spec_l08Compiled #[.slice l77b l77l l77c] (fun q78 h79 =>
    asL q78 fun l80b l80l l80c =>
    ST1 h79 ⟨g72, 5, none⟩ (.slice l80b l80l l80c) fun h81 =>
    LDA 6 h81 ⟨g72, 0, none⟩ fun a82 =>
    STA 6 h81 t6 a82 fun h83 =>
    LDA 6 h83 t6 fun a84 =>
    Post (.tuple ⟨[.agg a84, .int .i64 (0 : Int)]⟩) h83) h76) h74) h70) h)
def spec_JoinScores.j16 (Post : Value → Heap → Prop) : Frame → Heap → Prop := fun fr h => GRD (shape (kds 93 [(3, .p), (6, .p), (8, .l), (9, .l)]) fr) (spec_JoinScores.J16 Post (gP (lget fr 3)) (gP (lget fr 6)) (gLb (lget fr 8)) (gLl (lget fr 8)) (gLc (lget fr 8)) (gLb (lget fr 9)) (gLl (lget fr 9)) (gLc (lget fr 9)) h)
def spec_JoinScores.B8 (Post : Value → Heap → Prop) (N8 : (Int × Addr × Addr × Addr × Option Addr × Nat × Nat × Option Addr × Nat × Nat × Int) → Heap → Prop) : Int × Addr × Addr × Addr × Option Addr × Nat × Nat × Option Addr × Nat × Nat × Int → Heap → Prop
  | (at_2, s_3, t_4, t6, notes_8b, notes_8l, notes_8c, more_9b, more_9l, more_9c, i_10), h =>
    BIF ((decide (i_10 < (more_9l : Int)))) (
    IDXS more_9b i_10 more_9l fun p30 =>
    oI .i64 (cell h ((Addr.add p30 ((Int.toNat i_10) * 5)))) fun n31 =>
    IDXS more_9b i_10 more_9l fun p32 =>
    ST1 h ((Addr.add p32 ((Int.toNat i_10) * 5))) (.int .i64 (IntKind.i64.wrap (n31 + at_2))) fun h33 =>
    IDXS more_9b i_10 more_9l fun p34 =>
    oI .i64 (cell h33 ((Addr.add ((Addr.add p34 ((Int.toNat i_10) * 5))) 1))) fun n35 =>
    IDXS more_9b i_10 more_9l fun p36 =>
    ST1 h33 ((Addr.add ((Addr.add p36 ((Int.toNat i_10) * 5))) 1)) (.int .i64 (IntKind.i64.wrap (n35 + at_2))) fun h37 =>
    IDXS more_9b i_10 more_9l fun p38 =>
    oI .i64 (cell h37 ((Addr.add ((Addr.add p38 ((Int.toNat i_10) * 5))) 1))) fun n39 =>
    BIF ((decide ((100000 : Int) < n39))) (
    STA 6 h37 t6 (⟨[.float .f32 0, .float .f32 0, .float .f32 0, .slice none 0 0, .slice none 0 0, .slice none 0 0]⟩ : Array Value) fun h40 =>
    LDA 6 h40 t6 fun a41 =>
    Post (.tuple ⟨[.agg a41, .int .i64 (2 : Int)]⟩) h40) (
    N8 (at_2, s_3, t_4, t6, notes_8b, notes_8l, notes_8c, more_9b, more_9l, more_9c, ((IntKind.i64.wrap (i_10 + (1 : Int))))) h37)) (
    oF .f32 (cell h s_3) fun r42 =>
    oF .f32 (cell h t_4) fun r43 =>
    CALL prg f_spec_l01Same #[.float .f32 r42, .float .f32 r43] (fun q44 h45 =>
    asB q44 fun b46 =>
    BIF (!b46) (
    STA 6 h45 t6 (⟨[.float .f32 0, .float .f32 0, .float .f32 0, .slice none 0 0, .slice none 0 0, .slice none 0 0]⟩ : Array Value) fun h47 =>
    LDA 6 h47 t6 fun a48 =>
    Post (.tuple ⟨[.agg a48, .int .i64 (4 : Int)]⟩) h47) (
    LDA 3 h45 (Addr.add s_3 1) fun a49 =>
    LDA 3 h45 (Addr.add t_4 1) fun a50 =>
    CALL prg f_spec_SameTuning #[.agg a49, .agg a50] (fun q51 h52 =>
    asB q51 fun b53 =>
    BIF (!b53) (
    STA 6 h52 t6 (⟨[.float .f32 0, .float .f32 0, .float .f32 0, .slice none 0 0, .slice none 0 0, .slice none 0 0]⟩ : Array Value) fun h54 =>
    LDA 6 h54 t6 fun a55 =>
    Post (.tuple ⟨[.agg a55, .int .i64 (4 : Int)]⟩) h54) (
    oL (cell h52 (Addr.add s_3 4)) fun l56b l56l l56c =>
    oL (cell h52 (Addr.add t_4 4)) fun l57b l57l l57c =>
    CALL prg f_spec_l08SameInstruments #[.slice l56b l56l l56c, .slice l57b l57l l57c] (fun q58 h59 =>
    asB q58 fun b60 =>
    BIF (!b60) (
    STA 6 h59 t6 (⟨[.float .f32 0, .float .f32 0, .float .f32 0, .slice none 0 0, .slice none 0 0, .slice none 0 0]⟩ : Array Value) fun h61 =>
    LDA 6 h61 t6 fun a62 =>
    Post (.tuple ⟨[.agg a62, .int .i64 (4 : Int)]⟩) h61) (
    spec_JoinScores.J16 Post s_3 t6 notes_8b notes_8l notes_8c more_9b more_9l more_9c h59)) h52)) h45)) h)
def spec_JoinScores.g8 (fr : Frame) : Int × Addr × Addr × Addr × Option Addr × Nat × Nat × Option Addr × Nat × Nat × Int := ((gI (lget fr 2)), (gP (lget fr 3)), (gP (lget fr 4)), (gP (lget fr 6)), (gLb (lget fr 8)), (gLl (lget fr 8)), (gLc (lget fr 8)), (gLb (lget fr 9)), (gLl (lget fr 9)), (gLc (lget fr 9)), (gI (lget fr 10)))
def spec_JoinScores.l8 (Post : Value → Heap → Prop) : Frame → Heap → Prop := fun fr h => GRD (shape (kds 93 [(2, .i .i64), (3, .p), (4, .p), (6, .p), (8, .l), (9, .l), (10, .i .i64)]) fr) (LOOP (spec_JoinScores.B8 Post) (spec_JoinScores.g8 fr) h)
def spec_JoinScores.J3 (Post : Value → Heap → Prop) (at_2 : Int) (s_3 : Addr) (t_4 : Addr) (t6 : Addr) (h : Heap) : Prop :=
    CALL prg f_spec_l00In #[.int .i64 at_2, .int .i64 (0 : Int), .int .i64 (100000 : Int)] (fun q17 h18 =>
    asB q17 fun b19 =>
    BIF (!b19) (
    STA 6 h18 t6 (⟨[.float .f32 0, .float .f32 0, .float .f32 0, .slice none 0 0, .slice none 0 0, .slice none 0 0]⟩ : Array Value) fun h20 =>
    LDA 6 h20 t6 fun a21 =>
    Post (.tuple ⟨[.agg a21, .int .i64 (2 : Int)]⟩) h20) (
    CALL prg f_spec_l08Notes #[.pointer (some s_3)] (fun q22 h23 =>
    asL q22 fun l24b l24l l24c =>
    CALL prg f_spec_l08Notes #[.pointer (some t_4)] (fun q25 h26 =>
    asL q25 fun l27b l27l l27c =>
    LOOP (spec_JoinScores.B8 Post) (at_2, s_3, t_4, t6, l24b, l24l, l24c, l27b, l27l, l27c, (0 : Int)) h26) h23) h18)) h
def spec_JoinScores.j3 (Post : Value → Heap → Prop) : Frame → Heap → Prop := fun fr h => GRD (shape (kds 93 [(2, .i .i64), (3, .p), (4, .p), (6, .p)]) fr) (spec_JoinScores.J3 Post (gI (lget fr 2)) (gP (lget fr 3)) (gP (lget fr 4)) (gP (lget fr 6)) h)
def spec_JoinScores.S (s_0 : Array Value) (t_1 : Array Value) (at_2 : Int) (Post : Value → Heap → Prop) (h : Heap) : Prop :=
    ALC s_0 T_impl_Score (fun g1 h2 =>
    ALC t_1 T_impl_Score (fun g3 h4 =>
    ALC ⟨Z_impl_Score⟩ T_impl_Score (fun g5 h6 =>
    CALL prg f_spec_l08Ok #[.pointer (some ⟨g1, 0, none⟩)] (fun q7 h8 =>
    asB q7 fun b9 =>
    BIF (!b9) (
    STA 6 h8 ⟨g5, 0, none⟩ (⟨[.float .f32 0, .float .f32 0, .float .f32 0, .slice none 0 0, .slice none 0 0, .slice none 0 0]⟩ : Array Value) fun h10 =>
    LDA 6 h10 ⟨g5, 0, none⟩ fun a11 =>
    Post (.tuple ⟨[.agg a11, .int .i64 (1 : Int)]⟩) h10) (
    CALL prg f_spec_l08Ok #[.pointer (some ⟨g3, 0, none⟩)] (fun q12 h13 =>
    asB q12 fun b14 =>
    BIF (!b14) (
    STA 6 h13 ⟨g5, 0, none⟩ (⟨[.float .f32 0, .float .f32 0, .float .f32 0, .slice none 0 0, .slice none 0 0, .slice none 0 0]⟩ : Array Value) fun h15 =>
    LDA 6 h15 ⟨g5, 0, none⟩ fun a16 =>
    Post (.tuple ⟨[.agg a16, .int .i64 (1 : Int)]⟩) h15) (
    spec_JoinScores.J3 Post at_2 ⟨g1, 0, none⟩ ⟨g3, 0, none⟩ ⟨g5, 0, none⟩ h13)) h8)) h6) h4) h2) h
noncomputable def spec_JoinScores.code : Code := (Tryz.f6.body).getD .skip
theorem spec_JoinScores.call {s_0 : Array Value} {t_1 : Array Value} {at_2 : Int} {Post : Value → Heap → Prop} {h : Heap} (H : spec_JoinScores.S s_0 t_1 at_2 Post h) : CALL prg f_spec_JoinScores #[.agg s_0, .agg t_1, .int .i64 at_2] Post h :=
  fn_call tau_ok mixed (c := spec_JoinScores.code) (Λ := lookL [(3, spec_JoinScores.j3 Post), (1000008, spec_JoinScores.l8 Post), (16, spec_JoinScores.j16 Post)]) Tryz.func6 (by kernel_rfl) (by kernel_rfl)
    (Rq.seq (by kernel_rfl) (Rq.free (by kernel_rfl)) (Rq.seqJ (spec_JoinScores.j3 Post) (by kernel_rfl) (seg (fun _ _ => by kernel_rfl)) (Rq.free (by kernel_rfl))
(Rq.seq (by kernel_rfl) (Rq.free (by kernel_rfl)) (Rq.seq (by kernel_rfl) (Rq.free (by kernel_rfl)) (Rq.seq (by kernel_rfl) (Rq.free (by kernel_rfl)) (Rq.seq (by kernel_rfl) (Rq.seq (by kernel_rfl) (Rq.free (by kernel_rfl)) (Rq.block (Rq.loop (spec_JoinScores.l8 Post) (by kernel_rfl) (segL (g := spec_JoinScores.g8) tau_ok mixed (Λ := fun N8 => lookL []) (fun _ _ _ => by kernel_rfl) (fun N8 => (Rq.free (by kernel_rfl))))))) (Rq.seqJ (spec_JoinScores.j16 Post) (by kernel_rfl) (seg (fun _ _ => by kernel_rfl)) (Rq.free (by kernel_rfl))
(Rq.free (by kernel_rfl)))))))))
    (Eq.mp (by kernel_rfl) H)

def impl_JoinScores_c1.S (e_0 : Array Value) (t1 : Addr) (Post : Value → Heap → Prop) (h : Heap) : Prop :=
    ALC e_0 T_impl_Event (fun g1 h2 =>
    oI .i64 (cell h2 ⟨g1, 0, none⟩) fun n3 =>
    oI .i64 (cell h2 t1) fun n4 =>
    Post (.bool ((decide ((IntKind.i64.wrap ((100000 : Int) - n4)) < n3)))) h2) h
noncomputable def impl_JoinScores_c1.code : Code := (Tryz.f41.body).getD .skip
theorem impl_JoinScores_c1.call {e_0 : Array Value} {t1 : Addr} {Post : Value → Heap → Prop} {h : Heap} (H : impl_JoinScores_c1.S e_0 t1 Post h) : CALL prg f_impl_JoinScores_c1 #[.agg e_0, .pointer (some t1)] Post h :=
  fn_call tau_ok mixed (c := impl_JoinScores_c1.code) (Λ := lookL []) Tryz.func41 (by kernel_rfl) (by kernel_rfl)
    (Rq.free (by kernel_rfl))
    (Eq.mp (by kernel_rfl) H)

def impl_JoinScores.B13 (Post : Value → Heap → Prop) (N13 : (Addr × Addr × Addr × Int × Option Addr × Nat × Nat × Int × Int) → Heap → Prop) : Addr × Addr × Addr × Int × Option Addr × Nat × Nat × Int × Int → Heap → Prop
  | (s_3, at_5, t6, notes_9, t57b, t57l, t57c, t58, t59), h =>
    BIF (decide (t59 < t58)) (
    IDXS t57b t59 t57l fun p56 =>
    LDA 6 h ((Addr.add p56 ((Int.toNat t59) * 6))) fun a57 =>
    ALC ⟨Z_impl_Event⟩ T_impl_Event (fun g58 h59 =>
    STA 6 h59 ⟨g58, 0, none⟩ a57 fun h60 =>
    oI .i64 (cell h60 ⟨g58, 0, none⟩) fun n61 =>
    oI .i64 (cell h60 at_5) fun n62 =>
    ST1 h60 ⟨g58, 0, none⟩ (.int .i64 (IntKind.i64.wrap (n61 + n62))) fun h63 =>
    oI .i64 (cell h63 ⟨g58, 2, none⟩) fun n64 =>
    ST1 h63 ⟨g58, 2, none⟩ (.int .i64 (IntKind.i64.wrap (n64 + notes_9))) fun h65 =>
    oL (cell h65 (Addr.add s_3 5)) fun l66b l66l l66c =>
    LDA 6 h65 ⟨g58, 0, none⟩ fun a67 =>
    SIZ (Array.size a67) 6 <|
    ALC ⟨(splice 0 6 a67 [.int .i64 (0 : Int), .int .i64 (0 : Int), .int .i64 (0 : Int), .int .i64 (0 : Int), .int .i64 (0 : Int), .float .f32 0])⟩ T_impl_Event (fun g68 h69 =>
    SEMV prg (Builtin.append_ #[T_sl_impl_Event, T_sl_impl_Event] T_sl_impl_Event #[.slice l66b l66l l66c, .slice (some ⟨g68, 0, none⟩) 1 1]) (fun q70 h71 =>
    asL q70 fun l72b l72l l72c =>
    ST1 h71 (Addr.add s_3 5) (.slice l72b l72l l72c) fun h73 =>
    N13 (s_3, at_5, t6, notes_9, t57b, t57l, t57c, t58, ((IntKind.i64.wrap (t59 + (1 : Int))))) h73) h69) h65) h) (
    oL (cell h (Addr.add s_3 5)) fun l74b l74l l74c =>
    oL (cell h (Addr.add s_3 5)) fun l75b l75l l75c =>
    CALL prg f_impl_starts #[.slice l75b l75l l75c] (fun q76 h77 =>
    PIN h (Addr.add s_3 5) 1 h77 <|
    CALL prg f_impl_compareEvents #[q76] (fun q78 h79 =>
    PIN h (Addr.add s_3 5) 1 h79 <|
    CALL prg f_slices_SortFunc_sl_impl_Event_impl_Event #[.slice l74b l74l l74c, q78] (fun q80 h81 =>
    LDA 6 h81 s_3 fun a82 =>
    STA 6 h81 t6 a82 fun h83 =>
    LDA 6 h83 t6 fun a84 =>
    Post (.tuple ⟨[.agg a84, .int .i64 (0 : Int)]⟩) h83) h79) h77) h)
def impl_JoinScores.g13 (fr : Frame) : Addr × Addr × Addr × Int × Option Addr × Nat × Nat × Int × Int := ((gP (lget fr 3)), (gP (lget fr 5)), (gP (lget fr 6)), (gI (lget fr 9)), (gLb (lget fr 57)), (gLl (lget fr 57)), (gLc (lget fr 57)), (gI (lget fr 58)), (gI (lget fr 59)))
def impl_JoinScores.l13 (Post : Value → Heap → Prop) : Frame → Heap → Prop := fun fr h => GRD (shape (kds 88 [(3, .p), (5, .p), (6, .p), (9, .i .i64), (57, .l), (58, .i .i64), (59, .i .i64)]) fr) (LOOP (impl_JoinScores.B13 Post) (impl_JoinScores.g13 fr) h)
def impl_JoinScores.J10 (Post : Value → Heap → Prop) (s_3 : Addr) (t_4 : Addr) (at_5 : Addr) (t6 : Addr) (h : Heap) : Prop :=
    oL (cell h (Addr.add s_3 5)) fun l44b l44l l44c =>
    CALL prg f_impl_length_impl_Event #[.slice l44b l44l l44c] (fun q45 h46 =>
    asI .i64 q45 fun n47 =>
    NZ (2 : Int) <|
    LDA 6 h46 s_3 fun a48 =>
    CALL prg f_impl_Score_clone #[.agg a48] (fun q49 h50 =>
    asA q49 fun a51 =>
    STA 6 h50 s_3 a51 fun h52 =>
    oL (cell h52 (Addr.add t_4 5)) fun l53b l53l l53c =>
    LOOP (impl_JoinScores.B13 Post) (s_3, at_5, t6, ((IntKind.i64.wrap (Int.tdiv n47 (2 : Int)))), l53b, l53l, l53c, (l53l : Int), (0 : Int)) h52) h46) h
def impl_JoinScores.j10 (Post : Value → Heap → Prop) : Frame → Heap → Prop := fun fr h => GRD (shape (kds 88 [(3, .p), (4, .p), (5, .p), (6, .p)]) fr) (impl_JoinScores.J10 Post (gP (lget fr 3)) (gP (lget fr 4)) (gP (lget fr 5)) (gP (lget fr 6)) h)
def impl_JoinScores.J5 (Post : Value → Heap → Prop) (s_3 : Addr) (t_4 : Addr) (at_5 : Addr) (t6 : Addr) (t26 : Bool) (h : Heap) : Prop :=
    BIF t26 (
    STA 6 h t6 (⟨[.float .f32 0, .float .f32 0, .float .f32 0, .slice none 0 0, .slice none 0 0, .slice none 0 0]⟩ : Array Value) fun h27 =>
    LDA 6 h27 t6 fun a28 =>
    Post (.tuple ⟨[.agg a28, .int .i64 (2 : Int)]⟩) h27) (
    LDA 6 h s_3 fun a29 =>
    LDA 6 h t_4 fun a30 =>
    CALL prg f_impl_sameGround #[.agg a29, .agg a30] (fun q31 h32 =>
    asB q31 fun b33 =>
    BIF (!b33) (
    STA 6 h32 t6 (⟨[.float .f32 0, .float .f32 0, .float .f32 0, .slice none 0 0, .slice none 0 0, .slice none 0 0]⟩ : Array Value) fun h34 =>
    LDA 6 h34 t6 fun a35 =>
    Post (.tuple ⟨[.agg a35, .int .i64 (4 : Int)]⟩) h34) (
    oL (cell h32 (Addr.add s_3 5)) fun l36b l36l l36c =>
    oL (cell h32 (Addr.add t_4 5)) fun l39b l39l l39c =>
    BIF ((decide ((128 : Int) < (IntKind.i64.wrap ((l36l : Int) + (l39l : Int)))))) (
    STA 6 h32 t6 (⟨[.float .f32 0, .float .f32 0, .float .f32 0, .slice none 0 0, .slice none 0 0, .slice none 0 0]⟩ : Array Value) fun h42 =>
    LDA 6 h42 t6 fun a43 =>
    Post (.tuple ⟨[.agg a43, .int .i64 (3 : Int)]⟩) h42) (
    impl_JoinScores.J10 Post s_3 t_4 at_5 t6 h32))) h)
def impl_JoinScores.j5 (Post : Value → Heap → Prop) : Frame → Heap → Prop := fun fr h => GRD (shape (kds 88 [(3, .p), (4, .p), (5, .p), (6, .p), (26, .b)]) fr) (impl_JoinScores.J5 Post (gP (lget fr 3)) (gP (lget fr 4)) (gP (lget fr 5)) (gP (lget fr 6)) (gB (lget fr 26)) h)
def impl_JoinScores.J3 (Post : Value → Heap → Prop) (s_3 : Addr) (t_4 : Addr) (at_5 : Addr) (t6 : Addr) (late_8 : Bool) (t16 : Bool) (h : Heap) : Prop :=
    BIF t16 (
    STA 6 h t6 (⟨[.float .f32 0, .float .f32 0, .float .f32 0, .slice none 0 0, .slice none 0 0, .slice none 0 0]⟩ : Array Value) fun h21 =>
    LDA 6 h21 t6 fun a22 =>
    Post (.tuple ⟨[.agg a22, .int .i64 (1 : Int)]⟩) h21) (
    oI .i64 (cell h at_5) fun n23 =>
    CALL prg f_impl_within #[.int .i64 n23, .int .i64 (0 : Int), .int .i64 (100000 : Int)] (fun q24 h25 =>
    asB q24 fun b26 =>
    BIF (!b26) (
    impl_JoinScores.J5 Post s_3 t_4 at_5 t6 true h25) (
    impl_JoinScores.J5 Post s_3 t_4 at_5 t6 late_8 h25)) h)
def impl_JoinScores.j3 (Post : Value → Heap → Prop) : Frame → Heap → Prop := fun fr h => GRD (shape (kds 88 [(3, .p), (4, .p), (5, .p), (6, .p), (8, .b), (16, .b)]) fr) (impl_JoinScores.J3 Post (gP (lget fr 3)) (gP (lget fr 4)) (gP (lget fr 5)) (gP (lget fr 6)) (gB (lget fr 8)) (gB (lget fr 16)) h)
def impl_JoinScores.S (s_0 : Array Value) (t_1 : Array Value) (at_2 : Int) (Post : Value → Heap → Prop) (h : Heap) : Prop :=
    ALC s_0 T_impl_Score (fun g1 h2 =>
    ALC t_1 T_impl_Score (fun g3 h4 =>
    ALC #[.int .i64 at_2] T_int64 (fun g5 h6 =>
    ALC ⟨Z_impl_Score⟩ T_impl_Score (fun g7 h8 =>
    oL (cell h8 ⟨g3, 5, none⟩) fun l9b l9l l9c =>
    CALL prg f_slices_ContainsFunc_sl_impl_Event_impl_Event #[.slice l9b l9l l9c, .func (.func 41) #[] #[.pointer (some ⟨g5, 0, none⟩)]] (fun q10 h11 =>
    asB q10 fun b12 =>
    LDA 6 h11 ⟨g1, 0, none⟩ fun a13 =>
    CALL prg f_impl_ValidScore #[.agg a13] (fun q14 h15 =>
    asB q14 fun b16 =>
    BIF (!b16) (
    impl_JoinScores.J3 Post ⟨g1, 0, none⟩ ⟨g3, 0, none⟩ ⟨g5, 0, none⟩ ⟨g7, 0, none⟩ b12 true h15) (
    LDA 6 h15 ⟨g3, 0, none⟩ fun a17 =>
    CALL prg f_impl_ValidScore #[.agg a17] (fun q18 h19 =>
    asB q18 fun b20 =>
    impl_JoinScores.J3 Post ⟨g1, 0, none⟩ ⟨g3, 0, none⟩ ⟨g5, 0, none⟩ ⟨g7, 0, none⟩ b12 (!b20) h19) h15)) h11) h8) h6) h4) h2) h
noncomputable def impl_JoinScores.code : Code := (Tryz.f8.body).getD .skip
theorem impl_JoinScores.call {s_0 : Array Value} {t_1 : Array Value} {at_2 : Int} {Post : Value → Heap → Prop} {h : Heap} (H : impl_JoinScores.S s_0 t_1 at_2 Post h) : CALL prg f_impl_JoinScores #[.agg s_0, .agg t_1, .int .i64 at_2] Post h :=
  fn_call tau_ok mixed (c := impl_JoinScores.code) (Λ := lookL [(10, impl_JoinScores.j10 Post), (3, impl_JoinScores.j3 Post), (5, impl_JoinScores.j5 Post), (1000013, impl_JoinScores.l13 Post)]) Tryz.func8 (by kernel_rfl) (by kernel_rfl)
    (Rq.seq (by kernel_rfl) (Rq.free (by kernel_rfl)) (Rq.seq (by kernel_rfl) (Rq.free (by kernel_rfl)) (Rq.seqJ (impl_JoinScores.j10 Post) (by kernel_rfl) (seg (fun _ _ => by kernel_rfl)) (Rq.block (Rq.seqJ (impl_JoinScores.j3 Post) (by kernel_rfl) (seg (fun _ _ => by kernel_rfl)) (Rq.free (by kernel_rfl))
(Rq.cond (Rq.free (by kernel_rfl)) (Rq.seqJ (impl_JoinScores.j5 Post) (by kernel_rfl) (seg (fun _ _ => by kernel_rfl)) (Rq.free (by kernel_rfl))
(Rq.free (by kernel_rfl))))))
(Rq.seq (by kernel_rfl) (Rq.free (by kernel_rfl)) (Rq.seq (by kernel_rfl) (Rq.free (by kernel_rfl)) (Rq.seq (by kernel_rfl) (Rq.seq (by kernel_rfl) (Rq.free (by kernel_rfl)) (Rq.block (Rq.loop (impl_JoinScores.l13 Post) (by kernel_rfl) (segL (g := impl_JoinScores.g13) tau_ok mixed (Λ := fun N13 => lookL []) (fun _ _ _ => by kernel_rfl) (fun N13 => (Rq.free (by kernel_rfl))))))) (Rq.free (by kernel_rfl))))))))
    (Eq.mp (by kernel_rfl) H)

def laws_FnExactJoinScores.J34 (Post : Value → Heap → Prop) (g0_12 : Addr) (m_15 : Int) (h : Heap) : Prop :=
    LDA 6 h g0_12 fun a191 =>
    CALL prg f_laws_heldScore #[.agg a191, .int .i64 (1 : Int)] (fun q192 h193 =>
    asI .i64 q192 fun n194 =>
    BIF ((decide (n194 < (0 : Int)))) (
    Post (.bool false) h193) (
    BIF (n194 != m_15) (
    Post (.bool false) h193) (
    Post (.bool true) h193))) h
def laws_FnExactJoinScores.j34 (Post : Value → Heap → Prop) : Frame → Heap → Prop := fun fr h => GRD (shape (kds 124 [(12, .p), (15, .i .i64)]) fr) (laws_FnExactJoinScores.J34 Post (gP (lget fr 12)) (gI (lget fr 15)) h)
def laws_FnExactJoinScores.J32 (Post : Value → Heap → Prop) (w0_8 : Addr) (w1_9 : Int) (g0_12 : Addr) (m_15 : Int) (h0_17 : Addr) (h1_18 : Int) (h : Heap) : Prop :=
    LDA 6 h h0_17 fun a186 =>
    LDA 6 h w0_8 fun a187 =>
    CALL prg f_laws_eqScore #[.agg a186, .agg a187] (fun q188 h189 =>
    asB q188 fun b190 =>
    BIF (!b190) (
    Post (.bool false) h189) (
    BIF (h1_18 != w1_9) (
    Post (.bool false) h189) (
    laws_FnExactJoinScores.J34 Post g0_12 m_15 h189))) h
def laws_FnExactJoinScores.j32 (Post : Value → Heap → Prop) : Frame → Heap → Prop := fun fr h => GRD (shape (kds 124 [(8, .p), (9, .i .i64), (12, .p), (15, .i .i64), (17, .p), (18, .i .i64)]) fr) (laws_FnExactJoinScores.J32 Post (gP (lget fr 8)) (gI (lget fr 9)) (gP (lget fr 12)) (gI (lget fr 15)) (gP (lget fr 17)) (gI (lget fr 18)) h)
def laws_FnExactJoinScores.J23 (Post : Value → Heap → Prop) (aAt_2 : Int) (aS_3 : Addr) (aT_4 : Addr) (w0_8 : Addr) (w1_9 : Int) (g0_12 : Addr) (h : Heap) : Prop :=
    LDA 6 h g0_12 fun a125 =>
    CALL prg f_laws_markScore #[.agg a125, .int .i64 (1 : Int)] (fun q126 h127 =>
    asI .i64 q126 fun n128 =>
    LDA 6 h127 g0_12 fun a129 =>
    CALL prg f_laws_heldScore #[.agg a129, .int .i64 (1 : Int)] (fun q130 h131 =>
    asI .i64 q130 fun n132 =>
    BIF ((decide (n132 < (0 : Int)))) (
    Post (.bool false) h131) (
    BIF (n132 != n128) (
    Post (.bool false) h131) (
    LDA 6 h131 aS_3 fun a133 =>
    LDA 6 h131 aT_4 fun a134 =>
    (CALL prg f_laws_toScore #[.agg a133] (fun q135 h136 =>
    asA q135 fun a137 =>
    PIN h131 aT_4 6 h136 <|
    (CALL prg f_laws_toScore #[.agg a134] (fun q138 h139 =>
    asA q138 fun a140 =>
    (CALL prg f_impl_JoinScores #[.agg a137, .agg a140, .int .i64 aAt_2] (fun q141 h142 =>
    TUP2 q141 fun q143 q144 =>
    asA q143 fun a145 =>
    asI .i64 q144 fun n146 =>
    ALC ⟨Z_impl_Score⟩ T_impl_Score (fun g147 h148 =>
    PIN h131 aT_4 6 h148 <|
    PIN h131 aS_3 6 h148 <|
    STA 6 h148 ⟨g147, 0, none⟩ a145 fun h149 =>
    laws_FnExactJoinScores.J32 Post w0_8 w1_9 g0_12 n128 ⟨g147, 0, none⟩ n146 h149) h142) h139) ∧ (ALC ⟨Z_impl_Score⟩ T_impl_Score (fun g150 h151 =>
    PIN h131 aT_4 6 h151 <|
    PIN h131 aS_3 6 h151 <|
    CALL prg f_impl_JoinScores #[.agg a137, .agg a140, .int .i64 aAt_2] (fun q152 h153 =>
    TUP2 q152 fun q154 q155 =>
    asA q154 fun a156 =>
    asI .i64 q155 fun n157 =>
    STA 6 h153 ⟨g150, 0, none⟩ a156 fun h158 =>
    laws_FnExactJoinScores.J32 Post w0_8 w1_9 g0_12 n128 ⟨g150, 0, none⟩ n157 h158) h151) h139)) h136) ∧ (ALC ⟨Z_impl_Score⟩ T_impl_Score (fun g159 h160 =>
    PIN h131 aT_4 6 h160 <|
    PIN h131 aS_3 6 h160 <|
    CALL prg f_laws_toScore #[.agg a134] (fun q161 h162 =>
    asA q161 fun a163 =>
    CALL prg f_impl_JoinScores #[.agg a137, .agg a163, .int .i64 aAt_2] (fun q164 h165 =>
    TUP2 q164 fun q166 q167 =>
    asA q166 fun a168 =>
    asI .i64 q167 fun n169 =>
    STA 6 h165 ⟨g159, 0, none⟩ a168 fun h170 =>
    laws_FnExactJoinScores.J32 Post w0_8 w1_9 g0_12 n128 ⟨g159, 0, none⟩ n169 h170) h162) h160) h136)) h131) ∧ (ALC ⟨Z_impl_Score⟩ T_impl_Score (fun g171 h172 =>
    PIN h131 aT_4 6 h172 <|
    PIN h131 aS_3 6 h172 <|
    CALL prg f_laws_toScore #[.agg a133] (fun q173 h174 =>
    asA q173 fun a175 =>
    PIN h131 aT_4 6 h174 <|
    CALL prg f_laws_toScore #[.agg a134] (fun q176 h177 =>
    asA q176 fun a178 =>
    CALL prg f_impl_JoinScores #[.agg a175, .agg a178, .int .i64 aAt_2] (fun q179 h180 =>
    TUP2 q179 fun q181 q182 =>
    asA q181 fun a183 =>
    asI .i64 q182 fun n184 =>
    STA 6 h180 ⟨g171, 0, none⟩ a183 fun h185 =>
    laws_FnExactJoinScores.J32 Post w0_8 w1_9 g0_12 n128 ⟨g171, 0, none⟩ n184 h185) h177) h174) h172) h131)))) h127) h
def laws_FnExactJoinScores.j23 (Post : Value → Heap → Prop) : Frame → Heap → Prop := fun fr h => GRD (shape (kds 124 [(2, .i .i64), (3, .p), (4, .p), (8, .p), (9, .i .i64), (12, .p)]) fr) (laws_FnExactJoinScores.J23 Post (gI (lget fr 2)) (gP (lget fr 3)) (gP (lget fr 4)) (gP (lget fr 8)) (gI (lget fr 9)) (gP (lget fr 12)) h)
def laws_FnExactJoinScores.J14 (Post : Value → Heap → Prop) (aAt_2 : Int) (aS_3 : Addr) (aT_4 : Addr) (w0_8 : Addr) (w1_9 : Int) (x0_10 : Addr) (x1_11 : Addr) (g0_12 : Addr) (g1_13 : Int) (h : Heap) : Prop :=
    LDA 6 h x0_10 fun a96 =>
    LDA 6 h aS_3 fun a97 =>
    CALL prg f_laws_toScore #[.agg a97] (fun q98 h99 =>
    asA q98 fun a100 =>
    PIN h x0_10 6 h99 <|
    CALL prg f_laws_eqScore #[.agg a96, .agg a100] (fun q101 h102 =>
    asB q101 fun b103 =>
    BIF (!b103) (
    Post (.bool false) h102) (
    LDA 6 h102 x1_11 fun a104 =>
    LDA 6 h102 aT_4 fun a105 =>
    CALL prg f_laws_toScore #[.agg a105] (fun q106 h107 =>
    asA q106 fun a108 =>
    PIN h102 x1_11 6 h107 <|
    CALL prg f_laws_eqScore #[.agg a104, .agg a108] (fun q109 h110 =>
    asB q109 fun b111 =>
    BIF (!b111) (
    Post (.bool false) h110) (
    LDA 6 h110 x0_10 fun a112 =>
    CALL prg f_laws_markScore #[.agg a112, .int .i64 (1 : Int)] (fun q113 h114 =>
    asI .i64 q113 fun n115 =>
    LDA 6 h114 x1_11 fun a116 =>
    CALL prg f_laws_markScore #[.agg a116, .int .i64 n115] (fun q117 h118 =>
    asI .i64 q117 fun n119 =>
    BIF ((decide (n119 < (0 : Int)))) (
    Post (.bool false) h118) (
    LDA 6 h118 g0_12 fun a120 =>
    LDA 6 h118 w0_8 fun a121 =>
    CALL prg f_laws_eqScore #[.agg a120, .agg a121] (fun q122 h123 =>
    asB q122 fun b124 =>
    BIF (!b124) (
    Post (.bool false) h123) (
    BIF (g1_13 != w1_9) (
    Post (.bool false) h123) (
    laws_FnExactJoinScores.J23 Post aAt_2 aS_3 aT_4 w0_8 w1_9 g0_12 h123))) h118)) h114) h110)) h107) h102)) h99) h
def laws_FnExactJoinScores.j14 (Post : Value → Heap → Prop) : Frame → Heap → Prop := fun fr h => GRD (shape (kds 124 [(2, .i .i64), (3, .p), (4, .p), (8, .p), (9, .i .i64), (10, .p), (11, .p), (12, .p), (13, .i .i64)]) fr) (laws_FnExactJoinScores.J14 Post (gI (lget fr 2)) (gP (lget fr 3)) (gP (lget fr 4)) (gP (lget fr 8)) (gI (lget fr 9)) (gP (lget fr 10)) (gP (lget fr 11)) (gP (lget fr 12)) (gI (lget fr 13)) h)
def laws_FnExactJoinScores.J9 (Post : Value → Heap → Prop) (aAt_2 : Int) (aS_3 : Addr) (aT_4 : Addr) (w0_8 : Addr) (w1_9 : Int) (h : Heap) : Prop :=
    LDA 6 h aS_3 fun a66 =>
    CALL prg f_laws_toScore #[.agg a66] (fun q67 h68 =>
    asA q67 fun a69 =>
    ALC ⟨Z_impl_Score⟩ T_impl_Score (fun g70 h71 =>
    STA 6 h71 ⟨g70, 0, none⟩ a69 fun h72 =>
    LDA 6 h72 aT_4 fun a73 =>
    CALL prg f_laws_toScore #[.agg a73] (fun q74 h75 =>
    asA q74 fun a76 =>
    ALC ⟨Z_impl_Score⟩ T_impl_Score (fun g77 h78 =>
    STA 6 h78 ⟨g77, 0, none⟩ a76 fun h79 =>
    LDA 6 h79 ⟨g70, 0, none⟩ fun a80 =>
    LDA 6 h79 ⟨g77, 0, none⟩ fun a81 =>
    CALL prg f_impl_JoinScores #[.agg a80, .agg a81, .int .i64 aAt_2] (fun q82 h83 =>
    TUP2 q82 fun q84 q85 =>
    asA q84 fun a86 =>
    asI .i64 q85 fun n87 =>
    ALC ⟨Z_impl_Score⟩ T_impl_Score (fun g88 h89 =>
    STA 6 h89 ⟨g88, 0, none⟩ a86 fun h90 =>
    LDA 6 h90 ⟨g88, 0, none⟩ fun a91 =>
    LDA 6 h90 w0_8 fun a92 =>
    CALL prg f_laws_eqScore #[.agg a91, .agg a92] (fun q93 h94 =>
    asB q93 fun b95 =>
    BIF (!b95) (
    Post (.bool false) h94) (
    BIF (n87 != w1_9) (
    Post (.bool false) h94) (
    laws_FnExactJoinScores.J14 Post aAt_2 aS_3 aT_4 w0_8 w1_9 ⟨g70, 0, none⟩ ⟨g77, 0, none⟩ ⟨g88, 0, none⟩ n87 h94))) h90) h83) h79) h75) h72) h68) h
def laws_FnExactJoinScores.j9 (Post : Value → Heap → Prop) : Frame → Heap → Prop := fun fr h => GRD (shape (kds 124 [(2, .i .i64), (3, .p), (4, .p), (8, .p), (9, .i .i64)]) fr) (laws_FnExactJoinScores.J9 Post (gI (lget fr 2)) (gP (lget fr 3)) (gP (lget fr 4)) (gP (lget fr 8)) (gI (lget fr 9)) h)
def laws_FnExactJoinScores.S (aS_0 : Array Value) (aT_1 : Array Value) (aAt_2 : Int) (Post : Value → Heap → Prop) (h : Heap) : Prop :=
    ALC aS_0 T_laws_Score (fun g1 h2 =>
    ALC aT_1 T_laws_Score (fun g3 h4 =>
    LDA 6 h4 ⟨g1, 0, none⟩ fun a5 =>
    CALL prg f_laws_szScore #[.agg a5, .int .i64 (1048576 : Int)] (fun q6 h7 =>
    asI .i64 q6 fun n8 =>
    BIF ((decide (n8 < (0 : Int)))) (
    Post (.bool true) h7) (
    LDA 6 h7 ⟨g3, 0, none⟩ fun a9 =>
    CALL prg f_laws_szScore #[.agg a9, .int .i64 n8] (fun q10 h11 =>
    asI .i64 q10 fun n12 =>
    BIF ((decide (n12 < (0 : Int)))) (
    Post (.bool true) h11) (
    LDA 6 h11 ⟨g1, 0, none⟩ fun a13 =>
    LDA 6 h11 ⟨g3, 0, none⟩ fun a14 =>
    (CALL prg f_laws_toScore #[.agg a13] (fun q15 h16 =>
    asA q15 fun a17 =>
    PIN h11 ⟨g3, 0, none⟩ 6 h16 <|
    (CALL prg f_laws_toScore #[.agg a14] (fun q18 h19 =>
    asA q18 fun a20 =>
    (CALL prg f_spec_JoinScores #[.agg a17, .agg a20, .int .i64 aAt_2] (fun q21 h22 =>
    TUP2 q21 fun q23 q24 =>
    asA q23 fun a25 =>
    asI .i64 q24 fun n26 =>
    ALC ⟨Z_impl_Score⟩ T_impl_Score (fun g27 h28 =>
    PIN h11 ⟨g3, 0, none⟩ 6 h28 <|
    PIN h11 ⟨g1, 0, none⟩ 6 h28 <|
    STA 6 h28 ⟨g27, 0, none⟩ a25 fun h29 =>
    laws_FnExactJoinScores.J9 Post aAt_2 ⟨g1, 0, none⟩ ⟨g3, 0, none⟩ ⟨g27, 0, none⟩ n26 h29) h22) h19) ∧ (ALC ⟨Z_impl_Score⟩ T_impl_Score (fun g30 h31 =>
    PIN h11 ⟨g3, 0, none⟩ 6 h31 <|
    PIN h11 ⟨g1, 0, none⟩ 6 h31 <|
    CALL prg f_spec_JoinScores #[.agg a17, .agg a20, .int .i64 aAt_2] (fun q32 h33 =>
    TUP2 q32 fun q34 q35 =>
    asA q34 fun a36 =>
    asI .i64 q35 fun n37 =>
    STA 6 h33 ⟨g30, 0, none⟩ a36 fun h38 =>
    laws_FnExactJoinScores.J9 Post aAt_2 ⟨g1, 0, none⟩ ⟨g3, 0, none⟩ ⟨g30, 0, none⟩ n37 h38) h31) h19)) h16) ∧ (ALC ⟨Z_impl_Score⟩ T_impl_Score (fun g39 h40 =>
    PIN h11 ⟨g3, 0, none⟩ 6 h40 <|
    PIN h11 ⟨g1, 0, none⟩ 6 h40 <|
    CALL prg f_laws_toScore #[.agg a14] (fun q41 h42 =>
    asA q41 fun a43 =>
    CALL prg f_spec_JoinScores #[.agg a17, .agg a43, .int .i64 aAt_2] (fun q44 h45 =>
    TUP2 q44 fun q46 q47 =>
    asA q46 fun a48 =>
    asI .i64 q47 fun n49 =>
    STA 6 h45 ⟨g39, 0, none⟩ a48 fun h50 =>
    laws_FnExactJoinScores.J9 Post aAt_2 ⟨g1, 0, none⟩ ⟨g3, 0, none⟩ ⟨g39, 0, none⟩ n49 h50) h42) h40) h16)) h11) ∧ (ALC ⟨Z_impl_Score⟩ T_impl_Score (fun g51 h52 =>
    PIN h11 ⟨g3, 0, none⟩ 6 h52 <|
    PIN h11 ⟨g1, 0, none⟩ 6 h52 <|
    CALL prg f_laws_toScore #[.agg a13] (fun q53 h54 =>
    asA q53 fun a55 =>
    PIN h11 ⟨g3, 0, none⟩ 6 h54 <|
    CALL prg f_laws_toScore #[.agg a14] (fun q56 h57 =>
    asA q56 fun a58 =>
    CALL prg f_spec_JoinScores #[.agg a55, .agg a58, .int .i64 aAt_2] (fun q59 h60 =>
    TUP2 q59 fun q61 q62 =>
    asA q61 fun a63 =>
    asI .i64 q62 fun n64 =>
    STA 6 h60 ⟨g51, 0, none⟩ a63 fun h65 =>
    laws_FnExactJoinScores.J9 Post aAt_2 ⟨g1, 0, none⟩ ⟨g3, 0, none⟩ ⟨g51, 0, none⟩ n64 h65) h57) h54) h52) h11))) h7)) h4) h2) h
noncomputable def laws_FnExactJoinScores.code : Code := (Tryz.f3.body).getD .skip
theorem laws_FnExactJoinScores.call {aS_0 : Array Value} {aT_1 : Array Value} {aAt_2 : Int} {Post : Value → Heap → Prop} {h : Heap} (H : laws_FnExactJoinScores.S aS_0 aT_1 aAt_2 Post h) : CALL prg f_laws_FnExactJoinScores #[.agg aS_0, .agg aT_1, .int .i64 aAt_2] Post h :=
  fn_call tau_ok mixed (c := laws_FnExactJoinScores.code) (Λ := lookL [(9, laws_FnExactJoinScores.j9 Post), (14, laws_FnExactJoinScores.j14 Post), (23, laws_FnExactJoinScores.j23 Post), (32, laws_FnExactJoinScores.j32 Post), (34, laws_FnExactJoinScores.j34 Post)]) Tryz.func3 (by kernel_rfl) (by kernel_rfl)
    (Rq.seq (by kernel_rfl) (Rq.free (by kernel_rfl)) (Rq.seq (by kernel_rfl) (Rq.free (by kernel_rfl)) (Rq.seq (by kernel_rfl) (Rq.free (by kernel_rfl)) (Rq.seq (by kernel_rfl) (Rq.free (by kernel_rfl)) (Rq.seq (by kernel_rfl) (Rq.free (by kernel_rfl)) (Rq.seq (by kernel_rfl) (Rq.free (by kernel_rfl)) (Rq.seqJ (laws_FnExactJoinScores.j9 Post) (by kernel_rfl) (seg (fun _ _ => by kernel_rfl)) (Rq.free (by kernel_rfl))
(Rq.seq (by kernel_rfl) (Rq.free (by kernel_rfl)) (Rq.seq (by kernel_rfl) (Rq.free (by kernel_rfl)) (Rq.seq (by kernel_rfl) (Rq.free (by kernel_rfl)) (Rq.seqJ (laws_FnExactJoinScores.j14 Post) (by kernel_rfl) (seg (fun _ _ => by kernel_rfl)) (Rq.free (by kernel_rfl))
(Rq.seq (by kernel_rfl) (Rq.free (by kernel_rfl)) (Rq.seq (by kernel_rfl) (Rq.free (by kernel_rfl)) (Rq.seq (by kernel_rfl) (Rq.free (by kernel_rfl)) (Rq.seq (by kernel_rfl) (Rq.free (by kernel_rfl)) (Rq.seq (by kernel_rfl) (Rq.free (by kernel_rfl)) (Rq.seqJ (laws_FnExactJoinScores.j23 Post) (by kernel_rfl) (seg (fun _ _ => by kernel_rfl)) (Rq.free (by kernel_rfl))
(Rq.seq (by kernel_rfl) (Rq.free (by kernel_rfl)) (Rq.seq (by kernel_rfl) (Rq.free (by kernel_rfl)) (Rq.seq (by kernel_rfl) (Rq.free (by kernel_rfl)) (Rq.seq (by kernel_rfl) (Rq.free (by kernel_rfl)) (Rq.seq (by kernel_rfl) (Rq.free (by kernel_rfl)) (Rq.seq (by kernel_rfl) (Rq.free (by kernel_rfl)) (Rq.seqJ (laws_FnExactJoinScores.j32 Post) (by kernel_rfl) (seg (fun _ _ => by kernel_rfl)) (Rq.free (by kernel_rfl))
(Rq.seqJ (laws_FnExactJoinScores.j34 Post) (by kernel_rfl) (seg (fun _ _ => by kernel_rfl)) (Rq.free (by kernel_rfl))
(Rq.free (by kernel_rfl)))))))))))))))))))))))))))
    (Eq.mp (by kernel_rfl) H)

end Go.Sx
