/- What functions of this seat's program compute, told in words (a predicate over heaps for each), and the proofs that the words are no more than the code's own weakest precondition. -/
import Derived.Test.YthgnpepchedpbaaGreatTab
namespace Go.Sx
open Go.Proofs
set_option linter.unusedVariables false
set_option maxRecDepth 100000

def laws_FnTail.J11 (Post : Value → Heap → Prop) (one_8 : Int) (y_11 : Addr) (two_13 : Int) (h : Heap) : Prop :=
    LDA 47 h y_11 fun a106 =>
    CALL prg f_impl_IsSilentRoom #[.agg a106] (fun q107 h108 =>
    TUP2 q107 fun q109 q110 =>
    asB q109 fun b111 =>
    asI .i64 q110 fun n112 =>
    BIF (one_8 == (7 : Int)) (
    BIF (two_13 == (0 : Int)) (
    BIF (n112 == (0 : Int)) (
    Post (.bool (!b111)) h108) (
    Post (.bool false) h108)) (
    Post (.bool false) h108)) (
    Post (.bool false) h108)) h
def laws_FnTail.j11 (Post : Value → Heap → Prop) : Frame → Heap → Prop := fun fr h => GRD (shape (kds 146 [(8, .i .i64), (11, .p), (13, .i .i64)]) fr) (laws_FnTail.J11 Post (gI (lget fr 8)) (gP (lget fr 11)) (gI (lget fr 13)) h)
def laws_FnTail.J17 (Post : Value → Heap → Prop) (code_0b : Option Addr) (code_0l : Nat) (code_0c : Nat) (more_1b : Option Addr) (more_1l : Nat) (more_1c : Nat) (x_5 : Addr) (h : Heap) : Prop :=
    CALL prg f_spec_P6Pick #[.slice more_1b more_1l more_1c, .int .i64 (9 : Int)] (fun q120 h121 =>
    asI .i64 q120 fun n122 =>
    CALL prg f_spec_P6Pick #[.slice code_0b code_0l code_0c, .int .i64 ((IntKind.i64.wrap ((1 : Int) + n122)))] (fun q123 h124 =>
    asI .i64 q123 fun n125 =>
    CALL prg f_spec_P6Plain #[.slice code_0b code_0l code_0c] (fun q126 h127 =>
    asF .f32 q126 fun r128 =>
    SIZ (Array.size (⟨[.int .i64 ((IntKind.i64.wrap ((1 : Int) + n125))), .float .f32 r128]⟩ : Array Value)) 2 <|
    ALC ⟨[.int .i64 ((IntKind.i64.wrap ((1 : Int) + n125))), .float .f32 r128]⟩ T_impl_Tap (fun g129 h130 =>
    LDA 47 h130 x_5 fun a131 =>
    CALL prg f_impl_WithTaps #[.agg a131, .int .i64 ((IntKind.i64.wrap ((1 : Int) + n122))), .slice (some ⟨g129, 0, none⟩) 1 1] (fun q132 h133 =>
    TUP2 q132 fun q134 q135 =>
    asA q134 fun a136 =>
    asI .i64 q135 fun n137 =>
    ALC ⟨Z_impl_Room⟩ T_impl_Room (fun g138 h139 =>
    STA 47 h139 ⟨g138, 0, none⟩ a136 fun h140 =>
    LDA 47 h140 x_5 fun a141 =>
    CALL prg f_spec_WithTaps #[.agg a141, .int .i64 ((IntKind.i64.wrap ((1 : Int) + n122))), .slice (some ⟨g129, 0, none⟩) 1 1] (fun q142 h143 =>
    TUP2 q142 fun q144 q145 =>
    asA q144 fun a146 =>
    asI .i64 q145 fun n147 =>
    ALC ⟨Z_impl_Room⟩ T_impl_Room (fun g148 h149 =>
    STA 47 h149 ⟨g148, 0, none⟩ a146 fun h150 =>
    BIF (n137 == n147) (
    BIF (n137 == (0 : Int)) (
    LDA 47 h150 ⟨g138, 0, none⟩ fun a151 =>
    LDA 47 h150 ⟨g148, 0, none⟩ fun a152 =>
    CALL prg f_spec_SameRoom #[.agg a151, .agg a152] (fun q153 h154 =>
    asB q153 fun b155 =>
    Post (.bool b155) h154) h150) (
    Post (.bool false) h150)) (
    Post (.bool false) h150)) h143) h140) h133) h130) h127) h124) h121) h
def laws_FnTail.j17 (Post : Value → Heap → Prop) : Frame → Heap → Prop := fun fr h => GRD (shape (kds 146 [(0, .l), (1, .l), (5, .p)]) fr) (laws_FnTail.J17 Post (gLb (lget fr 0)) (gLl (lget fr 0)) (gLc (lget fr 0)) (gLb (lget fr 1)) (gLl (lget fr 1)) (gLc (lget fr 1)) (gP (lget fr 5)) h)
def laws_FnTail.J14 (Post : Value → Heap → Prop) (code_0b : Option Addr) (code_0l : Nat) (code_0c : Nat) (more_1b : Option Addr) (more_1l : Nat) (more_1c : Nat) (x_5 : Addr) (y_16 : Addr) (two_18 : Int) (h : Heap) : Prop :=
    LDA 47 h y_16 fun a113 =>
    CALL prg f_impl_IsSilentRoom #[.agg a113] (fun q114 h115 =>
    TUP2 q114 fun q116 q117 =>
    asB q116 fun b118 =>
    asI .i64 q117 fun n119 =>
    BIF (two_18 != (0 : Int)) (
    Post (.bool false) h115) (
    BIF (n119 != (0 : Int)) (
    Post (.bool false) h115) (
    BIF (!b118) (
    Post (.bool false) h115) (
    laws_FnTail.J17 Post code_0b code_0l code_0c more_1b more_1l more_1c x_5 h115)))) h
def laws_FnTail.j14 (Post : Value → Heap → Prop) : Frame → Heap → Prop := fun fr h => GRD (shape (kds 146 [(0, .l), (1, .l), (5, .p), (16, .p), (18, .i .i64)]) fr) (laws_FnTail.J14 Post (gLb (lget fr 0)) (gLl (lget fr 0)) (gLc (lget fr 0)) (gLb (lget fr 1)) (gLl (lget fr 1)) (gLc (lget fr 1)) (gP (lget fr 5)) (gP (lget fr 16)) (gI (lget fr 18)) h)
def laws_FnTail.J9 (Post : Value → Heap → Prop) (code_0b : Option Addr) (code_0l : Nat) (code_0c : Nat) (more_1b : Option Addr) (more_1l : Nat) (more_1c : Nat) (x_5 : Addr) (most_6 : Int) (one_8 : Int) (due_9 : Int) (h : Heap) : Prop :=
    BIF (one_8 != (0 : Int)) (
    LDA 47 h x_5 fun a30 =>
    (MKS ti_float32 T_float32 most_6 most_6 (fun g31 h32 =>
    PIN h x_5 47 h32 <|
    (CALL prg f_impl_PlayRoom #[.agg a30, .slice (some ⟨g31, 0, none⟩) (Int.toNat most_6) (Int.toNat most_6)] (fun q33 h34 =>
    TUP3 q33 fun q35 q36 q37 =>
    asA q35 fun a38 =>
    asL q36 fun l39b l39l l39c =>
    asI .i64 q37 fun n40 =>
    ALC ⟨Z_impl_Room⟩ T_impl_Room (fun g41 h42 =>
    PIN h x_5 47 h42 <|
    STA 47 h42 ⟨g41, 0, none⟩ a38 fun h43 =>
    laws_FnTail.J11 Post one_8 ⟨g41, 0, none⟩ n40 h43) h34) h32) ∧ (ALC ⟨Z_impl_Room⟩ T_impl_Room (fun g44 h45 =>
    PIN h x_5 47 h45 <|
    CALL prg f_impl_PlayRoom #[.agg a30, .slice (some ⟨g31, 0, none⟩) (Int.toNat most_6) (Int.toNat most_6)] (fun q46 h47 =>
    TUP3 q46 fun q48 q49 q50 =>
    asA q48 fun a51 =>
    asL q49 fun l52b l52l l52c =>
    asI .i64 q50 fun n53 =>
    STA 47 h47 ⟨g44, 0, none⟩ a51 fun h54 =>
    laws_FnTail.J11 Post one_8 ⟨g44, 0, none⟩ n53 h54) h45) h32)) h) ∧ (ALC ⟨Z_impl_Room⟩ T_impl_Room (fun g55 h56 =>
    PIN h x_5 47 h56 <|
    MKS ti_float32 T_float32 most_6 most_6 (fun g57 h58 =>
    PIN h x_5 47 h58 <|
    CALL prg f_impl_PlayRoom #[.agg a30, .slice (some ⟨g57, 0, none⟩) (Int.toNat most_6) (Int.toNat most_6)] (fun q59 h60 =>
    TUP3 q59 fun q61 q62 q63 =>
    asA q61 fun a64 =>
    asL q62 fun l65b l65l l65c =>
    asI .i64 q63 fun n66 =>
    STA 47 h60 ⟨g55, 0, none⟩ a64 fun h67 =>
    laws_FnTail.J11 Post one_8 ⟨g55, 0, none⟩ n66 h67) h58) h56) h)) (
    LDA 47 h x_5 fun a68 =>
    (MKS ti_float32 T_float32 due_9 due_9 (fun g69 h70 =>
    PIN h x_5 47 h70 <|
    (CALL prg f_impl_PlayRoom #[.agg a68, .slice (some ⟨g69, 0, none⟩) (Int.toNat due_9) (Int.toNat due_9)] (fun q71 h72 =>
    TUP3 q71 fun q73 q74 q75 =>
    asA q73 fun a76 =>
    asL q74 fun l77b l77l l77c =>
    asI .i64 q75 fun n78 =>
    ALC ⟨Z_impl_Room⟩ T_impl_Room (fun g79 h80 =>
    PIN h x_5 47 h80 <|
    STA 47 h80 ⟨g79, 0, none⟩ a76 fun h81 =>
    laws_FnTail.J14 Post code_0b code_0l code_0c more_1b more_1l more_1c x_5 ⟨g79, 0, none⟩ n78 h81) h72) h70) ∧ (ALC ⟨Z_impl_Room⟩ T_impl_Room (fun g82 h83 =>
    PIN h x_5 47 h83 <|
    CALL prg f_impl_PlayRoom #[.agg a68, .slice (some ⟨g69, 0, none⟩) (Int.toNat due_9) (Int.toNat due_9)] (fun q84 h85 =>
    TUP3 q84 fun q86 q87 q88 =>
    asA q86 fun a89 =>
    asL q87 fun l90b l90l l90c =>
    asI .i64 q88 fun n91 =>
    STA 47 h85 ⟨g82, 0, none⟩ a89 fun h92 =>
    laws_FnTail.J14 Post code_0b code_0l code_0c more_1b more_1l more_1c x_5 ⟨g82, 0, none⟩ n91 h92) h83) h70)) h) ∧ (ALC ⟨Z_impl_Room⟩ T_impl_Room (fun g93 h94 =>
    PIN h x_5 47 h94 <|
    MKS ti_float32 T_float32 due_9 due_9 (fun g95 h96 =>
    PIN h x_5 47 h96 <|
    CALL prg f_impl_PlayRoom #[.agg a68, .slice (some ⟨g95, 0, none⟩) (Int.toNat due_9) (Int.toNat due_9)] (fun q97 h98 =>
    TUP3 q97 fun q99 q100 q101 =>
    asA q99 fun a102 =>
    asL q100 fun l103b l103l l103c =>
    asI .i64 q101 fun n104 =>
    STA 47 h98 ⟨g93, 0, none⟩ a102 fun h105 =>
    laws_FnTail.J14 Post code_0b code_0l code_0c more_1b more_1l more_1c x_5 ⟨g93, 0, none⟩ n104 h105) h96) h94) h))
def laws_FnTail.j9 (Post : Value → Heap → Prop) : Frame → Heap → Prop := fun fr h => GRD (shape (kds 146 [(0, .l), (1, .l), (5, .p), (6, .i .i64), (8, .i .i64), (9, .i .i64)]) fr) (laws_FnTail.J9 Post (gLb (lget fr 0)) (gLl (lget fr 0)) (gLc (lget fr 0)) (gLb (lget fr 1)) (gLl (lget fr 1)) (gLc (lget fr 1)) (gP (lget fr 5)) (gI (lget fr 6)) (gI (lget fr 8)) (gI (lget fr 9)) h)
def laws_FnTail.J3 (Post : Value → Heap → Prop) (code_0b : Option Addr) (code_0l : Nat) (code_0c : Nat) (more_1b : Option Addr) (more_1l : Nat) (more_1c : Nat) (h : Heap) : Prop :=
    CALL prg f_spec_P6Room #[.slice code_0b code_0l code_0c] (fun q7 h8 =>
    asA q7 fun a9 =>
    ALC ⟨Z_impl_Room⟩ T_impl_Room (fun g10 h11 =>
    STA 47 h11 ⟨g10, 0, none⟩ a9 fun h12 =>
    CALL prg f_spec_P6Pick #[.slice more_1b more_1l more_1c, .int .i64 (300 : Int)] (fun q13 h14 =>
    asI .i64 q13 fun n15 =>
    LDA 47 h14 ⟨g10, 0, none⟩ fun a16 =>
    CALL prg f_impl_TailOf #[.agg a16, .int .i64 n15] (fun q17 h18 =>
    TUP2 q17 fun q19 q20 =>
    asI .i64 q19 fun n21 =>
    asI .i64 q20 fun n22 =>
    LDA 47 h18 ⟨g10, 0, none⟩ fun a23 =>
    CALL prg f_spec_TailOf #[.agg a23, .int .i64 n15] (fun q24 h25 =>
    TUP2 q24 fun q26 q27 =>
    asI .i64 q26 fun n28 =>
    asI .i64 q27 fun n29 =>
    BIF (n22 != n29) (
    Post (.bool false) h25) (
    BIF (n21 != n28) (
    Post (.bool false) h25) (
    laws_FnTail.J9 Post code_0b code_0l code_0c more_1b more_1l more_1c ⟨g10, 0, none⟩ n15 n22 n28 h25))) h18) h14) h12) h8) h
def laws_FnTail.j3 (Post : Value → Heap → Prop) : Frame → Heap → Prop := fun fr h => GRD (shape (kds 146 [(0, .l), (1, .l)]) fr) (laws_FnTail.J3 Post (gLb (lget fr 0)) (gLl (lget fr 0)) (gLc (lget fr 0)) (gLb (lget fr 1)) (gLl (lget fr 1)) (gLc (lget fr 1)) h)
def laws_FnTail.S (code_0b : Option Addr) (code_0l code_0c : Nat) (more_1b : Option Addr) (more_1l more_1c : Nat) (Post : Value → Heap → Prop) (h : Heap) : Prop :=
    CALL prg f_laws_f6big #[.slice code_0b code_0l code_0c] (fun q1 h2 =>
    asB q1 fun b3 =>
    BIF b3 (
    Post (.bool true) h2) (
    CALL prg f_laws_f6big #[.slice more_1b more_1l more_1c] (fun q4 h5 =>
    asB q4 fun b6 =>
    BIF b6 (
    Post (.bool true) h5) (
    laws_FnTail.J3 Post code_0b code_0l code_0c more_1b more_1l more_1c h5)) h2)) h
noncomputable def laws_FnTail.code : Code := (Tryz.f3.body).getD .skip
theorem laws_FnTail.call {code_0b : Option Addr} {code_0l code_0c : Nat} {more_1b : Option Addr} {more_1l more_1c : Nat} {Post : Value → Heap → Prop} {h : Heap} (H : laws_FnTail.S code_0b code_0l code_0c more_1b more_1l more_1c Post h) : CALL prg f_laws_FnTail #[.slice code_0b code_0l code_0c, .slice more_1b more_1l more_1c] Post h :=
  fn_call tau_ok mixed (c := laws_FnTail.code) (Λ := lookL [(3, laws_FnTail.j3 Post), (9, laws_FnTail.j9 Post), (11, laws_FnTail.j11 Post), (14, laws_FnTail.j14 Post), (17, laws_FnTail.j17 Post)]) Tryz.func3 (by kernel_rfl) (by kernel_rfl)
    (Rq.seq (by kernel_rfl) (Rq.free (by kernel_rfl)) (Rq.seqJ (laws_FnTail.j3 Post) (by kernel_rfl) (seg (fun _ _ => by kernel_rfl)) (Rq.free (by kernel_rfl))
(Rq.seq (by kernel_rfl) (Rq.free (by kernel_rfl)) (Rq.seq (by kernel_rfl) (Rq.free (by kernel_rfl)) (Rq.seq (by kernel_rfl) (Rq.free (by kernel_rfl)) (Rq.seq (by kernel_rfl) (Rq.free (by kernel_rfl)) (Rq.seqJ (laws_FnTail.j9 Post) (by kernel_rfl) (seg (fun _ _ => by kernel_rfl)) (Rq.free (by kernel_rfl))
(Rq.seq (by kernel_rfl) (Rq.seq (by kernel_rfl) (Rq.free (by kernel_rfl)) (Rq.cond (Rq.seqJ (laws_FnTail.j11 Post) (by kernel_rfl) (seg (fun _ _ => by kernel_rfl)) (Rq.free (by kernel_rfl))
(Rq.free (by kernel_rfl))) (Rq.free (by kernel_rfl)))) (Rq.seqJ (laws_FnTail.j14 Post) (by kernel_rfl) (seg (fun _ _ => by kernel_rfl)) (Rq.free (by kernel_rfl))
(Rq.seq (by kernel_rfl) (Rq.free (by kernel_rfl)) (Rq.seqJ (laws_FnTail.j17 Post) (by kernel_rfl) (seg (fun _ _ => by kernel_rfl)) (Rq.free (by kernel_rfl))
(Rq.free (by kernel_rfl)))))))))))))
    (Eq.mp (by kernel_rfl) H)

end Go.Sx
