/- What functions of this seat's program compute, told in words (a predicate over heaps for each), and the proofs that the words are no more than the code's own weakest precondition. -/
import Derived.Test.YtnjbecdfoiiaoaaDoorTab
namespace Go.Sx
open Go.Proofs
set_option linter.unusedVariables false
set_option maxRecDepth 100000

def spec_l10Shape.S (s_0 : Addr) (Post : Value → Heap → Prop) (h : Heap) : Prop :=
    CALL prg f_spec_l08Ok #[.pointer (some s_0)] (fun q1 h2 =>
    asB q1 fun b3 =>
    BIF b3 (
    oI .i64 (cell h2 (Addr.add s_0 6)) fun n4 =>
    CALL prg f_spec_l00In #[.int .i64 n4, .int .i64 (1 : Int), .int .i64 (6 : Int)] (fun q5 h6 =>
    asB q5 fun b7 =>
    BIF b7 (
    oI .i64 (cell h6 (Addr.add s_0 7)) fun n8 =>
    CALL prg f_spec_l00In #[.int .i64 n8, .int .i64 (1 : Int), .int .i64 (12 : Int)] (fun q9 h10 =>
    asB q9 fun b11 =>
    BIF b11 (
    oI .i64 (cell h10 (Addr.add s_0 8)) fun n12 =>
    CALL prg f_spec_l00In #[.int .i64 n12, .int .i64 (1 : Int), .int .i64 (3 : Int)] (fun q13 h14 =>
    asB q13 fun b15 =>
    Post (.bool b15) h14) h10) (
    Post (.bool false) h10)) h6) (
    Post (.bool false) h6)) h2) (
    Post (.bool false) h2)) h
noncomputable def spec_l10Shape.code : Code := (Tryd.f10.body).getD .skip
theorem spec_l10Shape.call {s_0 : Addr} {Post : Value → Heap → Prop} {h : Heap} (H : spec_l10Shape.S s_0 Post h) : CALL prg f_spec_l10Shape #[.pointer (some s_0)] Post h :=
  fn_call tau_ok mixed (c := spec_l10Shape.code) (Λ := lookL []) Tryd.func10 (by kernel_rfl) (by kernel_rfl)
    (Rq.free (by kernel_rfl))
    (Eq.mp (by kernel_rfl) H)

def spec_ValidStage.S (s_0 : Array Value) (Post : Value → Heap → Prop) (h : Heap) : Prop :=
    ALC s_0 T_impl_Stage (fun g1 h2 =>
    CALL prg f_spec_l10Shape #[.pointer (some ⟨g1, 0, none⟩)] (fun q3 h4 =>
    asB q3 fun b5 =>
    Post (.bool b5) h4) h2) h
noncomputable def spec_ValidStage.code : Code := (Tryd.f5.body).getD .skip
theorem spec_ValidStage.call {s_0 : Array Value} {Post : Value → Heap → Prop} {h : Heap} (H : spec_ValidStage.S s_0 Post h) : CALL prg f_spec_ValidStage #[.agg s_0] Post h :=
  fn_call tau_ok mixed (c := spec_ValidStage.code) (Λ := lookL []) Tryd.func5 (by kernel_rfl) (by kernel_rfl)
    (Rq.free (by kernel_rfl))
    (Eq.mp (by kernel_rfl) H)

def impl_ValidStage.S (s_0 : Array Value) (Post : Value → Heap → Prop) (h : Heap) : Prop :=
    ALC s_0 T_impl_Stage (fun g1 h2 =>
    LDA 6 h2 ⟨g1, 0, none⟩ fun a3 =>
    CALL prg f_impl_ValidScore #[.agg a3] (fun q4 h5 =>
    asB q4 fun b6 =>
    BIF b6 (
    oI .i64 (cell h5 ⟨g1, 6, none⟩) fun n7 =>
    CALL prg f_impl_isVoices #[.int .i64 n7] (fun q8 h9 =>
    asB q8 fun b10 =>
    BIF b10 (
    oI .i64 (cell h9 ⟨g1, 7, none⟩) fun n11 =>
    CALL prg f_impl_within #[.int .i64 n11, .int .i64 (1 : Int), .int .i64 (12 : Int)] (fun q12 h13 =>
    asB q12 fun b14 =>
    BIF b14 (
    oI .i64 (cell h13 ⟨g1, 8, none⟩) fun n15 =>
    CALL prg f_impl_within #[.int .i64 n15, .int .i64 (1 : Int), .int .i64 (3 : Int)] (fun q16 h17 =>
    asB q16 fun b18 =>
    Post (.bool b18) h17) h13) (
    Post (.bool false) h13)) h9) (
    Post (.bool false) h9)) h5) (
    Post (.bool false) h5)) h2) h
noncomputable def impl_ValidStage.code : Code := (Tryd.f7.body).getD .skip
theorem impl_ValidStage.call {s_0 : Array Value} {Post : Value → Heap → Prop} {h : Heap} (H : impl_ValidStage.S s_0 Post h) : CALL prg f_impl_ValidStage #[.agg s_0] Post h :=
  fn_call tau_ok mixed (c := impl_ValidStage.code) (Λ := lookL []) Tryd.func7 (by kernel_rfl) (by kernel_rfl)
    (Rq.free (by kernel_rfl))
    (Eq.mp (by kernel_rfl) H)

def laws_szStage.S (a_0 : Array Value) (left_1 : Int) (Post : Value → Heap → Prop) (h : Heap) : Prop :=
    ALC a_0 T_laws_Stage (fun g1 h2 =>
    LDA 6 h2 ⟨g1, 0, none⟩ fun a3 =>
    CALL prg f_laws_szScore #[.agg a3, .int .i64 left_1] (fun q4 h5 =>
    asI .i64 q4 fun n6 =>
    BIF ((decide (n6 < (0 : Int)))) (
    Post (.int .i64 (-1 : Int)) h5) (
    Post (.int .i64 n6) h5)) h2) h
noncomputable def laws_szStage.code : Code := (Tryd.f4.body).getD .skip
theorem laws_szStage.call {a_0 : Array Value} {left_1 : Int} {Post : Value → Heap → Prop} {h : Heap} (H : laws_szStage.S a_0 left_1 Post h) : CALL prg f_laws_szStage #[.agg a_0, .int .i64 left_1] Post h :=
  fn_call tau_ok mixed (c := laws_szStage.code) (Λ := lookL []) Tryd.func4 (by kernel_rfl) (by kernel_rfl)
    (Rq.free (by kernel_rfl))
    (Eq.mp (by kernel_rfl) H)

def laws_toStage.S (a_0 : Array Value) (Post : Value → Heap → Prop) (h : Heap) : Prop :=
    ALC a_0 T_laws_Stage (fun g1 h2 =>
    ALC ⟨Z_impl_Stage⟩ T_impl_Stage (fun g3 h4 =>
    ALC ⟨Z_impl_Stage⟩ T_impl_Stage (fun g5 h6 =>
    LDA 6 h6 ⟨g1, 0, none⟩ fun a7 =>
    CALL prg f_laws_toScore #[.agg a7] (fun q8 h9 =>
    asA q8 fun a10 =>
    STA 6 h9 ⟨g5, 0, none⟩ a10 fun h11 =>
    oI .i64 (cell h11 ⟨g1, 6, none⟩) fun n12 =>
    ST1 h11 ⟨g5, 6, none⟩ (.int .i64 n12) fun h13 =>
    oI .i64 (cell h13 ⟨g1, 7, none⟩) fun n14 =>
    ST1 h13 ⟨g5, 7, none⟩ (.int .i64 n14) fun h15 =>
    oI .i64 (cell h15 ⟨g1, 8, none⟩) fun n16 =>
    ST1 h15 ⟨g5, 8, none⟩ (.int .i64 n16) fun h17 =>
    LDA 9 h17 ⟨g5, 0, none⟩ fun a18 =>
    STA 9 h17 ⟨g3, 0, none⟩ a18 fun h19 =>
    LDA 9 h19 ⟨g3, 0, none⟩ fun a20 =>
    Post (.agg a20) h19) h6) h4) h2) h
noncomputable def laws_toStage.code : Code := (Tryd.f6.body).getD .skip
theorem laws_toStage.call {a_0 : Array Value} {Post : Value → Heap → Prop} {h : Heap} (H : laws_toStage.S a_0 Post h) : CALL prg f_laws_toStage #[.agg a_0] Post h :=
  fn_call tau_ok mixed (c := laws_toStage.code) (Λ := lookL []) Tryd.func6 (by kernel_rfl) (by kernel_rfl)
    (Rq.free (by kernel_rfl))
    (Eq.mp (by kernel_rfl) H)

def laws_eqStage.S (a_0 : Array Value) (b_1 : Array Value) (Post : Value → Heap → Prop) (h : Heap) : Prop :=
    ALC a_0 T_impl_Stage (fun g1 h2 =>
    ALC b_1 T_impl_Stage (fun g3 h4 =>
    LDA 6 h4 ⟨g1, 0, none⟩ fun a5 =>
    LDA 6 h4 ⟨g3, 0, none⟩ fun a6 =>
    CALL prg f_laws_eqScore #[.agg a5, .agg a6] (fun q7 h8 =>
    asB q7 fun b9 =>
    BIF (!b9) (
    Post (.bool false) h8) (
    oI .i64 (cell h8 ⟨g1, 6, none⟩) fun n10 =>
    oI .i64 (cell h8 ⟨g3, 6, none⟩) fun n11 =>
    BIF (n10 != n11) (
    Post (.bool false) h8) (
    oI .i64 (cell h8 ⟨g1, 7, none⟩) fun n12 =>
    oI .i64 (cell h8 ⟨g3, 7, none⟩) fun n13 =>
    BIF (n12 != n13) (
    Post (.bool false) h8) (
    oI .i64 (cell h8 ⟨g1, 8, none⟩) fun n14 =>
    oI .i64 (cell h8 ⟨g3, 8, none⟩) fun n15 =>
    BIF (n14 != n15) (
    Post (.bool false) h8) (
    Post (.bool true) h8))))) h4) h2) h
noncomputable def laws_eqStage.code : Code := (Tryd.f8.body).getD .skip
theorem laws_eqStage.call {a_0 : Array Value} {b_1 : Array Value} {Post : Value → Heap → Prop} {h : Heap} (H : laws_eqStage.S a_0 b_1 Post h) : CALL prg f_laws_eqStage #[.agg a_0, .agg b_1] Post h :=
  fn_call tau_ok mixed (c := laws_eqStage.code) (Λ := lookL []) Tryd.func8 (by kernel_rfl) (by kernel_rfl)
    (Rq.free (by kernel_rfl))
    (Eq.mp (by kernel_rfl) H)

def laws_FnExactValidStage.S (aS_0 : Array Value) (Post : Value → Heap → Prop) (h : Heap) : Prop :=
    ALC aS_0 T_laws_Stage (fun g1 h2 =>
    LDA 9 h2 ⟨g1, 0, none⟩ fun a3 =>
    CALL prg f_laws_szStage #[.agg a3, .int .i64 (1048576 : Int)] (fun q4 h5 =>
    asI .i64 q4 fun n6 =>
    BIF ((decide (n6 < (0 : Int)))) (
    Post (.bool true) h5) (
    LDA 9 h5 ⟨g1, 0, none⟩ fun a7 =>
    CALL prg f_laws_toStage #[.agg a7] (fun q8 h9 =>
    asA q8 fun a10 =>
    CALL prg f_spec_ValidStage #[.agg a10] (fun q11 h12 =>
    asB q11 fun b13 =>
    LDA 9 h12 ⟨g1, 0, none⟩ fun a14 =>
    CALL prg f_laws_toStage #[.agg a14] (fun q15 h16 =>
    asA q15 fun a17 =>
    ALC ⟨Z_impl_Stage⟩ T_impl_Stage (fun g18 h19 =>
    STA 9 h19 ⟨g18, 0, none⟩ a17 fun h20 =>
    LDA 9 h20 ⟨g18, 0, none⟩ fun a21 =>
    CALL prg f_impl_ValidStage #[.agg a21] (fun q22 h23 =>
    asB q22 fun b24 =>
    BIF (!(b24 == b13)) (
    Post (.bool false) h23) (
    LDA 9 h23 ⟨g18, 0, none⟩ fun a25 =>
    LDA 9 h23 ⟨g1, 0, none⟩ fun a26 =>
    CALL prg f_laws_toStage #[.agg a26] (fun q27 h28 =>
    asA q27 fun a29 =>
    PIN h23 ⟨g18, 0, none⟩ 9 h28 <|
    CALL prg f_laws_eqStage #[.agg a25, .agg a29] (fun q30 h31 =>
    asB q30 fun b32 =>
    BIF (!b32) (
    Post (.bool false) h31) (
    Post (.bool true) h31)) h28) h23)) h20) h16) h12) h9) h5)) h2) h
noncomputable def laws_FnExactValidStage.code : Code := (Tryd.f3.body).getD .skip
theorem laws_FnExactValidStage.call {aS_0 : Array Value} {Post : Value → Heap → Prop} {h : Heap} (H : laws_FnExactValidStage.S aS_0 Post h) : CALL prg f_laws_FnExactValidStage #[.agg aS_0] Post h :=
  fn_call tau_ok mixed (c := laws_FnExactValidStage.code) (Λ := lookL []) Tryd.func3 (by kernel_rfl) (by kernel_rfl)
    (Rq.free (by kernel_rfl))
    (Eq.mp (by kernel_rfl) H)

end Go.Sx
