/- What functions of this seat's program compute, told in words (a predicate over heaps for each), and the proofs that the words are no more than the code's own weakest precondition. -/
import Derived.Test.YtnhcoeogejgidadGreatDoorTab
namespace Go.Sx
open Go.Proofs
set_option linter.unusedVariables false
set_option maxRecDepth 100000

def impl_length_impl_Voice.S (list_0b : Option Addr) (list_0l list_0c : Nat) (Post : Value → Heap → Prop) (h : Heap) : Prop :=
    Post (.int .i64 (list_0l : Int)) h
noncomputable def impl_length_impl_Voice.code : Code := (Tryz.f69.body).getD .skip
theorem impl_length_impl_Voice.call {list_0b : Option Addr} {list_0l list_0c : Nat} {Post : Value → Heap → Prop} {h : Heap} (H : impl_length_impl_Voice.S list_0b list_0l list_0c Post h) : CALL prg f_impl_length_impl_Voice #[.slice list_0b list_0l list_0c] Post h :=
  fn_call tau_ok mixed (c := impl_length_impl_Voice.code) (Λ := lookL []) Tryz.func69 (by kernel_rfl) (by kernel_rfl)
    (Rq.free (by kernel_rfl))
    (Eq.mp (by kernel_rfl) H)

def impl_isVoices.S (n_0 : Int) (Post : Value → Heap → Prop) (h : Heap) : Prop :=
    CALL prg f_impl_within #[.int .i64 n_0, .int .i64 (1 : Int), .int .i64 (6 : Int)] (fun q1 h2 =>
    asB q1 fun b3 =>
    Post (.bool b3) h2) h
noncomputable def impl_isVoices.code : Code := (Tryz.f68.body).getD .skip
theorem impl_isVoices.call {n_0 : Int} {Post : Value → Heap → Prop} {h : Heap} (H : impl_isVoices.S n_0 Post h) : CALL prg f_impl_isVoices #[.int .i64 n_0] Post h :=
  fn_call tau_ok mixed (c := impl_isVoices.code) (Λ := lookL []) Tryz.func68 (by kernel_rfl) (by kernel_rfl)
    (Rq.free (by kernel_rfl))
    (Eq.mp (by kernel_rfl) H)

def impl_Score_happened_c1.S (e_0 : Array Value) (t1 : Addr) (Post : Value → Heap → Prop) (h : Heap) : Prop :=
    ALC e_0 T_impl_Event (fun g1 h2 =>
    oI .i64 (cell h2 ⟨g1, 0, none⟩) fun n3 =>
    oI .i64 (cell h2 t1) fun n4 =>
    Post (.bool (decide (n4 ≤ n3))) h2) h
noncomputable def impl_Score_happened_c1.code : Code := (Tryz.f149.body).getD .skip
theorem impl_Score_happened_c1.call {e_0 : Array Value} {t1 : Addr} {Post : Value → Heap → Prop} {h : Heap} (H : impl_Score_happened_c1.S e_0 t1 Post h) : CALL prg f_impl_Score_happened_c1 #[.agg e_0, .pointer (some t1)] Post h :=
  fn_call tau_ok mixed (c := impl_Score_happened_c1.code) (Λ := lookL []) Tryz.func149 (by kernel_rfl) (by kernel_rfl)
    (Rq.free (by kernel_rfl))
    (Eq.mp (by kernel_rfl) H)

def slices_IndexFunc_sl_impl_Event_impl_Event.B2 (Post : Value → Heap → Prop) (N2 : (Option Addr × Nat × Nat × Value × Int × Int) → Heap → Prop) : Option Addr × Nat × Nat × Value × Int × Int → Heap → Prop
  | (s_0b, s_0l, s_0c, f_1, t7, t8), h =>
    BIF (decide (t8 < t7)) (
    IDXS s_0b t8 s_0l fun p3 =>
    LDA 6 h ((Addr.add p3 ((Int.toNat t8) * 6))) fun a4 =>
    CALLD prg f_1 #[.agg a4] (fun q5 h6 =>
    asB q5 fun b7 =>
    BIF b7 (
    Post (.int .i64 t8) h6) (
    N2 (s_0b, s_0l, s_0c, f_1, t7, ((IntKind.i64.wrap (t8 + (1 : Int))))) h6)) h) (
    Post (.int .i64 (-1 : Int)) h)
def slices_IndexFunc_sl_impl_Event_impl_Event.g2 (fr : Frame) : Option Addr × Nat × Nat × Value × Int × Int := ((gLb (lget fr 0)), (gLl (lget fr 0)), (gLc (lget fr 0)), (lget fr 1), (gI (lget fr 7)), (gI (lget fr 8)))
def slices_IndexFunc_sl_impl_Event_impl_Event.l2 (Post : Value → Heap → Prop) : Frame → Heap → Prop := fun fr h => GRD (shape (kds 19 [(0, .l), (1, .v), (7, .i .i64), (8, .i .i64)]) fr) (LOOP (slices_IndexFunc_sl_impl_Event_impl_Event.B2 Post) (slices_IndexFunc_sl_impl_Event_impl_Event.g2 fr) h)
def slices_IndexFunc_sl_impl_Event_impl_Event.S (s_0b : Option Addr) (s_0l s_0c : Nat) (f_1 : Value) (Post : Value → Heap → Prop) (h : Heap) : Prop :=
    LOOP (slices_IndexFunc_sl_impl_Event_impl_Event.B2 Post) (s_0b, s_0l, s_0c, f_1, (s_0l : Int), (0 : Int)) h
noncomputable def slices_IndexFunc_sl_impl_Event_impl_Event.code : Code := (Tryz.f148.body).getD .skip
theorem slices_IndexFunc_sl_impl_Event_impl_Event.call {s_0b : Option Addr} {s_0l s_0c : Nat} {f_1 : Value} {Post : Value → Heap → Prop} {h : Heap} (H : slices_IndexFunc_sl_impl_Event_impl_Event.S s_0b s_0l s_0c f_1 Post h) : CALL prg f_slices_IndexFunc_sl_impl_Event_impl_Event #[.slice s_0b s_0l s_0c, f_1] Post h :=
  fn_call tau_ok mixed (c := slices_IndexFunc_sl_impl_Event_impl_Event.code) (Λ := lookL [(1000002, slices_IndexFunc_sl_impl_Event_impl_Event.l2 Post)]) Tryz.func148 (by kernel_rfl) (by kernel_rfl)
    (Rq.seq (by kernel_rfl) (Rq.free (by kernel_rfl)) (Rq.seq (by kernel_rfl) (Rq.seq (by kernel_rfl) (Rq.free (by kernel_rfl)) (Rq.block (Rq.loop (slices_IndexFunc_sl_impl_Event_impl_Event.l2 Post) (by kernel_rfl) (segL (g := slices_IndexFunc_sl_impl_Event_impl_Event.g2) tau_ok mixed (Λ := fun N2 => lookL []) (fun _ _ _ => by kernel_rfl) (fun N2 => (Rq.free (by kernel_rfl))))))) (Rq.free (by kernel_rfl))))
    (Eq.mp (by kernel_rfl) H)

def impl_Score_happened.S (s_0 : Array Value) (now_1 : Int) (Post : Value → Heap → Prop) (h : Heap) : Prop :=
    ALC s_0 T_impl_Score (fun g1 h2 =>
    ALC #[.int .i64 now_1] T_int64 (fun g3 h4 =>
    oL (cell h4 ⟨g1, 5, none⟩) fun l5b l5l l5c =>
    CALL prg f_slices_IndexFunc_sl_impl_Event_impl_Event #[.slice l5b l5l l5c, .func (.func 149) #[] #[.pointer (some ⟨g3, 0, none⟩)]] (fun q6 h7 =>
    asI .i64 q6 fun n8 =>
    BIF ((decide (n8 < (0 : Int)))) (
    oL (cell h7 ⟨g1, 5, none⟩) fun l9b l9l l9c =>
    CALL prg f_impl_length_impl_Event #[.slice l9b l9l l9c] (fun q10 h11 =>
    asI .i64 q10 fun n12 =>
    Post (.int .i64 n12) h11) h7) (
    Post (.int .i64 n8) h7)) h4) h2) h
noncomputable def impl_Score_happened.code : Code := (Tryz.f71.body).getD .skip
theorem impl_Score_happened.call {s_0 : Array Value} {now_1 : Int} {Post : Value → Heap → Prop} {h : Heap} (H : impl_Score_happened.S s_0 now_1 Post h) : CALL prg f_impl_Score_happened #[.agg s_0, .int .i64 now_1] Post h :=
  fn_call tau_ok mixed (c := impl_Score_happened.code) (Λ := lookL []) Tryz.func71 (by kernel_rfl) (by kernel_rfl)
    (Rq.free (by kernel_rfl))
    (Eq.mp (by kernel_rfl) H)

def impl_Voice_hasNone.S (v_0 : Array Value) (Post : Value → Heap → Prop) (h : Heap) : Prop :=
    ALC v_0 T_impl_Voice (fun g1 h2 =>
    LDA 15 h2 ⟨g1, 5, none⟩ fun a3 =>
    LDA 13 h2 ⟨g1, 20, none⟩ fun a4 =>
    LDA 12 h2 ⟨g1, 33, none⟩ fun a5 =>
    CALL prg f_impl_SameString #[.agg a3, .agg ⟨[.slice none 0 0, .int .i64 (0 : Int), .int .i64 (0 : Int), .float .f32 0, .float .f32 0, .float .f32 0, .float .f32 0, .float .f32 0, .int .i64 (0 : Int), .float .f32 0, .float .f32 0, .float .f32 0, .float .f32 0, .float .f32 0, .float .f32 0]⟩] (fun q6 h7 =>
    asB q6 fun b8 =>
    PIN h2 ⟨g1, 33, none⟩ 12 h7 <|
    PIN h2 ⟨g1, 20, none⟩ 13 h7 <|
    CALL prg f_impl_SamePipe #[.agg a4, .agg ⟨[.slice none 0 0, .slice none 0 0, .slice none 0 0, .int .i64 (0 : Int), .float .f32 0, .float .f32 0, .float .f32 0, .float .f32 0, .float .f32 0, .bool false, .float .f32 0, .float .f32 0, .float .f32 0]⟩] (fun q9 h10 =>
    asB q9 fun b11 =>
    PIN h2 ⟨g1, 33, none⟩ 12 h10 <|
    CALL prg f_impl_SameBow #[.agg a5, .agg ⟨[.slice none 0 0, .int .i64 (0 : Int), .slice none 0 0, .int .i64 (0 : Int), .int .i64 (0 : Int), .float .f32 0, .float .f32 0, .float .f32 0, .float .f32 0, .float .f32 0, .float .f32 0, .float .f32 0]⟩] (fun q12 h13 =>
    asB q12 fun b14 =>
    Post (.tuple ⟨[.bool b8, .bool b11, .bool b14]⟩) h13) h10) h7) h2) h
noncomputable def impl_Voice_hasNone.code : Code := (Tryz.f150.body).getD .skip
theorem impl_Voice_hasNone.call {v_0 : Array Value} {Post : Value → Heap → Prop} {h : Heap} (H : impl_Voice_hasNone.S v_0 Post h) : CALL prg f_impl_Voice_hasNone #[.agg v_0] Post h :=
  fn_call tau_ok mixed (c := impl_Voice_hasNone.code) (Λ := lookL []) Tryz.func150 (by kernel_rfl) (by kernel_rfl)
    (Rq.free (by kernel_rfl))
    (Eq.mp (by kernel_rfl) H)

def impl_Voice_isFree.S (v_0 : Array Value) (Post : Value → Heap → Prop) (h : Heap) : Prop :=
    ALC v_0 T_impl_Voice (fun g1 h2 =>
    oI .i64 (cell h2 ⟨g1, 0, none⟩) fun n3 =>
    Post (.bool (n3 == (-1 : Int))) h2) h
noncomputable def impl_Voice_isFree.code : Code := (Tryz.f25.body).getD .skip
theorem impl_Voice_isFree.call {v_0 : Array Value} {Post : Value → Heap → Prop} {h : Heap} (H : impl_Voice_isFree.S v_0 Post h) : CALL prg f_impl_Voice_isFree #[.agg v_0] Post h :=
  fn_call tau_ok mixed (c := impl_Voice_isFree.code) (Λ := lookL []) Tryz.func25 (by kernel_rfl) (by kernel_rfl)
    (Rq.free (by kernel_rfl))
    (Eq.mp (by kernel_rfl) H)

def impl_startOf_c1.S (e_0 : Array Value) (t1 : Addr) (Post : Value → Heap → Prop) (h : Heap) : Prop :=
    ALC e_0 T_impl_Event (fun g1 h2 =>
    oI .i64 (cell h2 ⟨g1, 1, none⟩) fun n3 =>
    BIF (n3 == (2 : Int)) (
    oI .i64 (cell h2 ⟨g1, 2, none⟩) fun n4 =>
    oI .i64 (cell h2 t1) fun n5 =>
    Post (.bool (n4 == n5)) h2) (
    Post (.bool false) h2)) h
noncomputable def impl_startOf_c1.code : Code := (Tryz.f219.body).getD .skip
theorem impl_startOf_c1.call {e_0 : Array Value} {t1 : Addr} {Post : Value → Heap → Prop} {h : Heap} (H : impl_startOf_c1.S e_0 t1 Post h) : CALL prg f_impl_startOf_c1 #[.agg e_0, .pointer (some t1)] Post h :=
  fn_call tau_ok mixed (c := impl_startOf_c1.code) (Λ := lookL []) Tryz.func219 (by kernel_rfl) (by kernel_rfl)
    (Rq.free (by kernel_rfl))
    (Eq.mp (by kernel_rfl) H)

def impl_startOf.S (s_0 : Array Value) (note_1 : Int) (Post : Value → Heap → Prop) (h : Heap) : Prop :=
    ALC s_0 T_impl_Score (fun g1 h2 =>
    ALC #[.int .i64 note_1] T_int64 (fun g3 h4 =>
    ALC ⟨Z_impl_Event⟩ T_impl_Event (fun g5 h6 =>
    oL (cell h6 ⟨g1, 5, none⟩) fun l7b l7l l7c =>
    CALL prg f_slices_IndexFunc_sl_impl_Event_impl_Event #[.slice l7b l7l l7c, .func (.func 219) #[] #[.pointer (some ⟨g3, 0, none⟩)]] (fun q8 h9 =>
    asI .i64 q8 fun n10 =>
    BIF ((decide (n10 < (0 : Int)))) (
    STA 6 h9 ⟨g5, 0, none⟩ (⟨[.int .i64 (0 : Int), .int .i64 (0 : Int), .int .i64 (0 : Int), .int .i64 (0 : Int), .int .i64 (0 : Int), .float .f32 0]⟩ : Array Value) fun h11 =>
    LDA 6 h11 ⟨g5, 0, none⟩ fun a12 =>
    Post (.tuple ⟨[.agg a12, .bool false]⟩) h11) (
    oL (cell h9 ⟨g1, 5, none⟩) fun l13b l13l l13c =>
    IDXS l13b n10 l13l fun p14 =>
    LDA 6 h9 ((Addr.add p14 ((Int.toNat n10) * 6))) fun a15 =>
    STA 6 h9 ⟨g5, 0, none⟩ a15 fun h16 =>
    LDA 6 h16 ⟨g5, 0, none⟩ fun a17 =>
    Post (.tuple ⟨[.agg a17, .bool true]⟩) h16)) h6) h4) h2) h
noncomputable def impl_startOf.code : Code := (Tryz.f152.body).getD .skip
theorem impl_startOf.call {s_0 : Array Value} {note_1 : Int} {Post : Value → Heap → Prop} {h : Heap} (H : impl_startOf.S s_0 note_1 Post h) : CALL prg f_impl_startOf #[.agg s_0, .int .i64 note_1] Post h :=
  fn_call tau_ok mixed (c := impl_startOf.code) (Λ := lookL []) Tryz.func152 (by kernel_rfl) (by kernel_rfl)
    (Rq.free (by kernel_rfl))
    (Eq.mp (by kernel_rfl) H)

def impl_ValidString.S (x_0 : Array Value) (Post : Value → Heap → Prop) (h : Heap) : Prop :=
    ALC x_0 T_impl_String (fun g1 h2 =>
    LDA 2 h2 ⟨g1, 0, none⟩ fun a3 =>
    CALL prg f_impl_ValidRing #[.agg a3] (fun q4 h5 =>
    asB q4 fun b6 =>
    BIF b6 (
    LDA 6 h5 ⟨g1, 2, none⟩ fun a7 =>
    CALL prg f_impl_isFilter #[.agg a7, .int .i64 (3 : Int)] (fun q8 h9 =>
    asB q8 fun b10 =>
    BIF b10 (
    LDA 6 h9 ⟨g1, 8, none⟩ fun a11 =>
    CALL prg f_impl_isFilter #[.agg a11, .int .i64 (2 : Int)] (fun q12 h13 =>
    asB q12 fun b14 =>
    BIF b14 (
    oF .f32 (cell h13 ⟨g1, 14, none⟩) fun r15 =>
    CALL prg f_impl_isFinite #[.float .f32 r15] (fun q16 h17 =>
    asB q16 fun b18 =>
    Post (.bool b18) h17) h13) (
    Post (.bool false) h13)) h9) (
    Post (.bool false) h9)) h5) (
    Post (.bool false) h5)) h2) h
noncomputable def impl_ValidString.code : Code := (Tryz.f154.body).getD .skip
theorem impl_ValidString.call {x_0 : Array Value} {Post : Value → Heap → Prop} {h : Heap} (H : impl_ValidString.S x_0 Post h) : CALL prg f_impl_ValidString #[.agg x_0] Post h :=
  fn_call tau_ok mixed (c := impl_ValidString.code) (Λ := lookL []) Tryz.func154 (by kernel_rfl) (by kernel_rfl)
    (Rq.free (by kernel_rfl))
    (Eq.mp (by kernel_rfl) H)

def impl_ValidBow.S (x_0 : Array Value) (Post : Value → Heap → Prop) (h : Heap) : Prop :=
    ALC x_0 T_impl_Bow (fun g1 h2 =>
    LDA 2 h2 ⟨g1, 0, none⟩ fun a3 =>
    CALL prg f_impl_isRing #[.agg a3] (fun q4 h5 =>
    asB q4 fun b6 =>
    BIF b6 (
    LDA 2 h5 ⟨g1, 2, none⟩ fun a7 =>
    CALL prg f_impl_isRing #[.agg a7] (fun q8 h9 =>
    asB q8 fun b10 =>
    BIF b10 (
    LDA 6 h9 ⟨g1, 4, none⟩ fun a11 =>
    CALL prg f_impl_isFilter #[.agg a11, .int .i64 (1 : Int)] (fun q12 h13 =>
    asB q12 fun b14 =>
    BIF b14 (
    oF .f32 (cell h13 ⟨g1, 10, none⟩) fun r15 =>
    oF .f32 (cell h13 ⟨g1, 11, none⟩) fun r16 =>
    ALC ⟨[.float .f32 r15, .float .f32 r16]⟩ T_float32 (fun g17 h18 =>
    CALL prg f_impl_areFinite #[.slice (some ⟨g17, 0, none⟩) 2 2] (fun q19 h20 =>
    asB q19 fun b21 =>
    Post (.bool b21) h20) h18) h13) (
    Post (.bool false) h13)) h9) (
    Post (.bool false) h9)) h5) (
    Post (.bool false) h5)) h2) h
noncomputable def impl_ValidBow.code : Code := (Tryz.f156.body).getD .skip
theorem impl_ValidBow.call {x_0 : Array Value} {Post : Value → Heap → Prop} {h : Heap} (H : impl_ValidBow.S x_0 Post h) : CALL prg f_impl_ValidBow #[.agg x_0] Post h :=
  fn_call tau_ok mixed (c := impl_ValidBow.code) (Λ := lookL []) Tryz.func156 (by kernel_rfl) (by kernel_rfl)
    (Rq.free (by kernel_rfl))
    (Eq.mp (by kernel_rfl) H)

def impl_isVoice.J7 (Post : Value → Heap → Prop) (s_2 : Addr) (v_3 : Addr) (one_5 : Bool) (two_6 : Bool) (three_7 : Bool) (h : Heap) : Prop :=
    oL (cell h (Addr.add s_2 4)) fun l44b l44l l44c =>
    oI .i64 (cell h (Addr.add v_3 1)) fun n45 =>
    IDXS l44b n45 l44l fun p46 =>
    oI .i64 (cell h ((Addr.add ((Addr.add p46 ((Int.toNat n45) * 5))) 1))) fun n47 =>
    BIF (n47 == (1 : Int)) (
    LDA 15 h (Addr.add v_3 5) fun a48 =>
    CALL prg f_impl_ValidString #[.agg a48] (fun q49 h50 =>
    asB q49 fun b51 =>
    BIF b51 (
    BIF two_6 (
    Post (.bool three_7) h50) (
    Post (.bool false) h50)) (
    Post (.bool false) h50)) h) (
    BIF (n47 == (2 : Int)) (
    BIF one_5 (
    LDA 13 h (Addr.add v_3 20) fun a52 =>
    CALL prg f_impl_ValidPipe #[.agg a52] (fun q53 h54 =>
    asB q53 fun b55 =>
    BIF b55 (
    Post (.bool three_7) h54) (
    Post (.bool false) h54)) h) (
    Post (.bool false) h)) (
    BIF one_5 (
    BIF two_6 (
    LDA 12 h (Addr.add v_3 33) fun a56 =>
    CALL prg f_impl_ValidBow #[.agg a56] (fun q57 h58 =>
    asB q57 fun b59 =>
    Post (.bool b59) h58) h) (
    Post (.bool false) h)) (
    Post (.bool false) h)))
def impl_isVoice.j7 (Post : Value → Heap → Prop) : Frame → Heap → Prop := fun fr h => GRD (shape (kds 113 [(2, .p), (3, .p), (5, .b), (6, .b), (7, .b)]) fr) (impl_isVoice.J7 Post (gP (lget fr 2)) (gP (lget fr 3)) (gB (lget fr 5)) (gB (lget fr 6)) (gB (lget fr 7)) h)
def impl_isVoice.S (s_0 : Array Value) (v_1 : Array Value) (Post : Value → Heap → Prop) (h : Heap) : Prop :=
    ALC s_0 T_impl_Score (fun g1 h2 =>
    ALC v_1 T_impl_Voice (fun g3 h4 =>
    LDA 45 h4 ⟨g3, 0, none⟩ fun a5 =>
    CALL prg f_impl_Voice_hasNone #[.agg a5] (fun q6 h7 =>
    TUP3 q6 fun q8 q9 q10 =>
    asB q8 fun b11 =>
    asB q9 fun b12 =>
    asB q10 fun b13 =>
    LDA 45 h7 ⟨g3, 0, none⟩ fun a14 =>
    CALL prg f_impl_Voice_isFree #[.agg a14] (fun q15 h16 =>
    asB q15 fun b17 =>
    BIF b17 (
    BIF b11 (
    BIF b12 (
    BIF b13 (
    oI .i64 (cell h16 ⟨g3, 1, none⟩) fun n18 =>
    BIF (n18 == (0 : Int)) (
    oI .i64 (cell h16 ⟨g3, 2, none⟩) fun n19 =>
    BIF (n19 == (0 : Int)) (
    oB (cell h16 ⟨g3, 3, none⟩) fun b20 =>
    BIF (!b20) (
    oF .f32 (cell h16 ⟨g3, 4, none⟩) fun r21 =>
    CALL prg f_impl_bitsOf #[.float .f32 r21] (fun q22 h23 =>
    asI .u32 q22 fun n24 =>
    Post (.bool (n24 == (0 : Int))) h23) h16) (
    Post (.bool false) h16)) (
    Post (.bool false) h16)) (
    Post (.bool false) h16)) (
    Post (.bool false) h16)) (
    Post (.bool false) h16)) (
    Post (.bool false) h16)) (
    LDA 6 h16 ⟨g1, 0, none⟩ fun a25 =>
    oI .i64 (cell h16 ⟨g3, 0, none⟩) fun n26 =>
    CALL prg f_impl_startOf #[.agg a25, .int .i64 n26] (fun q27 h28 =>
    TUP2 q27 fun q29 q30 =>
    asA q29 fun a31 =>
    asB q30 fun b32 =>
    ALC ⟨Z_impl_Event⟩ T_impl_Event (fun g33 h34 =>
    STA 6 h34 ⟨g33, 0, none⟩ a31 fun h35 =>
    BIF (!b32) (
    Post (.bool false) h35) (
    oI .i64 (cell h35 ⟨g3, 1, none⟩) fun n36 =>
    oI .i64 (cell h35 ⟨g33, 3, none⟩) fun n37 =>
    BIF (n36 != n37) (
    Post (.bool false) h35) (
    oI .i64 (cell h35 ⟨g3, 2, none⟩) fun n38 =>
    oI .i64 (cell h35 ⟨g33, 0, none⟩) fun n39 =>
    BIF (n38 != n39) (
    Post (.bool false) h35) (
    oF .f32 (cell h35 ⟨g3, 4, none⟩) fun r40 =>
    CALL prg f_impl_isFinite #[.float .f32 r40] (fun q41 h42 =>
    asB q41 fun b43 =>
    BIF (!b43) (
    Post (.bool false) h42) (
    impl_isVoice.J7 Post ⟨g1, 0, none⟩ ⟨g3, 0, none⟩ b11 b12 b13 h42)) h35)))) h28) h16)) h7) h4) h2) h
noncomputable def impl_isVoice.code : Code := (Tryz.f72.body).getD .skip
theorem impl_isVoice.call {s_0 : Array Value} {v_1 : Array Value} {Post : Value → Heap → Prop} {h : Heap} (H : impl_isVoice.S s_0 v_1 Post h) : CALL prg f_impl_isVoice #[.agg s_0, .agg v_1] Post h :=
  fn_call tau_ok mixed (c := impl_isVoice.code) (Λ := lookL [(7, impl_isVoice.j7 Post)]) Tryz.func72 (by kernel_rfl) (by kernel_rfl)
    (Rq.seq (by kernel_rfl) (Rq.free (by kernel_rfl)) (Rq.seq (by kernel_rfl) (Rq.free (by kernel_rfl)) (Rq.seq (by kernel_rfl) (Rq.free (by kernel_rfl)) (Rq.seq (by kernel_rfl) (Rq.free (by kernel_rfl)) (Rq.seqJ (impl_isVoice.j7 Post) (by kernel_rfl) (seg (fun _ _ => by kernel_rfl)) (Rq.free (by kernel_rfl))
(Rq.free (by kernel_rfl)))))))
    (Eq.mp (by kernel_rfl) H)

def impl_ValidPlayer.B5 (Post : Value → Heap → Prop) (N5 : (Addr × Value × Option Addr × Nat × Nat × Int × Int) → Heap → Prop) : Addr × Value × Option Addr × Nat × Nat × Int × Int → Heap → Prop
  | (p_1, seen_3, t41b, t41l, t41c, t42, t43), h =>
    BIF (decide (t43 < t42)) (
    IDXS t41b t43 t41l fun p33 =>
    LDA 45 h ((Addr.add p33 ((Int.toNat t43) * 45))) fun a34 =>
    ALC ⟨Z_impl_Voice⟩ T_impl_Voice (fun g35 h36 =>
    STA 45 h36 ⟨g35, 0, none⟩ a34 fun h37 =>
    LDA 6 h37 p_1 fun a38 =>
    LDA 45 h37 ⟨g35, 0, none⟩ fun a39 =>
    CALL prg f_impl_isVoice #[.agg a38, .agg a39] (fun q40 h41 =>
    asB q40 fun b42 =>
    BIF (!b42) (
    Post (.bool false) h41) (
    LDA 45 h41 ⟨g35, 0, none⟩ fun a43 =>
    CALL prg f_impl_Voice_isFree #[.agg a43] (fun q44 h45 =>
    asB q44 fun b46 =>
    BIF b46 (
    N5 (p_1, seen_3, t41b, t41l, t41c, t42, ((IntKind.i64.wrap (t43 + (1 : Int))))) h45) (
    oI .i64 (cell h45 ⟨g35, 0, none⟩) fun n47 =>
    SEMV prg (Instr.lookup T_map_int64_bool seen_3 (.int .i64 n47) false) (fun q48 h49 =>
    asB q48 fun b50 =>
    BIF b50 (
    Post (.bool false) h49) (
    oI .i64 (cell h49 ⟨g35, 2, none⟩) fun n51 =>
    oI .i64 (cell h49 (Addr.add p_1 7)) fun n52 =>
    BIF (decide (n52 ≤ n51)) (
    Post (.bool false) h49) (
    oI .i64 (cell h49 ⟨g35, 0, none⟩) fun n53 =>
    SEMN prg (do Instr.mapUpdate T_map_int64_bool seen_3 (.int .i64 n53) (.bool true); pure .skip) (fun q54 h55 =>
    N5 (p_1, seen_3, t41b, t41l, t41c, t42, ((IntKind.i64.wrap (t43 + (1 : Int))))) h55) h49))) h45)) h41)) h37) h) (
    Post (.bool true) h)
def impl_ValidPlayer.g5 (fr : Frame) : Addr × Value × Option Addr × Nat × Nat × Int × Int := ((gP (lget fr 1)), (lget fr 3), (gLb (lget fr 41)), (gLl (lget fr 41)), (gLc (lget fr 41)), (gI (lget fr 42)), (gI (lget fr 43)))
def impl_ValidPlayer.l5 (Post : Value → Heap → Prop) : Frame → Heap → Prop := fun fr h => GRD (shape (kds 69 [(1, .p), (3, .v), (41, .l), (42, .i .i64), (43, .i .i64)]) fr) (LOOP (impl_ValidPlayer.B5 Post) (impl_ValidPlayer.g5 fr) h)
def impl_ValidPlayer.J3 (Post : Value → Heap → Prop) (p_1 : Addr) (h : Heap) : Prop :=
    SEMV prg (Instr.makeMap T_map_int64_bool none) (fun q28 h29 =>
    oL (cell h29 (Addr.add p_1 6)) fun l30b l30l l30c =>
    LOOP (impl_ValidPlayer.B5 Post) (p_1, q28, l30b, l30l, l30c, (l30l : Int), (0 : Int)) h29) h
def impl_ValidPlayer.j3 (Post : Value → Heap → Prop) : Frame → Heap → Prop := fun fr h => GRD (shape (kds 69 [(1, .p)]) fr) (impl_ValidPlayer.J3 Post (gP (lget fr 1)) h)
def impl_ValidPlayer.S (p_0 : Array Value) (Post : Value → Heap → Prop) (h : Heap) : Prop :=
    ALC p_0 T_impl_Player (fun g1 h2 =>
    LDA 6 h2 ⟨g1, 0, none⟩ fun a3 =>
    CALL prg f_impl_ValidScore #[.agg a3] (fun q4 h5 =>
    asB q4 fun b6 =>
    BIF (!b6) (
    Post (.bool false) h5) (
    oL (cell h5 ⟨g1, 6, none⟩) fun l7b l7l l7c =>
    CALL prg f_impl_length_impl_Voice #[.slice l7b l7l l7c] (fun q8 h9 =>
    asI .i64 q8 fun n10 =>
    CALL prg f_impl_isVoices #[.int .i64 n10] (fun q11 h12 =>
    asB q11 fun b13 =>
    BIF (!b13) (
    Post (.bool false) h12) (
    oI .i64 (cell h12 ⟨g1, 7, none⟩) fun n14 =>
    CALL prg f_impl_within #[.int .i64 n14, .int .i64 (0 : Int), .int .i64 (200000 : Int)] (fun q15 h16 =>
    asB q15 fun b17 =>
    BIF (!b17) (
    Post (.bool false) h16) (
    oI .i64 (cell h16 ⟨g1, 8, none⟩) fun n18 =>
    LDA 6 h16 ⟨g1, 0, none⟩ fun a19 =>
    oI .i64 (cell h16 ⟨g1, 7, none⟩) fun n20 =>
    CALL prg f_impl_Score_happened #[.agg a19, .int .i64 n20] (fun q21 h22 =>
    asI .i64 q21 fun n23 =>
    PIN h16 ⟨g1, 8, none⟩ 1 h22 <|
    BIF (n18 != n23) (
    Post (.bool false) h22) (
    oI .i64 (cell h22 ⟨g1, 9, none⟩) fun n24 =>
    CALL prg f_impl_within #[.int .i64 n24, .int .i64 (0 : Int), .int .i64 (64 : Int)] (fun q25 h26 =>
    asB q25 fun b27 =>
    BIF (!b27) (
    Post (.bool false) h26) (
    impl_ValidPlayer.J3 Post ⟨g1, 0, none⟩ h26)) h22)) h16)) h12)) h9) h5)) h2) h
noncomputable def impl_ValidPlayer.code : Code := (Tryz.f23.body).getD .skip
theorem impl_ValidPlayer.call {p_0 : Array Value} {Post : Value → Heap → Prop} {h : Heap} (H : impl_ValidPlayer.S p_0 Post h) : CALL prg f_impl_ValidPlayer #[.agg p_0] Post h :=
  fn_call tau_ok mixed (c := impl_ValidPlayer.code) (Λ := lookL [(3, impl_ValidPlayer.j3 Post), (1000005, impl_ValidPlayer.l5 Post)]) Tryz.func23 (by kernel_rfl) (by kernel_rfl)
    (Rq.seq (by kernel_rfl) (Rq.free (by kernel_rfl)) (Rq.seqJ (impl_ValidPlayer.j3 Post) (by kernel_rfl) (seg (fun _ _ => by kernel_rfl)) (Rq.free (by kernel_rfl))
(Rq.seq (by kernel_rfl) (Rq.free (by kernel_rfl)) (Rq.seq (by kernel_rfl) (Rq.seq (by kernel_rfl) (Rq.free (by kernel_rfl)) (Rq.block (Rq.loop (impl_ValidPlayer.l5 Post) (by kernel_rfl) (segL (g := impl_ValidPlayer.g5) tau_ok mixed (Λ := fun N5 => lookL []) (fun _ _ _ => by kernel_rfl) (fun N5 => (Rq.free (by kernel_rfl))))))) (Rq.free (by kernel_rfl))))))
    (Eq.mp (by kernel_rfl) H)

def spec_l09Happened.B3 (Post : Value → Heap → Prop) (N3 : (Addr × Int × Int × Int) → Heap → Prop) : Addr × Int × Int × Int → Heap → Prop
  | (s_0, now_1, n_5, i_6), h =>
    oL (cell h (Addr.add s_0 5)) fun l1b l1l l1c =>
    BIF ((decide (i_6 < (l1l : Int)))) (
    oL (cell h (Addr.add s_0 5)) fun l4b l4l l4c =>
    IDXS l4b i_6 l4l fun p5 =>
    oI .i64 (cell h ((Addr.add p5 ((Int.toNat i_6) * 6)))) fun n6 =>
    BIF (decide (n6 < now_1)) (
    N3 (s_0, now_1, ((IntKind.i64.wrap (n_5 + (1 : Int)))), ((IntKind.i64.wrap (i_6 + (1 : Int))))) h) (
    N3 (s_0, now_1, n_5, ((IntKind.i64.wrap (i_6 + (1 : Int))))) h)) (
    Post (.int .i64 n_5) h)
def spec_l09Happened.g3 (fr : Frame) : Addr × Int × Int × Int := ((gP (lget fr 0)), (gI (lget fr 1)), (gI (lget fr 5)), (gI (lget fr 6)))
def spec_l09Happened.l3 (Post : Value → Heap → Prop) : Frame → Heap → Prop := fun fr h => GRD (shape (kds 29 [(0, .p), (1, .i .i64), (5, .i .i64), (6, .i .i64)]) fr) (LOOP (spec_l09Happened.B3 Post) (spec_l09Happened.g3 fr) h)
def spec_l09Happened.S (s_0 : Addr) (now_1 : Int) (Post : Value → Heap → Prop) (h : Heap) : Prop :=
    LOOP (spec_l09Happened.B3 Post) (s_0, now_1, (0 : Int), (0 : Int)) h
noncomputable def spec_l09Happened.code : Code := (Tryz.f61.body).getD .skip
theorem spec_l09Happened.call {s_0 : Addr} {now_1 : Int} {Post : Value → Heap → Prop} {h : Heap} (H : spec_l09Happened.S s_0 now_1 Post h) : CALL prg f_spec_l09Happened #[.pointer (some s_0), .int .i64 now_1] Post h :=
  fn_call tau_ok mixed (c := spec_l09Happened.code) (Λ := lookL [(1000003, spec_l09Happened.l3 Post)]) Tryz.func61 (by kernel_rfl) (by kernel_rfl)
    (Rq.seq (by kernel_rfl) (Rq.free (by kernel_rfl)) (Rq.seq (by kernel_rfl) (Rq.free (by kernel_rfl)) (Rq.seq (by kernel_rfl) (Rq.seq (by kernel_rfl) (Rq.free (by kernel_rfl)) (Rq.block (Rq.loop (spec_l09Happened.l3 Post) (by kernel_rfl) (segL (g := spec_l09Happened.g3) tau_ok mixed (Λ := fun N3 => lookL []) (fun _ _ _ => by kernel_rfl) (fun N3 => (Rq.free (by kernel_rfl))))))) (Rq.free (by kernel_rfl)))))
    (Eq.mp (by kernel_rfl) H)

def spec_l09NoString.S (x_0 : Addr) (Post : Value → Heap → Prop) (h : Heap) : Prop :=
    oL (cell h x_0) fun l1b l1l l1c =>
    BIF ((l1l : Int) == (0 : Int)) (
    oI .i64 (cell h (Addr.add x_0 1)) fun n4 =>
    BIF (n4 == (0 : Int)) (
    ALC (⟨[.int .i64 (0 : Int), .float .f32 0, .float .f32 0, .float .f32 0, .float .f32 0, .float .f32 0]⟩ : Array Value) T_impl_Filter (fun g5 h6 =>
    CALL prg f_spec_l02Same #[.pointer (some (Addr.add x_0 2)), .pointer (some ⟨g5, 0, none⟩)] (fun q7 h8 =>
    asB q7 fun b9 =>
    BIF b9 (
    ALC (⟨[.int .i64 (0 : Int), .float .f32 0, .float .f32 0, .float .f32 0, .float .f32 0, .float .f32 0]⟩ : Array Value) T_impl_Filter (fun g10 h11 =>
    CALL prg f_spec_l02Same #[.pointer (some (Addr.add x_0 8)), .pointer (some ⟨g10, 0, none⟩)] (fun q12 h13 =>
    asB q12 fun b14 =>
    BIF b14 (
    oF .f32 (cell h13 (Addr.add x_0 14)) fun r15 =>
    CALL prg f_spec_l01Same #[.float .f32 r15, .float .f32 0] (fun q16 h17 =>
    asB q16 fun b18 =>
    Post (.bool b18) h17) h13) (
    Post (.bool false) h13)) h11) h8) (
    Post (.bool false) h8)) h6) h) (
    Post (.bool false) h)) (
    Post (.bool false) h)
noncomputable def spec_l09NoString.code : Code := (Tryz.f132.body).getD .skip
theorem spec_l09NoString.call {x_0 : Addr} {Post : Value → Heap → Prop} {h : Heap} (H : spec_l09NoString.S x_0 Post h) : CALL prg f_spec_l09NoString #[.pointer (some x_0)] Post h :=
  fn_call tau_ok mixed (c := spec_l09NoString.code) (Λ := lookL []) Tryz.func132 (by kernel_rfl) (by kernel_rfl)
    (Rq.free (by kernel_rfl))
    (Eq.mp (by kernel_rfl) H)

def spec_l09NoPipe.S (x_0 : Addr) (Post : Value → Heap → Prop) (h : Heap) : Prop :=
    oL (cell h x_0) fun l1b l1l l1c =>
    BIF ((l1l : Int) == (0 : Int)) (
    oL (cell h (Addr.add x_0 1)) fun l4b l4l l4c =>
    BIF ((l4l : Int) == (0 : Int)) (
    oL (cell h (Addr.add x_0 2)) fun l7b l7l l7c =>
    BIF ((l7l : Int) == (0 : Int)) (
    ALC (⟨[.int .i64 (0 : Int), .float .f32 0, .float .f32 0, .float .f32 0, .float .f32 0, .float .f32 0]⟩ : Array Value) T_impl_Filter (fun g10 h11 =>
    CALL prg f_spec_l02Same #[.pointer (some (Addr.add x_0 3)), .pointer (some ⟨g10, 0, none⟩)] (fun q12 h13 =>
    asB q12 fun b14 =>
    BIF b14 (
    oB (cell h13 (Addr.add x_0 9)) fun b15 =>
    BIF (!b15) (
    oF .f32 (cell h13 (Addr.add x_0 10)) fun r16 =>
    CALL prg f_spec_l01Same #[.float .f32 r16, .float .f32 0] (fun q17 h18 =>
    asB q17 fun b19 =>
    BIF b19 (
    oF .f32 (cell h18 (Addr.add x_0 11)) fun r20 =>
    CALL prg f_spec_l01Same #[.float .f32 r20, .float .f32 0] (fun q21 h22 =>
    asB q21 fun b23 =>
    BIF b23 (
    oF .f32 (cell h22 (Addr.add x_0 12)) fun r24 =>
    CALL prg f_spec_l01Same #[.float .f32 r24, .float .f32 0] (fun q25 h26 =>
    asB q25 fun b27 =>
    Post (.bool b27) h26) h22) (
    Post (.bool false) h22)) h18) (
    Post (.bool false) h18)) h13) (
    Post (.bool false) h13)) (
    Post (.bool false) h13)) h11) h) (
    Post (.bool false) h)) (
    Post (.bool false) h)) (
    Post (.bool false) h)
noncomputable def spec_l09NoPipe.code : Code := (Tryz.f133.body).getD .skip
theorem spec_l09NoPipe.call {x_0 : Addr} {Post : Value → Heap → Prop} {h : Heap} (H : spec_l09NoPipe.S x_0 Post h) : CALL prg f_spec_l09NoPipe #[.pointer (some x_0)] Post h :=
  fn_call tau_ok mixed (c := spec_l09NoPipe.code) (Λ := lookL []) Tryz.func133 (by kernel_rfl) (by kernel_rfl)
    (Rq.free (by kernel_rfl))
    (Eq.mp (by kernel_rfl) H)

def spec_l09NoBow.S (x_0 : Addr) (Post : Value → Heap → Prop) (h : Heap) : Prop :=
    oL (cell h x_0) fun l1b l1l l1c =>
    BIF ((l1l : Int) == (0 : Int)) (
    oI .i64 (cell h (Addr.add x_0 1)) fun n4 =>
    BIF (n4 == (0 : Int)) (
    oL (cell h (Addr.add x_0 2)) fun l5b l5l l5c =>
    BIF ((l5l : Int) == (0 : Int)) (
    oI .i64 (cell h (Addr.add x_0 3)) fun n8 =>
    BIF (n8 == (0 : Int)) (
    ALC (⟨[.int .i64 (0 : Int), .float .f32 0, .float .f32 0, .float .f32 0, .float .f32 0, .float .f32 0]⟩ : Array Value) T_impl_Filter (fun g9 h10 =>
    CALL prg f_spec_l02Same #[.pointer (some (Addr.add x_0 4)), .pointer (some ⟨g9, 0, none⟩)] (fun q11 h12 =>
    asB q11 fun b13 =>
    BIF b13 (
    oF .f32 (cell h12 (Addr.add x_0 10)) fun r14 =>
    CALL prg f_spec_l01Same #[.float .f32 r14, .float .f32 0] (fun q15 h16 =>
    asB q15 fun b17 =>
    BIF b17 (
    oF .f32 (cell h16 (Addr.add x_0 11)) fun r18 =>
    CALL prg f_spec_l01Same #[.float .f32 r18, .float .f32 0] (fun q19 h20 =>
    asB q19 fun b21 =>
    Post (.bool b21) h20) h16) (
    Post (.bool false) h16)) h12) (
    Post (.bool false) h12)) h10) h) (
    Post (.bool false) h)) (
    Post (.bool false) h)) (
    Post (.bool false) h)) (
    Post (.bool false) h)
noncomputable def spec_l09NoBow.code : Code := (Tryz.f134.body).getD .skip
theorem spec_l09NoBow.call {x_0 : Addr} {Post : Value → Heap → Prop} {h : Heap} (H : spec_l09NoBow.S x_0 Post h) : CALL prg f_spec_l09NoBow #[.pointer (some x_0)] Post h :=
  fn_call tau_ok mixed (c := spec_l09NoBow.code) (Λ := lookL []) Tryz.func134 (by kernel_rfl) (by kernel_rfl)
    (Rq.free (by kernel_rfl))
    (Eq.mp (by kernel_rfl) H)

def spec_l09Start.J5 (N2 : (Addr × Int × Addr × Int) → Heap → Prop) (Post : Value → Heap → Prop) (s_0 : Addr) (note_1 : Int) (t4 : Addr) (i_6 : Int) (t36 : Bool) (h : Heap) : Prop :=
    BIF t36 (
    oL (cell h (Addr.add s_0 5)) fun l14b l14l l14c =>
    IDXS l14b i_6 l14l fun p15 =>
    LDA 6 h ((Addr.add p15 ((Int.toNat i_6) * 6))) fun a16 =>
    STA 6 h t4 a16 fun h17 =>
    LDA 6 h17 t4 fun a18 =>
    Post (.tuple ⟨[.agg a18, .bool true]⟩) h17) (
    N2 (s_0, note_1, t4, ((IntKind.i64.wrap (i_6 + (1 : Int))))) h)
def spec_l09Start.j5 (N2 : (Addr × Int × Addr × Int) → Heap → Prop) (Post : Value → Heap → Prop) : Frame → Heap → Prop := fun fr h => GRD (shape (kds 45 [(0, .p), (1, .i .i64), (4, .p), (6, .i .i64), (36, .b)]) fr) (spec_l09Start.J5 N2 Post (gP (lget fr 0)) (gI (lget fr 1)) (gP (lget fr 4)) (gI (lget fr 6)) (gB (lget fr 36)) h)
def spec_l09Start.B2 (Post : Value → Heap → Prop) (N2 : (Addr × Int × Addr × Int) → Heap → Prop) : Addr × Int × Addr × Int → Heap → Prop
  | (s_0, note_1, t4, i_6), h =>
    oL (cell h (Addr.add s_0 5)) fun l3b l3l l3c =>
    BIF ((decide (i_6 < (l3l : Int)))) (
    oL (cell h (Addr.add s_0 5)) fun l6b l6l l6c =>
    IDXS l6b i_6 l6l fun p7 =>
    oI .i64 (cell h ((Addr.add ((Addr.add p7 ((Int.toNat i_6) * 6))) 1))) fun n8 =>
    BIF (n8 == (2 : Int)) (
    oL (cell h (Addr.add s_0 5)) fun l9b l9l l9c =>
    IDXS l9b i_6 l9l fun p10 =>
    oI .i64 (cell h ((Addr.add ((Addr.add p10 ((Int.toNat i_6) * 6))) 2))) fun n11 =>
    spec_l09Start.J5 N2 Post s_0 note_1 t4 i_6 (n11 == note_1) h) (
    spec_l09Start.J5 N2 Post s_0 note_1 t4 i_6 false h)) (
    STA 6 h t4 (⟨[.int .i64 (0 : Int), .int .i64 (0 : Int), .int .i64 (0 : Int), .int .i64 (0 : Int), .int .i64 (0 : Int), .float .f32 0]⟩ : Array Value) fun h12 =>
    LDA 6 h12 t4 fun a13 =>
    Post (.tuple ⟨[.agg a13, .bool false]⟩) h12)
def spec_l09Start.g2 (fr : Frame) : Addr × Int × Addr × Int := ((gP (lget fr 0)), (gI (lget fr 1)), (gP (lget fr 4)), (gI (lget fr 6)))
def spec_l09Start.l2 (Post : Value → Heap → Prop) : Frame → Heap → Prop := fun fr h => GRD (shape (kds 45 [(0, .p), (1, .i .i64), (4, .p), (6, .i .i64)]) fr) (LOOP (spec_l09Start.B2 Post) (spec_l09Start.g2 fr) h)
def spec_l09Start.S (s_0 : Addr) (note_1 : Int) (Post : Value → Heap → Prop) (h : Heap) : Prop :=
    ALC ⟨Z_impl_Event⟩ T_impl_Event (fun g1 h2 =>
    LOOP (spec_l09Start.B2 Post) (s_0, note_1, ⟨g1, 0, none⟩, (0 : Int)) h2) h
noncomputable def spec_l09Start.code : Code := (Tryz.f136.body).getD .skip
theorem spec_l09Start.call {s_0 : Addr} {note_1 : Int} {Post : Value → Heap → Prop} {h : Heap} (H : spec_l09Start.S s_0 note_1 Post h) : CALL prg f_spec_l09Start #[.pointer (some s_0), .int .i64 note_1] Post h :=
  fn_call tau_ok mixed (c := spec_l09Start.code) (Λ := lookL [(1000002, spec_l09Start.l2 Post)]) Tryz.func136 (by kernel_rfl) (by kernel_rfl)
    (Rq.seq (by kernel_rfl) (Rq.free (by kernel_rfl)) (Rq.seq (by kernel_rfl) (Rq.seq (by kernel_rfl) (Rq.free (by kernel_rfl)) (Rq.block (Rq.loop (spec_l09Start.l2 Post) (by kernel_rfl) (segL (g := spec_l09Start.g2) tau_ok mixed (Λ := fun N2 => lookL [(5, spec_l09Start.j5 N2 Post)]) (fun _ _ _ => by kernel_rfl) (fun N2 => (Rq.seq (by kernel_rfl) (Rq.free (by kernel_rfl)) (Rq.seq (by kernel_rfl) (Rq.block (Rq.seqJ (spec_l09Start.j5 N2 Post) (by kernel_rfl) (seg (fun _ _ => by kernel_rfl)) (Rq.free (by kernel_rfl))
(Rq.free (by kernel_rfl)))) (Rq.free (by kernel_rfl))))))))) (Rq.free (by kernel_rfl))))
    (Eq.mp (by kernel_rfl) H)

def spec_l03Ok.S (x_0 : Addr) (Post : Value → Heap → Prop) (h : Heap) : Prop :=
    CALL prg f_spec_l02Ring #[.pointer (some x_0)] (fun q1 h2 =>
    asB q1 fun b3 =>
    BIF b3 (
    CALL prg f_spec_l02Ok #[.pointer (some (Addr.add x_0 2))] (fun q4 h5 =>
    asB q4 fun b6 =>
    BIF b6 (
    oI .i64 (cell h5 (Addr.add x_0 2)) fun n7 =>
    BIF (n7 == (3 : Int)) (
    CALL prg f_spec_l02Ok #[.pointer (some (Addr.add x_0 8))] (fun q8 h9 =>
    asB q8 fun b10 =>
    BIF b10 (
    oI .i64 (cell h9 (Addr.add x_0 8)) fun n11 =>
    BIF (n11 == (2 : Int)) (
    oF .f32 (cell h9 (Addr.add x_0 14)) fun r12 =>
    CALL prg f_spec_l01Finite #[.float .f32 r12] (fun q13 h14 =>
    asB q13 fun b15 =>
    Post (.bool b15) h14) h9) (
    Post (.bool false) h9)) (
    Post (.bool false) h9)) h5) (
    Post (.bool false) h5)) (
    Post (.bool false) h5)) h2) (
    Post (.bool false) h2)) h
noncomputable def spec_l03Ok.code : Code := (Tryz.f138.body).getD .skip
theorem spec_l03Ok.call {x_0 : Addr} {Post : Value → Heap → Prop} {h : Heap} (H : spec_l03Ok.S x_0 Post h) : CALL prg f_spec_l03Ok #[.pointer (some x_0)] Post h :=
  fn_call tau_ok mixed (c := spec_l03Ok.code) (Λ := lookL []) Tryz.func138 (by kernel_rfl) (by kernel_rfl)
    (Rq.free (by kernel_rfl))
    (Eq.mp (by kernel_rfl) H)

def spec_l05Bow.S (x_0 : Addr) (Post : Value → Heap → Prop) (h : Heap) : Prop :=
    LDA 2 h x_0 fun a1 =>
    LDA 2 h (Addr.add x_0 2) fun a2 =>
    SIZ (Array.size a1) 2 <|
    SIZ (Array.size a2) 2 <|
    ALC ⟨(splice 2 2 a2 (splice 0 2 a1 [.slice none 0 0, .int .i64 (0 : Int), .slice none 0 0, .int .i64 (0 : Int)]))⟩ T_impl_Ring (fun g3 h4 =>
    CALL prg f_spec_l04Rings #[.slice (some ⟨g3, 0, none⟩) 2 2] (fun q5 h6 =>
    asB q5 fun b7 =>
    BIF b7 (
    CALL prg f_spec_l02Ok #[.pointer (some (Addr.add x_0 4))] (fun q8 h9 =>
    asB q8 fun b10 =>
    BIF b10 (
    oI .i64 (cell h9 (Addr.add x_0 4)) fun n11 =>
    BIF (n11 == (1 : Int)) (
    oF .f32 (cell h9 (Addr.add x_0 10)) fun r12 =>
    oF .f32 (cell h9 (Addr.add x_0 11)) fun r13 =>
    ALC ⟨[.float .f32 r12, .float .f32 r13]⟩ T_float32 (fun g14 h15 =>
    CALL prg f_spec_l04All #[.slice (some ⟨g14, 0, none⟩) 2 2] (fun q16 h17 =>
    asB q16 fun b18 =>
    Post (.bool b18) h17) h15) h9) (
    Post (.bool false) h9)) (
    Post (.bool false) h9)) h6) (
    Post (.bool false) h6)) h4) h
noncomputable def spec_l05Bow.code : Code := (Tryz.f140.body).getD .skip
theorem spec_l05Bow.call {x_0 : Addr} {Post : Value → Heap → Prop} {h : Heap} (H : spec_l05Bow.S x_0 Post h) : CALL prg f_spec_l05Bow #[.pointer (some x_0)] Post h :=
  fn_call tau_ok mixed (c := spec_l05Bow.code) (Λ := lookL []) Tryz.func140 (by kernel_rfl) (by kernel_rfl)
    (Rq.free (by kernel_rfl))
    (Eq.mp (by kernel_rfl) H)

def spec_l09Voice.J9 (Post : Value → Heap → Prop) (s_0 : Addr) (v_1 : Addr) (a_5 : Bool) (b_6 : Bool) (c_7 : Bool) (h : Heap) : Prop :=
    oL (cell h (Addr.add s_0 4)) fun l36b l36l l36c =>
    oI .i64 (cell h (Addr.add v_1 1)) fun n37 =>
    IDXS l36b n37 l36l fun p38 =>
    oI .i64 (cell h ((Addr.add ((Addr.add p38 ((Int.toNat n37) * 5))) 1))) fun n39 =>
    BIF (n39 == (1 : Int)) (
    CALL prg f_spec_l03Ok #[.pointer (some (Addr.add v_1 5))] (fun q40 h41 =>
    asB q40 fun b42 =>
    BIF b42 (
    BIF b_6 (
    Post (.bool c_7) h41) (
    Post (.bool false) h41)) (
    Post (.bool false) h41)) h) (
    BIF (n39 == (2 : Int)) (
    BIF a_5 (
    CALL prg f_spec_l04Ok #[.pointer (some (Addr.add v_1 20))] (fun q43 h44 =>
    asB q43 fun b45 =>
    BIF b45 (
    Post (.bool c_7) h44) (
    Post (.bool false) h44)) h) (
    Post (.bool false) h)) (
    BIF a_5 (
    BIF b_6 (
    CALL prg f_spec_l05Bow #[.pointer (some (Addr.add v_1 33))] (fun q46 h47 =>
    asB q46 fun b48 =>
    Post (.bool b48) h47) h) (
    Post (.bool false) h)) (
    Post (.bool false) h)))
def spec_l09Voice.j9 (Post : Value → Heap → Prop) : Frame → Heap → Prop := fun fr h => GRD (shape (kds 144 [(0, .p), (1, .p), (5, .b), (6, .b), (7, .b)]) fr) (spec_l09Voice.J9 Post (gP (lget fr 0)) (gP (lget fr 1)) (gB (lget fr 5)) (gB (lget fr 6)) (gB (lget fr 7)) h)
def spec_l09Voice.S (s_0 : Addr) (v_1 : Addr) (Post : Value → Heap → Prop) (h : Heap) : Prop :=
    CALL prg f_spec_l09NoString #[.pointer (some (Addr.add v_1 5))] (fun q1 h2 =>
    asB q1 fun b3 =>
    CALL prg f_spec_l09NoPipe #[.pointer (some (Addr.add v_1 20))] (fun q4 h5 =>
    asB q4 fun b6 =>
    CALL prg f_spec_l09NoBow #[.pointer (some (Addr.add v_1 33))] (fun q7 h8 =>
    asB q7 fun b9 =>
    oI .i64 (cell h8 v_1) fun n10 =>
    BIF (n10 == (-1 : Int)) (
    BIF b3 (
    BIF b6 (
    BIF b9 (
    oI .i64 (cell h8 (Addr.add v_1 1)) fun n11 =>
    BIF (n11 == (0 : Int)) (
    oI .i64 (cell h8 (Addr.add v_1 2)) fun n12 =>
    BIF (n12 == (0 : Int)) (
    oB (cell h8 (Addr.add v_1 3)) fun b13 =>
    BIF (!b13) (
    oF .f32 (cell h8 (Addr.add v_1 4)) fun r14 =>
    CALL prg f_spec_l01Same #[.float .f32 r14, .float .f32 0] (fun q15 h16 =>
    asB q15 fun b17 =>
    Post (.bool b17) h16) h8) (
    Post (.bool false) h8)) (
    Post (.bool false) h8)) (
    Post (.bool false) h8)) (
    Post (.bool false) h8)) (
    Post (.bool false) h8)) (
    Post (.bool false) h8)) (
    oI .i64 (cell h8 v_1) fun n18 =>
    CALL prg f_spec_l09Start #[.pointer (some s_0), .int .i64 n18] (fun q19 h20 =>
    TUP2 q19 fun q21 q22 =>
    asA q21 fun a23 =>
    asB q22 fun b24 =>
    ALC ⟨Z_impl_Event⟩ T_impl_Event (fun g25 h26 =>
    STA 6 h26 ⟨g25, 0, none⟩ a23 fun h27 =>
    BIF (!b24) (
    Post (.bool false) h27) (
    oI .i64 (cell h27 ⟨g25, 3, none⟩) fun n28 =>
    oI .i64 (cell h27 (Addr.add v_1 1)) fun n29 =>
    BIF (n28 != n29) (
    Post (.bool false) h27) (
    oI .i64 (cell h27 ⟨g25, 0, none⟩) fun n30 =>
    oI .i64 (cell h27 (Addr.add v_1 2)) fun n31 =>
    BIF (n30 != n31) (
    Post (.bool false) h27) (
    oF .f32 (cell h27 (Addr.add v_1 4)) fun r32 =>
    CALL prg f_spec_l01Finite #[.float .f32 r32] (fun q33 h34 =>
    asB q33 fun b35 =>
    BIF (!b35) (
    Post (.bool false) h34) (
    spec_l09Voice.J9 Post s_0 v_1 b3 b6 b9 h34)) h27)))) h20) h8)) h5) h2) h
noncomputable def spec_l09Voice.code : Code := (Tryz.f62.body).getD .skip
theorem spec_l09Voice.call {s_0 : Addr} {v_1 : Addr} {Post : Value → Heap → Prop} {h : Heap} (H : spec_l09Voice.S s_0 v_1 Post h) : CALL prg f_spec_l09Voice #[.pointer (some s_0), .pointer (some v_1)] Post h :=
  fn_call tau_ok mixed (c := spec_l09Voice.code) (Λ := lookL [(9, spec_l09Voice.j9 Post)]) Tryz.func62 (by kernel_rfl) (by kernel_rfl)
    (Rq.seq (by kernel_rfl) (Rq.free (by kernel_rfl)) (Rq.seq (by kernel_rfl) (Rq.free (by kernel_rfl)) (Rq.seq (by kernel_rfl) (Rq.free (by kernel_rfl)) (Rq.seq (by kernel_rfl) (Rq.free (by kernel_rfl)) (Rq.seq (by kernel_rfl) (Rq.free (by kernel_rfl)) (Rq.seq (by kernel_rfl) (Rq.free (by kernel_rfl)) (Rq.seqJ (spec_l09Voice.j9 Post) (by kernel_rfl) (seg (fun _ _ => by kernel_rfl)) (Rq.free (by kernel_rfl))
(Rq.free (by kernel_rfl)))))))))
    (Eq.mp (by kernel_rfl) H)

def spec_l09Ok.J14 (N6 : (Addr × Int) → Heap → Prop) (N12 : (Addr × Int × Addr × Int) → Heap → Prop) (Post : Value → Heap → Prop) (p_0 : Addr) (i_3 : Int) (v_4 : Addr) (k_5 : Int) (h : Heap) : Prop :=
    oL (cell h (Addr.add p_0 6)) fun l35b l35l l35c =>
    IDXS l35b k_5 l35l fun p36 =>
    oI .i64 (cell h ((Addr.add p36 ((Int.toNat k_5) * 45)))) fun n37 =>
    oI .i64 (cell h v_4) fun n38 =>
    BIF (n37 == n38) (
    Post (.bool false) h) (
    N12 (p_0, i_3, v_4, ((IntKind.i64.wrap (k_5 + (1 : Int))))) h)
def spec_l09Ok.j14 (N6 : (Addr × Int) → Heap → Prop) (N12 : (Addr × Int × Addr × Int) → Heap → Prop) (Post : Value → Heap → Prop) : Frame → Heap → Prop := fun fr h => GRD (shape (kds 113 [(0, .p), (3, .i .i64), (4, .p), (5, .i .i64)]) fr) (spec_l09Ok.J14 N6 N12 Post (gP (lget fr 0)) (gI (lget fr 3)) (gP (lget fr 4)) (gI (lget fr 5)) h)
def spec_l09Ok.B12 (N6 : (Addr × Int) → Heap → Prop) (Post : Value → Heap → Prop) (N12 : (Addr × Int × Addr × Int) → Heap → Prop) : Addr × Int × Addr × Int → Heap → Prop
  | (p_0, i_3, v_4, k_5), h =>
    BIF (decide (k_5 < i_3)) (
    oI .i64 (cell h v_4) fun n34 =>
    BIF ((decide ((0 : Int) ≤ n34))) (
    spec_l09Ok.J14 N6 N12 Post p_0 i_3 v_4 k_5 h) (
    N6 (p_0, ((IntKind.i64.wrap (i_3 + (1 : Int))))) h)) (
    N6 (p_0, ((IntKind.i64.wrap (i_3 + (1 : Int))))) h)
def spec_l09Ok.g12 (fr : Frame) : Addr × Int × Addr × Int := ((gP (lget fr 0)), (gI (lget fr 3)), (gP (lget fr 4)), (gI (lget fr 5)))
def spec_l09Ok.l12 (N6 : (Addr × Int) → Heap → Prop) (Post : Value → Heap → Prop) : Frame → Heap → Prop := fun fr h => GRD (shape (kds 113 [(0, .p), (3, .i .i64), (4, .p), (5, .i .i64)]) fr) (LOOP (spec_l09Ok.B12 N6 Post) (spec_l09Ok.g12 fr) h)
def spec_l09Ok.J11 (N6 : (Addr × Int) → Heap → Prop) (Post : Value → Heap → Prop) (p_0 : Addr) (i_3 : Int) (v_4 : Addr) (h : Heap) : Prop :=
    LOOP (spec_l09Ok.B12 N6 Post) (p_0, i_3, v_4, (0 : Int)) h
def spec_l09Ok.j11 (N6 : (Addr × Int) → Heap → Prop) (Post : Value → Heap → Prop) : Frame → Heap → Prop := fun fr h => GRD (shape (kds 113 [(0, .p), (3, .i .i64), (4, .p)]) fr) (spec_l09Ok.J11 N6 Post (gP (lget fr 0)) (gI (lget fr 3)) (gP (lget fr 4)) h)
def spec_l09Ok.B6 (Post : Value → Heap → Prop) (N6 : (Addr × Int) → Heap → Prop) : Addr × Int → Heap → Prop
  | (p_0, i_3), h =>
    oL (cell h (Addr.add p_0 6)) fun l23b l23l l23c =>
    BIF ((decide (i_3 < (l23l : Int)))) (
    oL (cell h (Addr.add p_0 6)) fun l26b l26l l26c =>
    IDXS l26b i_3 l26l fun p27 =>
    CALL prg f_spec_l09Voice #[.pointer (some p_0), .pointer (some ((Addr.add p27 ((Int.toNat i_3) * 45))))] (fun q28 h29 =>
    asB q28 fun b30 =>
    BIF (!b30) (
    Post (.bool false) h29) (
    oI .i64 (cell h29 ((Addr.add p27 ((Int.toNat i_3) * 45)))) fun n31 =>
    BIF ((decide ((0 : Int) ≤ n31))) (
    oI .i64 (cell h29 ((Addr.add ((Addr.add p27 ((Int.toNat i_3) * 45))) 2))) fun n32 =>
    oI .i64 (cell h29 (Addr.add p_0 7)) fun n33 =>
    BIF (decide (n33 ≤ n32)) (
    Post (.bool false) h29) (
    spec_l09Ok.J11 N6 Post p_0 i_3 ((Addr.add p27 ((Int.toNat i_3) * 45))) h29)) (
    spec_l09Ok.J11 N6 Post p_0 i_3 ((Addr.add p27 ((Int.toNat i_3) * 45))) h29))) h) (
    Post (.bool true) h)
def spec_l09Ok.g6 (fr : Frame) : Addr × Int := ((gP (lget fr 0)), (gI (lget fr 3)))
def spec_l09Ok.l6 (Post : Value → Heap → Prop) : Frame → Heap → Prop := fun fr h => GRD (shape (kds 113 [(0, .p), (3, .i .i64)]) fr) (LOOP (spec_l09Ok.B6 Post) (spec_l09Ok.g6 fr) h)
def spec_l09Ok.J3 (Post : Value → Heap → Prop) (p_0 : Addr) (h : Heap) : Prop :=
    oI .i64 (cell h (Addr.add p_0 8)) fun n18 =>
    oI .i64 (cell h (Addr.add p_0 7)) fun n19 =>
    CALL prg f_spec_l09Happened #[.pointer (some p_0), .int .i64 n19] (fun q20 h21 =>
    asI .i64 q20 fun n22 =>
    PIN h (Addr.add p_0 8) 1 h21 <|
    BIF (n18 != n22) (
    Post (.bool false) h21) (
    LOOP (spec_l09Ok.B6 Post) (p_0, (0 : Int)) h21)) h
def spec_l09Ok.j3 (Post : Value → Heap → Prop) : Frame → Heap → Prop := fun fr h => GRD (shape (kds 113 [(0, .p)]) fr) (spec_l09Ok.J3 Post (gP (lget fr 0)) h)
def spec_l09Ok.S (p_0 : Addr) (Post : Value → Heap → Prop) (h : Heap) : Prop :=
    CALL prg f_spec_l08Ok #[.pointer (some p_0)] (fun q1 h2 =>
    asB q1 fun b3 =>
    BIF (!b3) (
    Post (.bool false) h2) (
    oL (cell h2 (Addr.add p_0 6)) fun l4b l4l l4c =>
    CALL prg f_spec_l00In #[.int .i64 (l4l : Int), .int .i64 (1 : Int), .int .i64 (6 : Int)] (fun q7 h8 =>
    asB q7 fun b9 =>
    BIF (!b9) (
    Post (.bool false) h8) (
    oI .i64 (cell h8 (Addr.add p_0 7)) fun n10 =>
    CALL prg f_spec_l00In #[.int .i64 n10, .int .i64 (0 : Int), .int .i64 (200000 : Int)] (fun q11 h12 =>
    asB q11 fun b13 =>
    BIF (!b13) (
    Post (.bool false) h12) (
    oI .i64 (cell h12 (Addr.add p_0 9)) fun n14 =>
    CALL prg f_spec_l00In #[.int .i64 n14, .int .i64 (0 : Int), .int .i64 (64 : Int)] (fun q15 h16 =>
    asB q15 fun b17 =>
    BIF (!b17) (
    Post (.bool false) h16) (
    spec_l09Ok.J3 Post p_0 h16)) h12)) h8)) h2)) h
noncomputable def spec_l09Ok.code : Code := (Tryz.f19.body).getD .skip
theorem spec_l09Ok.call {p_0 : Addr} {Post : Value → Heap → Prop} {h : Heap} (H : spec_l09Ok.S p_0 Post h) : CALL prg f_spec_l09Ok #[.pointer (some p_0)] Post h :=
  fn_call tau_ok mixed (c := spec_l09Ok.code) (Λ := lookL [(3, spec_l09Ok.j3 Post), (1000006, spec_l09Ok.l6 Post)]) Tryz.func19 (by kernel_rfl) (by kernel_rfl)
    (Rq.seq (by kernel_rfl) (Rq.free (by kernel_rfl)) (Rq.seqJ (spec_l09Ok.j3 Post) (by kernel_rfl) (seg (fun _ _ => by kernel_rfl)) (Rq.free (by kernel_rfl))
(Rq.seq (by kernel_rfl) (Rq.free (by kernel_rfl)) (Rq.seq (by kernel_rfl) (Rq.seq (by kernel_rfl) (Rq.free (by kernel_rfl)) (Rq.block (Rq.loop (spec_l09Ok.l6 Post) (by kernel_rfl) (segL (g := spec_l09Ok.g6) tau_ok mixed (Λ := fun N6 => lookL [(11, spec_l09Ok.j11 N6 Post), (1000012, spec_l09Ok.l12 N6 Post)]) (fun _ _ _ => by kernel_rfl) (fun N6 => (Rq.seq (by kernel_rfl) (Rq.free (by kernel_rfl)) (Rq.seq (by kernel_rfl) (Rq.block (Rq.seq (by kernel_rfl) (Rq.free (by kernel_rfl)) (Rq.seqJ (spec_l09Ok.j11 N6 Post) (by kernel_rfl) (seg (fun _ _ => by kernel_rfl)) (Rq.free (by kernel_rfl))
(Rq.seq (by kernel_rfl) (Rq.free (by kernel_rfl)) (Rq.block (Rq.loop (spec_l09Ok.l12 N6 Post) (by kernel_rfl) (segL (g := spec_l09Ok.g12) tau_ok mixed (Λ := fun N12 => lookL [(14, spec_l09Ok.j14 N6 N12 Post)]) (fun _ _ _ => by kernel_rfl) (fun N12 => (Rq.seqJ (spec_l09Ok.j14 N6 N12 Post) (by kernel_rfl) (seg (fun _ _ => by kernel_rfl)) (Rq.free (by kernel_rfl))
(Rq.free (by kernel_rfl))))))))))) (Rq.free (by kernel_rfl))))))))) (Rq.free (by kernel_rfl))))))
    (Eq.mp (by kernel_rfl) H)

end Go.Sx
