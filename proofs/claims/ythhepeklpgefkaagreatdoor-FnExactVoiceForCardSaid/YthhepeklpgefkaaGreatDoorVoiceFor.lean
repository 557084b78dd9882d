/- What functions of this seat's program compute, told in words (a predicate over heaps for each), and the proofs that the words are no more than the code's own weakest precondition. -/
import Derived.Test.YthhepeklpgefkaaGreatDoorTab
namespace Go.Sx
open Go.Proofs
set_option linter.unusedVariables false
set_option maxRecDepth 100000

def spec_VoiceFor.J6 (Post : Value → Heap → Prop) (s_2 : Addr) (e_3 : Addr) (t4 : Addr) (h : Heap) : Prop :=
    CALL prg f_spec_l09For #[.pointer (some s_2), .pointer (some e_3)] (fun q46 h47 =>
    TUP2 q46 fun q48 q49 =>
    asA q48 fun a50 =>
    asB q49 fun b51 =>
    ALC ⟨Z_impl_Voice⟩ T_impl_Voice (fun g52 h53 =>
    STA 45 h53 ⟨g52, 0, none⟩ a50 fun h54 =>
    BIF (!b51) (
    STA 45 h54 t4 (⟨[.int .i64 (0 : Int), .int .i64 (0 : Int), .int .i64 (0 : Int), .bool false, .float .f32 0, .slice none 0 0, .int .i64 (0 : Int), .int .i64 (0 : Int), .float .f32 0, .float .f32 0, .float .f32 0, .float .f32 0, .float .f32 0, .int .i64 (0 : Int), .float .f32 0, .float .f32 0, .float .f32 0, .float .f32 0, .float .f32 0, .float .f32 0, .slice none 0 0, .slice none 0 0, .slice none 0 0, .int .i64 (0 : Int), .float .f32 0, .float .f32 0, .float .f32 0, .float .f32 0, .float .f32 0, .bool false, .float .f32 0, .float .f32 0, .float .f32 0, .slice none 0 0, .int .i64 (0 : Int), .slice none 0 0, .int .i64 (0 : Int), .int .i64 (0 : Int), .float .f32 0, .float .f32 0, .float .f32 0, .float .f32 0, .float .f32 0, .float .f32 0, .float .f32 0]⟩ : Array Value) fun h55 =>
    LDA 45 h55 t4 fun a56 =>
    Post (.tuple ⟨[.agg a56, .int .i64 (2 : Int)]⟩) h55) (
    LDA 45 h54 ⟨g52, 0, none⟩ fun a57 =>
    STA 45 h54 t4 a57 fun h58 =>
    LDA 45 h58 t4 fun a59 =>
    Post (.tuple ⟨[.agg a59, .int .i64 (0 : Int)]⟩) h58)) h47) h
def spec_VoiceFor.j6 (Post : Value → Heap → Prop) : Frame → Heap → Prop := fun fr h => GRD (shape (kds 64 [(2, .p), (3, .p), (4, .p)]) fr) (spec_VoiceFor.J6 Post (gP (lget fr 2)) (gP (lget fr 3)) (gP (lget fr 4)) h)
def spec_VoiceFor.S (s_0 : Array Value) (e_1 : Array Value) (Post : Value → Heap → Prop) (h : Heap) : Prop :=
    ALC s_0 T_impl_Score (fun g1 h2 =>
    ALC e_1 T_impl_Event (fun g3 h4 =>
    ALC ⟨Z_impl_Voice⟩ T_impl_Voice (fun g5 h6 =>
    CALL prg f_spec_l08Ok #[.pointer (some ⟨g1, 0, none⟩)] (fun q7 h8 =>
    asB q7 fun b9 =>
    BIF (!b9) (
    STA 45 h8 ⟨g5, 0, none⟩ (⟨[.int .i64 (0 : Int), .int .i64 (0 : Int), .int .i64 (0 : Int), .bool false, .float .f32 0, .slice none 0 0, .int .i64 (0 : Int), .int .i64 (0 : Int), .float .f32 0, .float .f32 0, .float .f32 0, .float .f32 0, .float .f32 0, .int .i64 (0 : Int), .float .f32 0, .float .f32 0, .float .f32 0, .float .f32 0, .float .f32 0, .float .f32 0, .slice none 0 0, .slice none 0 0, .slice none 0 0, .int .i64 (0 : Int), .float .f32 0, .float .f32 0, .float .f32 0, .float .f32 0, .float .f32 0, .bool false, .float .f32 0, .float .f32 0, .float .f32 0, .slice none 0 0, .int .i64 (0 : Int), .slice none 0 0, .int .i64 (0 : Int), .int .i64 (0 : Int), .float .f32 0, .float .f32 0, .float .f32 0, .float .f32 0, .float .f32 0, .float .f32 0, .float .f32 0]⟩ : Array Value) fun h10 =>
    LDA 45 h10 ⟨g5, 0, none⟩ fun a11 =>
    Post (.tuple ⟨[.agg a11, .int .i64 (1 : Int)]⟩) h10) (
    oI .i64 (cell h8 ⟨g3, 2, none⟩) fun n12 =>
    CALL prg f_spec_l09Start #[.pointer (some ⟨g1, 0, none⟩), .int .i64 n12] (fun q13 h14 =>
    TUP2 q13 fun q15 q16 =>
    asA q15 fun a17 =>
    asB q16 fun b18 =>
    ALC ⟨Z_impl_Event⟩ T_impl_Event (fun g19 h20 =>
    STA 6 h20 ⟨g19, 0, none⟩ a17 fun h21 =>
    BIF (!b18) (
    STA 45 h21 ⟨g5, 0, none⟩ (⟨[.int .i64 (0 : Int), .int .i64 (0 : Int), .int .i64 (0 : Int), .bool false, .float .f32 0, .slice none 0 0, .int .i64 (0 : Int), .int .i64 (0 : Int), .float .f32 0, .float .f32 0, .float .f32 0, .float .f32 0, .float .f32 0, .int .i64 (0 : Int), .float .f32 0, .float .f32 0, .float .f32 0, .float .f32 0, .float .f32 0, .float .f32 0, .slice none 0 0, .slice none 0 0, .slice none 0 0, .int .i64 (0 : Int), .float .f32 0, .float .f32 0, .float .f32 0, .float .f32 0, .float .f32 0, .bool false, .float .f32 0, .float .f32 0, .float .f32 0, .slice none 0 0, .int .i64 (0 : Int), .slice none 0 0, .int .i64 (0 : Int), .int .i64 (0 : Int), .float .f32 0, .float .f32 0, .float .f32 0, .float .f32 0, .float .f32 0, .float .f32 0, .float .f32 0]⟩ : Array Value) fun h22 =>
    LDA 45 h22 ⟨g5, 0, none⟩ fun a23 =>
    Post (.tuple ⟨[.agg a23, .int .i64 (1 : Int)]⟩) h22) (
    oI .i64 (cell h21 ⟨g3, 1, none⟩) fun n24 =>
    BIF (n24 != (2 : Int)) (
    STA 45 h21 ⟨g5, 0, none⟩ (⟨[.int .i64 (0 : Int), .int .i64 (0 : Int), .int .i64 (0 : Int), .bool false, .float .f32 0, .slice none 0 0, .int .i64 (0 : Int), .int .i64 (0 : Int), .float .f32 0, .float .f32 0, .float .f32 0, .float .f32 0, .float .f32 0, .int .i64 (0 : Int), .float .f32 0, .float .f32 0, .float .f32 0, .float .f32 0, .float .f32 0, .float .f32 0, .slice none 0 0, .slice none 0 0, .slice none 0 0, .int .i64 (0 : Int), .float .f32 0, .float .f32 0, .float .f32 0, .float .f32 0, .float .f32 0, .bool false, .float .f32 0, .float .f32 0, .float .f32 0, .slice none 0 0, .int .i64 (0 : Int), .slice none 0 0, .int .i64 (0 : Int), .int .i64 (0 : Int), .float .f32 0, .float .f32 0, .float .f32 0, .float .f32 0, .float .f32 0, .float .f32 0, .float .f32 0]⟩ : Array Value) fun h25 =>
    LDA 45 h25 ⟨g5, 0, none⟩ fun a26 =>
    Post (.tuple ⟨[.agg a26, .int .i64 (1 : Int)]⟩) h25) (
    oI .i64 (cell h21 ⟨g19, 0, none⟩) fun n27 =>
    oI .i64 (cell h21 ⟨g3, 0, none⟩) fun n28 =>
    BIF (n27 != n28) (
    STA 45 h21 ⟨g5, 0, none⟩ (⟨[.int .i64 (0 : Int), .int .i64 (0 : Int), .int .i64 (0 : Int), .bool false, .float .f32 0, .slice none 0 0, .int .i64 (0 : Int), .int .i64 (0 : Int), .float .f32 0, .float .f32 0, .float .f32 0, .float .f32 0, .float .f32 0, .int .i64 (0 : Int), .float .f32 0, .float .f32 0, .float .f32 0, .float .f32 0, .float .f32 0, .float .f32 0, .slice none 0 0, .slice none 0 0, .slice none 0 0, .int .i64 (0 : Int), .float .f32 0, .float .f32 0, .float .f32 0, .float .f32 0, .float .f32 0, .bool false, .float .f32 0, .float .f32 0, .float .f32 0, .slice none 0 0, .int .i64 (0 : Int), .slice none 0 0, .int .i64 (0 : Int), .int .i64 (0 : Int), .float .f32 0, .float .f32 0, .float .f32 0, .float .f32 0, .float .f32 0, .float .f32 0, .float .f32 0]⟩ : Array Value) fun h29 =>
    LDA 45 h29 ⟨g5, 0, none⟩ fun a30 =>
    Post (.tuple ⟨[.agg a30, .int .i64 (1 : Int)]⟩) h29) (
    oI .i64 (cell h21 ⟨g19, 3, none⟩) fun n31 =>
    oI .i64 (cell h21 ⟨g3, 3, none⟩) fun n32 =>
    BIF (n31 != n32) (
    STA 45 h21 ⟨g5, 0, none⟩ (⟨[.int .i64 (0 : Int), .int .i64 (0 : Int), .int .i64 (0 : Int), .bool false, .float .f32 0, .slice none 0 0, .int .i64 (0 : Int), .int .i64 (0 : Int), .float .f32 0, .float .f32 0, .float .f32 0, .float .f32 0, .float .f32 0, .int .i64 (0 : Int), .float .f32 0, .float .f32 0, .float .f32 0, .float .f32 0, .float .f32 0, .float .f32 0, .slice none 0 0, .slice none 0 0, .slice none 0 0, .int .i64 (0 : Int), .float .f32 0, .float .f32 0, .float .f32 0, .float .f32 0, .float .f32 0, .bool false, .float .f32 0, .float .f32 0, .float .f32 0, .slice none 0 0, .int .i64 (0 : Int), .slice none 0 0, .int .i64 (0 : Int), .int .i64 (0 : Int), .float .f32 0, .float .f32 0, .float .f32 0, .float .f32 0, .float .f32 0, .float .f32 0, .float .f32 0]⟩ : Array Value) fun h33 =>
    LDA 45 h33 ⟨g5, 0, none⟩ fun a34 =>
    Post (.tuple ⟨[.agg a34, .int .i64 (1 : Int)]⟩) h33) (
    oI .i64 (cell h21 ⟨g19, 4, none⟩) fun n35 =>
    oI .i64 (cell h21 ⟨g3, 4, none⟩) fun n36 =>
    BIF (n35 != n36) (
    STA 45 h21 ⟨g5, 0, none⟩ (⟨[.int .i64 (0 : Int), .int .i64 (0 : Int), .int .i64 (0 : Int), .bool false, .float .f32 0, .slice none 0 0, .int .i64 (0 : Int), .int .i64 (0 : Int), .float .f32 0, .float .f32 0, .float .f32 0, .float .f32 0, .float .f32 0, .int .i64 (0 : Int), .float .f32 0, .float .f32 0, .float .f32 0, .float .f32 0, .float .f32 0, .float .f32 0, .slice none 0 0, .slice none 0 0, .slice none 0 0, .int .i64 (0 : Int), .float .f32 0, .float .f32 0, .float .f32 0, .float .f32 0, .float .f32 0, .bool false, .float .f32 0, .float .f32 0, .float .f32 0, .slice none 0 0, .int .i64 (0 : Int), .slice none 0 0, .int .i64 (0 : Int), .int .i64 (0 : Int), .float .f32 0, .float .f32 0, .float .f32 0, .float .f32 0, .float .f32 0, .float .f32 0, .float .f32 0]⟩ : Array Value) fun h37 =>
    LDA 45 h37 ⟨g5, 0, none⟩ fun a38 =>
    Post (.tuple ⟨[.agg a38, .int .i64 (1 : Int)]⟩) h37) (
    oF .f32 (cell h21 ⟨g19, 5, none⟩) fun r39 =>
    oF .f32 (cell h21 ⟨g3, 5, none⟩) fun r40 =>
    CALL prg f_spec_l01Same #[.float .f32 r39, .float .f32 r40] (fun q41 h42 =>
    asB q41 fun b43 =>
    BIF (!b43) (
    STA 45 h42 ⟨g5, 0, none⟩ (⟨[.int .i64 (0 : Int), .int .i64 (0 : Int), .int .i64 (0 : Int), .bool false, .float .f32 0, .slice none 0 0, .int .i64 (0 : Int), .int .i64 (0 : Int), .float .f32 0, .float .f32 0, .float .f32 0, .float .f32 0, .float .f32 0, .int .i64 (0 : Int), .float .f32 0, .float .f32 0, .float .f32 0, .float .f32 0, .float .f32 0, .float .f32 0, .slice none 0 0, .slice none 0 0, .slice none 0 0, .int .i64 (0 : Int), .float .f32 0, .float .f32 0, .float .f32 0, .float .f32 0, .float .f32 0, .bool false, .float .f32 0, .float .f32 0, .float .f32 0, .slice none 0 0, .int .i64 (0 : Int), .slice none 0 0, .int .i64 (0 : Int), .int .i64 (0 : Int), .float .f32 0, .float .f32 0, .float .f32 0, .float .f32 0, .float .f32 0, .float .f32 0, .float .f32 0]⟩ : Array Value) fun h44 =>
    LDA 45 h44 ⟨g5, 0, none⟩ fun a45 =>
    Post (.tuple ⟨[.agg a45, .int .i64 (1 : Int)]⟩) h44) (
    spec_VoiceFor.J6 Post ⟨g1, 0, none⟩ ⟨g3, 0, none⟩ ⟨g5, 0, none⟩ h42)) h21)))))) h14) h8)) h6) h4) h2) h
noncomputable def spec_VoiceFor.code : Code := (Tryz.f24.body).getD .skip
theorem spec_VoiceFor.call {s_0 : Array Value} {e_1 : Array Value} {Post : Value → Heap → Prop} {h : Heap} (H : spec_VoiceFor.S s_0 e_1 Post h) : CALL prg f_spec_VoiceFor #[.agg s_0, .agg e_1] Post h :=
  fn_call tau_ok mixed (c := spec_VoiceFor.code) (Λ := lookL [(6, spec_VoiceFor.j6 Post)]) Tryz.func24 (by kernel_rfl) (by kernel_rfl)
    (Rq.seq (by kernel_rfl) (Rq.free (by kernel_rfl)) (Rq.seq (by kernel_rfl) (Rq.free (by kernel_rfl)) (Rq.seq (by kernel_rfl) (Rq.free (by kernel_rfl)) (Rq.seqJ (spec_VoiceFor.j6 Post) (by kernel_rfl) (seg (fun _ _ => by kernel_rfl)) (Rq.free (by kernel_rfl))
(Rq.free (by kernel_rfl))))))
    (Eq.mp (by kernel_rfl) H)

def impl_VoiceFor_c1.S (own_0 : Array Value) (t1 : Addr) (Post : Value → Heap → Prop) (h : Heap) : Prop :=
    ALC own_0 T_impl_Event (fun g1 h2 =>
    LDA 6 h2 ⟨g1, 0, none⟩ fun a3 =>
    LDA 6 h2 t1 fun a4 =>
    CALL prg f_impl_sameEvent #[.agg a3, .agg a4] (fun q5 h6 =>
    asB q5 fun b7 =>
    Post (.bool b7) h6) h2) h
noncomputable def impl_VoiceFor_c1.code : Code := (Tryz.f97.body).getD .skip
theorem impl_VoiceFor_c1.call {own_0 : Array Value} {t1 : Addr} {Post : Value → Heap → Prop} {h : Heap} (H : impl_VoiceFor_c1.S own_0 t1 Post h) : CALL prg f_impl_VoiceFor_c1 #[.agg own_0, .pointer (some t1)] Post h :=
  fn_call tau_ok mixed (c := impl_VoiceFor_c1.code) (Λ := lookL []) Tryz.func97 (by kernel_rfl) (by kernel_rfl)
    (Rq.free (by kernel_rfl))
    (Eq.mp (by kernel_rfl) H)

def slices_ContainsFunc_sl_impl_Event_impl_Event.S (s_0b : Option Addr) (s_0l s_0c : Nat) (f_1 : Value) (Post : Value → Heap → Prop) (h : Heap) : Prop :=
    CALL prg f_slices_IndexFunc_sl_impl_Event_impl_Event #[.slice s_0b s_0l s_0c, f_1] (fun q1 h2 =>
    asI .i64 q1 fun n3 =>
    Post (.bool ((decide ((0 : Int) ≤ n3)))) h2) h
noncomputable def slices_ContainsFunc_sl_impl_Event_impl_Event.code : Code := (Tryz.f84.body).getD .skip
theorem slices_ContainsFunc_sl_impl_Event_impl_Event.call {s_0b : Option Addr} {s_0l s_0c : Nat} {f_1 : Value} {Post : Value → Heap → Prop} {h : Heap} (H : slices_ContainsFunc_sl_impl_Event_impl_Event.S s_0b s_0l s_0c f_1 Post h) : CALL prg f_slices_ContainsFunc_sl_impl_Event_impl_Event #[.slice s_0b s_0l s_0c, f_1] Post h :=
  fn_call tau_ok mixed (c := slices_ContainsFunc_sl_impl_Event_impl_Event.code) (Λ := lookL []) Tryz.func84 (by kernel_rfl) (by kernel_rfl)
    (Rq.free (by kernel_rfl))
    (Eq.mp (by kernel_rfl) H)

def impl_VoiceFor.J3 (Post : Value → Heap → Prop) (s_2 : Addr) (e_3 : Addr) (t4 : Addr) (h : Heap) : Prop :=
    LDA 6 h s_2 fun a22 =>
    LDA 6 h e_3 fun a23 =>
    CALL prg f_impl_voiceFor #[.agg a22, .agg a23] (fun q24 h25 =>
    TUP2 q24 fun q26 q27 =>
    asA q26 fun a28 =>
    asI .i64 q27 fun n29 =>
    STA 45 h25 t4 a28 fun h30 =>
    LDA 45 h30 t4 fun a31 =>
    Post (.tuple ⟨[.agg a31, .int .i64 n29]⟩) h30) h
def impl_VoiceFor.j3 (Post : Value → Heap → Prop) : Frame → Heap → Prop := fun fr h => GRD (shape (kds 27 [(2, .p), (3, .p), (4, .p)]) fr) (impl_VoiceFor.J3 Post (gP (lget fr 2)) (gP (lget fr 3)) (gP (lget fr 4)) h)
def impl_VoiceFor.S (s_0 : Array Value) (e_1 : Array Value) (Post : Value → Heap → Prop) (h : Heap) : Prop :=
    ALC s_0 T_impl_Score (fun g1 h2 =>
    ALC e_1 T_impl_Event (fun g3 h4 =>
    ALC ⟨Z_impl_Voice⟩ T_impl_Voice (fun g5 h6 =>
    LDA 6 h6 ⟨g1, 0, none⟩ fun a7 =>
    CALL prg f_impl_ValidScore #[.agg a7] (fun q8 h9 =>
    asB q8 fun b10 =>
    BIF (!b10) (
    STA 45 h9 ⟨g5, 0, none⟩ (⟨[.int .i64 (0 : Int), .int .i64 (0 : Int), .int .i64 (0 : Int), .bool false, .float .f32 0, .slice none 0 0, .int .i64 (0 : Int), .int .i64 (0 : Int), .float .f32 0, .float .f32 0, .float .f32 0, .float .f32 0, .float .f32 0, .int .i64 (0 : Int), .float .f32 0, .float .f32 0, .float .f32 0, .float .f32 0, .float .f32 0, .float .f32 0, .slice none 0 0, .slice none 0 0, .slice none 0 0, .int .i64 (0 : Int), .float .f32 0, .float .f32 0, .float .f32 0, .float .f32 0, .float .f32 0, .bool false, .float .f32 0, .float .f32 0, .float .f32 0, .slice none 0 0, .int .i64 (0 : Int), .slice none 0 0, .int .i64 (0 : Int), .int .i64 (0 : Int), .float .f32 0, .float .f32 0, .float .f32 0, .float .f32 0, .float .f32 0, .float .f32 0, .float .f32 0]⟩ : Array Value) fun h11 =>
    LDA 45 h11 ⟨g5, 0, none⟩ fun a12 =>
    Post (.tuple ⟨[.agg a12, .int .i64 (1 : Int)]⟩) h11) (
    oI .i64 (cell h9 ⟨g3, 1, none⟩) fun n13 =>
    BIF (n13 != (2 : Int)) (
    STA 45 h9 ⟨g5, 0, none⟩ (⟨[.int .i64 (0 : Int), .int .i64 (0 : Int), .int .i64 (0 : Int), .bool false, .float .f32 0, .slice none 0 0, .int .i64 (0 : Int), .int .i64 (0 : Int), .float .f32 0, .float .f32 0, .float .f32 0, .float .f32 0, .float .f32 0, .int .i64 (0 : Int), .float .f32 0, .float .f32 0, .float .f32 0, .float .f32 0, .float .f32 0, .float .f32 0, .slice none 0 0, .slice none 0 0, .slice none 0 0, .int .i64 (0 : Int), .float .f32 0, .float .f32 0, .float .f32 0, .float .f32 0, .float .f32 0, .bool false, .float .f32 0, .float .f32 0, .float .f32 0, .slice none 0 0, .int .i64 (0 : Int), .slice none 0 0, .int .i64 (0 : Int), .int .i64 (0 : Int), .float .f32 0, .float .f32 0, .float .f32 0, .float .f32 0, .float .f32 0, .float .f32 0, .float .f32 0]⟩ : Array Value) fun h14 =>
    LDA 45 h14 ⟨g5, 0, none⟩ fun a15 =>
    Post (.tuple ⟨[.agg a15, .int .i64 (1 : Int)]⟩) h14) (
    oL (cell h9 ⟨g1, 5, none⟩) fun l16b l16l l16c =>
    CALL prg f_slices_ContainsFunc_sl_impl_Event_impl_Event #[.slice l16b l16l l16c, .func (.func 97) #[] #[.pointer (some ⟨g3, 0, none⟩)]] (fun q17 h18 =>
    asB q17 fun b19 =>
    BIF (!b19) (
    STA 45 h18 ⟨g5, 0, none⟩ (⟨[.int .i64 (0 : Int), .int .i64 (0 : Int), .int .i64 (0 : Int), .bool false, .float .f32 0, .slice none 0 0, .int .i64 (0 : Int), .int .i64 (0 : Int), .float .f32 0, .float .f32 0, .float .f32 0, .float .f32 0, .float .f32 0, .int .i64 (0 : Int), .float .f32 0, .float .f32 0, .float .f32 0, .float .f32 0, .float .f32 0, .float .f32 0, .slice none 0 0, .slice none 0 0, .slice none 0 0, .int .i64 (0 : Int), .float .f32 0, .float .f32 0, .float .f32 0, .float .f32 0, .float .f32 0, .bool false, .float .f32 0, .float .f32 0, .float .f32 0, .slice none 0 0, .int .i64 (0 : Int), .slice none 0 0, .int .i64 (0 : Int), .int .i64 (0 : Int), .float .f32 0, .float .f32 0, .float .f32 0, .float .f32 0, .float .f32 0, .float .f32 0, .float .f32 0]⟩ : Array Value) fun h20 =>
    LDA 45 h20 ⟨g5, 0, none⟩ fun a21 =>
    Post (.tuple ⟨[.agg a21, .int .i64 (1 : Int)]⟩) h20) (
    impl_VoiceFor.J3 Post ⟨g1, 0, none⟩ ⟨g3, 0, none⟩ ⟨g5, 0, none⟩ h18)) h9))) h6) h4) h2) h
noncomputable def impl_VoiceFor.code : Code := (Tryz.f26.body).getD .skip
theorem impl_VoiceFor.call {s_0 : Array Value} {e_1 : Array Value} {Post : Value → Heap → Prop} {h : Heap} (H : impl_VoiceFor.S s_0 e_1 Post h) : CALL prg f_impl_VoiceFor #[.agg s_0, .agg e_1] Post h :=
  fn_call tau_ok mixed (c := impl_VoiceFor.code) (Λ := lookL [(3, impl_VoiceFor.j3 Post)]) Tryz.func26 (by kernel_rfl) (by kernel_rfl)
    (Rq.seq (by kernel_rfl) (Rq.free (by kernel_rfl)) (Rq.seqJ (impl_VoiceFor.j3 Post) (by kernel_rfl) (seg (fun _ _ => by kernel_rfl)) (Rq.free (by kernel_rfl))
(Rq.free (by kernel_rfl))))
    (Eq.mp (by kernel_rfl) H)

def laws_FnExactVoiceFor.J27 (Post : Value → Heap → Prop) (g0_9 : Addr) (m_12 : Int) (h : Heap) : Prop :=
    LDA 45 h g0_9 fun a192 =>
    CALL prg f_laws_heldVoice #[.agg a192, .int .i64 (1 : Int)] (fun q193 h194 =>
    asI .i64 q193 fun n195 =>
    BIF ((decide (n195 < (0 : Int)))) (
    Post (.bool false) h194) (
    BIF (n195 != m_12) (
    Post (.bool false) h194) (
    Post (.bool true) h194))) h
def laws_FnExactVoiceFor.j27 (Post : Value → Heap → Prop) : Frame → Heap → Prop := fun fr h => GRD (shape (kds 104 [(9, .p), (12, .i .i64)]) fr) (laws_FnExactVoiceFor.J27 Post (gP (lget fr 9)) (gI (lget fr 12)) h)
def laws_FnExactVoiceFor.J25 (Post : Value → Heap → Prop) (w0_6 : Addr) (w1_7 : Int) (g0_9 : Addr) (m_12 : Int) (h0_14 : Addr) (h1_15 : Int) (h : Heap) : Prop :=
    LDA 45 h h0_14 fun a187 =>
    LDA 45 h w0_6 fun a188 =>
    CALL prg f_laws_eqVoice #[.agg a187, .agg a188] (fun q189 h190 =>
    asB q189 fun b191 =>
    BIF (!b191) (
    Post (.bool false) h190) (
    BIF (h1_15 != w1_7) (
    Post (.bool false) h190) (
    laws_FnExactVoiceFor.J27 Post g0_9 m_12 h190))) h
def laws_FnExactVoiceFor.j25 (Post : Value → Heap → Prop) : Frame → Heap → Prop := fun fr h => GRD (shape (kds 104 [(6, .p), (7, .i .i64), (9, .p), (12, .i .i64), (14, .p), (15, .i .i64)]) fr) (laws_FnExactVoiceFor.J25 Post (gP (lget fr 6)) (gI (lget fr 7)) (gP (lget fr 9)) (gI (lget fr 12)) (gP (lget fr 14)) (gI (lget fr 15)) h)
def laws_FnExactVoiceFor.J16 (Post : Value → Heap → Prop) (aS_2 : Addr) (aE_3 : Addr) (w0_6 : Addr) (w1_7 : Int) (g0_9 : Addr) (h : Heap) : Prop :=
    LDA 45 h g0_9 fun a126 =>
    CALL prg f_laws_markVoice #[.agg a126, .int .i64 (1 : Int)] (fun q127 h128 =>
    asI .i64 q127 fun n129 =>
    LDA 45 h128 g0_9 fun a130 =>
    CALL prg f_laws_heldVoice #[.agg a130, .int .i64 (1 : Int)] (fun q131 h132 =>
    asI .i64 q131 fun n133 =>
    BIF ((decide (n133 < (0 : Int)))) (
    Post (.bool false) h132) (
    BIF (n133 != n129) (
    Post (.bool false) h132) (
    LDA 6 h132 aS_2 fun a134 =>
    LDA 6 h132 aE_3 fun a135 =>
    (CALL prg f_laws_toScore #[.agg a134] (fun q136 h137 =>
    asA q136 fun a138 =>
    PIN h132 aE_3 6 h137 <|
    (CALL prg f_laws_toEvent #[.agg a135] (fun q139 h140 =>
    asA q139 fun a141 =>
    (CALL prg f_impl_VoiceFor #[.agg a138, .agg a141] (fun q142 h143 =>
    TUP2 q142 fun q144 q145 =>
    asA q144 fun a146 =>
    asI .i64 q145 fun n147 =>
    ALC ⟨Z_impl_Voice⟩ T_impl_Voice (fun g148 h149 =>
    PIN h132 aE_3 6 h149 <|
    PIN h132 aS_2 6 h149 <|
    STA 45 h149 ⟨g148, 0, none⟩ a146 fun h150 =>
    laws_FnExactVoiceFor.J25 Post w0_6 w1_7 g0_9 n129 ⟨g148, 0, none⟩ n147 h150) h143) h140) ∧ (ALC ⟨Z_impl_Voice⟩ T_impl_Voice (fun g151 h152 =>
    PIN h132 aE_3 6 h152 <|
    PIN h132 aS_2 6 h152 <|
    CALL prg f_impl_VoiceFor #[.agg a138, .agg a141] (fun q153 h154 =>
    TUP2 q153 fun q155 q156 =>
    asA q155 fun a157 =>
    asI .i64 q156 fun n158 =>
    STA 45 h154 ⟨g151, 0, none⟩ a157 fun h159 =>
    laws_FnExactVoiceFor.J25 Post w0_6 w1_7 g0_9 n129 ⟨g151, 0, none⟩ n158 h159) h152) h140)) h137) ∧ (ALC ⟨Z_impl_Voice⟩ T_impl_Voice (fun g160 h161 =>
    PIN h132 aE_3 6 h161 <|
    PIN h132 aS_2 6 h161 <|
    CALL prg f_laws_toEvent #[.agg a135] (fun q162 h163 =>
    asA q162 fun a164 =>
    CALL prg f_impl_VoiceFor #[.agg a138, .agg a164] (fun q165 h166 =>
    TUP2 q165 fun q167 q168 =>
    asA q167 fun a169 =>
    asI .i64 q168 fun n170 =>
    STA 45 h166 ⟨g160, 0, none⟩ a169 fun h171 =>
    laws_FnExactVoiceFor.J25 Post w0_6 w1_7 g0_9 n129 ⟨g160, 0, none⟩ n170 h171) h163) h161) h137)) h132) ∧ (ALC ⟨Z_impl_Voice⟩ T_impl_Voice (fun g172 h173 =>
    PIN h132 aE_3 6 h173 <|
    PIN h132 aS_2 6 h173 <|
    CALL prg f_laws_toScore #[.agg a134] (fun q174 h175 =>
    asA q174 fun a176 =>
    PIN h132 aE_3 6 h175 <|
    CALL prg f_laws_toEvent #[.agg a135] (fun q177 h178 =>
    asA q177 fun a179 =>
    CALL prg f_impl_VoiceFor #[.agg a176, .agg a179] (fun q180 h181 =>
    TUP2 q180 fun q182 q183 =>
    asA q182 fun a184 =>
    asI .i64 q183 fun n185 =>
    STA 45 h181 ⟨g172, 0, none⟩ a184 fun h186 =>
    laws_FnExactVoiceFor.J25 Post w0_6 w1_7 g0_9 n129 ⟨g172, 0, none⟩ n185 h186) h178) h175) h173) h132)))) h128) h
def laws_FnExactVoiceFor.j16 (Post : Value → Heap → Prop) : Frame → Heap → Prop := fun fr h => GRD (shape (kds 104 [(2, .p), (3, .p), (6, .p), (7, .i .i64), (9, .p)]) fr) (laws_FnExactVoiceFor.J16 Post (gP (lget fr 2)) (gP (lget fr 3)) (gP (lget fr 6)) (gI (lget fr 7)) (gP (lget fr 9)) h)
def laws_FnExactVoiceFor.J10 (Post : Value → Heap → Prop) (aS_2 : Addr) (aE_3 : Addr) (w0_6 : Addr) (w1_7 : Int) (x0_8 : Addr) (g0_9 : Addr) (g1_10 : Int) (h : Heap) : Prop :=
    LDA 6 h x0_8 fun a109 =>
    LDA 6 h aS_2 fun a110 =>
    CALL prg f_laws_toScore #[.agg a110] (fun q111 h112 =>
    asA q111 fun a113 =>
    PIN h x0_8 6 h112 <|
    CALL prg f_laws_eqScore #[.agg a109, .agg a113] (fun q114 h115 =>
    asB q114 fun b116 =>
    BIF (!b116) (
    Post (.bool false) h115) (
    LDA 6 h115 x0_8 fun a117 =>
    CALL prg f_laws_markScore #[.agg a117, .int .i64 (1 : Int)] (fun q118 h119 =>
    asI .i64 q118 fun n120 =>
    BIF ((decide (n120 < (0 : Int)))) (
    Post (.bool false) h119) (
    LDA 45 h119 g0_9 fun a121 =>
    LDA 45 h119 w0_6 fun a122 =>
    CALL prg f_laws_eqVoice #[.agg a121, .agg a122] (fun q123 h124 =>
    asB q123 fun b125 =>
    BIF (!b125) (
    Post (.bool false) h124) (
    BIF (g1_10 != w1_7) (
    Post (.bool false) h124) (
    laws_FnExactVoiceFor.J16 Post aS_2 aE_3 w0_6 w1_7 g0_9 h124))) h119)) h115)) h112) h
def laws_FnExactVoiceFor.j10 (Post : Value → Heap → Prop) : Frame → Heap → Prop := fun fr h => GRD (shape (kds 104 [(2, .p), (3, .p), (6, .p), (7, .i .i64), (8, .p), (9, .p), (10, .i .i64)]) fr) (laws_FnExactVoiceFor.J10 Post (gP (lget fr 2)) (gP (lget fr 3)) (gP (lget fr 6)) (gI (lget fr 7)) (gP (lget fr 8)) (gP (lget fr 9)) (gI (lget fr 10)) h)
def laws_FnExactVoiceFor.J8 (Post : Value → Heap → Prop) (aS_2 : Addr) (aE_3 : Addr) (w0_6 : Addr) (w1_7 : Int) (x0_8 : Addr) (g0_9 : Addr) (g1_10 : Int) (h : Heap) : Prop :=
    LDA 45 h g0_9 fun a104 =>
    LDA 45 h w0_6 fun a105 =>
    CALL prg f_laws_eqVoice #[.agg a104, .agg a105] (fun q106 h107 =>
    asB q106 fun b108 =>
    BIF (!b108) (
    Post (.bool false) h107) (
    BIF (g1_10 != w1_7) (
    Post (.bool false) h107) (
    laws_FnExactVoiceFor.J10 Post aS_2 aE_3 w0_6 w1_7 x0_8 g0_9 g1_10 h107))) h
def laws_FnExactVoiceFor.j8 (Post : Value → Heap → Prop) : Frame → Heap → Prop := fun fr h => GRD (shape (kds 104 [(2, .p), (3, .p), (6, .p), (7, .i .i64), (8, .p), (9, .p), (10, .i .i64)]) fr) (laws_FnExactVoiceFor.J8 Post (gP (lget fr 2)) (gP (lget fr 3)) (gP (lget fr 6)) (gI (lget fr 7)) (gP (lget fr 8)) (gP (lget fr 9)) (gI (lget fr 10)) h)
def laws_FnExactVoiceFor.J6 (Post : Value → Heap → Prop) (aS_2 : Addr) (aE_3 : Addr) (w0_6 : Addr) (w1_7 : Int) (h : Heap) : Prop :=
    LDA 6 h aS_2 fun a62 =>
    CALL prg f_laws_toScore #[.agg a62] (fun q63 h64 =>
    asA q63 fun a65 =>
    ALC ⟨Z_impl_Score⟩ T_impl_Score (fun g66 h67 =>
    STA 6 h67 ⟨g66, 0, none⟩ a65 fun h68 =>
    LDA 6 h68 ⟨g66, 0, none⟩ fun a69 =>
    LDA 6 h68 aE_3 fun a70 =>
    (CALL prg f_laws_toEvent #[.agg a70] (fun q71 h72 =>
    asA q71 fun a73 =>
    PIN h68 ⟨g66, 0, none⟩ 6 h72 <|
    (CALL prg f_impl_VoiceFor #[.agg a69, .agg a73] (fun q74 h75 =>
    TUP2 q74 fun q76 q77 =>
    asA q76 fun a78 =>
    asI .i64 q77 fun n79 =>
    ALC ⟨Z_impl_Voice⟩ T_impl_Voice (fun g80 h81 =>
    PIN h68 aE_3 6 h81 <|
    PIN h68 ⟨g66, 0, none⟩ 6 h81 <|
    STA 45 h81 ⟨g80, 0, none⟩ a78 fun h82 =>
    laws_FnExactVoiceFor.J8 Post aS_2 aE_3 w0_6 w1_7 ⟨g66, 0, none⟩ ⟨g80, 0, none⟩ n79 h82) h75) h72) ∧ (ALC ⟨Z_impl_Voice⟩ T_impl_Voice (fun g83 h84 =>
    PIN h68 aE_3 6 h84 <|
    PIN h68 ⟨g66, 0, none⟩ 6 h84 <|
    CALL prg f_impl_VoiceFor #[.agg a69, .agg a73] (fun q85 h86 =>
    TUP2 q85 fun q87 q88 =>
    asA q87 fun a89 =>
    asI .i64 q88 fun n90 =>
    STA 45 h86 ⟨g83, 0, none⟩ a89 fun h91 =>
    laws_FnExactVoiceFor.J8 Post aS_2 aE_3 w0_6 w1_7 ⟨g66, 0, none⟩ ⟨g83, 0, none⟩ n90 h91) h84) h72)) h68) ∧ (ALC ⟨Z_impl_Voice⟩ T_impl_Voice (fun g92 h93 =>
    PIN h68 aE_3 6 h93 <|
    PIN h68 ⟨g66, 0, none⟩ 6 h93 <|
    CALL prg f_laws_toEvent #[.agg a70] (fun q94 h95 =>
    asA q94 fun a96 =>
    PIN h68 ⟨g66, 0, none⟩ 6 h95 <|
    CALL prg f_impl_VoiceFor #[.agg a69, .agg a96] (fun q97 h98 =>
    TUP2 q97 fun q99 q100 =>
    asA q99 fun a101 =>
    asI .i64 q100 fun n102 =>
    STA 45 h98 ⟨g92, 0, none⟩ a101 fun h103 =>
    laws_FnExactVoiceFor.J8 Post aS_2 aE_3 w0_6 w1_7 ⟨g66, 0, none⟩ ⟨g92, 0, none⟩ n102 h103) h95) h93) h68)) h64) h
def laws_FnExactVoiceFor.j6 (Post : Value → Heap → Prop) : Frame → Heap → Prop := fun fr h => GRD (shape (kds 104 [(2, .p), (3, .p), (6, .p), (7, .i .i64)]) fr) (laws_FnExactVoiceFor.J6 Post (gP (lget fr 2)) (gP (lget fr 3)) (gP (lget fr 6)) (gI (lget fr 7)) h)
def laws_FnExactVoiceFor.S (aS_0 : Array Value) (aE_1 : Array Value) (Post : Value → Heap → Prop) (h : Heap) : Prop :=
    ALC aS_0 T_laws_Score (fun g1 h2 =>
    ALC aE_1 T_laws_Event (fun g3 h4 =>
    LDA 6 h4 ⟨g1, 0, none⟩ fun a5 =>
    CALL prg f_laws_szScore #[.agg a5, .int .i64 (1048576 : Int)] (fun q6 h7 =>
    asI .i64 q6 fun n8 =>
    BIF ((decide (n8 < (0 : Int)))) (
    Post (.bool true) h7) (
    LDA 6 h7 ⟨g1, 0, none⟩ fun a9 =>
    LDA 6 h7 ⟨g3, 0, none⟩ fun a10 =>
    (CALL prg f_laws_toScore #[.agg a9] (fun q11 h12 =>
    asA q11 fun a13 =>
    PIN h7 ⟨g3, 0, none⟩ 6 h12 <|
    (CALL prg f_laws_toEvent #[.agg a10] (fun q14 h15 =>
    asA q14 fun a16 =>
    (CALL prg f_spec_VoiceFor #[.agg a13, .agg a16] (fun q17 h18 =>
    TUP2 q17 fun q19 q20 =>
    asA q19 fun a21 =>
    asI .i64 q20 fun n22 =>
    ALC ⟨Z_impl_Voice⟩ T_impl_Voice (fun g23 h24 =>
    PIN h7 ⟨g3, 0, none⟩ 6 h24 <|
    PIN h7 ⟨g1, 0, none⟩ 6 h24 <|
    STA 45 h24 ⟨g23, 0, none⟩ a21 fun h25 =>
    laws_FnExactVoiceFor.J6 Post ⟨g1, 0, none⟩ ⟨g3, 0, none⟩ ⟨g23, 0, none⟩ n22 h25) h18) h15) ∧ (ALC ⟨Z_impl_Voice⟩ T_impl_Voice (fun g26 h27 =>
    PIN h7 ⟨g3, 0, none⟩ 6 h27 <|
    PIN h7 ⟨g1, 0, none⟩ 6 h27 <|
    CALL prg f_spec_VoiceFor #[.agg a13, .agg a16] (fun q28 h29 =>
    TUP2 q28 fun q30 q31 =>
    asA q30 fun a32 =>
    asI .i64 q31 fun n33 =>
    STA 45 h29 ⟨g26, 0, none⟩ a32 fun h34 =>
    laws_FnExactVoiceFor.J6 Post ⟨g1, 0, none⟩ ⟨g3, 0, none⟩ ⟨g26, 0, none⟩ n33 h34) h27) h15)) h12) ∧ (ALC ⟨Z_impl_Voice⟩ T_impl_Voice (fun g35 h36 =>
    PIN h7 ⟨g3, 0, none⟩ 6 h36 <|
    PIN h7 ⟨g1, 0, none⟩ 6 h36 <|
    CALL prg f_laws_toEvent #[.agg a10] (fun q37 h38 =>
    asA q37 fun a39 =>
    CALL prg f_spec_VoiceFor #[.agg a13, .agg a39] (fun q40 h41 =>
    TUP2 q40 fun q42 q43 =>
    asA q42 fun a44 =>
    asI .i64 q43 fun n45 =>
    STA 45 h41 ⟨g35, 0, none⟩ a44 fun h46 =>
    laws_FnExactVoiceFor.J6 Post ⟨g1, 0, none⟩ ⟨g3, 0, none⟩ ⟨g35, 0, none⟩ n45 h46) h38) h36) h12)) h7) ∧ (ALC ⟨Z_impl_Voice⟩ T_impl_Voice (fun g47 h48 =>
    PIN h7 ⟨g3, 0, none⟩ 6 h48 <|
    PIN h7 ⟨g1, 0, none⟩ 6 h48 <|
    CALL prg f_laws_toScore #[.agg a9] (fun q49 h50 =>
    asA q49 fun a51 =>
    PIN h7 ⟨g3, 0, none⟩ 6 h50 <|
    CALL prg f_laws_toEvent #[.agg a10] (fun q52 h53 =>
    asA q52 fun a54 =>
    CALL prg f_spec_VoiceFor #[.agg a51, .agg a54] (fun q55 h56 =>
    TUP2 q55 fun q57 q58 =>
    asA q57 fun a59 =>
    asI .i64 q58 fun n60 =>
    STA 45 h56 ⟨g47, 0, none⟩ a59 fun h61 =>
    laws_FnExactVoiceFor.J6 Post ⟨g1, 0, none⟩ ⟨g3, 0, none⟩ ⟨g47, 0, none⟩ n60 h61) h53) h50) h48) h7))) h4) h2) h
noncomputable def laws_FnExactVoiceFor.code : Code := (Tryz.f5.body).getD .skip
theorem laws_FnExactVoiceFor.call {aS_0 : Array Value} {aE_1 : Array Value} {Post : Value → Heap → Prop} {h : Heap} (H : laws_FnExactVoiceFor.S aS_0 aE_1 Post h) : CALL prg f_laws_FnExactVoiceFor #[.agg aS_0, .agg aE_1] Post h :=
  fn_call tau_ok mixed (c := laws_FnExactVoiceFor.code) (Λ := lookL [(6, laws_FnExactVoiceFor.j6 Post), (8, laws_FnExactVoiceFor.j8 Post), (10, laws_FnExactVoiceFor.j10 Post), (16, laws_FnExactVoiceFor.j16 Post), (25, laws_FnExactVoiceFor.j25 Post), (27, laws_FnExactVoiceFor.j27 Post)]) Tryz.func5 (by kernel_rfl) (by kernel_rfl)
    (Rq.seq (by kernel_rfl) (Rq.free (by kernel_rfl)) (Rq.seq (by kernel_rfl) (Rq.free (by kernel_rfl)) (Rq.seq (by kernel_rfl) (Rq.free (by kernel_rfl)) (Rq.seq (by kernel_rfl) (Rq.free (by kernel_rfl)) (Rq.seqJ (laws_FnExactVoiceFor.j6 Post) (by kernel_rfl) (seg (fun _ _ => by kernel_rfl)) (Rq.free (by kernel_rfl))
(Rq.seq (by kernel_rfl) (Rq.free (by kernel_rfl)) (Rq.seqJ (laws_FnExactVoiceFor.j8 Post) (by kernel_rfl) (seg (fun _ _ => by kernel_rfl)) (Rq.free (by kernel_rfl))
(Rq.seqJ (laws_FnExactVoiceFor.j10 Post) (by kernel_rfl) (seg (fun _ _ => by kernel_rfl)) (Rq.free (by kernel_rfl))
(Rq.seq (by kernel_rfl) (Rq.free (by kernel_rfl)) (Rq.seq (by kernel_rfl) (Rq.free (by kernel_rfl)) (Rq.seq (by kernel_rfl) (Rq.free (by kernel_rfl)) (Rq.seqJ (laws_FnExactVoiceFor.j16 Post) (by kernel_rfl) (seg (fun _ _ => by kernel_rfl)) (Rq.free (by kernel_rfl))
(Rq.seq (by kernel_rfl) (Rq.free (by kernel_rfl)) (Rq.seq (by kernel_rfl) (Rq.free (by kernel_rfl)) (Rq.seq (by kernel_rfl) (Rq.free (by kernel_rfl)) (Rq.seq (by kernel_rfl) (Rq.free (by kernel_rfl)) (Rq.seq (by kernel_rfl) (Rq.free (by kernel_rfl)) (Rq.seq (by kernel_rfl) (Rq.free (by kernel_rfl)) (Rq.seqJ (laws_FnExactVoiceFor.j25 Post) (by kernel_rfl) (seg (fun _ _ => by kernel_rfl)) (Rq.free (by kernel_rfl))
(Rq.seqJ (laws_FnExactVoiceFor.j27 Post) (by kernel_rfl) (seg (fun _ _ => by kernel_rfl)) (Rq.free (by kernel_rfl))
(Rq.free (by kernel_rfl))))))))))))))))))))))
    (Eq.mp (by kernel_rfl) H)

end Go.Sx
