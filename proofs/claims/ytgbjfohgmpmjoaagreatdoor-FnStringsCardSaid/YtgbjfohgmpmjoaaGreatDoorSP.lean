/- What functions of this seat's program compute, told in words (a predicate over heaps for each), and the proofs that the words are no more than the code's own weakest precondition. -/
import Derived.Test.YtgbjfohgmpmjoaaGreatDoorTab
import Derived.Test.YtgbjfohgmpmjoaaGreatDoorLvk
import Derived.Test.YtgbjfohgmpmjoaaGreatDoorLm16
import Derived.Test.YtgbjfohgmpmjoaaGreatDoorLk21
import Derived.Test.YtgbjfohgmpmjoaaGreatDoorTailOf
namespace Go.Sx
open Go.Proofs
set_option linter.unusedVariables false
set_option maxRecDepth 100000

def impl_BlockOfString_c1.S (i_0 : Int) (t1 : Addr) (t2 : Addr) (Post : Value → Heap → Prop) (h : Heap) : Prop :=
    IDX i_0 16 <|
    oF .f32 (cell h ((Addr.add t2 ((Int.toNat i_0) * 1)))) fun r1 =>
    CALL prg f_p_impl_String_step #[.pointer (some t1), .float .f32 r1] (fun q2 h3 =>
    asF .f32 q2 fun r4 =>
    Post (.float .f32 r4) h3) h
noncomputable def impl_BlockOfString_c1.code : Code := (Tryz.f55.body).getD .skip
theorem impl_BlockOfString_c1.call {i_0 : Int} {t1 : Addr} {t2 : Addr} {Post : Value → Heap → Prop} {h : Heap} (H : impl_BlockOfString_c1.S i_0 t1 t2 Post h) : CALL prg f_impl_BlockOfString_c1 #[.int .i64 i_0, .pointer (some t1), .pointer (some t2)] Post h :=
  fn_call tau_ok mixed (c := impl_BlockOfString_c1.code) (Λ := lookL []) Tryz.func55 (by kernel_rfl) (by kernel_rfl)
    (Rq.free (by kernel_rfl))
    (Eq.mp (by kernel_rfl) H)

def impl_BlockOfString.S (x_0 : Array Value) (in_1 : Array Value) (Post : Value → Heap → Prop) (h : Heap) : Prop :=
    ALC x_0 T_impl_String (fun g1 h2 =>
    ALC in_1 T_impl_Block (fun g3 h4 =>
    ALC ⟨Z_impl_String⟩ T_impl_String (fun g5 h6 =>
    ALC ⟨Z_impl_Block⟩ T_impl_Block (fun g7 h8 =>
    LDA 15 h8 ⟨g1, 0, none⟩ fun a9 =>
    CALL prg f_impl_ValidString #[.agg a9] (fun q10 h11 =>
    asB q10 fun b12 =>
    BIF (!b12) (
    STA 15 h11 ⟨g5, 0, none⟩ (⟨[.slice none 0 0, .int .i64 (0 : Int), .int .i64 (0 : Int), .float .f32 0, .float .f32 0, .float .f32 0, .float .f32 0, .float .f32 0, .int .i64 (0 : Int), .float .f32 0, .float .f32 0, .float .f32 0, .float .f32 0, .float .f32 0, .float .f32 0]⟩ : Array Value) fun h13 =>
    STA 16 h13 ⟨g7, 0, none⟩ (⟨[.float .f32 0, .float .f32 0, .float .f32 0, .float .f32 0, .float .f32 0, .float .f32 0, .float .f32 0, .float .f32 0, .float .f32 0, .float .f32 0, .float .f32 0, .float .f32 0, .float .f32 0, .float .f32 0, .float .f32 0, .float .f32 0]⟩ : Array Value) fun h14 =>
    LDA 15 h14 ⟨g5, 0, none⟩ fun a15 =>
    LDA 16 h14 ⟨g7, 0, none⟩ fun a16 =>
    Post (.tuple ⟨[.agg a15, .agg a16, .int .i64 (1 : Int)]⟩) h14) (
    LDA 15 h11 ⟨g1, 0, none⟩ fun a17 =>
    CALL prg f_impl_String_clone #[.agg a17] (fun q18 h19 =>
    asA q18 fun a20 =>
    STA 15 h19 ⟨g1, 0, none⟩ a20 fun h21 =>
    CALL prg f_impl_made #[.func (.func 55) #[] #[.pointer (some ⟨g1, 0, none⟩), .pointer (some ⟨g3, 0, none⟩)]] (fun q22 h23 =>
    asA q22 fun a24 =>
    ALC ⟨Z_impl_Block⟩ T_impl_Block (fun g25 h26 =>
    STA 16 h26 ⟨g25, 0, none⟩ a24 fun h27 =>
    LDA 15 h27 ⟨g1, 0, none⟩ fun a28 =>
    LDA 16 h27 ⟨g25, 0, none⟩ fun a29 =>
    STA 15 h27 ⟨g5, 0, none⟩ a28 fun h30 =>
    PIN h27 ⟨g25, 0, none⟩ 16 h30 <|
    STA 16 h30 ⟨g7, 0, none⟩ a29 fun h31 =>
    LDA 15 h31 ⟨g5, 0, none⟩ fun a32 =>
    LDA 16 h31 ⟨g7, 0, none⟩ fun a33 =>
    Post (.tuple ⟨[.agg a32, .agg a33, .int .i64 (0 : Int)]⟩) h31) h23) h21) h11)) h8) h6) h4) h2) h
noncomputable def impl_BlockOfString.code : Code := (Tryz.f20.body).getD .skip
theorem impl_BlockOfString.call {x_0 : Array Value} {in_1 : Array Value} {Post : Value → Heap → Prop} {h : Heap} (H : impl_BlockOfString.S x_0 in_1 Post h) : CALL prg f_impl_BlockOfString #[.agg x_0, .agg in_1] Post h :=
  fn_call tau_ok mixed (c := impl_BlockOfString.code) (Λ := lookL []) Tryz.func20 (by kernel_rfl) (by kernel_rfl)
    (Rq.free (by kernel_rfl))
    (Eq.mp (by kernel_rfl) H)

def impl_StepString.S (x_0 : Array Value) (in_1 : Nat) (Post : Value → Heap → Prop) (h : Heap) : Prop :=
    ALC x_0 T_impl_String (fun g1 h2 =>
    ALC ⟨Z_impl_String⟩ T_impl_String (fun g3 h4 =>
    LDA 15 h4 ⟨g1, 0, none⟩ fun a5 =>
    CALL prg f_impl_ValidString #[.agg a5] (fun q6 h7 =>
    asB q6 fun b8 =>
    BIF (!b8) (
    STA 15 h7 ⟨g3, 0, none⟩ (⟨[.slice none 0 0, .int .i64 (0 : Int), .int .i64 (0 : Int), .float .f32 0, .float .f32 0, .float .f32 0, .float .f32 0, .float .f32 0, .int .i64 (0 : Int), .float .f32 0, .float .f32 0, .float .f32 0, .float .f32 0, .float .f32 0, .float .f32 0]⟩ : Array Value) fun h9 =>
    LDA 15 h9 ⟨g3, 0, none⟩ fun a10 =>
    Post (.tuple ⟨[.agg a10, .float .f32 0, .int .i64 (1 : Int)]⟩) h9) (
    LDA 15 h7 ⟨g1, 0, none⟩ fun a11 =>
    CALL prg f_impl_String_clone #[.agg a11] (fun q12 h13 =>
    asA q12 fun a14 =>
    STA 15 h13 ⟨g1, 0, none⟩ a14 fun h15 =>
    CALL prg f_p_impl_String_step #[.pointer (some ⟨g1, 0, none⟩), .float .f32 in_1] (fun q16 h17 =>
    asF .f32 q16 fun r18 =>
    LDA 15 h17 ⟨g1, 0, none⟩ fun a19 =>
    STA 15 h17 ⟨g3, 0, none⟩ a19 fun h20 =>
    LDA 15 h20 ⟨g3, 0, none⟩ fun a21 =>
    Post (.tuple ⟨[.agg a21, .float .f32 r18, .int .i64 (0 : Int)]⟩) h20) h15) h7)) h4) h2) h
noncomputable def impl_StepString.code : Code := (Tryz.f21.body).getD .skip
theorem impl_StepString.call {x_0 : Array Value} {in_1 : Nat} {Post : Value → Heap → Prop} {h : Heap} (H : impl_StepString.S x_0 in_1 Post h) : CALL prg f_impl_StepString #[.agg x_0, .float .f32 in_1] Post h :=
  fn_call tau_ok mixed (c := impl_StepString.code) (Λ := lookL []) Tryz.func21 (by kernel_rfl) (by kernel_rfl)
    (Rq.free (by kernel_rfl))
    (Eq.mp (by kernel_rfl) H)

def impl_PlayString.B8 (Post : Value → Heap → Prop) (N8 : (Addr × Addr × Option Addr × Nat × Nat × Int × Int) → Heap → Prop) : Addr × Addr × Option Addr × Nat × Nat × Int × Int → Heap → Prop
  | (x_2, t4, out_7b, out_7l, out_7c, t20, t21), h =>
    BIF (decide (t21 < t20)) (
    CALL prg f_p_impl_String_step #[.pointer (some x_2), .float .f32 0] (fun q21 h22 =>
    asF .f32 q21 fun r23 =>
    ALC ⟨[.float .f32 r23]⟩ T_float32 (fun g24 h25 =>
    SEMV prg (Builtin.append_ #[T_sl_float32, T_sl_float32] T_sl_float32 #[.slice out_7b out_7l out_7c, .slice (some ⟨g24, 0, none⟩) 1 1]) (fun q26 h27 =>
    asL q26 fun l28b l28l l28c =>
    N8 (x_2, t4, l28b, l28l, l28c, t20, ((IntKind.i64.wrap (t21 + (1 : Int))))) h27) h25) h22) h) (
    LDA 15 h x_2 fun a29 =>
    STA 15 h t4 a29 fun h30 =>
    LDA 15 h30 t4 fun a31 =>
    Post (.tuple ⟨[.agg a31, .slice out_7b out_7l out_7c, .int .i64 (0 : Int)]⟩) h30)
def impl_PlayString.g8 (fr : Frame) : Addr × Addr × Option Addr × Nat × Nat × Int × Int := ((gP (lget fr 2)), (gP (lget fr 4)), (gLb (lget fr 7)), (gLl (lget fr 7)), (gLc (lget fr 7)), (gI (lget fr 20)), (gI (lget fr 21)))
def impl_PlayString.l8 (Post : Value → Heap → Prop) : Frame → Heap → Prop := fun fr h => GRD (shape (kds 30 [(2, .p), (4, .p), (7, .l), (20, .i .i64), (21, .i .i64)]) fr) (LOOP (impl_PlayString.B8 Post) (impl_PlayString.g8 fr) h)
def impl_PlayString.S (x_0 : Array Value) (count_1 : Int) (Post : Value → Heap → Prop) (h : Heap) : Prop :=
    ALC x_0 T_impl_String (fun g1 h2 =>
    ALC ⟨Z_impl_String⟩ T_impl_String (fun g3 h4 =>
    LDA 15 h4 ⟨g1, 0, none⟩ fun a5 =>
    CALL prg f_impl_ValidString #[.agg a5] (fun q6 h7 =>
    asB q6 fun b8 =>
    BIF (!b8) (
    STA 15 h7 ⟨g3, 0, none⟩ (⟨[.slice none 0 0, .int .i64 (0 : Int), .int .i64 (0 : Int), .float .f32 0, .float .f32 0, .float .f32 0, .float .f32 0, .float .f32 0, .int .i64 (0 : Int), .float .f32 0, .float .f32 0, .float .f32 0, .float .f32 0, .float .f32 0, .float .f32 0]⟩ : Array Value) fun h9 =>
    LDA 15 h9 ⟨g3, 0, none⟩ fun a10 =>
    Post (.tuple ⟨[.agg a10, .slice none 0 0, .int .i64 (1 : Int)]⟩) h9) (
    CALL prg f_impl_within #[.int .i64 count_1, .int .i64 (0 : Int), .int .i64 (4096 : Int)] (fun q11 h12 =>
    asB q11 fun b13 =>
    BIF (!b13) (
    STA 15 h12 ⟨g3, 0, none⟩ (⟨[.slice none 0 0, .int .i64 (0 : Int), .int .i64 (0 : Int), .float .f32 0, .float .f32 0, .float .f32 0, .float .f32 0, .float .f32 0, .int .i64 (0 : Int), .float .f32 0, .float .f32 0, .float .f32 0, .float .f32 0, .float .f32 0, .float .f32 0]⟩ : Array Value) fun h14 =>
    LDA 15 h14 ⟨g3, 0, none⟩ fun a15 =>
    Post (.tuple ⟨[.agg a15, .slice none 0 0, .int .i64 (2 : Int)]⟩) h14) (
    LDA 15 h12 ⟨g1, 0, none⟩ fun a16 =>
    CALL prg f_impl_String_clone #[.agg a16] (fun q17 h18 =>
    asA q17 fun a19 =>
    STA 15 h18 ⟨g1, 0, none⟩ a19 fun h20 =>
    LOOP (impl_PlayString.B8 Post) (⟨g1, 0, none⟩, ⟨g3, 0, none⟩, none, 0, 0, count_1, (0 : Int)) h20) h12)) h7)) h4) h2) h
noncomputable def impl_PlayString.code : Code := (Tryz.f25.body).getD .skip
theorem impl_PlayString.call {x_0 : Array Value} {count_1 : Int} {Post : Value → Heap → Prop} {h : Heap} (H : impl_PlayString.S x_0 count_1 Post h) : CALL prg f_impl_PlayString #[.agg x_0, .int .i64 count_1] Post h :=
  fn_call tau_ok mixed (c := impl_PlayString.code) (Λ := lookL [(1000008, impl_PlayString.l8 Post)]) Tryz.func25 (by kernel_rfl) (by kernel_rfl)
    (Rq.seq (by kernel_rfl) (Rq.free (by kernel_rfl)) (Rq.seq (by kernel_rfl) (Rq.free (by kernel_rfl)) (Rq.seq (by kernel_rfl) (Rq.free (by kernel_rfl)) (Rq.seq (by kernel_rfl) (Rq.free (by kernel_rfl)) (Rq.seq (by kernel_rfl) (Rq.seq (by kernel_rfl) (Rq.free (by kernel_rfl)) (Rq.block (Rq.loop (impl_PlayString.l8 Post) (by kernel_rfl) (segL (g := impl_PlayString.g8) tau_ok mixed (Λ := fun N8 => lookL []) (fun _ _ _ => by kernel_rfl) (fun N8 => (Rq.free (by kernel_rfl))))))) (Rq.free (by kernel_rfl)))))))
    (Eq.mp (by kernel_rfl) H)

def spec_SameSamples.S (a_0b : Option Addr) (a_0l a_0c : Nat) (b_1b : Option Addr) (b_1l b_1c : Nat) (Post : Value → Heap → Prop) (h : Heap) : Prop :=
    CALL prg f_spec_l02SameList #[.slice a_0b a_0l a_0c, .slice b_1b b_1l b_1c] (fun q1 h2 =>
    asB q1 fun b3 =>
    Post (.bool b3) h2) h
noncomputable def spec_SameSamples.code : Code := (Tryz.f27.body).getD .skip
theorem spec_SameSamples.call {a_0b : Option Addr} {a_0l a_0c : Nat} {b_1b : Option Addr} {b_1l b_1c : Nat} {Post : Value → Heap → Prop} {h : Heap} (H : spec_SameSamples.S a_0b a_0l a_0c b_1b b_1l b_1c Post h) : CALL prg f_spec_SameSamples #[.slice a_0b a_0l a_0c, .slice b_1b b_1l b_1c] Post h :=
  fn_call tau_ok mixed (c := spec_SameSamples.code) (Λ := lookL []) Tryz.func27 (by kernel_rfl) (by kernel_rfl)
    (Rq.free (by kernel_rfl))
    (Eq.mp (by kernel_rfl) H)

def impl_MuteString.S (x_0 : Array Value) (Post : Value → Heap → Prop) (h : Heap) : Prop :=
    ALC x_0 T_impl_String (fun g1 h2 =>
    ALC ⟨Z_impl_String⟩ T_impl_String (fun g3 h4 =>
    LDA 15 h4 ⟨g1, 0, none⟩ fun a5 =>
    CALL prg f_impl_ValidString #[.agg a5] (fun q6 h7 =>
    asB q6 fun b8 =>
    BIF (!b8) (
    STA 15 h7 ⟨g3, 0, none⟩ (⟨[.slice none 0 0, .int .i64 (0 : Int), .int .i64 (0 : Int), .float .f32 0, .float .f32 0, .float .f32 0, .float .f32 0, .float .f32 0, .int .i64 (0 : Int), .float .f32 0, .float .f32 0, .float .f32 0, .float .f32 0, .float .f32 0, .float .f32 0]⟩ : Array Value) fun h9 =>
    LDA 15 h9 ⟨g3, 0, none⟩ fun a10 =>
    Post (.tuple ⟨[.agg a10, .int .i64 (1 : Int)]⟩) h9) (
    CALL prg f_p_impl_Ring_mute #[.pointer (some ⟨g1, 0, none⟩)] (fun q11 h12 =>
    STA 2 h12 ⟨g1, 6, none⟩ (⟨[.float .f32 0, .float .f32 0]⟩ : Array Value) fun h13 =>
    STA 2 h13 ⟨g1, 12, none⟩ (⟨[.float .f32 0, .float .f32 0]⟩ : Array Value) fun h14 =>
    LDA 15 h14 ⟨g1, 0, none⟩ fun a15 =>
    STA 15 h14 ⟨g3, 0, none⟩ a15 fun h16 =>
    LDA 15 h16 ⟨g3, 0, none⟩ fun a17 =>
    Post (.tuple ⟨[.agg a17, .int .i64 (0 : Int)]⟩) h16) h7)) h4) h2) h
noncomputable def impl_MuteString.code : Code := (Tryz.f30.body).getD .skip
theorem impl_MuteString.call {x_0 : Array Value} {Post : Value → Heap → Prop} {h : Heap} (H : impl_MuteString.S x_0 Post h) : CALL prg f_impl_MuteString #[.agg x_0] Post h :=
  fn_call tau_ok mixed (c := impl_MuteString.code) (Λ := lookL []) Tryz.func30 (by kernel_rfl) (by kernel_rfl)
    (Rq.free (by kernel_rfl))
    (Eq.mp (by kernel_rfl) H)

def impl_IsSilentString.S (x_0 : Array Value) (Post : Value → Heap → Prop) (h : Heap) : Prop :=
    ALC x_0 T_impl_String (fun g1 h2 =>
    LDA 15 h2 ⟨g1, 0, none⟩ fun a3 =>
    CALL prg f_impl_ValidString #[.agg a3] (fun q4 h5 =>
    asB q4 fun b6 =>
    BIF (!b6) (
    Post (.tuple ⟨[.bool false, .int .i64 (1 : Int)]⟩) h5) (
    LDA 15 h5 ⟨g1, 0, none⟩ fun a7 =>
    CALL prg f_impl_String_isSilent #[.agg a7] (fun q8 h9 =>
    asB q8 fun b10 =>
    Post (.tuple ⟨[.bool b10, .int .i64 (0 : Int)]⟩) h9) h5)) h2) h
noncomputable def impl_IsSilentString.code : Code := (Tryz.f31.body).getD .skip
theorem impl_IsSilentString.call {x_0 : Array Value} {Post : Value → Heap → Prop} {h : Heap} (H : impl_IsSilentString.S x_0 Post h) : CALL prg f_impl_IsSilentString #[.agg x_0] Post h :=
  fn_call tau_ok mixed (c := impl_IsSilentString.code) (Λ := lookL []) Tryz.func31 (by kernel_rfl) (by kernel_rfl)
    (Rq.free (by kernel_rfl))
    (Eq.mp (by kernel_rfl) H)

def impl_StepsToSilence_c1.S (t0 : Addr) (Post : Value → Heap → Prop) (h : Heap) : Prop :=
    LDA 6 h (Addr.add t0 2) fun a1 =>
    CALL prg f_impl_Filter_isStill #[.agg a1] (fun q2 h3 =>
    asB q2 fun b4 =>
    BIF b4 (
    LDA 6 h3 (Addr.add t0 8) fun a5 =>
    CALL prg f_impl_Filter_isStill #[.agg a5] (fun q6 h7 =>
    asB q6 fun b8 =>
    Post (.bool b8) h7) h3) (
    Post (.bool false) h3)) h
noncomputable def impl_StepsToSilence_c1.code : Code := (Tryz.f74.body).getD .skip
theorem impl_StepsToSilence_c1.call {t0 : Addr} {Post : Value → Heap → Prop} {h : Heap} (H : impl_StepsToSilence_c1.S t0 Post h) : CALL prg f_impl_StepsToSilence_c1 #[.pointer (some t0)] Post h :=
  fn_call tau_ok mixed (c := impl_StepsToSilence_c1.code) (Λ := lookL []) Tryz.func74 (by kernel_rfl) (by kernel_rfl)
    (Rq.free (by kernel_rfl))
    (Eq.mp (by kernel_rfl) H)

def impl_StepsToSilence.S (x_0 : Array Value) (most_1 : Int) (Post : Value → Heap → Prop) (h : Heap) : Prop :=
    ALC x_0 T_impl_String (fun g1 h2 =>
    LDA 15 h2 ⟨g1, 0, none⟩ fun a3 =>
    CALL prg f_impl_ValidString #[.agg a3] (fun q4 h5 =>
    asB q4 fun b6 =>
    BIF (!b6) (
    Post (.tuple ⟨[.int .i64 (0 : Int), .int .i64 (1 : Int)]⟩) h5) (
    CALL prg f_impl_within #[.int .i64 most_1, .int .i64 (0 : Int), .int .i64 (100000 : Int)] (fun q7 h8 =>
    asB q7 fun b9 =>
    BIF (!b9) (
    Post (.tuple ⟨[.int .i64 (0 : Int), .int .i64 (2 : Int)]⟩) h8) (
    LDA 15 h8 ⟨g1, 0, none⟩ fun a10 =>
    CALL prg f_impl_String_clone #[.agg a10] (fun q11 h12 =>
    asA q11 fun a13 =>
    STA 15 h12 ⟨g1, 0, none⟩ a13 fun h14 =>
    ALC ⟨[.pointer (some ⟨g1, 0, none⟩)]⟩ T_p_impl_Ring (fun g15 h16 =>
    CALL prg f_impl_steps #[.int .i64 most_1, .slice (some ⟨g15, 0, none⟩) 1 1, .func (.func 74) #[] #[.pointer (some ⟨g1, 0, none⟩)], .func (.func 76) #[] #[.pointer (some ⟨g1, 0, none⟩)]] (fun q17 h18 =>
    TUP2 q17 fun q19 q20 =>
    asI .i64 q19 fun n21 =>
    asI .i64 q20 fun n22 =>
    Post (.tuple ⟨[.int .i64 n21, .int .i64 n22]⟩) h18) h16) h14) h8)) h5)) h2) h
noncomputable def impl_StepsToSilence.code : Code := (Tryz.f32.body).getD .skip
theorem impl_StepsToSilence.call {x_0 : Array Value} {most_1 : Int} {Post : Value → Heap → Prop} {h : Heap} (H : impl_StepsToSilence.S x_0 most_1 Post h) : CALL prg f_impl_StepsToSilence #[.agg x_0, .int .i64 most_1] Post h :=
  fn_call tau_ok mixed (c := impl_StepsToSilence.code) (Λ := lookL []) Tryz.func32 (by kernel_rfl) (by kernel_rfl)
    (Rq.free (by kernel_rfl))
    (Eq.mp (by kernel_rfl) H)

end Go.Sx
/- Strings played, run over blocks, muted, counted to silence. -/
set_option linter.unusedVariables false
set_option linter.unusedSimpArgs false
namespace Go.Sx
open Go.Proofs
set_option maxRecDepth 100000
set_option maxHeartbeats 2000000

def GString.mute (x : GString) : GString := { x with Loop := x.Loop.mute, Tune := x.Tune.mute, Damp := x.Damp.mute }
section
variable {h0 h : Heap} {L : List Blk} {g : Nat} {x : GString} {b : Option Addr} {l c : Nat} {xs : List Nat} {cs : Array Value} {y a : Nat}
theorem impl_BlockOfString_c {ca : Array Value} (R0 : rString.rd h cs.toList x) (Rb : FA 16 ca xs) (hok : x.ok = true) : CALL prg f_impl_BlockOfString #[.agg cs, .agg ca] (fun u h' => TriB rString h h' u (playG GString.step x xs).1 (playG GString.step x xs).2) h := by
  have hx16 : xs.length = 16 := Rb.1
  have hs := str_small hok
  refine impl_BlockOfString.call ((Mem.start h).alc fun g1 h1 x1 M => M.alc fun g2 h2 x2 M => M.alc fun g3 h2 x2 M => M.alc fun g4 h2 x2 M => M.lda0 (.there (.there (.there .here))) (rsz R0 rfl) ?_)
  refine goM M (ValidString_c (rString.ext M.ext R0)) fun h3 M => as_b ?_
  rw [hok]
  refine br_f rfl (M.lda0 (.there (.there (.there .here))) (rsz R0 rfl) (NewR.go M (String_clone_c (rString.ext M.ext R0) hs) fun h4 c4 B4 M O4 s4 => as_a ?_))
  have M := M.cnt (W := (g1, T_impl_String, cs) :: (B4 ++ [(g4, T_impl_Block, ⟨Z_impl_Block⟩), (g3, T_impl_String, ⟨Z_impl_String⟩), (g2, T_impl_Block, ca)])) (fun p => by simp only [cnt_app, cnt_cons, cnt_nil] at *; omega)
  refine M.sta0 .here s4 (rString.oone O4) (rsz R0 rfl) .here fun h6 M => ?_
  have P : Pt rString h h6 ⟨g1, 0, none⟩ ⟨g1, T_impl_String, [], []⟩ [(g4, T_impl_Block, ⟨Z_impl_Block⟩), (g3, T_impl_String, ⟨Z_impl_String⟩), (g2, T_impl_Block, ca)] (gN GString.step x xs 0) := Pt.new O4 M
  refine (made_c (X := gN GString.step x xs) (f := outN GString.step x xs) P fun n hh W hn P => ?_).mono ?_
  · show CALL prg f_impl_BlockOfString_c1 #[.int .i64 (n : Int), .pointer (some ⟨g1, 0, none⟩), .pointer (some ⟨g2, 0, none⟩)] _ hh
    refine impl_BlockOfString_c1.call (idx (by omega) (by omega) ((Look.skip (.there (.there .here))).oA P.mem Rb (i := n) hn fun w hw => (String_step_c P (str_loop (playS_ok hok (xs.take n))) hw).mono ?_))
    rintro _ h8 ⟨⟨y, rfl, hy⟩, P⟩
    refine as_f ⟨⟨y, rfl, hy⟩, ?_⟩
    rw [gN_step (by omega)]; exact P
  rintro _ h7 ⟨co, rfl, Fo, P⟩
  rw [outN_all hx16] at Fo
  rw [gN_all hx16] at P
  refine as_a ((Mem.start h7).alc fun g5 h8 x8 N => N.sta0 .here Fo.size Fo.one rfl .here fun h9 N => ?_)
  have P := P.join N
  obtain ⟨cs', B, M, O⟩ := P.out
  refine M.lda0 .here (osz O rfl) (M.lda0 (.there (Look.skip .here)) Fo.size ?_)
  have M := M.cnt (W := (g3, T_impl_String, ⟨Z_impl_String⟩) :: (g4, T_impl_Block, ⟨Z_impl_Block⟩) :: (g5, T_impl_Block, co) :: B) (fun p => by simp only [cnt_app, cnt_cons, cnt_nil] at *; omega)
  refine M.sta0 .here (osz O rfl) (rString.oone O) rfl .here fun h3 M2 => M.pin2 (.there (.there .here)) M2 (.there (.there .here)) (M2.sta0 (.there .here) Fo.size Fo.one rfl (.there .here) fun h4 M => ?_)
  refine M.lda0 .here (osz O rfl) (M.lda0 (.there .here) Fo.size ?_)
  exact ⟨_, B, _, rfl, O, Fo, M.drop.drop.drop⟩
theorem impl_StepString_c (R0 : rString.rd h cs.toList x) (hok : x.ok = true) (hy : FW .f32 y a) : CALL prg f_impl_StepString #[.agg cs, .float .f32 y] (fun u h' => ∃ cs' B w, u = .tuple ⟨[.agg cs', .float .f32 w, .int .i64 (0 : Int)]⟩ ∧ rString.ow B cs'.toList (x.step a).1 ∧ FW .f32 w (x.step a).2 ∧ Mem h h' B) h := by
  have hs := str_small hok
  refine impl_StepString.call ((Mem.start h).alc fun g1 h1 x1 M => M.alc fun g3 h2 x2 M => M.lda0 (.there .here) (rsz R0 rfl) ?_)
  refine goM M (ValidString_c (rString.ext M.ext R0)) fun h3 M => as_b ?_
  rw [hok]
  refine br_f rfl (M.lda0 (.there .here) (rsz R0 rfl) (NewR.go M (String_clone_c (rString.ext M.ext R0) hs) fun h4 c4 B4 M O4 s4 => as_a ?_))
  have M := M.cnt (W := (g1, T_impl_String, cs) :: (B4 ++ [(g3, T_impl_String, ⟨Z_impl_String⟩)])) (fun p => by simp only [cnt_app, cnt_cons, cnt_nil] at *; omega)
  refine M.sta0 .here s4 (rString.oone O4) (rsz R0 rfl) .here fun h6 M => ?_
  have P : Pt rString h h6 ⟨g1, 0, none⟩ ⟨g1, T_impl_String, [], []⟩ [(g3, T_impl_String, ⟨Z_impl_String⟩)] x := Pt.new O4 M
  refine (String_step_c P (str_loop hok) hy).mono ?_
  rintro _ h7 ⟨⟨w, rfl, hw⟩, P⟩
  obtain ⟨cs', B, M, O⟩ := P.out
  refine as_f (M.lda0 .here (osz O rfl) ?_)
  have M := M.cnt (W := (g3, T_impl_String, ⟨Z_impl_String⟩) :: B) (fun p => by simp only [cnt_app, cnt_cons, cnt_nil] at *; omega)
  exact M.sta0 .here (osz O rfl) (rString.oone O) rfl .here fun h8 M => M.lda0 .here (osz O rfl) ⟨_, B, w, rfl, O, hw, M.drop⟩
theorem rep_snoc (n : Nat) : List.replicate (n + 1) 0 = List.replicate n 0 ++ [0] := List.replicate_succ' ..
theorem play_snoc {α : Type} (st : α → Nat → α × Nat) (x : α) (l : List Nat) (a : Nat) : playG st x (l ++ [a]) = ((st (playG st x l).1 a).1, (playG st x l).2 ++ [(st (playG st x l).1 a).2]) := by rw [playG_append]; rfl
theorem impl_PlayString_c {k : Nat} (R0 : rString.rd h cs.toList x) (hok : x.ok = true) (hk : k ≤ 4096) : CALL prg f_impl_PlayString #[.agg cs, .int .i64 (k : Int)] (fun u h' => TriG rString h h' u (playG GString.step x (List.replicate k 0)).1 (playG GString.step x (List.replicate k 0)).2 0) h := by
  have hs := str_small hok
  have hm : (4097 : Nat) ≤ maxLen := by decide
  refine impl_PlayString.call ((Mem.start h).alc fun g1 h1 x1 M => M.alc fun g3 h2 x2 M => M.lda0 (.there .here) (rsz R0 rfl) ?_)
  refine goM M (ValidString_c (rString.ext M.ext R0)) fun h3 M => as_b ?_
  rw [hok]
  refine br_f rfl (goM M (within_c _ _ _ _) fun h3 M => as_b ?_)
  have hin : inR (k : Int) 0 4096 = true := by unfold inR; simp only [Bool.and_eq_true, decide_eq_true_eq]; omega
  rw [hin]
  refine br_f rfl (M.lda0 (.there .here) (rsz R0 rfl) (NewR.go M (String_clone_c (rString.ext M.ext R0) hs) fun h4 c4 B4 M O4 s4 => as_a ?_))
  have M := M.cnt (W := (g1, T_impl_String, cs) :: (B4 ++ [(g3, T_impl_String, ⟨Z_impl_String⟩)])) (fun p => by simp only [cnt_app, cnt_cons, cnt_nil] at *; omega)
  refine M.sta0 .here s4 (rString.oone O4) (rsz R0 rfl) .here fun h6 M => ?_
  have P : Pt rString h h6 ⟨g1, 0, none⟩ ⟨g1, T_impl_String, [], []⟩ ([] ++ [(g3, T_impl_String, ⟨Z_impl_String⟩)]) x := Pt.new O4 M
  refine loop (fun y hh => ∃ (n : Nat) (b' : Option Addr) (c' : Nat) (B : List Blk), y = (⟨g1, 0, none⟩, ⟨g3, 0, none⟩, b', n, c', (k : Int), (n : Int)) ∧ n ≤ k ∧ SlO T_float32 (rF .f32) B b' n c' (playG GString.step x (List.replicate n 0)).2 ∧
    Pt rString h hh ⟨g1, 0, none⟩ ⟨g1, T_impl_String, [], []⟩ (B ++ [(g3, T_impl_String, ⟨Z_impl_String⟩)]) (playG GString.step x (List.replicate n 0)).1) (fun y => (k - y.2.2.2.2.2.2).toNat)
    ⟨0, _, _, [], rfl, by omega, SlO.nil, P⟩ ?_
  rintro y hh ⟨n, b', c', B, rfl, hn, O, P⟩
  refine brd (fun hc => ?_) fun hc => ?_
  · refine (String_step_c P (str_loop (playS_ok hok _)) fw0).mono ?_
    rintro _ h8 ⟨⟨y, rfl, hy⟩, P⟩
    refine as_f (Pt.push P E_sl_float32 O ⟨rfl, _, rfl, hy⟩ (by omega) (by omega) fun b2 c2 h9 B2 O2 P2 => as_l ⟨⟨n + 1, b2, c2, B2, by rw [wrap64_succ (by omega)], by omega, ?_, ?_⟩, by rw [wrap64_succ (by omega)]; show _ < _; simp; omega⟩)
    · rw [rep_snoc, play_snoc]; exact O2
    · rw [rep_snoc, play_snoc]; exact P2
  obtain rfl : n = k := by omega
  obtain ⟨cs', BR, M, OR⟩ := P.out
  refine M.lda0 .here (osz OR rfl) ?_
  have M := M.cnt (W := (g3, T_impl_String, ⟨Z_impl_String⟩) :: (BR ++ B)) (fun p => by simp only [cnt_app, cnt_cons, cnt_nil] at *; omega)
  refine M.sta0 .here (osz OR rfl) (rString.oone OR) rfl .here fun h3 M => M.lda0 .here (osz OR rfl) ?_
  exact ⟨_, BR, _, _, _, B, rfl, OR, O, M.drop⟩
theorem SameSamples_c {b1 b2 : Option Addr} {l1 c1 l2 c2 : Nat} {xs ys : List Nat} (S1 : SlR (rF .f32) h b1 l1 c1 xs) (S2 : SlR (rF .f32) h b2 l2 c2 ys) :
    CALL prg f_spec_SameSamples #[.slice b1 l1 c1, .slice b2 l2 c2] (fun u h' => u = .bool (same xs ys) ∧ Ext h h') h :=
  spec_SameSamples.call (goX (l02SameList_c S1 S2) fun h1 x1 => as_b ⟨rfl, x1⟩)
theorem strg_ow {B : List Blk} {v w : V6} (O : SlO T_float32 (rF .f32) B b l c x.Loop.Samples) (h1 : rFilter.ow [] (flT v) x.Tune) (h2 : rFilter.ow [] (flT w) x.Damp) (hy : FW .f32 y x.Loss) : rString.ow B (stL b l c x.Loop.At v w y) x := string_ow O h1 h2 hy
theorem impl_MuteString_c (R0 : rString.rd h cs.toList x) (hok : x.ok = true) : CALL prg f_impl_MuteString #[.agg cs] (fun u h' => PairR rString h h' u x.mute 0) h := by
  have hs := str_small hok
  have R0' := R0
  obtain ⟨b1, l1, c1, v, w, y, rfl, S, O1, O2, hy⟩ := string_cells R0
  have hl1 : x.Loop.Samples.length = l1 := S.len
  refine impl_MuteString.call ((Mem.start h).alc fun g1 h1 x1 M => M.alc fun g3 h2 x2 M => M.lda0 (.there .here) rfl (goM M (ValidString_c (rString.ext M.ext R0')) fun h3 M => as_b ?_))
  rw [hok]
  have M : Mem h h3 ((g1, T_impl_String, ⟨stL b1 l1 c1 x.Loop.At v w y⟩) :: [(g3, T_impl_String, ⟨Z_impl_String⟩)]) := M.cnt fun p => by simp only [cnt_app, cnt_cons, cnt_nil]; omega
  refine br_f rfl (mute_raw M (off := 0) rfl (by omega) fun h4 g4 B4 S4 M => ?_)
  have M : Mem h h4 ((g1, T_impl_String, ⟨stL (some ⟨g4, 0, none⟩) l1 l1 x.Loop.At v w y⟩) :: (B4 ++ [(g3, T_impl_String, ⟨Z_impl_String⟩)])) := M
  refine M.sta .here rfl (all_one rfl) (by show 6 + 2 ≤ 15; decide) .here fun h6 M => ?_
  have M : Mem h h6 ((g1, T_impl_String, ⟨stL (some ⟨g4, 0, none⟩) l1 l1 x.Loop.At (flZ v) w y⟩) :: (B4 ++ [(g3, T_impl_String, ⟨Z_impl_String⟩)])) := M
  refine M.sta .here rfl (all_one rfl) (by show 12 + 2 ≤ 15; decide) .here fun h7 M => ?_
  have M : Mem h h7 ((g1, T_impl_String, ⟨stL (some ⟨g4, 0, none⟩) l1 l1 x.Loop.At (flZ v) (flZ w) y⟩) :: (B4 ++ [(g3, T_impl_String, ⟨Z_impl_String⟩)])) := M
  have OJ := strg_ow (x := x.mute) (B := B4) (l := l1) (c := l1) (by rw [← hl1] at S4 ⊢; exact S4) (filter_mute O1) (filter_mute O2) hy
  refine M.lda0 .here rfl ?_
  have M := M.cnt (W := (g3, T_impl_String, ⟨Z_impl_String⟩) :: B4) fun p => by simp only [cnt_app, cnt_cons, cnt_nil]; omega
  exact M.sta0 .here rfl stL_one rfl .here fun h8 M => M.lda0 .here rfl ⟨_, B4, rfl, OJ, M.drop⟩
theorem impl_IsSilentString_c (R0 : rString.rd h cs.toList x) (hok : x.ok = true) : CALL prg f_impl_IsSilentString #[.agg cs] (fun u h' => u = .tuple ⟨[.bool x.silent, .int .i64 (0 : Int)]⟩ ∧ Ext h h') h := by
  refine impl_IsSilentString.call (alcR R0 fun g h1 x1 R => R.lda1 rfl fun c1 R1 => goX (ValidString_c R1) fun h2 x2 => as_b ?_)
  rw [hok]
  exact br_f rfl ((R.ext x2).lda1 rfl fun c2 R2 => goX (String_isSilent_c R2 (str_loop hok)) fun h3 x3 => as_b ⟨rfl, x1.trans (x2.trans x3)⟩)
end
end Go.Sx
