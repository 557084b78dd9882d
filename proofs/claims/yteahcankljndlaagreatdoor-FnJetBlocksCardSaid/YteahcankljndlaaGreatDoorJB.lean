/- What functions of this seat's program compute, told in words (a predicate over heaps for each), and the proofs that the words are no more than the code's own weakest precondition. -/
import Derived.Test.YteahcankljndlaaGreatDoorTab
import Derived.Test.YteahcankljndlaaGreatDoorLk79
import Derived.Test.YteahcankljndlaaGreatDoorLk21
import Derived.Test.YteahcankljndlaaGreatDoorLm11
namespace Go.Sx
open Go.Proofs
set_option linter.unusedVariables false
set_option maxRecDepth 100000

def spec_l05SameJet.S (x_0 : Addr) (y_1 : Addr) (Post : Value → Heap → Prop) (h : Heap) : Prop :=
    LDA 2 h x_0 fun a1 =>
    LDA 2 h (Addr.add x_0 2) fun a2 =>
    LDA 2 h y_1 fun a3 =>
    LDA 2 h (Addr.add y_1 2) fun a4 =>
    (SIZ (Array.size a1) 2 <|
    SIZ (Array.size a2) 2 <|
    ALC ⟨(splice 2 2 a2 (splice 0 2 a1 [.slice none 0 0, .int .i64 (0 : Int), .slice none 0 0, .int .i64 (0 : Int)]))⟩ T_impl_Ring (fun g5 h6 =>
    PIN h (Addr.add y_1 2) 2 h6 <|
    PIN h y_1 2 h6 <|
    SIZ (Array.size a3) 2 <|
    SIZ (Array.size a4) 2 <|
    ALC ⟨(splice 2 2 a4 (splice 0 2 a3 [.slice none 0 0, .int .i64 (0 : Int), .slice none 0 0, .int .i64 (0 : Int)]))⟩ T_impl_Ring (fun g7 h8 =>
    PIN h (Addr.add x_0 2) 2 h8 <|
    PIN h x_0 2 h8 <|
    CALL prg f_spec_l04SameRings #[.slice (some ⟨g5, 0, none⟩) 2 2, .slice (some ⟨g7, 0, none⟩) 2 2] (fun q9 h10 =>
    asB q9 fun b11 =>
    BIF b11 (
    CALL prg f_spec_l02Same #[.pointer (some (Addr.add x_0 4)), .pointer (some (Addr.add y_1 4))] (fun q12 h13 =>
    asB q12 fun b14 =>
    BIF b14 (
    CALL prg f_spec_l02Same #[.pointer (some (Addr.add x_0 10)), .pointer (some (Addr.add y_1 10))] (fun q15 h16 =>
    asB q15 fun b17 =>
    BIF b17 (
    oF .f32 (cell h16 (Addr.add x_0 16)) fun r18 =>
    oF .f32 (cell h16 (Addr.add y_1 16)) fun r19 =>
    CALL prg f_spec_l01Same #[.float .f32 r18, .float .f32 r19] (fun q20 h21 =>
    asB q20 fun b22 =>
    BIF b22 (
    oF .f32 (cell h21 (Addr.add x_0 17)) fun r23 =>
    oF .f32 (cell h21 (Addr.add y_1 17)) fun r24 =>
    CALL prg f_spec_l01Same #[.float .f32 r23, .float .f32 r24] (fun q25 h26 =>
    asB q25 fun b27 =>
    Post (.bool b27) h26) h21) (
    Post (.bool false) h21)) h16) (
    Post (.bool false) h16)) h13) (
    Post (.bool false) h13)) h10) (
    Post (.bool false) h10)) h8) h6) h) ∧ (SIZ (Array.size a3) 2 <|
    SIZ (Array.size a4) 2 <|
    ALC ⟨(splice 2 2 a4 (splice 0 2 a3 [.slice none 0 0, .int .i64 (0 : Int), .slice none 0 0, .int .i64 (0 : Int)]))⟩ T_impl_Ring (fun g28 h29 =>
    PIN h (Addr.add x_0 2) 2 h29 <|
    PIN h x_0 2 h29 <|
    SIZ (Array.size a1) 2 <|
    SIZ (Array.size a2) 2 <|
    ALC ⟨(splice 2 2 a2 (splice 0 2 a1 [.slice none 0 0, .int .i64 (0 : Int), .slice none 0 0, .int .i64 (0 : Int)]))⟩ T_impl_Ring (fun g30 h31 =>
    PIN h (Addr.add y_1 2) 2 h31 <|
    PIN h y_1 2 h31 <|
    CALL prg f_spec_l04SameRings #[.slice (some ⟨g30, 0, none⟩) 2 2, .slice (some ⟨g28, 0, none⟩) 2 2] (fun q32 h33 =>
    asB q32 fun b34 =>
    BIF b34 (
    CALL prg f_spec_l02Same #[.pointer (some (Addr.add x_0 4)), .pointer (some (Addr.add y_1 4))] (fun q35 h36 =>
    asB q35 fun b37 =>
    BIF b37 (
    CALL prg f_spec_l02Same #[.pointer (some (Addr.add x_0 10)), .pointer (some (Addr.add y_1 10))] (fun q38 h39 =>
    asB q38 fun b40 =>
    BIF b40 (
    oF .f32 (cell h39 (Addr.add x_0 16)) fun r41 =>
    oF .f32 (cell h39 (Addr.add y_1 16)) fun r42 =>
    CALL prg f_spec_l01Same #[.float .f32 r41, .float .f32 r42] (fun q43 h44 =>
    asB q43 fun b45 =>
    BIF b45 (
    oF .f32 (cell h44 (Addr.add x_0 17)) fun r46 =>
    oF .f32 (cell h44 (Addr.add y_1 17)) fun r47 =>
    CALL prg f_spec_l01Same #[.float .f32 r46, .float .f32 r47] (fun q48 h49 =>
    asB q48 fun b50 =>
    Post (.bool b50) h49) h44) (
    Post (.bool false) h44)) h39) (
    Post (.bool false) h39)) h36) (
    Post (.bool false) h36)) h33) (
    Post (.bool false) h33)) h31) h29) h)
noncomputable def spec_l05SameJet.code : Code := (Tryz.f44.body).getD .skip
theorem spec_l05SameJet.call {x_0 : Addr} {y_1 : Addr} {Post : Value → Heap → Prop} {h : Heap} (H : spec_l05SameJet.S x_0 y_1 Post h) : CALL prg f_spec_l05SameJet #[.pointer (some x_0), .pointer (some y_1)] Post h :=
  fn_call tau_ok mixed (c := spec_l05SameJet.code) (Λ := lookL []) Tryz.func44 (by kernel_rfl) (by kernel_rfl)
    (Rq.free (by kernel_rfl))
    (Eq.mp (by kernel_rfl) H)

def spec_SameJet.S (x_0 : Array Value) (y_1 : Array Value) (Post : Value → Heap → Prop) (h : Heap) : Prop :=
    ALC x_0 T_impl_Jet (fun g1 h2 =>
    ALC y_1 T_impl_Jet (fun g3 h4 =>
    CALL prg f_spec_l05SameJet #[.pointer (some ⟨g1, 0, none⟩), .pointer (some ⟨g3, 0, none⟩)] (fun q5 h6 =>
    asB q5 fun b7 =>
    Post (.bool b7) h6) h4) h2) h
noncomputable def spec_SameJet.code : Code := (Tryz.f12.body).getD .skip
theorem spec_SameJet.call {x_0 : Array Value} {y_1 : Array Value} {Post : Value → Heap → Prop} {h : Heap} (H : spec_SameJet.S x_0 y_1 Post h) : CALL prg f_spec_SameJet #[.agg x_0, .agg y_1] Post h :=
  fn_call tau_ok mixed (c := spec_SameJet.code) (Λ := lookL []) Tryz.func12 (by kernel_rfl) (by kernel_rfl)
    (Rq.free (by kernel_rfl))
    (Eq.mp (by kernel_rfl) H)

def impl_SameJet.S (x_0 : Array Value) (y_1 : Array Value) (Post : Value → Heap → Prop) (h : Heap) : Prop :=
    ALC x_0 T_impl_Jet (fun g1 h2 =>
    ALC y_1 T_impl_Jet (fun g3 h4 =>
    LDA 2 h4 ⟨g1, 0, none⟩ fun a5 =>
    LDA 2 h4 ⟨g3, 0, none⟩ fun a6 =>
    CALL prg f_impl_SameRing #[.agg a5, .agg a6] (fun q7 h8 =>
    asB q7 fun b9 =>
    BIF b9 (
    LDA 2 h8 ⟨g1, 2, none⟩ fun a10 =>
    LDA 2 h8 ⟨g3, 2, none⟩ fun a11 =>
    CALL prg f_impl_SameRing #[.agg a10, .agg a11] (fun q12 h13 =>
    asB q12 fun b14 =>
    BIF b14 (
    LDA 6 h13 ⟨g1, 4, none⟩ fun a15 =>
    LDA 6 h13 ⟨g3, 4, none⟩ fun a16 =>
    CALL prg f_impl_SameFilter #[.agg a15, .agg a16] (fun q17 h18 =>
    asB q17 fun b19 =>
    BIF b19 (
    LDA 6 h18 ⟨g1, 10, none⟩ fun a20 =>
    LDA 6 h18 ⟨g3, 10, none⟩ fun a21 =>
    CALL prg f_impl_SameFilter #[.agg a20, .agg a21] (fun q22 h23 =>
    asB q22 fun b24 =>
    BIF b24 (
    oF .f32 (cell h23 ⟨g1, 16, none⟩) fun r25 =>
    oF .f32 (cell h23 ⟨g3, 16, none⟩) fun r26 =>
    CALL prg f_impl_SameSample #[.float .f32 r25, .float .f32 r26] (fun q27 h28 =>
    asB q27 fun b29 =>
    BIF b29 (
    oF .f32 (cell h28 ⟨g1, 17, none⟩) fun r30 =>
    oF .f32 (cell h28 ⟨g3, 17, none⟩) fun r31 =>
    CALL prg f_impl_SameSample #[.float .f32 r30, .float .f32 r31] (fun q32 h33 =>
    asB q32 fun b34 =>
    Post (.bool b34) h33) h28) (
    Post (.bool false) h28)) h23) (
    Post (.bool false) h23)) h18) (
    Post (.bool false) h18)) h13) (
    Post (.bool false) h13)) h8) (
    Post (.bool false) h8)) h4) h2) h
noncomputable def impl_SameJet.code : Code := (Tryz.f20.body).getD .skip
theorem impl_SameJet.call {x_0 : Array Value} {y_1 : Array Value} {Post : Value → Heap → Prop} {h : Heap} (H : impl_SameJet.S x_0 y_1 Post h) : CALL prg f_impl_SameJet #[.agg x_0, .agg y_1] Post h :=
  fn_call tau_ok mixed (c := impl_SameJet.code) (Λ := lookL []) Tryz.func20 (by kernel_rfl) (by kernel_rfl)
    (Rq.free (by kernel_rfl))
    (Eq.mp (by kernel_rfl) H)

def spec_PlayJet.B8 (Post : Value → Heap → Prop) (N8 : (Option Addr × Nat × Nat × Addr × Addr × Option Addr × Nat × Nat × Int) → Heap → Prop) : Option Addr × Nat × Nat × Addr × Addr × Option Addr × Nat × Nat × Int → Heap → Prop
  | (breath_1b, breath_1l, breath_1c, t4, y_7, out_8b, out_8l, out_8c, i_9), h =>
    BIF ((decide (i_9 < (breath_1l : Int)))) (
    IDXS breath_1b i_9 breath_1l fun p28 =>
    oF .f32 (cell h ((Addr.add p28 ((Int.toNat i_9) * 1)))) fun r29 =>
    CALL prg f_spec_l05StepJet #[.pointer (some y_7), .float .f32 r29] (fun q30 h31 =>
    asF .f32 q30 fun r32 =>
    ALC ⟨[.float .f32 r32]⟩ T_float32 (fun g33 h34 =>
    SEMV prg (Builtin.append_ #[T_sl_float32, T_sl_float32] T_sl_float32 #[.slice out_8b out_8l out_8c, .slice (some ⟨g33, 0, none⟩) 1 1]) (fun q35 h36 =>
    asL q35 fun l37b l37l l37c =>
    N8 (breath_1b, breath_1l, breath_1c, t4, y_7, l37b, l37l, l37c, ((IntKind.i64.wrap (i_9 + (1 : Int))))) h36) h34) h31) h) (
    LDA 18 h y_7 fun a38 =>
    STA 18 h t4 a38 fun h39 =>
    LDA 18 h39 t4 fun a40 =>
    Post (.tuple ⟨[.agg a40, .slice out_8b out_8l out_8c, .int .i64 (0 : Int)]⟩) h39)
def spec_PlayJet.g8 (fr : Frame) : Option Addr × Nat × Nat × Addr × Addr × Option Addr × Nat × Nat × Int := ((gLb (lget fr 1)), (gLl (lget fr 1)), (gLc (lget fr 1)), (gP (lget fr 4)), (gP (lget fr 7)), (gLb (lget fr 8)), (gLl (lget fr 8)), (gLc (lget fr 8)), (gI (lget fr 9)))
def spec_PlayJet.l8 (Post : Value → Heap → Prop) : Frame → Heap → Prop := fun fr h => GRD (shape (kds 37 [(1, .l), (4, .p), (7, .p), (8, .l), (9, .i .i64)]) fr) (LOOP (spec_PlayJet.B8 Post) (spec_PlayJet.g8 fr) h)
def spec_PlayJet.S (x_0 : Array Value) (breath_1b : Option Addr) (breath_1l breath_1c : Nat) (Post : Value → Heap → Prop) (h : Heap) : Prop :=
    ALC x_0 T_impl_Jet (fun g1 h2 =>
    ALC ⟨Z_impl_Jet⟩ T_impl_Jet (fun g3 h4 =>
    CALL prg f_spec_l05Jet #[.pointer (some ⟨g1, 0, none⟩)] (fun q5 h6 =>
    asB q5 fun b7 =>
    BIF (!b7) (
    ALC ⟨[]⟩ T_float32 (fun g8 h9 =>
    STA 18 h9 ⟨g3, 0, none⟩ (⟨[.slice none 0 0, .int .i64 (0 : Int), .slice none 0 0, .int .i64 (0 : Int), .int .i64 (0 : Int), .float .f32 0, .float .f32 0, .float .f32 0, .float .f32 0, .float .f32 0, .int .i64 (0 : Int), .float .f32 0, .float .f32 0, .float .f32 0, .float .f32 0, .float .f32 0, .float .f32 0, .float .f32 0]⟩ : Array Value) fun h10 =>
    LDA 18 h10 ⟨g3, 0, none⟩ fun a11 =>
    Post (.tuple ⟨[.agg a11, .slice (some ⟨g8, 0, none⟩) 0 0, .int .i64 (1 : Int)]⟩) h10) h6) (
    BIF ((decide ((4096 : Int) < (breath_1l : Int)))) (
    ALC ⟨[]⟩ T_float32 (fun g14 h15 =>
    STA 18 h15 ⟨g3, 0, none⟩ (⟨[.slice none 0 0, .int .i64 (0 : Int), .slice none 0 0, .int .i64 (0 : Int), .int .i64 (0 : Int), .float .f32 0, .float .f32 0, .float .f32 0, .float .f32 0, .float .f32 0, .int .i64 (0 : Int), .float .f32 0, .float .f32 0, .float .f32 0, .float .f32 0, .float .f32 0, .float .f32 0, .float .f32 0]⟩ : Array Value) fun h16 =>
    LDA 18 h16 ⟨g3, 0, none⟩ fun a17 =>
    Post (.tuple ⟨[.agg a17, .slice (some ⟨g14, 0, none⟩) 0 0, .int .i64 (3 : Int)]⟩) h16) h6) (
    CALL prg f_spec_l05CopyJet #[.pointer (some ⟨g1, 0, none⟩)] (fun q18 h19 =>
    asA q18 fun a20 =>
    ALC ⟨Z_impl_Jet⟩ T_impl_Jet (fun g21 h22 =>
    STA 18 h22 ⟨g21, 0, none⟩ a20 fun h23 =>
    ALC ⟨[]⟩ T_float32 (fun g24 h25 =>
    LOOP (spec_PlayJet.B8 Post) (breath_1b, breath_1l, breath_1c, ⟨g3, 0, none⟩, ⟨g21, 0, none⟩, (some ⟨g24, 0, none⟩), 0, 0, (0 : Int)) h25) h23) h19) h6))) h4) h2) h
noncomputable def spec_PlayJet.code : Code := (Tryz.f9.body).getD .skip
theorem spec_PlayJet.call {x_0 : Array Value} {breath_1b : Option Addr} {breath_1l breath_1c : Nat} {Post : Value → Heap → Prop} {h : Heap} (H : spec_PlayJet.S x_0 breath_1b breath_1l breath_1c Post h) : CALL prg f_spec_PlayJet #[.agg x_0, .slice breath_1b breath_1l breath_1c] Post h :=
  fn_call tau_ok mixed (c := spec_PlayJet.code) (Λ := lookL [(1000008, spec_PlayJet.l8 Post)]) Tryz.func9 (by kernel_rfl) (by kernel_rfl)
    (Rq.seq (by kernel_rfl) (Rq.free (by kernel_rfl)) (Rq.seq (by kernel_rfl) (Rq.free (by kernel_rfl)) (Rq.seq (by kernel_rfl) (Rq.free (by kernel_rfl)) (Rq.seq (by kernel_rfl) (Rq.free (by kernel_rfl)) (Rq.seq (by kernel_rfl) (Rq.free (by kernel_rfl)) (Rq.seq (by kernel_rfl) (Rq.seq (by kernel_rfl) (Rq.free (by kernel_rfl)) (Rq.block (Rq.loop (spec_PlayJet.l8 Post) (by kernel_rfl) (segL (g := spec_PlayJet.g8) tau_ok mixed (Λ := fun N8 => lookL []) (fun _ _ _ => by kernel_rfl) (fun N8 => (Rq.free (by kernel_rfl))))))) (Rq.free (by kernel_rfl))))))))
    (Eq.mp (by kernel_rfl) H)

def impl_BlockOfJet_c1.S (i_0 : Int) (t1 : Addr) (t2 : Addr) (Post : Value → Heap → Prop) (h : Heap) : Prop :=
    IDX i_0 16 <|
    oF .f32 (cell h ((Addr.add t2 ((Int.toNat i_0) * 1)))) fun r1 =>
    CALL prg f_p_impl_Jet_step #[.pointer (some t1), .float .f32 r1] (fun q2 h3 =>
    asF .f32 q2 fun r4 =>
    Post (.float .f32 r4) h3) h
noncomputable def impl_BlockOfJet_c1.code : Code := (Tryz.f43.body).getD .skip
theorem impl_BlockOfJet_c1.call {i_0 : Int} {t1 : Addr} {t2 : Addr} {Post : Value → Heap → Prop} {h : Heap} (H : impl_BlockOfJet_c1.S i_0 t1 t2 Post h) : CALL prg f_impl_BlockOfJet_c1 #[.int .i64 i_0, .pointer (some t1), .pointer (some t2)] Post h :=
  fn_call tau_ok mixed (c := impl_BlockOfJet_c1.code) (Λ := lookL []) Tryz.func43 (by kernel_rfl) (by kernel_rfl)
    (Rq.free (by kernel_rfl))
    (Eq.mp (by kernel_rfl) H)

def impl_BlockOfJet.S (x_0 : Array Value) (breath_1 : Array Value) (Post : Value → Heap → Prop) (h : Heap) : Prop :=
    ALC x_0 T_impl_Jet (fun g1 h2 =>
    ALC breath_1 T_impl_Block (fun g3 h4 =>
    ALC ⟨Z_impl_Jet⟩ T_impl_Jet (fun g5 h6 =>
    ALC ⟨Z_impl_Block⟩ T_impl_Block (fun g7 h8 =>
    LDA 18 h8 ⟨g1, 0, none⟩ fun a9 =>
    CALL prg f_impl_ValidJet #[.agg a9] (fun q10 h11 =>
    asB q10 fun b12 =>
    BIF (!b12) (
    STA 18 h11 ⟨g5, 0, none⟩ (⟨[.slice none 0 0, .int .i64 (0 : Int), .slice none 0 0, .int .i64 (0 : Int), .int .i64 (0 : Int), .float .f32 0, .float .f32 0, .float .f32 0, .float .f32 0, .float .f32 0, .int .i64 (0 : Int), .float .f32 0, .float .f32 0, .float .f32 0, .float .f32 0, .float .f32 0, .float .f32 0, .float .f32 0]⟩ : Array Value) fun h13 =>
    STA 16 h13 ⟨g7, 0, none⟩ (⟨[.float .f32 0, .float .f32 0, .float .f32 0, .float .f32 0, .float .f32 0, .float .f32 0, .float .f32 0, .float .f32 0, .float .f32 0, .float .f32 0, .float .f32 0, .float .f32 0, .float .f32 0, .float .f32 0, .float .f32 0, .float .f32 0]⟩ : Array Value) fun h14 =>
    LDA 18 h14 ⟨g5, 0, none⟩ fun a15 =>
    LDA 16 h14 ⟨g7, 0, none⟩ fun a16 =>
    Post (.tuple ⟨[.agg a15, .agg a16, .int .i64 (1 : Int)]⟩) h14) (
    LDA 18 h11 ⟨g1, 0, none⟩ fun a17 =>
    CALL prg f_impl_Jet_clone #[.agg a17] (fun q18 h19 =>
    asA q18 fun a20 =>
    STA 18 h19 ⟨g1, 0, none⟩ a20 fun h21 =>
    CALL prg f_impl_made #[.func (.func 43) #[] #[.pointer (some ⟨g1, 0, none⟩), .pointer (some ⟨g3, 0, none⟩)]] (fun q22 h23 =>
    asA q22 fun a24 =>
    ALC ⟨Z_impl_Block⟩ T_impl_Block (fun g25 h26 =>
    STA 16 h26 ⟨g25, 0, none⟩ a24 fun h27 =>
    LDA 18 h27 ⟨g1, 0, none⟩ fun a28 =>
    LDA 16 h27 ⟨g25, 0, none⟩ fun a29 =>
    STA 18 h27 ⟨g5, 0, none⟩ a28 fun h30 =>
    PIN h27 ⟨g25, 0, none⟩ 16 h30 <|
    STA 16 h30 ⟨g7, 0, none⟩ a29 fun h31 =>
    LDA 18 h31 ⟨g5, 0, none⟩ fun a32 =>
    LDA 16 h31 ⟨g7, 0, none⟩ fun a33 =>
    Post (.tuple ⟨[.agg a32, .agg a33, .int .i64 (0 : Int)]⟩) h31) h23) h21) h11)) h8) h6) h4) h2) h
noncomputable def impl_BlockOfJet.code : Code := (Tryz.f11.body).getD .skip
theorem impl_BlockOfJet.call {x_0 : Array Value} {breath_1 : Array Value} {Post : Value → Heap → Prop} {h : Heap} (H : impl_BlockOfJet.S x_0 breath_1 Post h) : CALL prg f_impl_BlockOfJet #[.agg x_0, .agg breath_1] Post h :=
  fn_call tau_ok mixed (c := impl_BlockOfJet.code) (Λ := lookL []) Tryz.func11 (by kernel_rfl) (by kernel_rfl)
    (Rq.free (by kernel_rfl))
    (Eq.mp (by kernel_rfl) H)

def impl_MuteJet.S (x_0 : Array Value) (Post : Value → Heap → Prop) (h : Heap) : Prop :=
    ALC x_0 T_impl_Jet (fun g1 h2 =>
    ALC ⟨Z_impl_Jet⟩ T_impl_Jet (fun g3 h4 =>
    LDA 18 h4 ⟨g1, 0, none⟩ fun a5 =>
    CALL prg f_impl_ValidJet #[.agg a5] (fun q6 h7 =>
    asB q6 fun b8 =>
    BIF (!b8) (
    STA 18 h7 ⟨g3, 0, none⟩ (⟨[.slice none 0 0, .int .i64 (0 : Int), .slice none 0 0, .int .i64 (0 : Int), .int .i64 (0 : Int), .float .f32 0, .float .f32 0, .float .f32 0, .float .f32 0, .float .f32 0, .int .i64 (0 : Int), .float .f32 0, .float .f32 0, .float .f32 0, .float .f32 0, .float .f32 0, .float .f32 0, .float .f32 0]⟩ : Array Value) fun h9 =>
    LDA 18 h9 ⟨g3, 0, none⟩ fun a10 =>
    Post (.tuple ⟨[.agg a10, .int .i64 (1 : Int)]⟩) h9) (
    CALL prg f_p_impl_Ring_mute #[.pointer (some ⟨g1, 0, none⟩)] (fun q11 h12 =>
    CALL prg f_p_impl_Ring_mute #[.pointer (some ⟨g1, 2, none⟩)] (fun q13 h14 =>
    STA 2 h14 ⟨g1, 8, none⟩ (⟨[.float .f32 0, .float .f32 0]⟩ : Array Value) fun h15 =>
    STA 2 h15 ⟨g1, 14, none⟩ (⟨[.float .f32 0, .float .f32 0]⟩ : Array Value) fun h16 =>
    LDA 18 h16 ⟨g1, 0, none⟩ fun a17 =>
    STA 18 h16 ⟨g3, 0, none⟩ a17 fun h18 =>
    LDA 18 h18 ⟨g3, 0, none⟩ fun a19 =>
    Post (.tuple ⟨[.agg a19, .int .i64 (0 : Int)]⟩) h18) h12) h7)) h4) h2) h
noncomputable def impl_MuteJet.code : Code := (Tryz.f16.body).getD .skip
theorem impl_MuteJet.call {x_0 : Array Value} {Post : Value → Heap → Prop} {h : Heap} (H : impl_MuteJet.S x_0 Post h) : CALL prg f_impl_MuteJet #[.agg x_0] Post h :=
  fn_call tau_ok mixed (c := impl_MuteJet.code) (Λ := lookL []) Tryz.func16 (by kernel_rfl) (by kernel_rfl)
    (Rq.free (by kernel_rfl))
    (Eq.mp (by kernel_rfl) H)

end Go.Sx
/- Jets compared. -/
set_option linter.unusedVariables false
set_option linter.unusedSimpArgs false
namespace Go.Sx
open Go.Proofs
set_option maxRecDepth 100000
set_option maxHeartbeats 1000000

theorem same_Jet (x y : GJet) : same x y = (same x.Throat y.Throat && same x.Bore y.Bore && same x.Low y.Low && same x.Dc y.Dc && (x.Near == y.Near) && (x.Far == y.Far)) := by
  rw [Bool.eq_iff_iff]
  simp only [same_iff, Bool.and_eq_true, beq_iff_eq]
  cases x; cases y; simp [and_assoc]
section
variable {h : Heap}
theorem l05SameJet_c {p q : Addr} {x y : GJet} (A0 : RdP rJet h p x) (B0 : RdP rJet h q y) : CALL prg f_spec_l05SameJet #[.pointer (some p), .pointer (some q)] (fun u h' => u = .bool (same x y) ∧ Ext h h') h := by
  have X0 := Ext.refl h
  have E0 := Ext.refl h
  have A : ∀ {hh : Heap}, Ext h hh → RdP rJet hh p x := fun e => A0.ext e
  have B : ∀ {hh : Heap}, Ext h hh → RdP rJet hh q y := fun e => B0.ext e
  refine spec_l05SameJet.call ((A0.fst foc_Jet_Throat).lda1 rfl fun c1 R1 => A0.lda foc_Jet_Bore rfl fun c2 R2 => (B0.fst foc_Jet_Throat).lda1 rfl fun c3 R3 => B0.lda foc_Jet_Bore rfl fun c4 R4 => ?_)
  have s1 : c1.size = 2 := rsz R1 rfl
  have s2 : c2.size = 2 := rsz R2 rfl
  have s3 : c3.size = 2 := rsz R3 rfl
  have s4 : c4.size = 2 := rsz R4 rfl
  refine ⟨siz s1 (siz s2 (rings2 R1 R2 fun g5 h6 x6 S5 => B0.pinO (off := 2) (by decide) x6 (B0.pin0 (by decide) x6 (siz s3 (siz s4 (rings2 (rRing.ext x6 R3) (rRing.ext x6 R4) fun g7 h8 x8 S7 => A0.pinO (off := 2) (by decide) (x6.trans x8) (A0.pin0 (by decide) (x6.trans x8) ?_))))))),
    siz s3 (siz s4 (rings2 R3 R4 fun g5 h6 x6 S5 => A0.pinO (off := 2) (by decide) x6 (A0.pin0 (by decide) x6 (siz s1 (siz s2 (rings2 (rRing.ext x6 R1) (rRing.ext x6 R2) fun g7 h8 x8 S7 => B0.pinO (off := 2) (by decide) (x6.trans x8) (B0.pin0 (by decide) (x6.trans x8) ?_)))))))⟩
  all_goals
    replace S5 := S5.ext x8
    have E8 := x6.trans x8
    clear x6 x8
    (repeat' (first
      | exact (Bool.false_ne_true hb).elim
      | refine as_b ?_
      | refine pin_same ?_
      | refine RdP.lda (A (by assumption)) foc_Jet_Low rfl fun _ _ => ?_
      | refine RdP.lda (A (by assumption)) foc_Jet_Dc rfl fun _ _ => ?_
      | refine RdP.oF (A (by assumption)) fun _ _ => ?_
      | refine RdP.lda (B (by assumption)) foc_Jet_Low rfl fun _ _ => ?_
      | refine RdP.lda (B (by assumption)) foc_Jet_Dc rfl fun _ _ => ?_
      | refine RdP.oF (B (by assumption)) fun _ _ => ?_
      | refine goE (by assumption) (l01Same_c (by assumption) (by assumption) _) fun _ _ => ?_
      | refine goE (by assumption) (l04SameRings2_c (by assumption) (by assumption)) fun _ _ => ?_
      | refine goE (by assumption) (l02Same_c ((A (by assumption)).foc foc_Jet_Low) ((B (by assumption)).foc foc_Jet_Low)) fun _ _ => ?_
      | refine goE (by assumption) (l02Same_c ((A (by assumption)).foc foc_Jet_Dc) ((B (by assumption)).foc foc_Jet_Dc)) fun _ _ => ?_
      | refine brN (fun hb => ?_) (fun hb => ?_)
      | refine br (fun hb => ?_) (fun hb => ?_)
      | exact ⟨by rw [same_Jet]; simp [*], X0.trans (by assumption)⟩))
theorem spec_SameJet_c {ca cb : Array Value} {x y : GJet} (Ra : rJet.rd h ca.toList x) (Rb : rJet.rd h cb.toList y) : CALL prg f_spec_SameJet #[.agg ca, .agg cb] (fun u h' => u = .bool (same x y) ∧ Ext h h') h := by
  refine spec_SameJet.call (alcR Ra fun g1 h1 x1 A => alcR (rJet.ext x1 Rb) fun g2 h2 x2 B => (l05SameJet_c (A.ext x2) B).mono ?_)
  rintro _ h3 ⟨rfl, x3⟩
  exact as_b ⟨rfl, x1.trans (x2.trans x3)⟩
theorem SameJet_c {ca cb : Array Value} {x y : GJet} (Ra : rJet.rd h ca.toList x) (Rb : rJet.rd h cb.toList y) : CALL prg f_impl_SameJet #[.agg ca, .agg cb] (fun u h' => u = .bool (same x y) ∧ Ext h h') h := by
  refine impl_SameJet.call (alcR Ra fun g1 h1 x1 A => alcR (rJet.ext x1 Rb) fun g2 h2 x2 B0 => ?_)
  have A0 := A.ext x2
  have X0 := x1.trans x2
  have E0 := Ext.refl h2
  have A : ∀ {hh : Heap}, Ext h2 hh → RdP rJet hh ⟨g1, 0, none⟩ x := fun e => A0.ext e
  have B : ∀ {hh : Heap}, Ext h2 hh → RdP rJet hh ⟨g2, 0, none⟩ y := fun e => B0.ext e
  (repeat' (first
    | exact (Bool.false_ne_true hb).elim
    | refine as_b ?_
    | refine pin_same ?_
    | refine RdP.lda2 (A (by assumption)) foc_Jet_Throat rfl fun _ _ => ?_
    | refine RdP.lda2 (A (by assumption)) foc_Jet_Bore rfl fun _ _ => ?_
    | refine RdP.lda2 (A (by assumption)) foc_Jet_Low rfl fun _ _ => ?_
    | refine RdP.lda2 (A (by assumption)) foc_Jet_Dc rfl fun _ _ => ?_
    | refine RdP.oF2 (A (by assumption)) fun _ _ => ?_
    | refine RdP.lda2 (B (by assumption)) foc_Jet_Throat rfl fun _ _ => ?_
    | refine RdP.lda2 (B (by assumption)) foc_Jet_Bore rfl fun _ _ => ?_
    | refine RdP.lda2 (B (by assumption)) foc_Jet_Low rfl fun _ _ => ?_
    | refine RdP.lda2 (B (by assumption)) foc_Jet_Dc rfl fun _ _ => ?_
    | refine RdP.oF2 (B (by assumption)) fun _ _ => ?_
    | refine RdP.lda1 ((A (by assumption)).fst foc_Jet_Throat) rfl fun _ _ => ?_
    | refine RdP.lda1 ((B (by assumption)).fst foc_Jet_Throat) rfl fun _ _ => ?_
    | refine goE (by assumption) (SameSample_c (by assumption) (by assumption) _) fun _ _ => ?_
    | refine goE (by assumption) (SameRing_c (by assumption) (by assumption)) fun _ _ => ?_
    | refine goE (by assumption) (SameFilter_c (by assumption) (by assumption)) fun _ _ => ?_
    | refine brN (fun hb => ?_) (fun hb => ?_)
    | refine br (fun hb => ?_) (fun hb => ?_)
    | exact ⟨by rw [same_Jet]; simp [*], X0.trans (by assumption)⟩))
end
end Go.Sx
/- What functions of this seat's program compute, told in words (a predicate over heaps for each), and the proofs that the words are no more than the code's own weakest precondition. -/
namespace Go.Sx
open Go.Proofs
set_option linter.unusedVariables false
set_option maxRecDepth 100000

def spec_P6Plains.B4 (Post : Value → Heap → Prop) (N4 : (Int × Addr × Option Addr × Nat × Nat × Int) → Heap → Prop) : Int × Addr × Option Addr × Nat × Nat × Int → Heap → Prop
  | (count_1, s_5, out_6b, out_6l, out_6c, i_7), h =>
    BIF (decide (i_7 < count_1)) (
    CALL prg f_spec_l01Plain #[.pointer (some s_5)] (fun q6 h7 =>
    asF .f32 q6 fun r8 =>
    ALC ⟨[.float .f32 r8]⟩ T_float32 (fun g9 h10 =>
    SEMV prg (Builtin.append_ #[T_sl_float32, T_sl_float32] T_sl_float32 #[.slice out_6b out_6l out_6c, .slice (some ⟨g9, 0, none⟩) 1 1]) (fun q11 h12 =>
    asL q11 fun l13b l13l l13c =>
    N4 (count_1, s_5, l13b, l13l, l13c, ((IntKind.i64.wrap (i_7 + (1 : Int))))) h12) h10) h7) h) (
    Post (.slice out_6b out_6l out_6c) h)
def spec_P6Plains.g4 (fr : Frame) : Int × Addr × Option Addr × Nat × Nat × Int := ((gI (lget fr 1)), (gP (lget fr 5)), (gLb (lget fr 6)), (gLl (lget fr 6)), (gLc (lget fr 6)), (gI (lget fr 7)))
def spec_P6Plains.l4 (Post : Value → Heap → Prop) : Frame → Heap → Prop := fun fr h => GRD (shape (kds 22 [(1, .i .i64), (5, .p), (6, .l), (7, .i .i64)]) fr) (LOOP (spec_P6Plains.B4 Post) (spec_P6Plains.g4 fr) h)
def spec_P6Plains.S (code_0b : Option Addr) (code_0l code_0c : Nat) (count_1 : Int) (Post : Value → Heap → Prop) (h : Heap) : Prop :=
    CALL prg f_spec_l00From #[.slice code_0b code_0l code_0c] (fun q1 h2 =>
    asP q1 fun p3 =>
    ALC ⟨[]⟩ T_float32 (fun g4 h5 =>
    LOOP (spec_P6Plains.B4 Post) (count_1, p3, (some ⟨g4, 0, none⟩), 0, 0, (0 : Int)) h5) h2) h
noncomputable def spec_P6Plains.code : Code := (Tryz.f7.body).getD .skip
theorem spec_P6Plains.call {code_0b : Option Addr} {code_0l code_0c : Nat} {count_1 : Int} {Post : Value → Heap → Prop} {h : Heap} (H : spec_P6Plains.S code_0b code_0l code_0c count_1 Post h) : CALL prg f_spec_P6Plains #[.slice code_0b code_0l code_0c, .int .i64 count_1] Post h :=
  fn_call tau_ok mixed (c := spec_P6Plains.code) (Λ := lookL [(1000004, spec_P6Plains.l4 Post)]) Tryz.func7 (by kernel_rfl) (by kernel_rfl)
    (Rq.seq (by kernel_rfl) (Rq.free (by kernel_rfl)) (Rq.seq (by kernel_rfl) (Rq.free (by kernel_rfl)) (Rq.seq (by kernel_rfl) (Rq.free (by kernel_rfl)) (Rq.seq (by kernel_rfl) (Rq.seq (by kernel_rfl) (Rq.free (by kernel_rfl)) (Rq.block (Rq.loop (spec_P6Plains.l4 Post) (by kernel_rfl) (segL (g := spec_P6Plains.g4) tau_ok mixed (Λ := fun N4 => lookL []) (fun _ _ _ => by kernel_rfl) (fun N4 => (Rq.free (by kernel_rfl))))))) (Rq.free (by kernel_rfl))))))
    (Eq.mp (by kernel_rfl) H)

def spec_SameReals.S (a_0b : Option Addr) (a_0l a_0c : Nat) (b_1b : Option Addr) (b_1l b_1c : Nat) (Post : Value → Heap → Prop) (h : Heap) : Prop :=
    CALL prg f_spec_l02SameList #[.slice a_0b a_0l a_0c, .slice b_1b b_1l b_1c] (fun q1 h2 =>
    asB q1 fun b3 =>
    Post (.bool b3) h2) h
noncomputable def spec_SameReals.code : Code := (Tryz.f13.body).getD .skip
theorem spec_SameReals.call {a_0b : Option Addr} {a_0l a_0c : Nat} {b_1b : Option Addr} {b_1l b_1c : Nat} {Post : Value → Heap → Prop} {h : Heap} (H : spec_SameReals.S a_0b a_0l a_0c b_1b b_1l b_1c Post h) : CALL prg f_spec_SameReals #[.slice a_0b a_0l a_0c, .slice b_1b b_1l b_1c] Post h :=
  fn_call tau_ok mixed (c := spec_SameReals.code) (Λ := lookL []) Tryz.func13 (by kernel_rfl) (by kernel_rfl)
    (Rq.free (by kernel_rfl))
    (Eq.mp (by kernel_rfl) H)

end Go.Sx
