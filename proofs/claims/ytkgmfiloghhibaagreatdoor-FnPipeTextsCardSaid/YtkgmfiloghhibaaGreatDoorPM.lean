/- What functions of this seat's program compute, told in words (a predicate over heaps for each), and the proofs that the words are no more than the code's own weakest precondition. -/
import Derived.Test.YtkgmfiloghhibaaGreatDoorTab
namespace Go.Sx
open Go.Proofs
set_option linter.unusedVariables false
set_option maxRecDepth 100000

def impl_MutePipe.B5 (Post : Value → Heap → Prop) (N5 : (Addr × Addr × Option Addr × Nat × Nat × Int × Int) → Heap → Prop) : Addr × Addr × Option Addr × Nat × Nat × Int × Int → Heap → Prop
  | (x_1, t2, t12b, t12l, t12c, t13, t14), h =>
    BIF (decide (t14 < t13)) (
    IDXS t12b t14 t12l fun p21 =>
    oP (cell h ((Addr.add p21 ((Int.toNat t14) * 1)))) fun p22 =>
    CALL prg f_p_impl_Ring_mute #[.pointer (some p22)] (fun q23 h24 =>
    N5 (x_1, t2, t12b, t12l, t12c, t13, ((IntKind.i64.wrap (t14 + (1 : Int))))) h24) h) (
    STA 2 h (Addr.add x_1 7) (⟨[.float .f32 0, .float .f32 0]⟩ : Array Value) fun h25 =>
    LDA 13 h25 x_1 fun a26 =>
    STA 13 h25 t2 a26 fun h27 =>
    LDA 13 h27 t2 fun a28 =>
    Post (.tuple ⟨[.agg a28, .int .i64 (0 : Int)]⟩) h27)
def impl_MutePipe.g5 (fr : Frame) : Addr × Addr × Option Addr × Nat × Nat × Int × Int := ((gP (lget fr 1)), (gP (lget fr 2)), (gLb (lget fr 12)), (gLl (lget fr 12)), (gLc (lget fr 12)), (gI (lget fr 13)), (gI (lget fr 14)))
def impl_MutePipe.l5 (Post : Value → Heap → Prop) : Frame → Heap → Prop := fun fr h => GRD (shape (kds 25 [(1, .p), (2, .p), (12, .l), (13, .i .i64), (14, .i .i64)]) fr) (LOOP (impl_MutePipe.B5 Post) (impl_MutePipe.g5 fr) h)
def impl_MutePipe.S (x_0 : Array Value) (Post : Value → Heap → Prop) (h : Heap) : Prop :=
    ALC x_0 T_impl_Pipe (fun g1 h2 =>
    ALC ⟨Z_impl_Pipe⟩ T_impl_Pipe (fun g3 h4 =>
    LDA 13 h4 ⟨g1, 0, none⟩ fun a5 =>
    CALL prg f_impl_ValidPipe #[.agg a5] (fun q6 h7 =>
    asB q6 fun b8 =>
    BIF (!b8) (
    STA 13 h7 ⟨g3, 0, none⟩ (⟨[.slice none 0 0, .slice none 0 0, .slice none 0 0, .int .i64 (0 : Int), .float .f32 0, .float .f32 0, .float .f32 0, .float .f32 0, .float .f32 0, .bool false, .float .f32 0, .float .f32 0, .float .f32 0]⟩ : Array Value) fun h9 =>
    LDA 13 h9 ⟨g3, 0, none⟩ fun a10 =>
    Post (.tuple ⟨[.agg a10, .int .i64 (1 : Int)]⟩) h9) (
    LDA 13 h7 ⟨g1, 0, none⟩ fun a11 =>
    CALL prg f_impl_Pipe_clone #[.agg a11] (fun q12 h13 =>
    asA q12 fun a14 =>
    STA 13 h13 ⟨g1, 0, none⟩ a14 fun h15 =>
    CALL prg f_p_impl_Pipe_rings #[.pointer (some ⟨g1, 0, none⟩)] (fun q16 h17 =>
    asL q16 fun l18b l18l l18c =>
    LOOP (impl_MutePipe.B5 Post) (⟨g1, 0, none⟩, ⟨g3, 0, none⟩, l18b, l18l, l18c, (l18l : Int), (0 : Int)) h17) h15) h7)) h4) h2) h
noncomputable def impl_MutePipe.code : Code := (Tryz.f9.body).getD .skip
theorem impl_MutePipe.call {x_0 : Array Value} {Post : Value → Heap → Prop} {h : Heap} (H : impl_MutePipe.S x_0 Post h) : CALL prg f_impl_MutePipe #[.agg x_0] Post h :=
  fn_call tau_ok mixed (c := impl_MutePipe.code) (Λ := lookL [(1000005, impl_MutePipe.l5 Post)]) Tryz.func9 (by kernel_rfl) (by kernel_rfl)
    (Rq.seq (by kernel_rfl) (Rq.free (by kernel_rfl)) (Rq.seq (by kernel_rfl) (Rq.free (by kernel_rfl)) (Rq.seq (by kernel_rfl) (Rq.free (by kernel_rfl)) (Rq.seq (by kernel_rfl) (Rq.seq (by kernel_rfl) (Rq.free (by kernel_rfl)) (Rq.block (Rq.loop (impl_MutePipe.l5 Post) (by kernel_rfl) (segL (g := impl_MutePipe.g5) tau_ok mixed (Λ := fun N5 => lookL []) (fun _ _ _ => by kernel_rfl) (fun N5 => (Rq.free (by kernel_rfl))))))) (Rq.free (by kernel_rfl))))))
    (Eq.mp (by kernel_rfl) H)

def spec_l04Mute.B3 (Post : Value → Heap → Prop) (N3 : (Option Addr × Nat × Nat × Option Addr × Nat × Nat × Int) → Heap → Prop) : Option Addr × Nat × Nat × Option Addr × Nat × Nat × Int → Heap → Prop
  | (list_0b, list_0l, list_0c, out_3b, out_3l, out_3c, i_4), h =>
    BIF ((decide (i_4 < (list_0l : Int)))) (
    IDXS list_0b i_4 list_0l fun p5 =>
    oL (cell h ((Addr.add p5 ((Int.toNat i_4) * 2)))) fun l6b l6l l6c =>
    IDXS list_0b i_4 list_0l fun p9 =>
    oI .i64 (cell h ((Addr.add ((Addr.add p9 ((Int.toNat i_4) * 2))) 1))) fun n10 =>
    MKS ti_float32 T_float32 (l6l : Int) (l6l : Int) (fun g11 h12 =>
    PIN h ((Addr.add ((Addr.add p9 ((Int.toNat i_4) * 2))) 1)) 1 h12 <|
    SIZ (Array.size (⟨[.slice (some ⟨g11, 0, none⟩) l6l l6l, .int .i64 n10]⟩ : Array Value)) 2 <|
    ALC ⟨[.slice (some ⟨g11, 0, none⟩) l6l l6l, .int .i64 n10]⟩ T_impl_Ring (fun g13 h14 =>
    SEMV prg (Builtin.append_ #[T_sl_impl_Ring, T_sl_impl_Ring] T_sl_impl_Ring #[.slice out_3b out_3l out_3c, .slice (some ⟨g13, 0, none⟩) 1 1]) (fun q15 h16 =>
    asL q15 fun l17b l17l l17c =>
    N3 (list_0b, list_0l, list_0c, l17b, l17l, l17c, ((IntKind.i64.wrap (i_4 + (1 : Int))))) h16) h14) h12) h) (
    Post (.slice out_3b out_3l out_3c) h)
def spec_l04Mute.g3 (fr : Frame) : Option Addr × Nat × Nat × Option Addr × Nat × Nat × Int := ((gLb (lget fr 0)), (gLl (lget fr 0)), (gLc (lget fr 0)), (gLb (lget fr 3)), (gLl (lget fr 3)), (gLc (lget fr 3)), (gI (lget fr 4)))
def spec_l04Mute.l3 (Post : Value → Heap → Prop) : Frame → Heap → Prop := fun fr h => GRD (shape (kds 29 [(0, .l), (3, .l), (4, .i .i64)]) fr) (LOOP (spec_l04Mute.B3 Post) (spec_l04Mute.g3 fr) h)
def spec_l04Mute.S (list_0b : Option Addr) (list_0l list_0c : Nat) (Post : Value → Heap → Prop) (h : Heap) : Prop :=
    ALC ⟨[]⟩ T_impl_Ring (fun g1 h2 =>
    LOOP (spec_l04Mute.B3 Post) (list_0b, list_0l, list_0c, (some ⟨g1, 0, none⟩), 0, 0, (0 : Int)) h2) h
noncomputable def spec_l04Mute.code : Code := (Tryz.f53.body).getD .skip
theorem spec_l04Mute.call {list_0b : Option Addr} {list_0l list_0c : Nat} {Post : Value → Heap → Prop} {h : Heap} (H : spec_l04Mute.S list_0b list_0l list_0c Post h) : CALL prg f_spec_l04Mute #[.slice list_0b list_0l list_0c] Post h :=
  fn_call tau_ok mixed (c := spec_l04Mute.code) (Λ := lookL [(1000003, spec_l04Mute.l3 Post)]) Tryz.func53 (by kernel_rfl) (by kernel_rfl)
    (Rq.seq (by kernel_rfl) (Rq.free (by kernel_rfl)) (Rq.seq (by kernel_rfl) (Rq.free (by kernel_rfl)) (Rq.seq (by kernel_rfl) (Rq.seq (by kernel_rfl) (Rq.free (by kernel_rfl)) (Rq.block (Rq.loop (spec_l04Mute.l3 Post) (by kernel_rfl) (segL (g := spec_l04Mute.g3) tau_ok mixed (Λ := fun N3 => lookL []) (fun _ _ _ => by kernel_rfl) (fun N3 => (Rq.free (by kernel_rfl))))))) (Rq.free (by kernel_rfl)))))
    (Eq.mp (by kernel_rfl) H)

def spec_MutePipe.S (x_0 : Array Value) (Post : Value → Heap → Prop) (h : Heap) : Prop :=
    ALC x_0 T_impl_Pipe (fun g1 h2 =>
    ALC ⟨Z_impl_Pipe⟩ T_impl_Pipe (fun g3 h4 =>
    CALL prg f_spec_l04Ok #[.pointer (some ⟨g1, 0, none⟩)] (fun q5 h6 =>
    asB q5 fun b7 =>
    BIF (!b7) (
    STA 13 h6 ⟨g3, 0, none⟩ (⟨[.slice none 0 0, .slice none 0 0, .slice none 0 0, .int .i64 (0 : Int), .float .f32 0, .float .f32 0, .float .f32 0, .float .f32 0, .float .f32 0, .bool false, .float .f32 0, .float .f32 0, .float .f32 0]⟩ : Array Value) fun h8 =>
    LDA 13 h8 ⟨g3, 0, none⟩ fun a9 =>
    Post (.tuple ⟨[.agg a9, .int .i64 (1 : Int)]⟩) h8) (
    CALL prg f_spec_l04Copy #[.pointer (some ⟨g1, 0, none⟩)] (fun q10 h11 =>
    asA q10 fun a12 =>
    ALC ⟨Z_impl_Pipe⟩ T_impl_Pipe (fun g13 h14 =>
    STA 13 h14 ⟨g13, 0, none⟩ a12 fun h15 =>
    oL (cell h15 ⟨g13, 0, none⟩) fun l16b l16l l16c =>
    CALL prg f_spec_l04Mute #[.slice l16b l16l l16c] (fun q17 h18 =>
    asL q17 fun l19b l19l l19c =>
    ST1 h18 ⟨g13, 0, none⟩ (.slice l19b l19l l19c) fun h20 =>
    oL (cell h20 ⟨g13, 1, none⟩) fun l21b l21l l21c =>
    CALL prg f_spec_l04Mute #[.slice l21b l21l l21c] (fun q22 h23 =>
    asL q22 fun l24b l24l l24c =>
    ST1 h23 ⟨g13, 1, none⟩ (.slice l24b l24l l24c) fun h25 =>
    STA 2 h25 ⟨g13, 7, none⟩ (⟨[.float .f32 0, .float .f32 0]⟩ : Array Value) fun h26 =>
    LDA 13 h26 ⟨g13, 0, none⟩ fun a27 =>
    STA 13 h26 ⟨g3, 0, none⟩ a27 fun h28 =>
    LDA 13 h28 ⟨g3, 0, none⟩ fun a29 =>
    Post (.tuple ⟨[.agg a29, .int .i64 (0 : Int)]⟩) h28) h20) h15) h11) h6)) h4) h2) h
noncomputable def spec_MutePipe.code : Code := (Tryz.f10.body).getD .skip
theorem spec_MutePipe.call {x_0 : Array Value} {Post : Value → Heap → Prop} {h : Heap} (H : spec_MutePipe.S x_0 Post h) : CALL prg f_spec_MutePipe #[.agg x_0] Post h :=
  fn_call tau_ok mixed (c := spec_MutePipe.code) (Λ := lookL []) Tryz.func10 (by kernel_rfl) (by kernel_rfl)
    (Rq.free (by kernel_rfl))
    (Eq.mp (by kernel_rfl) H)

def impl_IsSilentPipe.S (x_0 : Array Value) (Post : Value → Heap → Prop) (h : Heap) : Prop :=
    ALC x_0 T_impl_Pipe (fun g1 h2 =>
    LDA 13 h2 ⟨g1, 0, none⟩ fun a3 =>
    CALL prg f_impl_ValidPipe #[.agg a3] (fun q4 h5 =>
    asB q4 fun b6 =>
    BIF (!b6) (
    Post (.tuple ⟨[.bool false, .int .i64 (1 : Int)]⟩) h5) (
    CALL prg f_p_impl_Pipe_rings #[.pointer (some ⟨g1, 0, none⟩)] (fun q7 h8 =>
    asL q7 fun l9b l9l l9c =>
    CALL prg f_impl_areQuiet #[.slice l9b l9l l9c] (fun q10 h11 =>
    asB q10 fun b12 =>
    BIF b12 (
    LDA 6 h11 ⟨g1, 3, none⟩ fun a13 =>
    CALL prg f_impl_Filter_isStill #[.agg a13] (fun q14 h15 =>
    asB q14 fun b16 =>
    Post (.tuple ⟨[.bool b16, .int .i64 (0 : Int)]⟩) h15) h11) (
    Post (.tuple ⟨[.bool false, .int .i64 (0 : Int)]⟩) h11)) h8) h5)) h2) h
noncomputable def impl_IsSilentPipe.code : Code := (Tryz.f11.body).getD .skip
theorem impl_IsSilentPipe.call {x_0 : Array Value} {Post : Value → Heap → Prop} {h : Heap} (H : impl_IsSilentPipe.S x_0 Post h) : CALL prg f_impl_IsSilentPipe #[.agg x_0] Post h :=
  fn_call tau_ok mixed (c := impl_IsSilentPipe.code) (Λ := lookL []) Tryz.func11 (by kernel_rfl) (by kernel_rfl)
    (Rq.free (by kernel_rfl))
    (Eq.mp (by kernel_rfl) H)

def impl_LengthOfPipe.B5 (Post : Value → Heap → Prop) (N5 : (Int × Option Addr × Nat × Nat × Int × Int) → Heap → Prop) : Int × Option Addr × Nat × Nat × Int × Int → Heap → Prop
  | (sum_4, t10b, t10l, t10c, t11, t12), h =>
    BIF (decide (t12 < t11)) (
    IDXS t10b t12 t10l fun p12 =>
    oP (cell h ((Addr.add p12 ((Int.toNat t12) * 1)))) fun p13 =>
    oL (cell h p13) fun l14b l14l l14c =>
    CALL prg f_impl_length_float32 #[.slice l14b l14l l14c] (fun q15 h16 =>
    asI .i64 q15 fun n17 =>
    N5 ((IntKind.i64.wrap (sum_4 + n17)), t10b, t10l, t10c, t11, ((IntKind.i64.wrap (t12 + (1 : Int))))) h16) h) (
    Post (.tuple ⟨[.int .i64 sum_4, .int .i64 (0 : Int)]⟩) h)
def impl_LengthOfPipe.g5 (fr : Frame) : Int × Option Addr × Nat × Nat × Int × Int := ((gI (lget fr 4)), (gLb (lget fr 10)), (gLl (lget fr 10)), (gLc (lget fr 10)), (gI (lget fr 11)), (gI (lget fr 12)))
def impl_LengthOfPipe.l5 (Post : Value → Heap → Prop) : Frame → Heap → Prop := fun fr h => GRD (shape (kds 25 [(4, .i .i64), (10, .l), (11, .i .i64), (12, .i .i64)]) fr) (LOOP (impl_LengthOfPipe.B5 Post) (impl_LengthOfPipe.g5 fr) h)
def impl_LengthOfPipe.S (x_0 : Array Value) (Post : Value → Heap → Prop) (h : Heap) : Prop :=
    ALC x_0 T_impl_Pipe (fun g1 h2 =>
    LDA 13 h2 ⟨g1, 0, none⟩ fun a3 =>
    CALL prg f_impl_ValidPipe #[.agg a3] (fun q4 h5 =>
    asB q4 fun b6 =>
    BIF (!b6) (
    Post (.tuple ⟨[.int .i64 (0 : Int), .int .i64 (1 : Int)]⟩) h5) (
    CALL prg f_p_impl_Pipe_rings #[.pointer (some ⟨g1, 0, none⟩)] (fun q7 h8 =>
    asL q7 fun l9b l9l l9c =>
    LOOP (impl_LengthOfPipe.B5 Post) ((0 : Int), l9b, l9l, l9c, (l9l : Int), (0 : Int)) h8) h5)) h2) h
noncomputable def impl_LengthOfPipe.code : Code := (Tryz.f12.body).getD .skip
theorem impl_LengthOfPipe.call {x_0 : Array Value} {Post : Value → Heap → Prop} {h : Heap} (H : impl_LengthOfPipe.S x_0 Post h) : CALL prg f_impl_LengthOfPipe #[.agg x_0] Post h :=
  fn_call tau_ok mixed (c := impl_LengthOfPipe.code) (Λ := lookL [(1000005, impl_LengthOfPipe.l5 Post)]) Tryz.func12 (by kernel_rfl) (by kernel_rfl)
    (Rq.seq (by kernel_rfl) (Rq.free (by kernel_rfl)) (Rq.seq (by kernel_rfl) (Rq.free (by kernel_rfl)) (Rq.seq (by kernel_rfl) (Rq.free (by kernel_rfl)) (Rq.seq (by kernel_rfl) (Rq.seq (by kernel_rfl) (Rq.free (by kernel_rfl)) (Rq.block (Rq.loop (impl_LengthOfPipe.l5 Post) (by kernel_rfl) (segL (g := impl_LengthOfPipe.g5) tau_ok mixed (Λ := fun N5 => lookL []) (fun _ _ _ => by kernel_rfl) (fun N5 => (Rq.free (by kernel_rfl))))))) (Rq.free (by kernel_rfl))))))
    (Eq.mp (by kernel_rfl) H)

def impl_EnergyOfPipe.B8 (N5 : (Nat × Option Addr × Nat × Nat × Int × Int) → Heap → Prop) (Post : Value → Heap → Prop) (N8 : (Nat × Option Addr × Nat × Nat × Int × Int × Option Addr × Nat × Nat × Int × Int) → Heap → Prop) : Nat × Option Addr × Nat × Nat × Int × Int × Option Addr × Nat × Nat × Int × Int → Heap → Prop
  | (sum_4, t12b, t12l, t12c, t13, t14, t21b, t21l, t21c, t22, t23), h =>
    BIF (decide (t23 < t22)) (
    IDXS t21b t23 t21l fun p17 =>
    oF .f32 (cell h ((Addr.add p17 ((Int.toNat t23) * 1)))) fun r18 =>
    FFC .f32 r18 .f64 fun r19 =>
    FFC .f32 r18 .f64 fun r20 =>
    FOP .f64 (FloatKind.f64.format.mul r19 r20) fun r21 =>
    FOP .f64 (FloatKind.f64.format.add sum_4 r21) fun r22 =>
    N8 (r22, t12b, t12l, t12c, t13, t14, t21b, t21l, t21c, t22, ((IntKind.i64.wrap (t23 + (1 : Int))))) h) (
    N5 (sum_4, t12b, t12l, t12c, t13, ((IntKind.i64.wrap (t14 + (1 : Int))))) h)
def impl_EnergyOfPipe.g8 (fr : Frame) : Nat × Option Addr × Nat × Nat × Int × Int × Option Addr × Nat × Nat × Int × Int := ((gF (lget fr 4)), (gLb (lget fr 12)), (gLl (lget fr 12)), (gLc (lget fr 12)), (gI (lget fr 13)), (gI (lget fr 14)), (gLb (lget fr 21)), (gLl (lget fr 21)), (gLc (lget fr 21)), (gI (lget fr 22)), (gI (lget fr 23)))
def impl_EnergyOfPipe.l8 (N5 : (Nat × Option Addr × Nat × Nat × Int × Int) → Heap → Prop) (Post : Value → Heap → Prop) : Frame → Heap → Prop := fun fr h => GRD (shape (kds 37 [(4, .f .f64), (12, .l), (13, .i .i64), (14, .i .i64), (21, .l), (22, .i .i64), (23, .i .i64)]) fr) (LOOP (impl_EnergyOfPipe.B8 N5 Post) (impl_EnergyOfPipe.g8 fr) h)
def impl_EnergyOfPipe.B5 (Post : Value → Heap → Prop) (N5 : (Nat × Option Addr × Nat × Nat × Int × Int) → Heap → Prop) : Nat × Option Addr × Nat × Nat × Int × Int → Heap → Prop
  | (sum_4, t12b, t12l, t12c, t13, t14), h =>
    BIF (decide (t14 < t13)) (
    IDXS t12b t14 t12l fun p12 =>
    oP (cell h ((Addr.add p12 ((Int.toNat t14) * 1)))) fun p13 =>
    oL (cell h p13) fun l14b l14l l14c =>
    LOOP (impl_EnergyOfPipe.B8 N5 Post) (sum_4, t12b, t12l, t12c, t13, t14, l14b, l14l, l14c, (l14l : Int), (0 : Int)) h) (
    Post (.tuple ⟨[.float .f64 sum_4, .int .i64 (0 : Int)]⟩) h)
def impl_EnergyOfPipe.g5 (fr : Frame) : Nat × Option Addr × Nat × Nat × Int × Int := ((gF (lget fr 4)), (gLb (lget fr 12)), (gLl (lget fr 12)), (gLc (lget fr 12)), (gI (lget fr 13)), (gI (lget fr 14)))
def impl_EnergyOfPipe.l5 (Post : Value → Heap → Prop) : Frame → Heap → Prop := fun fr h => GRD (shape (kds 37 [(4, .f .f64), (12, .l), (13, .i .i64), (14, .i .i64)]) fr) (LOOP (impl_EnergyOfPipe.B5 Post) (impl_EnergyOfPipe.g5 fr) h)
def impl_EnergyOfPipe.S (x_0 : Array Value) (Post : Value → Heap → Prop) (h : Heap) : Prop :=
    ALC x_0 T_impl_Pipe (fun g1 h2 =>
    LDA 13 h2 ⟨g1, 0, none⟩ fun a3 =>
    CALL prg f_impl_ValidPipe #[.agg a3] (fun q4 h5 =>
    asB q4 fun b6 =>
    BIF (!b6) (
    Post (.tuple ⟨[.float .f64 0, .int .i64 (1 : Int)]⟩) h5) (
    CALL prg f_p_impl_Pipe_rings #[.pointer (some ⟨g1, 0, none⟩)] (fun q7 h8 =>
    asL q7 fun l9b l9l l9c =>
    LOOP (impl_EnergyOfPipe.B5 Post) (0, l9b, l9l, l9c, (l9l : Int), (0 : Int)) h8) h5)) h2) h
noncomputable def impl_EnergyOfPipe.code : Code := (Tryz.f13.body).getD .skip
theorem impl_EnergyOfPipe.call {x_0 : Array Value} {Post : Value → Heap → Prop} {h : Heap} (H : impl_EnergyOfPipe.S x_0 Post h) : CALL prg f_impl_EnergyOfPipe #[.agg x_0] Post h :=
  fn_call tau_ok mixed (c := impl_EnergyOfPipe.code) (Λ := lookL [(1000005, impl_EnergyOfPipe.l5 Post)]) Tryz.func13 (by kernel_rfl) (by kernel_rfl)
    (Rq.seq (by kernel_rfl) (Rq.free (by kernel_rfl)) (Rq.seq (by kernel_rfl) (Rq.free (by kernel_rfl)) (Rq.seq (by kernel_rfl) (Rq.free (by kernel_rfl)) (Rq.seq (by kernel_rfl) (Rq.seq (by kernel_rfl) (Rq.free (by kernel_rfl)) (Rq.block (Rq.loop (impl_EnergyOfPipe.l5 Post) (by kernel_rfl) (segL (g := impl_EnergyOfPipe.g5) tau_ok mixed (Λ := fun N5 => lookL [(1000008, impl_EnergyOfPipe.l8 N5 Post)]) (fun _ _ _ => by kernel_rfl) (fun N5 => (Rq.seq (by kernel_rfl) (Rq.free (by kernel_rfl)) (Rq.seq (by kernel_rfl) (Rq.free (by kernel_rfl)) (Rq.seq (by kernel_rfl) (Rq.block (Rq.seq (by kernel_rfl) (Rq.free (by kernel_rfl)) (Rq.seq (by kernel_rfl) (Rq.free (by kernel_rfl)) (Rq.block (Rq.loop (impl_EnergyOfPipe.l8 N5 Post) (by kernel_rfl) (segL (g := impl_EnergyOfPipe.g8) tau_ok mixed (Λ := fun N8 => lookL []) (fun _ _ _ => by kernel_rfl) (fun N8 => (Rq.free (by kernel_rfl))))))))) (Rq.free (by kernel_rfl)))))))))) (Rq.free (by kernel_rfl))))))
    (Eq.mp (by kernel_rfl) H)

def spec_SamePipe.S (x_0 : Array Value) (y_1 : Array Value) (Post : Value → Heap → Prop) (h : Heap) : Prop :=
    ALC x_0 T_impl_Pipe (fun g1 h2 =>
    ALC y_1 T_impl_Pipe (fun g3 h4 =>
    CALL prg f_spec_l04Same #[.pointer (some ⟨g1, 0, none⟩), .pointer (some ⟨g3, 0, none⟩)] (fun q5 h6 =>
    asB q5 fun b7 =>
    Post (.bool b7) h6) h4) h2) h
noncomputable def spec_SamePipe.code : Code := (Tryz.f14.body).getD .skip
theorem spec_SamePipe.call {x_0 : Array Value} {y_1 : Array Value} {Post : Value → Heap → Prop} {h : Heap} (H : spec_SamePipe.S x_0 y_1 Post h) : CALL prg f_spec_SamePipe #[.agg x_0, .agg y_1] Post h :=
  fn_call tau_ok mixed (c := spec_SamePipe.code) (Λ := lookL []) Tryz.func14 (by kernel_rfl) (by kernel_rfl)
    (Rq.free (by kernel_rfl))
    (Eq.mp (by kernel_rfl) H)

def impl_WithReed.S (x_0 : Array Value) (rest_1 : Nat) (slope_2 : Nat) (Post : Value → Heap → Prop) (h : Heap) : Prop :=
    ALC x_0 T_impl_Pipe (fun g1 h2 =>
    ALC ⟨Z_impl_Pipe⟩ T_impl_Pipe (fun g3 h4 =>
    LDA 13 h4 ⟨g1, 0, none⟩ fun a5 =>
    CALL prg f_impl_ValidPipe #[.agg a5] (fun q6 h7 =>
    asB q6 fun b8 =>
    BIF (!b8) (
    STA 13 h7 ⟨g3, 0, none⟩ (⟨[.slice none 0 0, .slice none 0 0, .slice none 0 0, .int .i64 (0 : Int), .float .f32 0, .float .f32 0, .float .f32 0, .float .f32 0, .float .f32 0, .bool false, .float .f32 0, .float .f32 0, .float .f32 0]⟩ : Array Value) fun h9 =>
    LDA 13 h9 ⟨g3, 0, none⟩ fun a10 =>
    Post (.tuple ⟨[.agg a10, .int .i64 (1 : Int)]⟩) h9) (
    ALC ⟨[.float .f32 rest_1, .float .f32 slope_2]⟩ T_float32 (fun g11 h12 =>
    CALL prg f_impl_areFinite #[.slice (some ⟨g11, 0, none⟩) 2 2] (fun q13 h14 =>
    asB q13 fun b15 =>
    BIF (!b15) (
    STA 13 h14 ⟨g3, 0, none⟩ (⟨[.slice none 0 0, .slice none 0 0, .slice none 0 0, .int .i64 (0 : Int), .float .f32 0, .float .f32 0, .float .f32 0, .float .f32 0, .float .f32 0, .bool false, .float .f32 0, .float .f32 0, .float .f32 0]⟩ : Array Value) fun h16 =>
    LDA 13 h16 ⟨g3, 0, none⟩ fun a17 =>
    Post (.tuple ⟨[.agg a17, .int .i64 (2 : Int)]⟩) h16) (
    LDA 13 h14 ⟨g1, 0, none⟩ fun a18 =>
    CALL prg f_impl_Pipe_clone #[.agg a18] (fun q19 h20 =>
    asA q19 fun a21 =>
    STA 13 h20 ⟨g1, 0, none⟩ a21 fun h22 =>
    ST1 h22 ⟨g1, 11, none⟩ (.float .f32 rest_1) fun h23 =>
    ST1 h23 ⟨g1, 12, none⟩ (.float .f32 slope_2) fun h24 =>
    LDA 13 h24 ⟨g1, 0, none⟩ fun a25 =>
    STA 13 h24 ⟨g3, 0, none⟩ a25 fun h26 =>
    LDA 13 h26 ⟨g3, 0, none⟩ fun a27 =>
    Post (.tuple ⟨[.agg a27, .int .i64 (0 : Int)]⟩) h26) h14)) h12) h7)) h4) h2) h
noncomputable def impl_WithReed.code : Code := (Tryz.f16.body).getD .skip
theorem impl_WithReed.call {x_0 : Array Value} {rest_1 : Nat} {slope_2 : Nat} {Post : Value → Heap → Prop} {h : Heap} (H : impl_WithReed.S x_0 rest_1 slope_2 Post h) : CALL prg f_impl_WithReed #[.agg x_0, .float .f32 rest_1, .float .f32 slope_2] Post h :=
  fn_call tau_ok mixed (c := impl_WithReed.code) (Λ := lookL []) Tryz.func16 (by kernel_rfl) (by kernel_rfl)
    (Rq.free (by kernel_rfl))
    (Eq.mp (by kernel_rfl) H)

end Go.Sx
