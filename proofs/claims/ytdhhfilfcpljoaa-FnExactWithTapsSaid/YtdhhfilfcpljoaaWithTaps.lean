/- What functions of this seat's program compute, told in words (a predicate over heaps for each), and the proofs that the words are no more than the code's own weakest precondition. -/
import Derived.Test.YtdhhfilfcpljoaaTab
namespace Go.Sx
open Go.Proofs
set_option linter.unusedVariables false
set_option maxRecDepth 100000

/-! #### loop.example/g01173/spec.WithTaps (function 18) -/
def spec_WithTaps.J9 (N7 : (Int × Option Addr × Nat × Nat × Addr × Addr × Bool × Int) → Heap → Prop) (Post : Value → Heap → Prop) (length_1 : Int) (taps_2b : Option Addr) (taps_2l : Nat) (taps_2c : Nat) (x_3 : Addr) (t6 : Addr) (i_9 : Int) (h : Heap) : Prop :=
    IDXS taps_2b i_9 taps_2l fun p61 =>
    oI .i64 (cell h ((Addr.add p61 ((Int.toNat i_9) * 2)))) fun n62 =>
    CALL prg f_spec_l00In #[.int .i64 n62, .int .i64 (1 : Int), .int .i64 length_1] (fun q63 h64 =>
    asB q63 fun b65 =>
    BIF b65 (
    IDXS taps_2b i_9 taps_2l fun p66 =>
    oF .f32 (cell h64 ((Addr.add ((Addr.add p66 ((Int.toNat i_9) * 2))) 1))) fun r67 =>
    CALL prg f_spec_l01Finite #[.float .f32 r67] (fun q68 h69 =>
    asB q68 fun b70 =>
    N7 (length_1, taps_2b, taps_2l, taps_2c, x_3, t6, b70, ((IntKind.i64.wrap (i_9 + (1 : Int))))) h69) h64) (
    N7 (length_1, taps_2b, taps_2l, taps_2c, x_3, t6, false, ((IntKind.i64.wrap (i_9 + (1 : Int))))) h64)) h
def spec_WithTaps.j9 (N7 : (Int × Option Addr × Nat × Nat × Addr × Addr × Bool × Int) → Heap → Prop) (Post : Value → Heap → Prop) : Frame → Heap → Prop := fun fr h => GRD (shape (kds 56 [(1, .i .i64), (2, .l), (3, .p), (6, .p), (9, .i .i64)]) fr) (spec_WithTaps.J9 N7 Post (gI (lget fr 1)) (gLb (lget fr 2)) (gLl (lget fr 2)) (gLc (lget fr 2)) (gP (lget fr 3)) (gP (lget fr 6)) (gI (lget fr 9)) h)
def spec_WithTaps.B7 (Post : Value → Heap → Prop) (N7 : (Int × Option Addr × Nat × Nat × Addr × Addr × Bool × Int) → Heap → Prop) : Int × Option Addr × Nat × Nat × Addr × Addr × Bool × Int → Heap → Prop
  | (length_1, taps_2b, taps_2l, taps_2c, x_3, t6, ok_8, i_9), h =>
    BIF ((decide (i_9 < (taps_2l : Int)))) (
    BIF ok_8 (
    spec_WithTaps.J9 N7 Post length_1 taps_2b taps_2l taps_2c x_3 t6 i_9 h) (
    BIF (!ok_8) (
    STA 47 h t6 (⟨[.slice none 0 0, .int .i64 (0 : Int), .slice none 0 0, .slice none 0 0, .int .i64 (0 : Int), .float .f32 0, .slice none 0 0, .int .i64 (0 : Int), .float .f32 0, .slice none 0 0, .int .i64 (0 : Int), .slice none 0 0, .int .i64 (0 : Int), .slice none 0 0, .int .i64 (0 : Int), .slice none 0 0, .int .i64 (0 : Int), .int .i64 (0 : Int), .float .f32 0, .float .f32 0, .float .f32 0, .float .f32 0, .float .f32 0, .int .i64 (0 : Int), .float .f32 0, .float .f32 0, .float .f32 0, .float .f32 0, .float .f32 0, .int .i64 (0 : Int), .float .f32 0, .float .f32 0, .float .f32 0, .float .f32 0, .float .f32 0, .int .i64 (0 : Int), .float .f32 0, .float .f32 0, .float .f32 0, .float .f32 0, .float .f32 0, .float .f32 0, .float .f32 0, .float .f32 0, .float .f32 0, .float .f32 0, .float .f32 0]⟩ : Array Value) fun h19 =>
    LDA 47 h19 t6 fun a20 =>
    Post (.tuple ⟨[.agg a20, .int .i64 (2 : Int)]⟩) h19) (
    CALL prg f_spec_l06Copy #[.pointer (some x_3)] (fun q21 h22 =>
    asA q21 fun a23 =>
    ALC ⟨Z_impl_Room⟩ T_impl_Room (fun g24 h25 =>
    STA 47 h25 ⟨g24, 0, none⟩ a23 fun h26 =>
    CALL prg f_spec_l06Silence #[.int .i64 length_1] (fun q27 h28 =>
    asA q27 fun a29 =>
    STA 2 h28 ⟨g24, 0, none⟩ a29 fun h30 =>
    ALC ⟨[]⟩ T_impl_Tap (fun g31 h32 =>
    SEMV prg (Builtin.append_ #[T_sl_impl_Tap, T_sl_impl_Tap] T_sl_impl_Tap #[.slice (some ⟨g31, 0, none⟩) 0 0, .slice taps_2b taps_2l taps_2c]) (fun q33 h34 =>
    asL q33 fun l35b l35l l35c =>
    ST1 h34 ⟨g24, 2, none⟩ (.slice l35b l35l l35c) fun h36 =>
    LDA 47 h36 ⟨g24, 0, none⟩ fun a37 =>
    STA 47 h36 t6 a37 fun h38 =>
    LDA 47 h38 t6 fun a39 =>
    Post (.tuple ⟨[.agg a39, .int .i64 (0 : Int)]⟩) h38) h32) h30) h26) h22) h))) (
    BIF (!ok_8) (
    STA 47 h t6 (⟨[.slice none 0 0, .int .i64 (0 : Int), .slice none 0 0, .slice none 0 0, .int .i64 (0 : Int), .float .f32 0, .slice none 0 0, .int .i64 (0 : Int), .float .f32 0, .slice none 0 0, .int .i64 (0 : Int), .slice none 0 0, .int .i64 (0 : Int), .slice none 0 0, .int .i64 (0 : Int), .slice none 0 0, .int .i64 (0 : Int), .int .i64 (0 : Int), .float .f32 0, .float .f32 0, .float .f32 0, .float .f32 0, .float .f32 0, .int .i64 (0 : Int), .float .f32 0, .float .f32 0, .float .f32 0, .float .f32 0, .float .f32 0, .int .i64 (0 : Int), .float .f32 0, .float .f32 0, .float .f32 0, .float .f32 0, .float .f32 0, .int .i64 (0 : Int), .float .f32 0, .float .f32 0, .float .f32 0, .float .f32 0, .float .f32 0, .float .f32 0, .float .f32 0, .float .f32 0, .float .f32 0, .float .f32 0, .float .f32 0]⟩ : Array Value) fun h40 =>
    LDA 47 h40 t6 fun a41 =>
    Post (.tuple ⟨[.agg a41, .int .i64 (2 : Int)]⟩) h40) (
    CALL prg f_spec_l06Copy #[.pointer (some x_3)] (fun q42 h43 =>
    asA q42 fun a44 =>
    ALC ⟨Z_impl_Room⟩ T_impl_Room (fun g45 h46 =>
    STA 47 h46 ⟨g45, 0, none⟩ a44 fun h47 =>
    CALL prg f_spec_l06Silence #[.int .i64 length_1] (fun q48 h49 =>
    asA q48 fun a50 =>
    STA 2 h49 ⟨g45, 0, none⟩ a50 fun h51 =>
    ALC ⟨[]⟩ T_impl_Tap (fun g52 h53 =>
    SEMV prg (Builtin.append_ #[T_sl_impl_Tap, T_sl_impl_Tap] T_sl_impl_Tap #[.slice (some ⟨g52, 0, none⟩) 0 0, .slice taps_2b taps_2l taps_2c]) (fun q54 h55 =>
    asL q54 fun l56b l56l l56c =>
    ST1 h55 ⟨g45, 2, none⟩ (.slice l56b l56l l56c) fun h57 =>
    LDA 47 h57 ⟨g45, 0, none⟩ fun a58 =>
    STA 47 h57 t6 a58 fun h59 =>
    LDA 47 h59 t6 fun a60 =>
    Post (.tuple ⟨[.agg a60, .int .i64 (0 : Int)]⟩) h59) h53) h51) h47) h43) h))
def spec_WithTaps.g7 (fr : Frame) : Int × Option Addr × Nat × Nat × Addr × Addr × Bool × Int := ((gI (lget fr 1)), (gLb (lget fr 2)), (gLl (lget fr 2)), (gLc (lget fr 2)), (gP (lget fr 3)), (gP (lget fr 6)), (gB (lget fr 8)), (gI (lget fr 9)))
def spec_WithTaps.l7 (Post : Value → Heap → Prop) : Frame → Heap → Prop := fun fr h => GRD (shape (kds 56 [(1, .i .i64), (2, .l), (3, .p), (6, .p), (8, .b), (9, .i .i64)]) fr) (LOOP (spec_WithTaps.B7 Post) (spec_WithTaps.g7 fr) h)
def spec_WithTaps.S (x_0 : Array Value) (length_1 : Int) (taps_2b : Option Addr) (taps_2l taps_2c : Nat) (Post : Value → Heap → Prop) (h : Heap) : Prop :=
    ALC x_0 T_impl_Room (fun g1 h2 =>
    ALC ⟨Z_impl_Room⟩ T_impl_Room (fun g3 h4 =>
    CALL prg f_spec_l06Ok #[.pointer (some ⟨g1, 0, none⟩)] (fun q5 h6 =>
    asB q5 fun b7 =>
    BIF (!b7) (
    STA 47 h6 ⟨g3, 0, none⟩ (⟨[.slice none 0 0, .int .i64 (0 : Int), .slice none 0 0, .slice none 0 0, .int .i64 (0 : Int), .float .f32 0, .slice none 0 0, .int .i64 (0 : Int), .float .f32 0, .slice none 0 0, .int .i64 (0 : Int), .slice none 0 0, .int .i64 (0 : Int), .slice none 0 0, .int .i64 (0 : Int), .slice none 0 0, .int .i64 (0 : Int), .int .i64 (0 : Int), .float .f32 0, .float .f32 0, .float .f32 0, .float .f32 0, .float .f32 0, .int .i64 (0 : Int), .float .f32 0, .float .f32 0, .float .f32 0, .float .f32 0, .float .f32 0, .int .i64 (0 : Int), .float .f32 0, .float .f32 0, .float .f32 0, .float .f32 0, .float .f32 0, .int .i64 (0 : Int), .float .f32 0, .float .f32 0, .float .f32 0, .float .f32 0, .float .f32 0, .float .f32 0, .float .f32 0, .float .f32 0, .float .f32 0, .float .f32 0, .float .f32 0]⟩ : Array Value) fun h8 =>
    LDA 47 h8 ⟨g3, 0, none⟩ fun a9 =>
    Post (.tuple ⟨[.agg a9, .int .i64 (1 : Int)]⟩) h8) (
    BIF ((decide ((6 : Int) < (taps_2l : Int)))) (
    STA 47 h6 ⟨g3, 0, none⟩ (⟨[.slice none 0 0, .int .i64 (0 : Int), .slice none 0 0, .slice none 0 0, .int .i64 (0 : Int), .float .f32 0, .slice none 0 0, .int .i64 (0 : Int), .float .f32 0, .slice none 0 0, .int .i64 (0 : Int), .slice none 0 0, .int .i64 (0 : Int), .slice none 0 0, .int .i64 (0 : Int), .slice none 0 0, .int .i64 (0 : Int), .int .i64 (0 : Int), .float .f32 0, .float .f32 0, .float .f32 0, .float .f32 0, .float .f32 0, .int .i64 (0 : Int), .float .f32 0, .float .f32 0, .float .f32 0, .float .f32 0, .float .f32 0, .int .i64 (0 : Int), .float .f32 0, .float .f32 0, .float .f32 0, .float .f32 0, .float .f32 0, .int .i64 (0 : Int), .float .f32 0, .float .f32 0, .float .f32 0, .float .f32 0, .float .f32 0, .float .f32 0, .float .f32 0, .float .f32 0, .float .f32 0, .float .f32 0, .float .f32 0]⟩ : Array Value) fun h12 =>
    LDA 47 h12 ⟨g3, 0, none⟩ fun a13 =>
    Post (.tuple ⟨[.agg a13, .int .i64 (3 : Int)]⟩) h12) (
    CALL prg f_spec_l00In #[.int .i64 length_1, .int .i64 (1 : Int), .int .i64 (1024 : Int)] (fun q14 h15 =>
    asB q14 fun b16 =>
    LOOP (spec_WithTaps.B7 Post) (length_1, taps_2b, taps_2l, taps_2c, ⟨g1, 0, none⟩, ⟨g3, 0, none⟩, b16, (0 : Int)) h15) h6))) h4) h2) h
noncomputable def spec_WithTaps.code : Code := (Try.f18.body).getD .skip
theorem spec_WithTaps.call {x_0 : Array Value} {length_1 : Int} {taps_2b : Option Addr} {taps_2l taps_2c : Nat} {Post : Value → Heap → Prop} {h : Heap} (H : spec_WithTaps.S x_0 length_1 taps_2b taps_2l taps_2c Post h) : CALL prg f_spec_WithTaps #[.agg x_0, .int .i64 length_1, .slice taps_2b taps_2l taps_2c] Post h :=
  fn_call tau_ok mixed (c := spec_WithTaps.code) (Λ := lookL [(1000007, spec_WithTaps.l7 Post)]) Try.func18 (by kernel_rfl) (by kernel_rfl)
    (Rq.seq (by kernel_rfl) (Rq.free (by kernel_rfl)) (Rq.seq (by kernel_rfl) (Rq.free (by kernel_rfl)) (Rq.seq (by kernel_rfl) (Rq.free (by kernel_rfl)) (Rq.seq (by kernel_rfl) (Rq.free (by kernel_rfl)) (Rq.seq (by kernel_rfl) (Rq.seq (by kernel_rfl) (Rq.free (by kernel_rfl)) (Rq.block (Rq.loop (spec_WithTaps.l7 Post) (by kernel_rfl) (segL (g := spec_WithTaps.g7) tau_ok mixed (Λ := fun N7 => lookL [(9, spec_WithTaps.j9 N7 Post)]) (fun _ _ _ => by kernel_rfl) (fun N7 => (Rq.seqJ (spec_WithTaps.j9 N7 Post) (by kernel_rfl) (seg (fun _ _ => by kernel_rfl)) (Rq.free (by kernel_rfl))
(Rq.free (by kernel_rfl)))))))) (Rq.free (by kernel_rfl)))))))
    (Eq.mp (by kernel_rfl) H)

/-! #### loop.example/g01173/impl.WithTaps$1 (function 72) -/
def impl_WithTaps_c1.S (t_0 : Array Value) (t1 : Addr) (Post : Value → Heap → Prop) (h : Heap) : Prop :=
    ALC t_0 T_impl_Tap (fun g1 h2 =>
    LDA 2 h2 ⟨g1, 0, none⟩ fun a3 =>
    oI .i64 (cell h2 t1) fun n4 =>
    CALL prg f_impl_isTap #[.agg a3, .int .i64 n4] (fun q5 h6 =>
    asB q5 fun b7 =>
    Post (.bool (!b7)) h6) h2) h
noncomputable def impl_WithTaps_c1.code : Code := (Try.f72.body).getD .skip
theorem impl_WithTaps_c1.call {t_0 : Array Value} {t1 : Addr} {Post : Value → Heap → Prop} {h : Heap} (H : impl_WithTaps_c1.S t_0 t1 Post h) : CALL prg f_impl_WithTaps_c1 #[.agg t_0, .pointer (some t1)] Post h :=
  fn_call tau_ok mixed (c := impl_WithTaps_c1.code) (Λ := lookL []) Try.func72 (by kernel_rfl) (by kernel_rfl)
    (Rq.free (by kernel_rfl))
    (Eq.mp (by kernel_rfl) H)

/-! #### loop.example/g01173/impl.WithTaps (function 21) -/
def impl_WithTaps.J7 (Post : Value → Heap → Prop) (taps_2b : Option Addr) (taps_2l : Nat) (taps_2c : Nat) (x_3 : Addr) (length_4 : Addr) (t6 : Addr) (h : Heap) : Prop :=
    LDA 47 h x_3 fun a28 =>
    CALL prg f_impl_Room_clone #[.agg a28] (fun q29 h30 =>
    asA q29 fun a31 =>
    STA 47 h30 x_3 a31 fun h32 =>
    oI .i64 (cell h32 length_4) fun n33 =>
    CALL prg f_impl_NewRing #[.int .i64 n33] (fun q34 h35 =>
    TUP2 q34 fun q36 q37 =>
    asA q36 fun a38 =>
    asI .i64 q37 fun n39 =>
    STA 2 h35 x_3 a38 fun h40 =>
    CALL prg f_slices_Clone_sl_impl_Tap_impl_Tap #[.slice taps_2b taps_2l taps_2c] (fun q41 h42 =>
    asL q41 fun l43b l43l l43c =>
    ST1 h42 (Addr.add x_3 2) (.slice l43b l43l l43c) fun h44 =>
    LDA 47 h44 x_3 fun a45 =>
    STA 47 h44 t6 a45 fun h46 =>
    LDA 47 h46 t6 fun a47 =>
    Post (.tuple ⟨[.agg a47, .int .i64 (0 : Int)]⟩) h46) h40) h32) h
def impl_WithTaps.j7 (Post : Value → Heap → Prop) : Frame → Heap → Prop := fun fr h => GRD (shape (kds 40 [(2, .l), (3, .p), (4, .p), (6, .p)]) fr) (impl_WithTaps.J7 Post (gLb (lget fr 2)) (gLl (lget fr 2)) (gLc (lget fr 2)) (gP (lget fr 3)) (gP (lget fr 4)) (gP (lget fr 6)) h)
def impl_WithTaps.S (x_0 : Array Value) (length_1 : Int) (taps_2b : Option Addr) (taps_2l taps_2c : Nat) (Post : Value → Heap → Prop) (h : Heap) : Prop :=
    ALC x_0 T_impl_Room (fun g1 h2 =>
    ALC #[.int .i64 length_1] T_int64 (fun g3 h4 =>
    ALC ⟨Z_impl_Room⟩ T_impl_Room (fun g5 h6 =>
    LDA 47 h6 ⟨g1, 0, none⟩ fun a7 =>
    CALL prg f_impl_ValidRoom #[.agg a7] (fun q8 h9 =>
    asB q8 fun b10 =>
    BIF (!b10) (
    STA 47 h9 ⟨g5, 0, none⟩ (⟨[.slice none 0 0, .int .i64 (0 : Int), .slice none 0 0, .slice none 0 0, .int .i64 (0 : Int), .float .f32 0, .slice none 0 0, .int .i64 (0 : Int), .float .f32 0, .slice none 0 0, .int .i64 (0 : Int), .slice none 0 0, .int .i64 (0 : Int), .slice none 0 0, .int .i64 (0 : Int), .slice none 0 0, .int .i64 (0 : Int), .int .i64 (0 : Int), .float .f32 0, .float .f32 0, .float .f32 0, .float .f32 0, .float .f32 0, .int .i64 (0 : Int), .float .f32 0, .float .f32 0, .float .f32 0, .float .f32 0, .float .f32 0, .int .i64 (0 : Int), .float .f32 0, .float .f32 0, .float .f32 0, .float .f32 0, .float .f32 0, .int .i64 (0 : Int), .float .f32 0, .float .f32 0, .float .f32 0, .float .f32 0, .float .f32 0, .float .f32 0, .float .f32 0, .float .f32 0, .float .f32 0, .float .f32 0, .float .f32 0]⟩ : Array Value) fun h11 =>
    LDA 47 h11 ⟨g5, 0, none⟩ fun a12 =>
    Post (.tuple ⟨[.agg a12, .int .i64 (1 : Int)]⟩) h11) (
    BIF ((decide ((6 : Int) < (taps_2l : Int)))) (
    STA 47 h9 ⟨g5, 0, none⟩ (⟨[.slice none 0 0, .int .i64 (0 : Int), .slice none 0 0, .slice none 0 0, .int .i64 (0 : Int), .float .f32 0, .slice none 0 0, .int .i64 (0 : Int), .float .f32 0, .slice none 0 0, .int .i64 (0 : Int), .slice none 0 0, .int .i64 (0 : Int), .slice none 0 0, .int .i64 (0 : Int), .slice none 0 0, .int .i64 (0 : Int), .int .i64 (0 : Int), .float .f32 0, .float .f32 0, .float .f32 0, .float .f32 0, .float .f32 0, .int .i64 (0 : Int), .float .f32 0, .float .f32 0, .float .f32 0, .float .f32 0, .float .f32 0, .int .i64 (0 : Int), .float .f32 0, .float .f32 0, .float .f32 0, .float .f32 0, .float .f32 0, .int .i64 (0 : Int), .float .f32 0, .float .f32 0, .float .f32 0, .float .f32 0, .float .f32 0, .float .f32 0, .float .f32 0, .float .f32 0, .float .f32 0, .float .f32 0, .float .f32 0]⟩ : Array Value) fun h15 =>
    LDA 47 h15 ⟨g5, 0, none⟩ fun a16 =>
    Post (.tuple ⟨[.agg a16, .int .i64 (3 : Int)]⟩) h15) (
    oI .i64 (cell h9 ⟨g3, 0, none⟩) fun n17 =>
    CALL prg f_impl_within #[.int .i64 n17, .int .i64 (1 : Int), .int .i64 (1024 : Int)] (fun q18 h19 =>
    asB q18 fun b20 =>
    BIF (!b20) (
    STA 47 h19 ⟨g5, 0, none⟩ (⟨[.slice none 0 0, .int .i64 (0 : Int), .slice none 0 0, .slice none 0 0, .int .i64 (0 : Int), .float .f32 0, .slice none 0 0, .int .i64 (0 : Int), .float .f32 0, .slice none 0 0, .int .i64 (0 : Int), .slice none 0 0, .int .i64 (0 : Int), .slice none 0 0, .int .i64 (0 : Int), .slice none 0 0, .int .i64 (0 : Int), .int .i64 (0 : Int), .float .f32 0, .float .f32 0, .float .f32 0, .float .f32 0, .float .f32 0, .int .i64 (0 : Int), .float .f32 0, .float .f32 0, .float .f32 0, .float .f32 0, .float .f32 0, .int .i64 (0 : Int), .float .f32 0, .float .f32 0, .float .f32 0, .float .f32 0, .float .f32 0, .int .i64 (0 : Int), .float .f32 0, .float .f32 0, .float .f32 0, .float .f32 0, .float .f32 0, .float .f32 0, .float .f32 0, .float .f32 0, .float .f32 0, .float .f32 0, .float .f32 0]⟩ : Array Value) fun h21 =>
    LDA 47 h21 ⟨g5, 0, none⟩ fun a22 =>
    Post (.tuple ⟨[.agg a22, .int .i64 (2 : Int)]⟩) h21) (
    CALL prg f_slices_ContainsFunc_sl_impl_Tap_impl_Tap #[.slice taps_2b taps_2l taps_2c, .func (.func 72) #[] #[.pointer (some ⟨g3, 0, none⟩)]] (fun q23 h24 =>
    asB q23 fun b25 =>
    BIF b25 (
    STA 47 h24 ⟨g5, 0, none⟩ (⟨[.slice none 0 0, .int .i64 (0 : Int), .slice none 0 0, .slice none 0 0, .int .i64 (0 : Int), .float .f32 0, .slice none 0 0, .int .i64 (0 : Int), .float .f32 0, .slice none 0 0, .int .i64 (0 : Int), .slice none 0 0, .int .i64 (0 : Int), .slice none 0 0, .int .i64 (0 : Int), .slice none 0 0, .int .i64 (0 : Int), .int .i64 (0 : Int), .float .f32 0, .float .f32 0, .float .f32 0, .float .f32 0, .float .f32 0, .int .i64 (0 : Int), .float .f32 0, .float .f32 0, .float .f32 0, .float .f32 0, .float .f32 0, .int .i64 (0 : Int), .float .f32 0, .float .f32 0, .float .f32 0, .float .f32 0, .float .f32 0, .int .i64 (0 : Int), .float .f32 0, .float .f32 0, .float .f32 0, .float .f32 0, .float .f32 0, .float .f32 0, .float .f32 0, .float .f32 0, .float .f32 0, .float .f32 0, .float .f32 0]⟩ : Array Value) fun h26 =>
    LDA 47 h26 ⟨g5, 0, none⟩ fun a27 =>
    Post (.tuple ⟨[.agg a27, .int .i64 (2 : Int)]⟩) h26) (
    impl_WithTaps.J7 Post taps_2b taps_2l taps_2c ⟨g1, 0, none⟩ ⟨g3, 0, none⟩ ⟨g5, 0, none⟩ h24)) h19)) h9))) h6) h4) h2) h
noncomputable def impl_WithTaps.code : Code := (Try.f21.body).getD .skip
theorem impl_WithTaps.call {x_0 : Array Value} {length_1 : Int} {taps_2b : Option Addr} {taps_2l taps_2c : Nat} {Post : Value → Heap → Prop} {h : Heap} (H : impl_WithTaps.S x_0 length_1 taps_2b taps_2l taps_2c Post h) : CALL prg f_impl_WithTaps #[.agg x_0, .int .i64 length_1, .slice taps_2b taps_2l taps_2c] Post h :=
  fn_call tau_ok mixed (c := impl_WithTaps.code) (Λ := lookL [(7, impl_WithTaps.j7 Post)]) Try.func21 (by kernel_rfl) (by kernel_rfl)
    (Rq.seq (by kernel_rfl) (Rq.free (by kernel_rfl)) (Rq.seqJ (impl_WithTaps.j7 Post) (by kernel_rfl) (seg (fun _ _ => by kernel_rfl)) (Rq.free (by kernel_rfl))
(Rq.free (by kernel_rfl))))
    (Eq.mp (by kernel_rfl) H)

/-! #### loop.example/g01173/laws.FnExactWithTaps (function 4) -/
def laws_FnExactWithTaps.J34 (Post : Value → Heap → Prop) (g0_12 : Addr) (m_15 : Int) (h : Heap) : Prop :=
    LDA 47 h g0_12 fun a106 =>
    CALL prg f_laws_heldRoom #[.agg a106, .int .i64 (1 : Int)] (fun q107 h108 =>
    asI .i64 q107 fun n109 =>
    BIF ((decide (n109 < (0 : Int)))) (
    Post (.bool false) h108) (
    BIF (n109 != m_15) (
    Post (.bool false) h108) (
    Post (.bool true) h108))) h
def laws_FnExactWithTaps.j34 (Post : Value → Heap → Prop) : Frame → Heap → Prop := fun fr h => GRD (shape (kds 124 [(12, .p), (15, .i .i64)]) fr) (laws_FnExactWithTaps.J34 Post (gP (lget fr 12)) (gI (lget fr 15)) h)
def laws_FnExactWithTaps.J23 (Post : Value → Heap → Prop) (aLength_1 : Int) (aTaps_2b : Option Addr) (aTaps_2l : Nat) (aTaps_2c : Nat) (aX_3 : Addr) (w0_8 : Addr) (w1_9 : Int) (g0_12 : Addr) (h : Heap) : Prop :=
    LDA 47 h g0_12 fun a77 =>
    CALL prg f_laws_markRoom #[.agg a77, .int .i64 (1 : Int)] (fun q78 h79 =>
    asI .i64 q78 fun n80 =>
    LDA 47 h79 g0_12 fun a81 =>
    CALL prg f_laws_heldRoom #[.agg a81, .int .i64 (1 : Int)] (fun q82 h83 =>
    asI .i64 q82 fun n84 =>
    BIF ((decide (n84 < (0 : Int)))) (
    Post (.bool false) h83) (
    BIF (n84 != n80) (
    Post (.bool false) h83) (
    LDA 47 h83 aX_3 fun a85 =>
    CALL prg f_laws_toRoom #[.agg a85] (fun q86 h87 =>
    asA q86 fun a88 =>
    CALL prg f_laws_toTapS #[.slice aTaps_2b aTaps_2l aTaps_2c] (fun q89 h90 =>
    asL q89 fun l91b l91l l91c =>
    CALL prg f_impl_WithTaps #[.agg a88, .int .i64 aLength_1, .slice l91b l91l l91c] (fun q92 h93 =>
    TUP2 q92 fun q94 q95 =>
    asA q94 fun a96 =>
    asI .i64 q95 fun n97 =>
    ALC ⟨Z_impl_Room⟩ T_impl_Room (fun g98 h99 =>
    STA 47 h99 ⟨g98, 0, none⟩ a96 fun h100 =>
    LDA 47 h100 ⟨g98, 0, none⟩ fun a101 =>
    LDA 47 h100 w0_8 fun a102 =>
    CALL prg f_laws_eqRoom #[.agg a101, .agg a102] (fun q103 h104 =>
    asB q103 fun b105 =>
    BIF (!b105) (
    Post (.bool false) h104) (
    BIF (n97 != w1_9) (
    Post (.bool false) h104) (
    laws_FnExactWithTaps.J34 Post g0_12 n80 h104))) h100) h93) h90) h87) h83))) h79) h
def laws_FnExactWithTaps.j23 (Post : Value → Heap → Prop) : Frame → Heap → Prop := fun fr h => GRD (shape (kds 124 [(1, .i .i64), (2, .l), (3, .p), (8, .p), (9, .i .i64), (12, .p)]) fr) (laws_FnExactWithTaps.J23 Post (gI (lget fr 1)) (gLb (lget fr 2)) (gLl (lget fr 2)) (gLc (lget fr 2)) (gP (lget fr 3)) (gP (lget fr 8)) (gI (lget fr 9)) (gP (lget fr 12)) h)
def laws_FnExactWithTaps.J14 (Post : Value → Heap → Prop) (aLength_1 : Int) (aTaps_2b : Option Addr) (aTaps_2l : Nat) (aTaps_2c : Nat) (aX_3 : Addr) (w0_8 : Addr) (w1_9 : Int) (x0_10 : Addr) (x2_11b : Option Addr) (x2_11l : Nat) (x2_11c : Nat) (g0_12 : Addr) (g1_13 : Int) (h : Heap) : Prop :=
    LDA 47 h x0_10 fun a51 =>
    LDA 47 h aX_3 fun a52 =>
    CALL prg f_laws_toRoom #[.agg a52] (fun q53 h54 =>
    asA q53 fun a55 =>
    PIN h x0_10 47 h54 <|
    CALL prg f_laws_eqRoom #[.agg a51, .agg a55] (fun q56 h57 =>
    asB q56 fun b58 =>
    BIF (!b58) (
    Post (.bool false) h57) (
    CALL prg f_laws_toTapS #[.slice aTaps_2b aTaps_2l aTaps_2c] (fun q59 h60 =>
    asL q59 fun l61b l61l l61c =>
    CALL prg f_laws_eqTapS #[.slice x2_11b x2_11l x2_11c, .slice l61b l61l l61c] (fun q62 h63 =>
    asB q62 fun b64 =>
    BIF (!b64) (
    Post (.bool false) h63) (
    LDA 47 h63 x0_10 fun a65 =>
    CALL prg f_laws_markRoom #[.agg a65, .int .i64 (1 : Int)] (fun q66 h67 =>
    asI .i64 q66 fun n68 =>
    CALL prg f_laws_markTapS #[.slice x2_11b x2_11l x2_11c, .int .i64 n68] (fun q69 h70 =>
    asI .i64 q69 fun n71 =>
    BIF ((decide (n71 < (0 : Int)))) (
    Post (.bool false) h70) (
    LDA 47 h70 g0_12 fun a72 =>
    LDA 47 h70 w0_8 fun a73 =>
    CALL prg f_laws_eqRoom #[.agg a72, .agg a73] (fun q74 h75 =>
    asB q74 fun b76 =>
    BIF (!b76) (
    Post (.bool false) h75) (
    BIF (g1_13 != w1_9) (
    Post (.bool false) h75) (
    laws_FnExactWithTaps.J23 Post aLength_1 aTaps_2b aTaps_2l aTaps_2c aX_3 w0_8 w1_9 g0_12 h75))) h70)) h67) h63)) h60) h57)) h54) h
def laws_FnExactWithTaps.j14 (Post : Value → Heap → Prop) : Frame → Heap → Prop := fun fr h => GRD (shape (kds 124 [(1, .i .i64), (2, .l), (3, .p), (8, .p), (9, .i .i64), (10, .p), (11, .l), (12, .p), (13, .i .i64)]) fr) (laws_FnExactWithTaps.J14 Post (gI (lget fr 1)) (gLb (lget fr 2)) (gLl (lget fr 2)) (gLc (lget fr 2)) (gP (lget fr 3)) (gP (lget fr 8)) (gI (lget fr 9)) (gP (lget fr 10)) (gLb (lget fr 11)) (gLl (lget fr 11)) (gLc (lget fr 11)) (gP (lget fr 12)) (gI (lget fr 13)) h)
def laws_FnExactWithTaps.S (aX_0 : Array Value) (aLength_1 : Int) (aTaps_2b : Option Addr) (aTaps_2l aTaps_2c : Nat) (Post : Value → Heap → Prop) (h : Heap) : Prop :=
    ALC aX_0 T_laws_Room (fun g1 h2 =>
    LDA 47 h2 ⟨g1, 0, none⟩ fun a3 =>
    CALL prg f_laws_szRoom #[.agg a3, .int .i64 (1048576 : Int)] (fun q4 h5 =>
    asI .i64 q4 fun n6 =>
    BIF ((decide (n6 < (0 : Int)))) (
    Post (.bool true) h5) (
    CALL prg f_laws_szTapS #[.slice aTaps_2b aTaps_2l aTaps_2c, .int .i64 n6] (fun q7 h8 =>
    asI .i64 q7 fun n9 =>
    BIF ((decide (n9 < (0 : Int)))) (
    Post (.bool true) h8) (
    LDA 47 h8 ⟨g1, 0, none⟩ fun a10 =>
    CALL prg f_laws_toRoom #[.agg a10] (fun q11 h12 =>
    asA q11 fun a13 =>
    CALL prg f_laws_toTapS #[.slice aTaps_2b aTaps_2l aTaps_2c] (fun q14 h15 =>
    asL q14 fun l16b l16l l16c =>
    CALL prg f_spec_WithTaps #[.agg a13, .int .i64 aLength_1, .slice l16b l16l l16c] (fun q17 h18 =>
    TUP2 q17 fun q19 q20 =>
    asA q19 fun a21 =>
    asI .i64 q20 fun n22 =>
    ALC ⟨Z_impl_Room⟩ T_impl_Room (fun g23 h24 =>
    STA 47 h24 ⟨g23, 0, none⟩ a21 fun h25 =>
    LDA 47 h25 ⟨g1, 0, none⟩ fun a26 =>
    CALL prg f_laws_toRoom #[.agg a26] (fun q27 h28 =>
    asA q27 fun a29 =>
    ALC ⟨Z_impl_Room⟩ T_impl_Room (fun g30 h31 =>
    STA 47 h31 ⟨g30, 0, none⟩ a29 fun h32 =>
    CALL prg f_laws_toTapS #[.slice aTaps_2b aTaps_2l aTaps_2c] (fun q33 h34 =>
    asL q33 fun l35b l35l l35c =>
    LDA 47 h34 ⟨g30, 0, none⟩ fun a36 =>
    CALL prg f_impl_WithTaps #[.agg a36, .int .i64 aLength_1, .slice l35b l35l l35c] (fun q37 h38 =>
    TUP2 q37 fun q39 q40 =>
    asA q39 fun a41 =>
    asI .i64 q40 fun n42 =>
    ALC ⟨Z_impl_Room⟩ T_impl_Room (fun g43 h44 =>
    STA 47 h44 ⟨g43, 0, none⟩ a41 fun h45 =>
    LDA 47 h45 ⟨g43, 0, none⟩ fun a46 =>
    LDA 47 h45 ⟨g23, 0, none⟩ fun a47 =>
    CALL prg f_laws_eqRoom #[.agg a46, .agg a47] (fun q48 h49 =>
    asB q48 fun b50 =>
    BIF (!b50) (
    Post (.bool false) h49) (
    BIF (n42 != n22) (
    Post (.bool false) h49) (
    laws_FnExactWithTaps.J14 Post aLength_1 aTaps_2b aTaps_2l aTaps_2c ⟨g1, 0, none⟩ ⟨g23, 0, none⟩ n22 ⟨g30, 0, none⟩ l35b l35l l35c ⟨g43, 0, none⟩ n42 h49))) h45) h38) h34) h32) h28) h25) h18) h15) h12) h8)) h5)) h2) h
noncomputable def laws_FnExactWithTaps.code : Code := (Try.f4.body).getD .skip
theorem laws_FnExactWithTaps.call {aX_0 : Array Value} {aLength_1 : Int} {aTaps_2b : Option Addr} {aTaps_2l aTaps_2c : Nat} {Post : Value → Heap → Prop} {h : Heap} (H : laws_FnExactWithTaps.S aX_0 aLength_1 aTaps_2b aTaps_2l aTaps_2c Post h) : CALL prg f_laws_FnExactWithTaps #[.agg aX_0, .int .i64 aLength_1, .slice aTaps_2b aTaps_2l aTaps_2c] Post h :=
  fn_call tau_ok mixed (c := laws_FnExactWithTaps.code) (Λ := lookL [(14, laws_FnExactWithTaps.j14 Post), (23, laws_FnExactWithTaps.j23 Post), (34, laws_FnExactWithTaps.j34 Post)]) Try.func4 (by kernel_rfl) (by kernel_rfl)
    (Rq.seq (by kernel_rfl) (Rq.free (by kernel_rfl)) (Rq.seq (by kernel_rfl) (Rq.free (by kernel_rfl)) (Rq.seq (by kernel_rfl) (Rq.free (by kernel_rfl)) (Rq.seq (by kernel_rfl) (Rq.free (by kernel_rfl)) (Rq.seq (by kernel_rfl) (Rq.free (by kernel_rfl)) (Rq.seq (by kernel_rfl) (Rq.free (by kernel_rfl)) (Rq.seq (by kernel_rfl) (Rq.free (by kernel_rfl)) (Rq.seq (by kernel_rfl) (Rq.free (by kernel_rfl)) (Rq.seq (by kernel_rfl) (Rq.free (by kernel_rfl)) (Rq.seq (by kernel_rfl) (Rq.free (by kernel_rfl)) (Rq.seqJ (laws_FnExactWithTaps.j14 Post) (by kernel_rfl) (seg (fun _ _ => by kernel_rfl)) (Rq.free (by kernel_rfl))
(Rq.seq (by kernel_rfl) (Rq.free (by kernel_rfl)) (Rq.seq (by kernel_rfl) (Rq.free (by kernel_rfl)) (Rq.seq (by kernel_rfl) (Rq.free (by kernel_rfl)) (Rq.seq (by kernel_rfl) (Rq.free (by kernel_rfl)) (Rq.seq (by kernel_rfl) (Rq.free (by kernel_rfl)) (Rq.seqJ (laws_FnExactWithTaps.j23 Post) (by kernel_rfl) (seg (fun _ _ => by kernel_rfl)) (Rq.free (by kernel_rfl))
(Rq.seq (by kernel_rfl) (Rq.free (by kernel_rfl)) (Rq.seq (by kernel_rfl) (Rq.free (by kernel_rfl)) (Rq.seq (by kernel_rfl) (Rq.free (by kernel_rfl)) (Rq.seq (by kernel_rfl) (Rq.free (by kernel_rfl)) (Rq.seq (by kernel_rfl) (Rq.free (by kernel_rfl)) (Rq.seq (by kernel_rfl) (Rq.free (by kernel_rfl)) (Rq.seq (by kernel_rfl) (Rq.free (by kernel_rfl)) (Rq.seqJ (laws_FnExactWithTaps.j34 Post) (by kernel_rfl) (seg (fun _ _ => by kernel_rfl)) (Rq.free (by kernel_rfl))
(Rq.free (by kernel_rfl)))))))))))))))))))))))))))
    (Eq.mp (by kernel_rfl) H)

end Go.Sx
