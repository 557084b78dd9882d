/- What functions of this seat's program compute, told in words (a predicate over heaps for each), and the proofs that the words are no more than the code's own weakest precondition. -/
import Derived.Test.YthgnpepchedpbaaGreatTab
namespace Go.Sx
open Go.Proofs
set_option linter.unusedVariables false
set_option maxRecDepth 100000

def spec_WithTaps.J9 (N7 : (Int × Option Addr × Nat × Nat × Addr × Addr × Bool × Int) → Heap → Prop) (Post : Value → Heap → Prop) (length_1 : Int) (taps_2b : Option Addr) (taps_2l : Nat) (taps_2c : Nat) (x_3 : Addr) (t6 : Addr) (i_9 : Int) (h : Heap) : Prop :=
    IDXS taps_2b i_9 taps_2l fun p61 =>
    oI .i64 (cell h ((Addr.add p61 ((Int.toNat i_9) * 2)))) fun n62 =>
    CALL prg f_spec_l00In #[.int .i64 n62, .int .i64 (1 : Int), .int .i64 length_1] (fun q63 h64 =>
    asB q63 fun b65 =>
    BIF b65 (
    IDXS taps_2b i_9 taps_2l fun p66 =>
    oF .f32 (cell h64 ((Addr.add ((Addr.add p66 ((Int.toNat i_9) * 2))) 1))) fun r67 =>
    CALL prg f_spec_l01Finite #[.float .f32 r67] (fun q68 h69 =>
    asB q68 fun b70 =>
    N7 (length_1, taps_2b, taps_2l, taps_2c, x_3, t6, b70, ((IntKind.i64.wrap (i_9 + (1 : Int))))) h69) h64) (
    N7 (length_1, taps_2b, taps_2l, taps_2c, x_3, t6, false, ((IntKind.i64.wrap (i_9 + (1 : Int))))) h64)) h
def spec_WithTaps.j9 (N7 : (Int × Option Addr × Nat × Nat × Addr × Addr × Bool × Int) → Heap → Prop) (Post : Value → Heap → Prop) : Frame → Heap → Prop := fun fr h => GRD (shape (kds 56 [(1, .i .i64), (2, .l), (3, .p), (6, .p), (9, .i .i64)]) fr) (spec_WithTaps.J9 N7 Post (gI (lget fr 1)) (gLb (lget fr 2)) (gLl (lget fr 2)) (gLc (lget fr 2)) (gP (lget fr 3)) (gP (lget fr 6)) (gI (lget fr 9)) h)
def spec_WithTaps.B7 (Post : Value → Heap → Prop) (N7 : (Int × Option Addr × Nat × Nat × Addr × Addr × Bool × Int) → Heap → Prop) : Int × Option Addr × Nat × Nat × Addr × Addr × Bool × Int → Heap → Prop
  | (length_1, taps_2b, taps_2l, taps_2c, x_3, t6, ok_8, i_9), h =>
    BIF ((decide (i_9 < (taps_2l : Int)))) (
    BIF ok_8 (
    spec_WithTaps.J9 N7 Post length_1 taps_2b taps_2l taps_2c x_3 t6 i_9 h) (
    BIF (!ok_8) (
    STA 47 h t6 (⟨[.slice none 0 0, .int .i64 (0 : Int), .slice none 0 0, .slice none 0 0, .int .i64 (0 : Int), .float .f32 0, .slice none 0 0, .int .i64 (0 : Int), .float .f32 0, .slice none 0 0, .int .i64 (0 : Int), .slice none 0 0, .int .i64 (0 : Int), .slice none 0 0, .int .i64 (0 : Int), .slice none 0 0, .int .i64 (0 : Int), .int .i64 (0 : Int), .float .f32 0, .float .f32 0, .float .f32 0, .float .f32 0, .float .f32 0, .int .i64 (0 : Int), .float .f32 0, .float .f32 0, .float .f32 0, .float .f32 0, .float .f32 0, .int .i64 (0 : Int), .float .f32 0, .float .f32 0, .float .f32 0, .float .f32 0, .float .f32 0, .int .i64 (0 : Int), .float .f32 0, .float .f32 0, .float .f32 0, .float .f32 0, .float .f32 0, .float .f32 0, .float .f32 0, .float .f32 0, .float .f32 0, .float .f32 0, .float .f32 0]⟩ : Array Value) fun h19 =>
    LDA 47 h19 t6 fun a20 =>
    Post (.tuple ⟨[.agg a20, .int .i64 (2 : Int)]⟩) h19) (
    CALL prg f_spec_l06Copy #[.pointer (some x_3)] (fun q21 h22 =>
    asA q21 fun a23 =>
    ALC ⟨Z_impl_Room⟩ T_impl_Room (fun g24 h25 =>
    STA 47 h25 ⟨g24, 0, none⟩ a23 fun h26 =>
    CALL prg f_spec_l06Silence #[.int .i64 length_1] (fun q27 h28 =>
    asA q27 fun a29 =>
    STA 2 h28 ⟨g24, 0, none⟩ a29 fun h30 =>
    ALC ⟨[]⟩ T_impl_Tap (fun g31 h32 =>
    SEMV prg (Builtin.append_ #[T_sl_impl_Tap, T_sl_impl_Tap] T_sl_impl_Tap #[.slice (some ⟨g31, 0, none⟩) 0 0, .slice taps_2b taps_2l taps_2c]) (fun q33 h34 =>
    asL q33 fun l35b l35l l35c =>
    ST1 h34 ⟨g24, 2, none⟩ (.slice l35b l35l l35c) fun h36 =>
    LDA 47 h36 ⟨g24, 0, none⟩ fun a37 =>
    STA 47 h36 t6 a37 fun h38 =>
    LDA 47 h38 t6 fun a39 =>
    Post (.tuple ⟨[.agg a39, .int .i64 (0 : Int)]⟩) h38) h32) h30) h26) h22) h))) (
    BIF (!ok_8) (
    STA 47 h t6 (⟨[.slice none 0 0, .int .i64 (0 : Int), .slice none 0 0, .slice none 0 0, .int .i64 (0 : Int), .float .f32 0, .slice none 0 0, .int .i64 (0 : Int), .float .f32 0, .slice none 0 0, .int .i64 (0 : Int), .slice none 0 0, .int .i64 (0 : Int), .slice none 0 0, .int .i64 (0 : Int), .slice none 0 0, .int .i64 (0 : Int), .int .i64 (0 : Int), .float .f32 0, .float .f32 0, .float .f32 0, .float .f32 0, .float .f32 0, .int .i64 (0 : Int), .float .f32 0, .float .f32 0, .float .f32 0, .float .f32 0, .float .f32 0, .int .i64 (0 : Int), .float .f32 0, .float .f32 0, .float .f32 0, .float .f32 0, .float .f32 0, .int .i64 (0 : Int), .float .f32 0, .float .f32 0, .float .f32 0, .float .f32 0, .float .f32 0, .float .f32 0, .float .f32 0, .float .f32 0, .float .f32 0, .float .f32 0, .float .f32 0]⟩ : Array Value) fun h40 =>
    LDA 47 h40 t6 fun a41 =>
    Post (.tuple ⟨[.agg a41, .int .i64 (2 : Int)]⟩) h40) (
    CALL prg f_spec_l06Copy #[.pointer (some x_3)] (fun q42 h43 =>
    asA q42 fun a44 =>
    ALC ⟨Z_impl_Room⟩ T_impl_Room (fun g45 h46 =>
    STA 47 h46 ⟨g45, 0, none⟩ a44 fun h47 =>
    CALL prg f_spec_l06Silence #[.int .i64 length_1] (fun q48 h49 =>
    asA q48 fun a50 =>
    STA 2 h49 ⟨g45, 0, none⟩ a50 fun h51 =>
    ALC ⟨[]⟩ T_impl_Tap (fun g52 h53 =>
    SEMV prg (Builtin.append_ #[T_sl_impl_Tap, T_sl_impl_Tap] T_sl_impl_Tap #[.slice (some ⟨g52, 0, none⟩) 0 0, .slice taps_2b taps_2l taps_2c]) (fun q54 h55 =>
    asL q54 fun l56b l56l l56c =>
    ST1 h55 ⟨g45, 2, none⟩ (.slice l56b l56l l56c) fun h57 =>
    LDA 47 h57 ⟨g45, 0, none⟩ fun a58 =>
    STA 47 h57 t6 a58 fun h59 =>
    LDA 47 h59 t6 fun a60 =>
    Post (.tuple ⟨[.agg a60, .int .i64 (0 : Int)]⟩) h59) h53) h51) h47) h43) h))
def spec_WithTaps.g7 (fr : Frame) : Int × Option Addr × Nat × Nat × Addr × Addr × Bool × Int := ((gI (lget fr 1)), (gLb (lget fr 2)), (gLl (lget fr 2)), (gLc (lget fr 2)), (gP (lget fr 3)), (gP (lget fr 6)), (gB (lget fr 8)), (gI (lget fr 9)))
def spec_WithTaps.l7 (Post : Value → Heap → Prop) : Frame → Heap → Prop := fun fr h => GRD (shape (kds 56 [(1, .i .i64), (2, .l), (3, .p), (6, .p), (8, .b), (9, .i .i64)]) fr) (LOOP (spec_WithTaps.B7 Post) (spec_WithTaps.g7 fr) h)
def spec_WithTaps.S (x_0 : Array Value) (length_1 : Int) (taps_2b : Option Addr) (taps_2l taps_2c : Nat) (Post : Value → Heap → Prop) (h : Heap) : Prop :=
    ALC x_0 T_impl_Room (fun g1 h2 =>
    ALC ⟨Z_impl_Room⟩ T_impl_Room (fun g3 h4 =>
    CALL prg f_spec_l06Ok #[.pointer (some ⟨g1, 0, none⟩)] (fun q5 h6 =>
    asB q5 fun b7 =>
    BIF (!b7) (
    STA 47 h6 ⟨g3, 0, none⟩ (⟨[.slice none 0 0, .int .i64 (0 : Int), .slice none 0 0, .slice none 0 0, .int .i64 (0 : Int), .float .f32 0, .slice none 0 0, .int .i64 (0 : Int), .float .f32 0, .slice none 0 0, .int .i64 (0 : Int), .slice none 0 0, .int .i64 (0 : Int), .slice none 0 0, .int .i64 (0 : Int), .slice none 0 0, .int .i64 (0 : Int), .int .i64 (0 : Int), .float .f32 0, .float .f32 0, .float .f32 0, .float .f32 0, .float .f32 0, .int .i64 (0 : Int), .float .f32 0, .float .f32 0, .float .f32 0, .float .f32 0, .float .f32 0, .int .i64 (0 : Int), .float .f32 0, .float .f32 0, .float .f32 0, .float .f32 0, .float .f32 0, .int .i64 (0 : Int), .float .f32 0, .float .f32 0, .float .f32 0, .float .f32 0, .float .f32 0, .float .f32 0, .float .f32 0, .float .f32 0, .float .f32 0, .float .f32 0, .float .f32 0]⟩ : Array Value) fun h8 =>
    LDA 47 h8 ⟨g3, 0, none⟩ fun a9 =>
    Post (.tuple ⟨[.agg a9, .int .i64 (1 : Int)]⟩) h8) (
    BIF ((decide ((6 : Int) < (taps_2l : Int)))) (
    STA 47 h6 ⟨g3, 0, none⟩ (⟨[.slice none 0 0, .int .i64 (0 : Int), .slice none 0 0, .slice none 0 0, .int .i64 (0 : Int), .float .f32 0, .slice none 0 0, .int .i64 (0 : Int), .float .f32 0, .slice none 0 0, .int .i64 (0 : Int), .slice none 0 0, .int .i64 (0 : Int), .slice none 0 0, .int .i64 (0 : Int), .slice none 0 0, .int .i64 (0 : Int), .int .i64 (0 : Int), .float .f32 0, .float .f32 0, .float .f32 0, .float .f32 0, .float .f32 0, .int .i64 (0 : Int), .float .f32 0, .float .f32 0, .float .f32 0, .float .f32 0, .float .f32 0, .int .i64 (0 : Int), .float .f32 0, .float .f32 0, .float .f32 0, .float .f32 0, .float .f32 0, .int .i64 (0 : Int), .float .f32 0, .float .f32 0, .float .f32 0, .float .f32 0, .float .f32 0, .float .f32 0, .float .f32 0, .float .f32 0, .float .f32 0, .float .f32 0, .float .f32 0]⟩ : Array Value) fun h12 =>
    LDA 47 h12 ⟨g3, 0, none⟩ fun a13 =>
    Post (.tuple ⟨[.agg a13, .int .i64 (3 : Int)]⟩) h12) (
    CALL prg f_spec_l00In #[.int .i64 length_1, .int .i64 (1 : Int), .int .i64 (1024 : Int)] (fun q14 h15 =>
    asB q14 fun b16 =>
    LOOP (spec_WithTaps.B7 Post) (length_1, taps_2b, taps_2l, taps_2c, ⟨g1, 0, none⟩, ⟨g3, 0, none⟩, b16, (0 : Int)) h15) h6))) h4) h2) h
noncomputable def spec_WithTaps.code : Code := (Tryz.f14.body).getD .skip
theorem spec_WithTaps.call {x_0 : Array Value} {length_1 : Int} {taps_2b : Option Addr} {taps_2l taps_2c : Nat} {Post : Value → Heap → Prop} {h : Heap} (H : spec_WithTaps.S x_0 length_1 taps_2b taps_2l taps_2c Post h) : CALL prg f_spec_WithTaps #[.agg x_0, .int .i64 length_1, .slice taps_2b taps_2l taps_2c] Post h :=
  fn_call tau_ok mixed (c := spec_WithTaps.code) (Λ := lookL [(1000007, spec_WithTaps.l7 Post)]) Tryz.func14 (by kernel_rfl) (by kernel_rfl)
    (Rq.seq (by kernel_rfl) (Rq.free (by kernel_rfl)) (Rq.seq (by kernel_rfl) (Rq.free (by kernel_rfl)) (Rq.seq (by kernel_rfl) (Rq.free (by kernel_rfl)) (Rq.seq (by kernel_rfl) (Rq.free (by kernel_rfl)) (Rq.seq (by kernel_rfl) (Rq.seq (by kernel_rfl) (Rq.free (by kernel_rfl)) (Rq.block (Rq.loop (spec_WithTaps.l7 Post) (by kernel_rfl) (segL (g := spec_WithTaps.g7) tau_ok mixed (Λ := fun N7 => lookL [(9, spec_WithTaps.j9 N7 Post)]) (fun _ _ _ => by kernel_rfl) (fun N7 => (Rq.seqJ (spec_WithTaps.j9 N7 Post) (by kernel_rfl) (seg (fun _ _ => by kernel_rfl)) (Rq.free (by kernel_rfl))
(Rq.free (by kernel_rfl)))))))) (Rq.free (by kernel_rfl)))))))
    (Eq.mp (by kernel_rfl) H)

def impl_WithTaps_c1.S (t_0 : Array Value) (t1 : Addr) (Post : Value → Heap → Prop) (h : Heap) : Prop :=
    ALC t_0 T_impl_Tap (fun g1 h2 =>
    LDA 2 h2 ⟨g1, 0, none⟩ fun a3 =>
    oI .i64 (cell h2 t1) fun n4 =>
    CALL prg f_impl_isTap #[.agg a3, .int .i64 n4] (fun q5 h6 =>
    asB q5 fun b7 =>
    Post (.bool (!b7)) h6) h2) h
noncomputable def impl_WithTaps_c1.code : Code := (Tryz.f46.body).getD .skip
theorem impl_WithTaps_c1.call {t_0 : Array Value} {t1 : Addr} {Post : Value → Heap → Prop} {h : Heap} (H : impl_WithTaps_c1.S t_0 t1 Post h) : CALL prg f_impl_WithTaps_c1 #[.agg t_0, .pointer (some t1)] Post h :=
  fn_call tau_ok mixed (c := impl_WithTaps_c1.code) (Λ := lookL []) Tryz.func46 (by kernel_rfl) (by kernel_rfl)
    (Rq.free (by kernel_rfl))
    (Eq.mp (by kernel_rfl) H)

def impl_WithTaps.J7 (Post : Value → Heap → Prop) (taps_2b : Option Addr) (taps_2l : Nat) (taps_2c : Nat) (x_3 : Addr) (length_4 : Addr) (t6 : Addr) (h : Heap) : Prop :=
    LDA 47 h x_3 fun a28 =>
    CALL prg f_impl_Room_clone #[.agg a28] (fun q29 h30 =>
    asA q29 fun a31 =>
    STA 47 h30 x_3 a31 fun h32 =>
    oI .i64 (cell h32 length_4) fun n33 =>
    CALL prg f_impl_NewRing #[.int .i64 n33] (fun q34 h35 =>
    TUP2 q34 fun q36 q37 =>
    asA q36 fun a38 =>
    asI .i64 q37 fun n39 =>
    STA 2 h35 x_3 a38 fun h40 =>
    CALL prg f_slices_Clone_sl_impl_Tap_impl_Tap #[.slice taps_2b taps_2l taps_2c] (fun q41 h42 =>
    asL q41 fun l43b l43l l43c =>
    ST1 h42 (Addr.add x_3 2) (.slice l43b l43l l43c) fun h44 =>
    LDA 47 h44 x_3 fun a45 =>
    STA 47 h44 t6 a45 fun h46 =>
    LDA 47 h46 t6 fun a47 =>
    Post (.tuple ⟨[.agg a47, .int .i64 (0 : Int)]⟩) h46) h40) h32) h
def impl_WithTaps.j7 (Post : Value → Heap → Prop) : Frame → Heap → Prop := fun fr h => GRD (shape (kds 40 [(2, .l), (3, .p), (4, .p), (6, .p)]) fr) (impl_WithTaps.J7 Post (gLb (lget fr 2)) (gLl (lget fr 2)) (gLc (lget fr 2)) (gP (lget fr 3)) (gP (lget fr 4)) (gP (lget fr 6)) h)
def impl_WithTaps.S (x_0 : Array Value) (length_1 : Int) (taps_2b : Option Addr) (taps_2l taps_2c : Nat) (Post : Value → Heap → Prop) (h : Heap) : Prop :=
    ALC x_0 T_impl_Room (fun g1 h2 =>
    ALC #[.int .i64 length_1] T_int64 (fun g3 h4 =>
    ALC ⟨Z_impl_Room⟩ T_impl_Room (fun g5 h6 =>
    LDA 47 h6 ⟨g1, 0, none⟩ fun a7 =>
    CALL prg f_impl_ValidRoom #[.agg a7] (fun q8 h9 =>
    asB q8 fun b10 =>
    BIF (!b10) (
    STA 47 h9 ⟨g5, 0, none⟩ (⟨[.slice none 0 0, .int .i64 (0 : Int), .slice none 0 0, .slice none 0 0, .int .i64 (0 : Int), .float .f32 0, .slice none 0 0, .int .i64 (0 : Int), .float .f32 0, .slice none 0 0, .int .i64 (0 : Int), .slice none 0 0, .int .i64 (0 : Int), .slice none 0 0, .int .i64 (0 : Int), .slice none 0 0, .int .i64 (0 : Int), .int .i64 (0 : Int), .float .f32 0, .float .f32 0, .float .f32 0, .float .f32 0, .float .f32 0, .int .i64 (0 : Int), .float .f32 0, .float .f32 0, .float .f32 0, .float .f32 0, .float .f32 0, .int .i64 (0 : Int), .float .f32 0, .float .f32 0, .float .f32 0, .float .f32 0, .float .f32 0, .int .i64 (0 : Int), .float .f32 0, .float .f32 0, .float .f32 0, .float .f32 0, .float .f32 0, .float .f32 0, .float .f32 0, .float .f32 0, .float .f32 0, .float .f32 0, .float .f32 0]⟩ : Array Value) fun h11 =>
    LDA 47 h11 ⟨g5, 0, none⟩ fun a12 =>
    Post (.tuple ⟨[.agg a12, .int .i64 (1 : Int)]⟩) h11) (
    BIF ((decide ((6 : Int) < (taps_2l : Int)))) (
    STA 47 h9 ⟨g5, 0, none⟩ (⟨[.slice none 0 0, .int .i64 (0 : Int), .slice none 0 0, .slice none 0 0, .int .i64 (0 : Int), .float .f32 0, .slice none 0 0, .int .i64 (0 : Int), .float .f32 0, .slice none 0 0, .int .i64 (0 : Int), .slice none 0 0, .int .i64 (0 : Int), .slice none 0 0, .int .i64 (0 : Int), .slice none 0 0, .int .i64 (0 : Int), .int .i64 (0 : Int), .float .f32 0, .float .f32 0, .float .f32 0, .float .f32 0, .float .f32 0, .int .i64 (0 : Int), .float .f32 0, .float .f32 0, .float .f32 0, .float .f32 0, .float .f32 0, .int .i64 (0 : Int), .float .f32 0, .float .f32 0, .float .f32 0, .float .f32 0, .float .f32 0, .int .i64 (0 : Int), .float .f32 0, .float .f32 0, .float .f32 0, .float .f32 0, .float .f32 0, .float .f32 0, .float .f32 0, .float .f32 0, .float .f32 0, .float .f32 0, .float .f32 0]⟩ : Array Value) fun h15 =>
    LDA 47 h15 ⟨g5, 0, none⟩ fun a16 =>
    Post (.tuple ⟨[.agg a16, .int .i64 (3 : Int)]⟩) h15) (
    oI .i64 (cell h9 ⟨g3, 0, none⟩) fun n17 =>
    CALL prg f_impl_within #[.int .i64 n17, .int .i64 (1 : Int), .int .i64 (1024 : Int)] (fun q18 h19 =>
    asB q18 fun b20 =>
    BIF (!b20) (
    STA 47 h19 ⟨g5, 0, none⟩ (⟨[.slice none 0 0, .int .i64 (0 : Int), .slice none 0 0, .slice none 0 0, .int .i64 (0 : Int), .float .f32 0, .slice none 0 0, .int .i64 (0 : Int), .float .f32 0, .slice none 0 0, .int .i64 (0 : Int), .slice none 0 0, .int .i64 (0 : Int), .slice none 0 0, .int .i64 (0 : Int), .slice none 0 0, .int .i64 (0 : Int), .int .i64 (0 : Int), .float .f32 0, .float .f32 0, .float .f32 0, .float .f32 0, .float .f32 0, .int .i64 (0 : Int), .float .f32 0, .float .f32 0, .float .f32 0, .float .f32 0, .float .f32 0, .int .i64 (0 : Int), .float .f32 0, .float .f32 0, .float .f32 0, .float .f32 0, .float .f32 0, .int .i64 (0 : Int), .float .f32 0, .float .f32 0, .float .f32 0, .float .f32 0, .float .f32 0, .float .f32 0, .float .f32 0, .float .f32 0, .float .f32 0, .float .f32 0, .float .f32 0]⟩ : Array Value) fun h21 =>
    LDA 47 h21 ⟨g5, 0, none⟩ fun a22 =>
    Post (.tuple ⟨[.agg a22, .int .i64 (2 : Int)]⟩) h21) (
    CALL prg f_slices_ContainsFunc_sl_impl_Tap_impl_Tap #[.slice taps_2b taps_2l taps_2c, .func (.func 46) #[] #[.pointer (some ⟨g3, 0, none⟩)]] (fun q23 h24 =>
    asB q23 fun b25 =>
    BIF b25 (
    STA 47 h24 ⟨g5, 0, none⟩ (⟨[.slice none 0 0, .int .i64 (0 : Int), .slice none 0 0, .slice none 0 0, .int .i64 (0 : Int), .float .f32 0, .slice none 0 0, .int .i64 (0 : Int), .float .f32 0, .slice none 0 0, .int .i64 (0 : Int), .slice none 0 0, .int .i64 (0 : Int), .slice none 0 0, .int .i64 (0 : Int), .slice none 0 0, .int .i64 (0 : Int), .int .i64 (0 : Int), .float .f32 0, .float .f32 0, .float .f32 0, .float .f32 0, .float .f32 0, .int .i64 (0 : Int), .float .f32 0, .float .f32 0, .float .f32 0, .float .f32 0, .float .f32 0, .int .i64 (0 : Int), .float .f32 0, .float .f32 0, .float .f32 0, .float .f32 0, .float .f32 0, .int .i64 (0 : Int), .float .f32 0, .float .f32 0, .float .f32 0, .float .f32 0, .float .f32 0, .float .f32 0, .float .f32 0, .float .f32 0, .float .f32 0, .float .f32 0, .float .f32 0]⟩ : Array Value) fun h26 =>
    LDA 47 h26 ⟨g5, 0, none⟩ fun a27 =>
    Post (.tuple ⟨[.agg a27, .int .i64 (2 : Int)]⟩) h26) (
    impl_WithTaps.J7 Post taps_2b taps_2l taps_2c ⟨g1, 0, none⟩ ⟨g3, 0, none⟩ ⟨g5, 0, none⟩ h24)) h19)) h9))) h6) h4) h2) h
noncomputable def impl_WithTaps.code : Code := (Tryz.f13.body).getD .skip
theorem impl_WithTaps.call {x_0 : Array Value} {length_1 : Int} {taps_2b : Option Addr} {taps_2l taps_2c : Nat} {Post : Value → Heap → Prop} {h : Heap} (H : impl_WithTaps.S x_0 length_1 taps_2b taps_2l taps_2c Post h) : CALL prg f_impl_WithTaps #[.agg x_0, .int .i64 length_1, .slice taps_2b taps_2l taps_2c] Post h :=
  fn_call tau_ok mixed (c := impl_WithTaps.code) (Λ := lookL [(7, impl_WithTaps.j7 Post)]) Tryz.func13 (by kernel_rfl) (by kernel_rfl)
    (Rq.seq (by kernel_rfl) (Rq.free (by kernel_rfl)) (Rq.seqJ (impl_WithTaps.j7 Post) (by kernel_rfl) (seg (fun _ _ => by kernel_rfl)) (Rq.free (by kernel_rfl))
(Rq.free (by kernel_rfl))))
    (Eq.mp (by kernel_rfl) H)

end Go.Sx
