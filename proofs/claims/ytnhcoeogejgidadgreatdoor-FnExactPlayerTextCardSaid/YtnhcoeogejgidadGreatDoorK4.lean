/- What functions of this seat's program compute, told in words (a predicate over heaps for each), and the proofs that the words are no more than the code's own weakest precondition. -/
import Derived.Test.YtnhcoeogejgidadGreatDoorTab
import Derived.Test.YtnhcoeogejgidadGreatDoorLk24
namespace Go.Sx
open Go.Proofs
set_option linter.unusedVariables false
set_option maxRecDepth 100000

def spec_l02Same.B4 (Post : Value → Heap → Prop) (N4 : (Addr × Addr × Int) → Heap → Prop) : Addr × Addr × Int → Heap → Prop
  | (f_0, g_1, i_5), h =>
    BIF ((decide (i_5 < (3 : Int)))) (
    IDX i_5 3 <|
    oF .f32 (cell h ((Addr.add (Addr.add f_0 1) ((Int.toNat i_5) * 1)))) fun r3 =>
    IDX i_5 3 <|
    oF .f32 (cell h ((Addr.add (Addr.add g_1 1) ((Int.toNat i_5) * 1)))) fun r4 =>
    CALL prg f_spec_l01Same #[.float .f32 r3, .float .f32 r4] (fun q5 h6 =>
    asB q5 fun b7 =>
    BIF (!b7) (
    Post (.bool false) h6) (
    N4 (f_0, g_1, ((IntKind.i64.wrap (i_5 + (1 : Int))))) h6)) h) (
    IDX (0 : Int) 2 <|
    oF .f32 (cell h (Addr.add f_0 4)) fun r8 =>
    IDX (0 : Int) 2 <|
    oF .f32 (cell h (Addr.add g_1 4)) fun r9 =>
    CALL prg f_spec_l01Same #[.float .f32 r8, .float .f32 r9] (fun q10 h11 =>
    asB q10 fun b12 =>
    BIF b12 (
    IDX (1 : Int) 2 <|
    oF .f32 (cell h11 (Addr.add f_0 5)) fun r13 =>
    IDX (1 : Int) 2 <|
    oF .f32 (cell h11 (Addr.add g_1 5)) fun r14 =>
    CALL prg f_spec_l01Same #[.float .f32 r13, .float .f32 r14] (fun q15 h16 =>
    asB q15 fun b17 =>
    Post (.bool b17) h16) h11) (
    Post (.bool false) h11)) h)
def spec_l02Same.g4 (fr : Frame) : Addr × Addr × Int := ((gP (lget fr 0)), (gP (lget fr 1)), (gI (lget fr 5)))
def spec_l02Same.l4 (Post : Value → Heap → Prop) : Frame → Heap → Prop := fun fr h => GRD (shape (kds 57 [(0, .p), (1, .p), (5, .i .i64)]) fr) (LOOP (spec_l02Same.B4 Post) (spec_l02Same.g4 fr) h)
def spec_l02Same.S (f_0 : Addr) (g_1 : Addr) (Post : Value → Heap → Prop) (h : Heap) : Prop :=
    oI .i64 (cell h f_0) fun n1 =>
    oI .i64 (cell h g_1) fun n2 =>
    BIF (n1 != n2) (
    Post (.bool false) h) (
    LOOP (spec_l02Same.B4 Post) (f_0, g_1, (0 : Int)) h)
noncomputable def spec_l02Same.code : Code := (Tryz.f204.body).getD .skip
theorem spec_l02Same.call {f_0 : Addr} {g_1 : Addr} {Post : Value → Heap → Prop} {h : Heap} (H : spec_l02Same.S f_0 g_1 Post h) : CALL prg f_spec_l02Same #[.pointer (some f_0), .pointer (some g_1)] Post h :=
  fn_call tau_ok mixed (c := spec_l02Same.code) (Λ := lookL [(1000004, spec_l02Same.l4 Post)]) Tryz.func204 (by kernel_rfl) (by kernel_rfl)
    (Rq.seq (by kernel_rfl) (Rq.free (by kernel_rfl)) (Rq.seq (by kernel_rfl) (Rq.free (by kernel_rfl)) (Rq.seq (by kernel_rfl) (Rq.seq (by kernel_rfl) (Rq.free (by kernel_rfl)) (Rq.block (Rq.loop (spec_l02Same.l4 Post) (by kernel_rfl) (segL (g := spec_l02Same.g4) tau_ok mixed (Λ := fun N4 => lookL []) (fun _ _ _ => by kernel_rfl) (fun N4 => (Rq.free (by kernel_rfl))))))) (Rq.free (by kernel_rfl)))))
    (Eq.mp (by kernel_rfl) H)

def slices_EqualFunc_sl_float32_sl_float32_float32_float32.B4 (Post : Value → Heap → Prop) (N4 : (Option Addr × Nat × Nat × Value × Option Addr × Nat × Nat × Int × Int) → Heap → Prop) : Option Addr × Nat × Nat × Value × Option Addr × Nat × Nat × Int × Int → Heap → Prop
  | (s2_1b, s2_1l, s2_1c, eq_2, t15b, t15l, t15c, t16, t17), h =>
    BIF (decide (t17 < t16)) (
    IDXS t15b t17 t15l fun p7 =>
    oF .f32 (cell h ((Addr.add p7 ((Int.toNat t17) * 1)))) fun r8 =>
    IDXS s2_1b t17 s2_1l fun p9 =>
    oF .f32 (cell h ((Addr.add p9 ((Int.toNat t17) * 1)))) fun r10 =>
    CALLD prg eq_2 #[.float .f32 r8, .float .f32 r10] (fun q11 h12 =>
    asB q11 fun b13 =>
    BIF (!b13) (
    Post (.bool false) h12) (
    N4 (s2_1b, s2_1l, s2_1c, eq_2, t15b, t15l, t15c, t16, ((IntKind.i64.wrap (t17 + (1 : Int))))) h12)) h) (
    Post (.bool true) h)
def slices_EqualFunc_sl_float32_sl_float32_float32_float32.g4 (fr : Frame) : Option Addr × Nat × Nat × Value × Option Addr × Nat × Nat × Int × Int := ((gLb (lget fr 1)), (gLl (lget fr 1)), (gLc (lget fr 1)), (lget fr 2), (gLb (lget fr 15)), (gLl (lget fr 15)), (gLc (lget fr 15)), (gI (lget fr 16)), (gI (lget fr 17)))
def slices_EqualFunc_sl_float32_sl_float32_float32_float32.l4 (Post : Value → Heap → Prop) : Frame → Heap → Prop := fun fr h => GRD (shape (kds 32 [(1, .l), (2, .v), (15, .l), (16, .i .i64), (17, .i .i64)]) fr) (LOOP (slices_EqualFunc_sl_float32_sl_float32_float32_float32.B4 Post) (slices_EqualFunc_sl_float32_sl_float32_float32_float32.g4 fr) h)
def slices_EqualFunc_sl_float32_sl_float32_float32_float32.S (s1_0b : Option Addr) (s1_0l s1_0c : Nat) (s2_1b : Option Addr) (s2_1l s2_1c : Nat) (eq_2 : Value) (Post : Value → Heap → Prop) (h : Heap) : Prop :=
    BIF ((s1_0l : Int) != (s2_1l : Int)) (
    Post (.bool false) h) (
    LOOP (slices_EqualFunc_sl_float32_sl_float32_float32_float32.B4 Post) (s2_1b, s2_1l, s2_1c, eq_2, s1_0b, s1_0l, s1_0c, (s1_0l : Int), (0 : Int)) h)
noncomputable def slices_EqualFunc_sl_float32_sl_float32_float32_float32.code : Code := (Tryz.f288.body).getD .skip
theorem slices_EqualFunc_sl_float32_sl_float32_float32_float32.call {s1_0b : Option Addr} {s1_0l s1_0c : Nat} {s2_1b : Option Addr} {s2_1l s2_1c : Nat} {eq_2 : Value} {Post : Value → Heap → Prop} {h : Heap} (H : slices_EqualFunc_sl_float32_sl_float32_float32_float32.S s1_0b s1_0l s1_0c s2_1b s2_1l s2_1c eq_2 Post h) : CALL prg f_slices_EqualFunc_sl_float32_sl_float32_float32_float32 #[.slice s1_0b s1_0l s1_0c, .slice s2_1b s2_1l s2_1c, eq_2] Post h :=
  fn_call tau_ok mixed (c := slices_EqualFunc_sl_float32_sl_float32_float32_float32.code) (Λ := lookL [(1000004, slices_EqualFunc_sl_float32_sl_float32_float32_float32.l4 Post)]) Tryz.func288 (by kernel_rfl) (by kernel_rfl)
    (Rq.seq (by kernel_rfl) (Rq.free (by kernel_rfl)) (Rq.seq (by kernel_rfl) (Rq.free (by kernel_rfl)) (Rq.seq (by kernel_rfl) (Rq.seq (by kernel_rfl) (Rq.free (by kernel_rfl)) (Rq.block (Rq.loop (slices_EqualFunc_sl_float32_sl_float32_float32_float32.l4 Post) (by kernel_rfl) (segL (g := slices_EqualFunc_sl_float32_sl_float32_float32_float32.g4) tau_ok mixed (Λ := fun N4 => lookL []) (fun _ _ _ => by kernel_rfl) (fun N4 => (Rq.free (by kernel_rfl))))))) (Rq.free (by kernel_rfl)))))
    (Eq.mp (by kernel_rfl) H)

def impl_sameSamples.S (a_0b : Option Addr) (a_0l a_0c : Nat) (b_1b : Option Addr) (b_1l b_1c : Nat) (Post : Value → Heap → Prop) (h : Heap) : Prop :=
    CALL prg f_slices_EqualFunc_sl_float32_sl_float32_float32_float32 #[.slice a_0b a_0l a_0c, .slice b_1b b_1l b_1c, .func (.func 261) #[] #[]] (fun q1 h2 =>
    asB q1 fun b3 =>
    Post (.bool b3) h2) h
noncomputable def impl_sameSamples.code : Code := (Tryz.f263.body).getD .skip
theorem impl_sameSamples.call {a_0b : Option Addr} {a_0l a_0c : Nat} {b_1b : Option Addr} {b_1l b_1c : Nat} {Post : Value → Heap → Prop} {h : Heap} (H : impl_sameSamples.S a_0b a_0l a_0c b_1b b_1l b_1c Post h) : CALL prg f_impl_sameSamples #[.slice a_0b a_0l a_0c, .slice b_1b b_1l b_1c] Post h :=
  fn_call tau_ok mixed (c := impl_sameSamples.code) (Λ := lookL []) Tryz.func263 (by kernel_rfl) (by kernel_rfl)
    (Rq.free (by kernel_rfl))
    (Eq.mp (by kernel_rfl) H)

def impl_SameRing.S (r_0 : Array Value) (s_1 : Array Value) (Post : Value → Heap → Prop) (h : Heap) : Prop :=
    ALC r_0 T_impl_Ring (fun g1 h2 =>
    ALC s_1 T_impl_Ring (fun g3 h4 =>
    oL (cell h4 ⟨g1, 0, none⟩) fun l5b l5l l5c =>
    oL (cell h4 ⟨g3, 0, none⟩) fun l6b l6l l6c =>
    CALL prg f_impl_sameSamples #[.slice l5b l5l l5c, .slice l6b l6l l6c] (fun q7 h8 =>
    asB q7 fun b9 =>
    BIF b9 (
    oI .i64 (cell h8 ⟨g1, 1, none⟩) fun n10 =>
    oI .i64 (cell h8 ⟨g3, 1, none⟩) fun n11 =>
    Post (.bool (n10 == n11)) h8) (
    Post (.bool false) h8)) h4) h2) h
noncomputable def impl_SameRing.code : Code := (Tryz.f259.body).getD .skip
theorem impl_SameRing.call {r_0 : Array Value} {s_1 : Array Value} {Post : Value → Heap → Prop} {h : Heap} (H : impl_SameRing.S r_0 s_1 Post h) : CALL prg f_impl_SameRing #[.agg r_0, .agg s_1] Post h :=
  fn_call tau_ok mixed (c := impl_SameRing.code) (Λ := lookL []) Tryz.func259 (by kernel_rfl) (by kernel_rfl)
    (Rq.free (by kernel_rfl))
    (Eq.mp (by kernel_rfl) H)

def impl_SameFilter.S (f_0 : Array Value) (g_1 : Array Value) (Post : Value → Heap → Prop) (h : Heap) : Prop :=
    ALC f_0 T_impl_Filter (fun g1 h2 =>
    ALC g_1 T_impl_Filter (fun g3 h4 =>
    oI .i64 (cell h4 ⟨g1, 0, none⟩) fun n5 =>
    oI .i64 (cell h4 ⟨g3, 0, none⟩) fun n6 =>
    BIF (n5 == n6) (
    SLB (0 : Int) (3 : Int) (3 : Int) <|
    SLB (0 : Int) (3 : Int) (3 : Int) <|
    CALL prg f_impl_sameSamples #[.slice (some (slP ⟨g1, 1, none⟩ 3 0 1)) (3 - 0) (3 - 0), .slice (some (slP ⟨g3, 1, none⟩ 3 0 1)) (3 - 0) (3 - 0)] (fun q7 h8 =>
    asB q7 fun b9 =>
    BIF b9 (
    SLB (0 : Int) (2 : Int) (2 : Int) <|
    SLB (0 : Int) (2 : Int) (2 : Int) <|
    CALL prg f_impl_sameSamples #[.slice (some (slP ⟨g1, 4, none⟩ 2 0 1)) (2 - 0) (2 - 0), .slice (some (slP ⟨g3, 4, none⟩ 2 0 1)) (2 - 0) (2 - 0)] (fun q10 h11 =>
    asB q10 fun b12 =>
    Post (.bool b12) h11) h8) (
    Post (.bool false) h8)) h4) (
    Post (.bool false) h4)) h2) h
noncomputable def impl_SameFilter.code : Code := (Tryz.f260.body).getD .skip
theorem impl_SameFilter.call {f_0 : Array Value} {g_1 : Array Value} {Post : Value → Heap → Prop} {h : Heap} (H : impl_SameFilter.S f_0 g_1 Post h) : CALL prg f_impl_SameFilter #[.agg f_0, .agg g_1] Post h :=
  fn_call tau_ok mixed (c := impl_SameFilter.code) (Λ := lookL []) Tryz.func260 (by kernel_rfl) (by kernel_rfl)
    (Rq.free (by kernel_rfl))
    (Eq.mp (by kernel_rfl) H)

def impl_SameString.S (x_0 : Array Value) (y_1 : Array Value) (Post : Value → Heap → Prop) (h : Heap) : Prop :=
    ALC x_0 T_impl_String (fun g1 h2 =>
    ALC y_1 T_impl_String (fun g3 h4 =>
    LDA 2 h4 ⟨g1, 0, none⟩ fun a5 =>
    LDA 2 h4 ⟨g3, 0, none⟩ fun a6 =>
    CALL prg f_impl_SameRing #[.agg a5, .agg a6] (fun q7 h8 =>
    asB q7 fun b9 =>
    BIF b9 (
    LDA 6 h8 ⟨g1, 2, none⟩ fun a10 =>
    LDA 6 h8 ⟨g3, 2, none⟩ fun a11 =>
    CALL prg f_impl_SameFilter #[.agg a10, .agg a11] (fun q12 h13 =>
    asB q12 fun b14 =>
    BIF b14 (
    LDA 6 h13 ⟨g1, 8, none⟩ fun a15 =>
    LDA 6 h13 ⟨g3, 8, none⟩ fun a16 =>
    CALL prg f_impl_SameFilter #[.agg a15, .agg a16] (fun q17 h18 =>
    asB q17 fun b19 =>
    BIF b19 (
    oF .f32 (cell h18 ⟨g1, 14, none⟩) fun r20 =>
    oF .f32 (cell h18 ⟨g3, 14, none⟩) fun r21 =>
    CALL prg f_impl_SameSample #[.float .f32 r20, .float .f32 r21] (fun q22 h23 =>
    asB q22 fun b24 =>
    Post (.bool b24) h23) h18) (
    Post (.bool false) h18)) h13) (
    Post (.bool false) h13)) h8) (
    Post (.bool false) h8)) h4) h2) h
noncomputable def impl_SameString.code : Code := (Tryz.f216.body).getD .skip
theorem impl_SameString.call {x_0 : Array Value} {y_1 : Array Value} {Post : Value → Heap → Prop} {h : Heap} (H : impl_SameString.S x_0 y_1 Post h) : CALL prg f_impl_SameString #[.agg x_0, .agg y_1] Post h :=
  fn_call tau_ok mixed (c := impl_SameString.code) (Λ := lookL []) Tryz.func216 (by kernel_rfl) (by kernel_rfl)
    (Rq.free (by kernel_rfl))
    (Eq.mp (by kernel_rfl) H)

def slices_EqualFunc_sl_impl_Ring_sl_impl_Ring_impl_Ring_impl_Ring.B4 (Post : Value → Heap → Prop) (N4 : (Option Addr × Nat × Nat × Value × Option Addr × Nat × Nat × Int × Int) → Heap → Prop) : Option Addr × Nat × Nat × Value × Option Addr × Nat × Nat × Int × Int → Heap → Prop
  | (s2_1b, s2_1l, s2_1c, eq_2, t15b, t15l, t15c, t16, t17), h =>
    BIF (decide (t17 < t16)) (
    IDXS t15b t17 t15l fun p7 =>
    LDA 2 h ((Addr.add p7 ((Int.toNat t17) * 2))) fun a8 =>
    ALC ⟨Z_impl_Ring⟩ T_impl_Ring (fun g9 h10 =>
    STA 2 h10 ⟨g9, 0, none⟩ a8 fun h11 =>
    IDXS s2_1b t17 s2_1l fun p12 =>
    LDA 2 h11 ((Addr.add p12 ((Int.toNat t17) * 2))) fun a13 =>
    ALC ⟨Z_impl_Ring⟩ T_impl_Ring (fun g14 h15 =>
    STA 2 h15 ⟨g14, 0, none⟩ a13 fun h16 =>
    LDA 2 h16 ⟨g9, 0, none⟩ fun a17 =>
    LDA 2 h16 ⟨g14, 0, none⟩ fun a18 =>
    CALLD prg eq_2 #[.agg a17, .agg a18] (fun q19 h20 =>
    asB q19 fun b21 =>
    BIF (!b21) (
    Post (.bool false) h20) (
    N4 (s2_1b, s2_1l, s2_1c, eq_2, t15b, t15l, t15c, t16, ((IntKind.i64.wrap (t17 + (1 : Int))))) h20)) h16) h11) h) (
    Post (.bool true) h)
def slices_EqualFunc_sl_impl_Ring_sl_impl_Ring_impl_Ring_impl_Ring.g4 (fr : Frame) : Option Addr × Nat × Nat × Value × Option Addr × Nat × Nat × Int × Int := ((gLb (lget fr 1)), (gLl (lget fr 1)), (gLc (lget fr 1)), (lget fr 2), (gLb (lget fr 15)), (gLl (lget fr 15)), (gLc (lget fr 15)), (gI (lget fr 16)), (gI (lget fr 17)))
def slices_EqualFunc_sl_impl_Ring_sl_impl_Ring_impl_Ring_impl_Ring.l4 (Post : Value → Heap → Prop) : Frame → Heap → Prop := fun fr h => GRD (shape (kds 32 [(1, .l), (2, .v), (15, .l), (16, .i .i64), (17, .i .i64)]) fr) (LOOP (slices_EqualFunc_sl_impl_Ring_sl_impl_Ring_impl_Ring_impl_Ring.B4 Post) (slices_EqualFunc_sl_impl_Ring_sl_impl_Ring_impl_Ring_impl_Ring.g4 fr) h)
def slices_EqualFunc_sl_impl_Ring_sl_impl_Ring_impl_Ring_impl_Ring.S (s1_0b : Option Addr) (s1_0l s1_0c : Nat) (s2_1b : Option Addr) (s2_1l s2_1c : Nat) (eq_2 : Value) (Post : Value → Heap → Prop) (h : Heap) : Prop :=
    BIF ((s1_0l : Int) != (s2_1l : Int)) (
    Post (.bool false) h) (
    LOOP (slices_EqualFunc_sl_impl_Ring_sl_impl_Ring_impl_Ring_impl_Ring.B4 Post) (s2_1b, s2_1l, s2_1c, eq_2, s1_0b, s1_0l, s1_0c, (s1_0l : Int), (0 : Int)) h)
noncomputable def slices_EqualFunc_sl_impl_Ring_sl_impl_Ring_impl_Ring_impl_Ring.code : Code := (Tryz.f262.body).getD .skip
theorem slices_EqualFunc_sl_impl_Ring_sl_impl_Ring_impl_Ring_impl_Ring.call {s1_0b : Option Addr} {s1_0l s1_0c : Nat} {s2_1b : Option Addr} {s2_1l s2_1c : Nat} {eq_2 : Value} {Post : Value → Heap → Prop} {h : Heap} (H : slices_EqualFunc_sl_impl_Ring_sl_impl_Ring_impl_Ring_impl_Ring.S s1_0b s1_0l s1_0c s2_1b s2_1l s2_1c eq_2 Post h) : CALL prg f_slices_EqualFunc_sl_impl_Ring_sl_impl_Ring_impl_Ring_impl_Ring #[.slice s1_0b s1_0l s1_0c, .slice s2_1b s2_1l s2_1c, eq_2] Post h :=
  fn_call tau_ok mixed (c := slices_EqualFunc_sl_impl_Ring_sl_impl_Ring_impl_Ring_impl_Ring.code) (Λ := lookL [(1000004, slices_EqualFunc_sl_impl_Ring_sl_impl_Ring_impl_Ring_impl_Ring.l4 Post)]) Tryz.func262 (by kernel_rfl) (by kernel_rfl)
    (Rq.seq (by kernel_rfl) (Rq.free (by kernel_rfl)) (Rq.seq (by kernel_rfl) (Rq.free (by kernel_rfl)) (Rq.seq (by kernel_rfl) (Rq.seq (by kernel_rfl) (Rq.free (by kernel_rfl)) (Rq.block (Rq.loop (slices_EqualFunc_sl_impl_Ring_sl_impl_Ring_impl_Ring_impl_Ring.l4 Post) (by kernel_rfl) (segL (g := slices_EqualFunc_sl_impl_Ring_sl_impl_Ring_impl_Ring_impl_Ring.g4) tau_ok mixed (Λ := fun N4 => lookL []) (fun _ _ _ => by kernel_rfl) (fun N4 => (Rq.free (by kernel_rfl))))))) (Rq.free (by kernel_rfl)))))
    (Eq.mp (by kernel_rfl) H)

def impl_SamePipe.J2 (Post : Value → Heap → Prop) (x_2 : Addr) (y_3 : Addr) (rings_5 : Bool) (h : Heap) : Prop :=
    BIF rings_5 (
    oL (cell h (Addr.add x_2 2)) fun l15b l15l l15c =>
    oL (cell h (Addr.add y_3 2)) fun l16b l16l l16c =>
    CALL prg f_impl_sameSamples #[.slice l15b l15l l15c, .slice l16b l16l l16c] (fun q17 h18 =>
    asB q17 fun b19 =>
    BIF b19 (
    LDA 6 h18 (Addr.add x_2 3) fun a20 =>
    LDA 6 h18 (Addr.add y_3 3) fun a21 =>
    CALL prg f_impl_SameFilter #[.agg a20, .agg a21] (fun q22 h23 =>
    asB q22 fun b24 =>
    BIF b24 (
    oB (cell h23 (Addr.add x_2 9)) fun b25 =>
    oB (cell h23 (Addr.add y_3 9)) fun b26 =>
    BIF (b25 == b26) (
    oF .f32 (cell h23 (Addr.add x_2 10)) fun r27 =>
    oF .f32 (cell h23 (Addr.add y_3 10)) fun r28 =>
    CALL prg f_impl_SameSample #[.float .f32 r27, .float .f32 r28] (fun q29 h30 =>
    asB q29 fun b31 =>
    BIF b31 (
    oF .f32 (cell h30 (Addr.add x_2 11)) fun r32 =>
    oF .f32 (cell h30 (Addr.add y_3 11)) fun r33 =>
    CALL prg f_impl_SameSample #[.float .f32 r32, .float .f32 r33] (fun q34 h35 =>
    asB q34 fun b36 =>
    BIF b36 (
    oF .f32 (cell h35 (Addr.add x_2 12)) fun r37 =>
    oF .f32 (cell h35 (Addr.add y_3 12)) fun r38 =>
    CALL prg f_impl_SameSample #[.float .f32 r37, .float .f32 r38] (fun q39 h40 =>
    asB q39 fun b41 =>
    Post (.bool b41) h40) h35) (
    Post (.bool false) h35)) h30) (
    Post (.bool false) h30)) h23) (
    Post (.bool false) h23)) (
    Post (.bool false) h23)) h18) (
    Post (.bool false) h18)) h) (
    Post (.bool false) h)
def impl_SamePipe.j2 (Post : Value → Heap → Prop) : Frame → Heap → Prop := fun fr h => GRD (shape (kds 61 [(2, .p), (3, .p), (5, .b)]) fr) (impl_SamePipe.J2 Post (gP (lget fr 2)) (gP (lget fr 3)) (gB (lget fr 5)) h)
def impl_SamePipe.S (x_0 : Array Value) (y_1 : Array Value) (Post : Value → Heap → Prop) (h : Heap) : Prop :=
    ALC x_0 T_impl_Pipe (fun g1 h2 =>
    ALC y_1 T_impl_Pipe (fun g3 h4 =>
    oL (cell h4 ⟨g1, 0, none⟩) fun l5b l5l l5c =>
    oL (cell h4 ⟨g3, 0, none⟩) fun l6b l6l l6c =>
    CALL prg f_slices_EqualFunc_sl_impl_Ring_sl_impl_Ring_impl_Ring_impl_Ring #[.slice l5b l5l l5c, .slice l6b l6l l6c, .func (.func 259) #[] #[]] (fun q7 h8 =>
    asB q7 fun b9 =>
    BIF b9 (
    oL (cell h8 ⟨g1, 1, none⟩) fun l10b l10l l10c =>
    oL (cell h8 ⟨g3, 1, none⟩) fun l11b l11l l11c =>
    CALL prg f_slices_EqualFunc_sl_impl_Ring_sl_impl_Ring_impl_Ring_impl_Ring #[.slice l10b l10l l10c, .slice l11b l11l l11c, .func (.func 259) #[] #[]] (fun q12 h13 =>
    asB q12 fun b14 =>
    impl_SamePipe.J2 Post ⟨g1, 0, none⟩ ⟨g3, 0, none⟩ b14 h13) h8) (
    impl_SamePipe.J2 Post ⟨g1, 0, none⟩ ⟨g3, 0, none⟩ false h8)) h4) h2) h
noncomputable def impl_SamePipe.code : Code := (Tryz.f217.body).getD .skip
theorem impl_SamePipe.call {x_0 : Array Value} {y_1 : Array Value} {Post : Value → Heap → Prop} {h : Heap} (H : impl_SamePipe.S x_0 y_1 Post h) : CALL prg f_impl_SamePipe #[.agg x_0, .agg y_1] Post h :=
  fn_call tau_ok mixed (c := impl_SamePipe.code) (Λ := lookL [(2, impl_SamePipe.j2 Post)]) Tryz.func217 (by kernel_rfl) (by kernel_rfl)
    (Rq.seq (by kernel_rfl) (Rq.free (by kernel_rfl)) (Rq.seqJ (impl_SamePipe.j2 Post) (by kernel_rfl) (seg (fun _ _ => by kernel_rfl)) (Rq.free (by kernel_rfl))
(Rq.free (by kernel_rfl))))
    (Eq.mp (by kernel_rfl) H)

def impl_SameBow.S (x_0 : Array Value) (y_1 : Array Value) (Post : Value → Heap → Prop) (h : Heap) : Prop :=
    ALC x_0 T_impl_Bow (fun g1 h2 =>
    ALC y_1 T_impl_Bow (fun g3 h4 =>
    LDA 2 h4 ⟨g1, 0, none⟩ fun a5 =>
    LDA 2 h4 ⟨g3, 0, none⟩ fun a6 =>
    CALL prg f_impl_SameRing #[.agg a5, .agg a6] (fun q7 h8 =>
    asB q7 fun b9 =>
    BIF b9 (
    LDA 2 h8 ⟨g1, 2, none⟩ fun a10 =>
    LDA 2 h8 ⟨g3, 2, none⟩ fun a11 =>
    CALL prg f_impl_SameRing #[.agg a10, .agg a11] (fun q12 h13 =>
    asB q12 fun b14 =>
    BIF b14 (
    LDA 6 h13 ⟨g1, 4, none⟩ fun a15 =>
    LDA 6 h13 ⟨g3, 4, none⟩ fun a16 =>
    CALL prg f_impl_SameFilter #[.agg a15, .agg a16] (fun q17 h18 =>
    asB q17 fun b19 =>
    BIF b19 (
    oF .f32 (cell h18 ⟨g1, 10, none⟩) fun r20 =>
    oF .f32 (cell h18 ⟨g3, 10, none⟩) fun r21 =>
    CALL prg f_impl_SameSample #[.float .f32 r20, .float .f32 r21] (fun q22 h23 =>
    asB q22 fun b24 =>
    BIF b24 (
    oF .f32 (cell h23 ⟨g1, 11, none⟩) fun r25 =>
    oF .f32 (cell h23 ⟨g3, 11, none⟩) fun r26 =>
    CALL prg f_impl_SameSample #[.float .f32 r25, .float .f32 r26] (fun q27 h28 =>
    asB q27 fun b29 =>
    Post (.bool b29) h28) h23) (
    Post (.bool false) h23)) h18) (
    Post (.bool false) h18)) h13) (
    Post (.bool false) h13)) h8) (
    Post (.bool false) h8)) h4) h2) h
noncomputable def impl_SameBow.code : Code := (Tryz.f218.body).getD .skip
theorem impl_SameBow.call {x_0 : Array Value} {y_1 : Array Value} {Post : Value → Heap → Prop} {h : Heap} (H : impl_SameBow.S x_0 y_1 Post h) : CALL prg f_impl_SameBow #[.agg x_0, .agg y_1] Post h :=
  fn_call tau_ok mixed (c := impl_SameBow.code) (Λ := lookL []) Tryz.func218 (by kernel_rfl) (by kernel_rfl)
    (Rq.free (by kernel_rfl))
    (Eq.mp (by kernel_rfl) H)

end Go.Sx
/- The program's comparisons of rings, filters, tunings. -/
set_option linter.unusedVariables false
set_option linter.unusedSimpArgs false
namespace Go.Sx
open Go.Proofs
set_option maxRecDepth 100000
set_option maxHeartbeats 1000000

section
variable {h : Heap}
theorem EqualFunc_f32_c {b1 b2 : Option Addr} {l1 c1 l2 c2 : Nat} {xs ys : List Nat} (S1 : SlR (rF .f32) h b1 l1 c1 xs) (S2 : SlR (rF .f32) h b2 l2 c2 ys) :
    CALL prg f_slices_EqualFunc_sl_float32_sl_float32_float32_float32 #[.slice b1 l1 c1, .slice b2 l2 c2, .func (.func f_impl_SameSample) #[] #[]] (fun u h' => u = .bool (same xs ys) ∧ Ext h h') h := by
  have e1 := S1.len
  have e2 := S2.len
  have h2 := S1.2.1
  have h3 := S1.2.2.1
  have := maxLen_lt
  refine slices_EqualFunc_sl_float32_sl_float32_float32_float32.call (br (fun hb => ⟨by rw [same_len (by simp at hb; omega)], Ext.refl _⟩) fun hb => ?_)
  obtain rfl : l1 = l2 := by simp at hb; omega
  refine loop (fun x hh => ∃ n : Nat, x = (b2, l1, c2, .func (.func f_impl_SameSample) #[] #[], b1, l1, c1, (l1 : Int), (n : Int)) ∧ n ≤ l1 ∧ Ext h hh ∧ ∀ i, i < n → same xs[i]! ys[i]! = true) (fun x => (l1 - x.2.2.2.2.2.2.2.2).toNat) ⟨0, rfl, by omega, Ext.refl _, fun i hi => by omega⟩ ?_
  rintro x hh ⟨n, rfl, hn, X, hs⟩
  refine brd (fun hc => ?_) fun hc => ⟨by rw [same_all (by omega) fun i hi => hs i (by omega)], X⟩
  refine (S1.ext X).idx (by decide) (by omega) (by omega) fun a Ra => Ra.oF1 fun y hy => (S2.ext X).idx (by decide) (by omega) (by omega) fun a' Rb => Rb.oF1 fun z hz => goD X (show CALL prg f_impl_SameSample #[.float .f32 y, .float .f32 z] _ hh from SameSample_c hy hz _) fun h8 x8 => as_b (br (fun hb => ⟨?_, x8⟩) fun hb => ?_)
  · have hb := nt hb
    rw [same_nat] at hb
    rw [same_at hb]
  · have hb := nf hb
    rw [same_nat] at hb
    refine ⟨⟨n + 1, by rw [wrap64_succ (by omega)], by omega, x8, fun i hi => ?_⟩, by rw [wrap64_succ (by omega)]; show _ < _; simp; omega⟩
    by_cases e : i = n
    · subst e; exact hb
    · exact hs i (by omega)
theorem sameSamples_c {b1 b2 : Option Addr} {l1 c1 l2 c2 : Nat} {xs ys : List Nat} (S1 : SlR (rF .f32) h b1 l1 c1 xs) (S2 : SlR (rF .f32) h b2 l2 c2 ys) :
    CALL prg f_impl_sameSamples #[.slice b1 l1 c1, .slice b2 l2 c2] (fun u h' => u = .bool (same xs ys) ∧ Ext h h') h := impl_sameSamples.call (goX (EqualFunc_f32_c S1 S2) fun h' x => as_b ⟨rfl, x⟩)
theorem SameRing_c {ca cb : Array Value} {x y : GRing} (Ra : rRing.rd h ca.toList x) (Rb : rRing.rd h cb.toList y) : CALL prg f_impl_SameRing #[.agg ca, .agg cb] (fun u h' => u = .bool (same x y) ∧ Ext h h') h := by
  refine impl_SameRing.call (alcR Ra fun g1 h1 x1 A => alcR (rRing.ext x1 Rb) fun g2 h2 x2 B0 => ?_)
  have A0 := A.ext x2
  have X0 := x1.trans x2
  have E0 := Ext.refl h2
  have A : ∀ {hh : Heap}, Ext h2 hh → RdP rRing hh ⟨g1, 0, none⟩ x := fun e => A0.ext e
  have B : ∀ {hh : Heap}, Ext h2 hh → RdP rRing hh ⟨g2, 0, none⟩ y := fun e => B0.ext e
  (repeat' (first
    | exact (Bool.false_ne_true hb).elim
    | refine as_b ?_
    | refine pin_same ?_
    | refine RdP.oL2 (A (by assumption)) fun _ _ _ _ => ?_
    | refine RdP.oI2 (A (by assumption)) ?_
    | refine RdP.oL2 (B (by assumption)) fun _ _ _ _ => ?_
    | refine RdP.oI2 (B (by assumption)) ?_
    | refine RdP.lda1 (A (by assumption)) rfl fun _ _ => ?_
    | refine RdP.lda1 (B (by assumption)) rfl fun _ _ => ?_
    | refine goE (by assumption) (sameSamples_c (by assumption) (by assumption)) fun _ _ => ?_
    | refine brN (fun hb => ?_) (fun hb => ?_)
    | refine br (fun hb => ?_) (fun hb => ?_)
    | exact ⟨by rw [same_Ring]; simp [*], X0.trans (by assumption)⟩))
theorem SameFilter_c {ca cb : Array Value} {x y : GFilter} (Ra : rFilter.rd h ca.toList x) (Rb : rFilter.rd h cb.toList y) : CALL prg f_impl_SameFilter #[.agg ca, .agg cb] (fun u h' => u = .bool (same x y) ∧ Ext h h') h := by
  refine impl_SameFilter.call (alcR Ra fun g1 h1 x1 A => alcR (rFilter.ext x1 Rb) fun g2 h2 x2 B0 => ?_)
  have A0 := A.ext x2
  have X0 := x1.trans x2
  have E0 := Ext.refl h2
  have A : ∀ {hh : Heap}, Ext h2 hh → RdP rFilter hh ⟨g1, 0, none⟩ x := fun e => A0.ext e
  have B : ∀ {hh : Heap}, Ext h2 hh → RdP rFilter hh ⟨g2, 0, none⟩ y := fun e => B0.ext e
  have SxC : ∀ {hh : Heap}, Ext h2 hh → SlR (rF .f32) hh (some (slP ⟨g1, 1, none⟩ 3 0 1)) (3 - 0) (3 - 0) x.C := fun e => by rw [slP_zero]; exact ((A e).foc0 foc_Filter_C).arr (by decide)
  have SxS : ∀ {hh : Heap}, Ext h2 hh → SlR (rF .f32) hh (some (slP ⟨g1, 4, none⟩ 2 0 1)) (2 - 0) (2 - 0) x.S := fun e => by rw [slP_zero]; exact ((A e).foc0 foc_Filter_S).arr (by decide)
  have SyC : ∀ {hh : Heap}, Ext h2 hh → SlR (rF .f32) hh (some (slP ⟨g2, 1, none⟩ 3 0 1)) (3 - 0) (3 - 0) y.C := fun e => by rw [slP_zero]; exact ((B e).foc0 foc_Filter_C).arr (by decide)
  have SyS : ∀ {hh : Heap}, Ext h2 hh → SlR (rF .f32) hh (some (slP ⟨g2, 4, none⟩ 2 0 1)) (2 - 0) (2 - 0) y.S := fun e => by rw [slP_zero]; exact ((B e).foc0 foc_Filter_S).arr (by decide)
  (repeat' (first
    | refine slb (by decide) (by decide) (by decide) ?_
    | exact (Bool.false_ne_true hb).elim
    | refine as_b ?_
    | refine pin_same ?_
    | refine RdP.oI2 (A (by assumption)) ?_
    | refine RdP.lda2 (A (by assumption)) foc_Filter_C rfl fun _ _ => ?_
    | refine RdP.lda2 (A (by assumption)) foc_Filter_S rfl fun _ _ => ?_
    | refine RdP.oI2 (B (by assumption)) ?_
    | refine RdP.lda2 (B (by assumption)) foc_Filter_C rfl fun _ _ => ?_
    | refine RdP.lda2 (B (by assumption)) foc_Filter_S rfl fun _ _ => ?_
    | refine RdP.lda1 (A (by assumption)) rfl fun _ _ => ?_
    | refine RdP.lda1 (B (by assumption)) rfl fun _ _ => ?_
    | refine goE (by assumption) (sameSamples_c (SxC (by assumption)) (SyC (by assumption))) fun _ _ => ?_
    | refine goE (by assumption) (sameSamples_c (SxS (by assumption)) (SyS (by assumption))) fun _ _ => ?_
    | refine brN (fun hb => ?_) (fun hb => ?_)
    | refine br (fun hb => ?_) (fun hb => ?_)
    | exact ⟨by rw [same_Filter]; simp [*], X0.trans (by assumption)⟩))
theorem tells_Ring : Tells2 prg rRing (.func (.func f_impl_SameRing) #[] #[]) := fun ca cb x y h Ra Rb => by
  show CALL prg f_impl_SameRing #[.agg ca, .agg cb] _ h
  exact SameRing_c Ra Rb
theorem EqualFunc_Ring_c {b1 b2 : Option Addr} {l1 c1 l2 c2 : Nat} {xs ys : List GRing} {f : Value} (S1 : SlR rRing h b1 l1 c1 xs) (S2 : SlR rRing h b2 l2 c2 ys) (T : Tells2 prg rRing f) :
    CALL prg f_slices_EqualFunc_sl_impl_Ring_sl_impl_Ring_impl_Ring_impl_Ring #[.slice b1 l1 c1, .slice b2 l2 c2, f] (fun u h' => u = .bool (same xs ys) ∧ Ext h h') h := by
  have e1 := S1.len
  have e2 := S2.len
  have h2 := S1.2.1
  have h3 := S1.2.2.1
  have := maxLen_lt
  refine slices_EqualFunc_sl_impl_Ring_sl_impl_Ring_impl_Ring_impl_Ring.call (br (fun hb => ⟨by rw [same_len (by simp at hb; omega)], Ext.refl _⟩) fun hb => ?_)
  obtain rfl : l1 = l2 := by simp at hb; omega
  refine loop (fun x hh => ∃ n : Nat, x = (b2, l1, c2, f, b1, l1, c1, (l1 : Int), (n : Int)) ∧ n ≤ l1 ∧ Ext h hh ∧ ∀ i, i < n → same xs[i]! ys[i]! = true) (fun x => (l1 - x.2.2.2.2.2.2.2.2).toNat) ⟨0, rfl, by omega, Ext.refl _, fun i hi => by omega⟩ ?_
  rintro x hh ⟨n, rfl, hn, X, hs⟩
  refine brd (fun hc => ?_) fun hc => ⟨by rw [same_all (by omega) fun i hi => hs i (by omega)], X⟩
  refine (S1.ext X).idx (by decide) (by omega) (by omega) fun a Ra => Ra.lda1 rfl fun ca R1 => (Mem.start hh).alc fun g1 h4 x4 M => M.sta0 .here (rsz R1 rfl) (rRing.rone R1) rfl .here fun h5 M => ?_
  refine (S2.ext (X.trans M.ext)).idx (by decide) (by omega) (by omega) fun a' Rb => Rb.lda1 rfl fun cb R2 => (Mem.start h5).alc fun g2 h6 x6 N => N.sta0 .here (rsz R2 rfl) (rRing.rone R2) rfl .here fun h7 N => ?_
  have M := M.join N
  refine M.lda0 (.there .here) (rsz R1 rfl) (M.lda0 .here (rsz R2 rfl) (goD (X.trans M.ext) (T _ _ _ _ _ (rRing.ext M.ext R1) (rRing.ext (N.ext) R2)) fun h8 x8 => as_b (br (fun hb => ⟨?_, x8⟩) fun hb => ?_)))
  · rw [same_at (nt hb)]
  · refine ⟨⟨n + 1, by rw [wrap64_succ (by omega)], by omega, x8, fun i hi => ?_⟩, by rw [wrap64_succ (by omega)]; show _ < _; simp; omega⟩
    by_cases e : i = n
    · subst e; exact nf hb
    · exact hs i (by omega)
end
end Go.Sx
/- The program's comparisons of scores and voices. -/
set_option linter.unusedVariables false
set_option linter.unusedSimpArgs false
namespace Go.Sx
open Go.Proofs
set_option maxRecDepth 100000
set_option maxHeartbeats 1000000

section
variable {h : Heap}
theorem SameString_c {ca cb : Array Value} {x y : GString} (Ra : rString.rd h ca.toList x) (Rb : rString.rd h cb.toList y) : CALL prg f_impl_SameString #[.agg ca, .agg cb] (fun u h' => u = .bool (same x y) ∧ Ext h h') h := by
  refine impl_SameString.call (alcR Ra fun g1 h1 x1 A => alcR (rString.ext x1 Rb) fun g2 h2 x2 B0 => ?_)
  have A0 := A.ext x2
  have X0 := x1.trans x2
  have E0 := Ext.refl h2
  have A : ∀ {hh : Heap}, Ext h2 hh → RdP rString hh ⟨g1, 0, none⟩ x := fun e => A0.ext e
  have B : ∀ {hh : Heap}, Ext h2 hh → RdP rString hh ⟨g2, 0, none⟩ y := fun e => B0.ext e
  (repeat' (first
    | exact (Bool.false_ne_true hb).elim
    | refine as_b ?_
    | refine pin_same ?_
    | refine RdP.lda2 (A (by assumption)) foc_String_Loop rfl fun _ _ => ?_
    | refine RdP.lda2 (A (by assumption)) foc_String_Tune rfl fun _ _ => ?_
    | refine RdP.lda2 (A (by assumption)) foc_String_Damp rfl fun _ _ => ?_
    | refine RdP.oF2 (A (by assumption)) fun _ _ => ?_
    | refine RdP.lda2 (B (by assumption)) foc_String_Loop rfl fun _ _ => ?_
    | refine RdP.lda2 (B (by assumption)) foc_String_Tune rfl fun _ _ => ?_
    | refine RdP.lda2 (B (by assumption)) foc_String_Damp rfl fun _ _ => ?_
    | refine RdP.oF2 (B (by assumption)) fun _ _ => ?_
    | refine RdP.lda1 (A (by assumption)) rfl fun _ _ => ?_
    | refine RdP.lda1 (B (by assumption)) rfl fun _ _ => ?_
    | refine goE (by assumption) (SameSample_c (by assumption) (by assumption) _) fun _ _ => ?_
    | refine goE (by assumption) (SameRing_c (by assumption) (by assumption)) fun _ _ => ?_
    | refine goE (by assumption) (SameFilter_c (by assumption) (by assumption)) fun _ _ => ?_
    | refine brN (fun hb => ?_) (fun hb => ?_)
    | refine br (fun hb => ?_) (fun hb => ?_)
    | exact ⟨by rw [same_String]; simp [*], X0.trans (by assumption)⟩))
theorem SameBow_c {ca cb : Array Value} {x y : GBow} (Ra : rBow.rd h ca.toList x) (Rb : rBow.rd h cb.toList y) : CALL prg f_impl_SameBow #[.agg ca, .agg cb] (fun u h' => u = .bool (same x y) ∧ Ext h h') h := by
  refine impl_SameBow.call (alcR Ra fun g1 h1 x1 A => alcR (rBow.ext x1 Rb) fun g2 h2 x2 B0 => ?_)
  have A0 := A.ext x2
  have X0 := x1.trans x2
  have E0 := Ext.refl h2
  have A : ∀ {hh : Heap}, Ext h2 hh → RdP rBow hh ⟨g1, 0, none⟩ x := fun e => A0.ext e
  have B : ∀ {hh : Heap}, Ext h2 hh → RdP rBow hh ⟨g2, 0, none⟩ y := fun e => B0.ext e
  (repeat' (first
    | exact (Bool.false_ne_true hb).elim
    | refine as_b ?_
    | refine pin_same ?_
    | refine RdP.lda2 (A (by assumption)) foc_Bow_Neck rfl fun _ _ => ?_
    | refine RdP.lda2 (A (by assumption)) foc_Bow_Bridge rfl fun _ _ => ?_
    | refine RdP.lda2 (A (by assumption)) foc_Bow_Damp rfl fun _ _ => ?_
    | refine RdP.oF2 (A (by assumption)) fun _ _ => ?_
    | refine RdP.lda2 (B (by assumption)) foc_Bow_Neck rfl fun _ _ => ?_
    | refine RdP.lda2 (B (by assumption)) foc_Bow_Bridge rfl fun _ _ => ?_
    | refine RdP.lda2 (B (by assumption)) foc_Bow_Damp rfl fun _ _ => ?_
    | refine RdP.oF2 (B (by assumption)) fun _ _ => ?_
    | refine RdP.lda1 (A (by assumption)) rfl fun _ _ => ?_
    | refine RdP.lda1 (B (by assumption)) rfl fun _ _ => ?_
    | refine goE (by assumption) (SameSample_c (by assumption) (by assumption) _) fun _ _ => ?_
    | refine goE (by assumption) (SameRing_c (by assumption) (by assumption)) fun _ _ => ?_
    | refine goE (by assumption) (SameFilter_c (by assumption) (by assumption)) fun _ _ => ?_
    | refine brN (fun hb => ?_) (fun hb => ?_)
    | refine br (fun hb => ?_) (fun hb => ?_)
    | exact ⟨by rw [same_Bow]; simp [*], X0.trans (by assumption)⟩))
theorem SamePipe_c {ca cb : Array Value} {x y : GPipe} (Ra : rPipe.rd h ca.toList x) (Rb : rPipe.rd h cb.toList y) : CALL prg f_impl_SamePipe #[.agg ca, .agg cb] (fun u h' => u = .bool (same x y) ∧ Ext h h') h := by
  refine impl_SamePipe.call (alcR Ra fun g1 h1 x1 A => alcR (rPipe.ext x1 Rb) fun g2 h2 x2 B0 => ?_)
  have A0 := A.ext x2
  have X0 := x1.trans x2
  have E0 := Ext.refl h2
  have A : ∀ {hh : Heap}, Ext h2 hh → RdP rPipe hh ⟨g1, 0, none⟩ x := fun e => A0.ext e
  have B : ∀ {hh : Heap}, Ext h2 hh → RdP rPipe hh ⟨g2, 0, none⟩ y := fun e => B0.ext e
  (repeat' (first
    | unfold impl_SamePipe.J2
    | exact (Bool.false_ne_true hb).elim
    | refine as_b ?_
    | refine pin_same ?_
    | refine RdP.oL1 (A (by assumption)) fun _ _ _ _ => ?_
    | refine RdP.oL (A (by assumption)) fun _ _ _ _ => ?_
    | refine RdP.lda (A (by assumption)) foc_Pipe_End rfl fun _ _ => ?_
    | refine RdP.oB (A (by assumption)) ?_
    | refine RdP.oF (A (by assumption)) fun _ _ => ?_
    | refine RdP.oL1 (B (by assumption)) fun _ _ _ _ => ?_
    | refine RdP.oL (B (by assumption)) fun _ _ _ _ => ?_
    | refine RdP.lda (B (by assumption)) foc_Pipe_End rfl fun _ _ => ?_
    | refine RdP.oB (B (by assumption)) ?_
    | refine RdP.oF (B (by assumption)) fun _ _ => ?_
    | refine RdP.lda1 (A (by assumption)) rfl fun _ _ => ?_
    | refine RdP.lda1 (B (by assumption)) rfl fun _ _ => ?_
    | refine goE (by assumption) (SameSample_c (by assumption) (by assumption) _) fun _ _ => ?_
    | refine goE (by assumption) (sameSamples_c (by assumption) (by assumption)) fun _ _ => ?_
    | refine goE (by assumption) (SameFilter_c (by assumption) (by assumption)) fun _ _ => ?_
    | refine goE (by assumption) (EqualFunc_Ring_c (by assumption) (by assumption) tells_Ring) fun _ _ => ?_
    | refine brN (fun hb => ?_) (fun hb => ?_)
    | exact (Bool.false_ne_true hb).elim
    | refine as_b ?_
    | refine pin_same ?_
    | refine RdP.oL2 (A (by assumption)) fun _ _ _ _ => ?_
    | refine RdP.lda2 (A (by assumption)) foc_Pipe_End rfl fun _ _ => ?_
    | refine RdP.oB2 (A (by assumption)) ?_
    | refine RdP.oF2 (A (by assumption)) fun _ _ => ?_
    | refine RdP.oL2 (B (by assumption)) fun _ _ _ _ => ?_
    | refine RdP.lda2 (B (by assumption)) foc_Pipe_End rfl fun _ _ => ?_
    | refine RdP.oB2 (B (by assumption)) ?_
    | refine RdP.oF2 (B (by assumption)) fun _ _ => ?_
    | refine RdP.lda1 (A (by assumption)) rfl fun _ _ => ?_
    | refine RdP.lda1 (B (by assumption)) rfl fun _ _ => ?_
    | refine goE (by assumption) (SameSample_c (by assumption) (by assumption) _) fun _ _ => ?_
    | refine goE (by assumption) (sameSamples_c (by assumption) (by assumption)) fun _ _ => ?_
    | refine goE (by assumption) (SameFilter_c (by assumption) (by assumption)) fun _ _ => ?_
    | refine goE (by assumption) (EqualFunc_Ring_c (by assumption) (by assumption) tells_Ring) fun _ _ => ?_
    | refine brN (fun hb => ?_) (fun hb => ?_)
    | refine br (fun hb => ?_) (fun hb => ?_)
    | exact ⟨by rw [same_Pipe]; simp [*], X0.trans (by assumption)⟩))
end
end Go.Sx
/- The rule's comparisons of rings, filters, strings, pipes. -/
set_option linter.unusedVariables false
set_option linter.unusedSimpArgs false
namespace Go.Sx
open Go.Proofs
set_option maxRecDepth 100000
set_option maxHeartbeats 1000000

section
variable {h : Heap}
theorem l02Same_c {p q : Addr} {x y : GFilter} (A0 : RdP rFilter h p x) (B0 : RdP rFilter h q y) : CALL prg f_spec_l02Same #[.pointer (some p), .pointer (some q)] (fun u h' => u = .bool (same x y) ∧ Ext h h') h := by
  have hC := (A0.foc foc_Filter_C).len
  have hC' := (B0.foc foc_Filter_C).len
  have hS := same_S2 (A0.foc foc_Filter_S).len (B0.foc foc_Filter_S).len
  refine spec_l02Same.call (A0.oI1 (B0.oI1 (br (fun hb => ⟨by rw [same_Filter, show (x.Kind == y.Kind) = false from nt hb]; rfl, Ext.refl _⟩) fun hk => ?_)))
  have hk : (x.Kind == y.Kind) = true := nf hk
  refine loop (fun z hh => ∃ n : Nat, z = (p, q, (n : Int)) ∧ n ≤ 3 ∧ Ext h hh ∧ ∀ i, i < n → same x.C[i]! y.C[i]! = true) (fun z => (3 - z.2.2).toNat) ⟨0, rfl, by omega, Ext.refl _, fun i hi => by omega⟩ ?_
  rintro z hh ⟨n, rfl, hn, X, hs⟩
  refine brd (fun hc => ?_) fun hc => ?_
  · refine idx (by omega) (by omega) ((((A0.ext X).foc foc_Filter_C).elem (i := n) (by omega)).oF1 fun a ha => idx (by omega) (by omega) ((((B0.ext X).foc foc_Filter_C).elem (i := n) (by omega)).oF1 fun b hb => goE X (l01Same_c ha hb _) fun h8 x8 => as_b (br (fun hb => ⟨?_, x8⟩) fun hb => ?_)))
    · have hb := nt hb
      rw [same_nat] at hb
      rw [same_Filter, same_at hb, Bool.and_false, Bool.false_and]
    · have hb := nf hb
      rw [same_nat] at hb
      refine ⟨⟨n + 1, by rw [wrap64_succ (by omega)], by omega, x8, fun i hi => ?_⟩, by rw [wrap64_succ (by omega)]; show _ < _; simp; omega⟩
      by_cases e : i = n
      · subst e; exact hb
      · exact hs i (by omega)
  · have hCC : same x.C y.C = true := same_all (by omega) fun i hi => hs i (by omega)
    refine idx (by omega) (by omega) ((A0.ext X).oF fun a ha => idx (by omega) (by omega) ((B0.ext X).oF fun b hb => goE X (l01Same_c ha hb _) fun h8 x8 => as_b (br (fun hz => ?_) fun hz => ⟨?_, x8⟩)))
    · refine idx (by omega) (by omega) ((A0.ext x8).oF fun a ha => idx (by omega) (by omega) ((B0.ext x8).oF fun b hb => goE x8 (l01Same_c ha hb _) fun h9 x9 => as_b ⟨?_, x9⟩))
      rw [same_Filter, hk, hCC, hS, hz]; rfl
    · rw [same_Filter, hk, hCC, hS, hz]; rfl
end
end Go.Sx
