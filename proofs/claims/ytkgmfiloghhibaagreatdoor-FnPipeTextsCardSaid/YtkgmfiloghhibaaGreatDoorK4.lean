/- What functions of this seat's program compute, told in words (a predicate over heaps for each), and the proofs that the words are no more than the code's own weakest precondition. -/
import Derived.Test.YtkgmfiloghhibaaGreatDoorTab
namespace Go.Sx
open Go.Proofs
set_option linter.unusedVariables false
set_option maxRecDepth 100000

def spec_l02SameList.B4 (Post : Value → Heap → Prop) (N4 : (Option Addr × Nat × Nat × Option Addr × Nat × Nat × Int) → Heap → Prop) : Option Addr × Nat × Nat × Option Addr × Nat × Nat × Int → Heap → Prop
  | (a_0b, a_0l, a_0c, b_1b, b_1l, b_1c, i_5), h =>
    BIF ((decide (i_5 < (a_0l : Int)))) (
    IDXS a_0b i_5 a_0l fun p7 =>
    oF .f32 (cell h ((Addr.add p7 ((Int.toNat i_5) * 1)))) fun r8 =>
    IDXS b_1b i_5 b_1l fun p9 =>
    oF .f32 (cell h ((Addr.add p9 ((Int.toNat i_5) * 1)))) fun r10 =>
    CALL prg f_spec_l01Same #[.float .f32 r8, .float .f32 r10] (fun q11 h12 =>
    asB q11 fun b13 =>
    BIF (!b13) (
    Post (.bool false) h12) (
    N4 (a_0b, a_0l, a_0c, b_1b, b_1l, b_1c, ((IntKind.i64.wrap (i_5 + (1 : Int))))) h12)) h) (
    Post (.bool true) h)
def spec_l02SameList.g4 (fr : Frame) : Option Addr × Nat × Nat × Option Addr × Nat × Nat × Int := ((gLb (lget fr 0)), (gLl (lget fr 0)), (gLc (lget fr 0)), (gLb (lget fr 1)), (gLl (lget fr 1)), (gLc (lget fr 1)), (gI (lget fr 5)))
def spec_l02SameList.l4 (Post : Value → Heap → Prop) : Frame → Heap → Prop := fun fr h => GRD (shape (kds 27 [(0, .l), (1, .l), (5, .i .i64)]) fr) (LOOP (spec_l02SameList.B4 Post) (spec_l02SameList.g4 fr) h)
def spec_l02SameList.S (a_0b : Option Addr) (a_0l a_0c : Nat) (b_1b : Option Addr) (b_1l b_1c : Nat) (Post : Value → Heap → Prop) (h : Heap) : Prop :=
    BIF ((a_0l : Int) != (b_1l : Int)) (
    Post (.bool false) h) (
    LOOP (spec_l02SameList.B4 Post) (a_0b, a_0l, a_0c, b_1b, b_1l, b_1c, (0 : Int)) h)
noncomputable def spec_l02SameList.code : Code := (Tryz.f75.body).getD .skip
theorem spec_l02SameList.call {a_0b : Option Addr} {a_0l a_0c : Nat} {b_1b : Option Addr} {b_1l b_1c : Nat} {Post : Value → Heap → Prop} {h : Heap} (H : spec_l02SameList.S a_0b a_0l a_0c b_1b b_1l b_1c Post h) : CALL prg f_spec_l02SameList #[.slice a_0b a_0l a_0c, .slice b_1b b_1l b_1c] Post h :=
  fn_call tau_ok mixed (c := spec_l02SameList.code) (Λ := lookL [(1000004, spec_l02SameList.l4 Post)]) Tryz.func75 (by kernel_rfl) (by kernel_rfl)
    (Rq.seq (by kernel_rfl) (Rq.free (by kernel_rfl)) (Rq.seq (by kernel_rfl) (Rq.free (by kernel_rfl)) (Rq.seq (by kernel_rfl) (Rq.seq (by kernel_rfl) (Rq.free (by kernel_rfl)) (Rq.block (Rq.loop (spec_l02SameList.l4 Post) (by kernel_rfl) (segL (g := spec_l02SameList.g4) tau_ok mixed (Λ := fun N4 => lookL []) (fun _ _ _ => by kernel_rfl) (fun N4 => (Rq.free (by kernel_rfl))))))) (Rq.free (by kernel_rfl)))))
    (Eq.mp (by kernel_rfl) H)

def spec_l02Same.B4 (Post : Value → Heap → Prop) (N4 : (Addr × Addr × Int) → Heap → Prop) : Addr × Addr × Int → Heap → Prop
  | (f_0, g_1, i_5), h =>
    BIF ((decide (i_5 < (3 : Int)))) (
    IDX i_5 3 <|
    oF .f32 (cell h ((Addr.add (Addr.add f_0 1) ((Int.toNat i_5) * 1)))) fun r3 =>
    IDX i_5 3 <|
    oF .f32 (cell h ((Addr.add (Addr.add g_1 1) ((Int.toNat i_5) * 1)))) fun r4 =>
    CALL prg f_spec_l01Same #[.float .f32 r3, .float .f32 r4] (fun q5 h6 =>
    asB q5 fun b7 =>
    BIF (!b7) (
    Post (.bool false) h6) (
    N4 (f_0, g_1, ((IntKind.i64.wrap (i_5 + (1 : Int))))) h6)) h) (
    IDX (0 : Int) 2 <|
    oF .f32 (cell h (Addr.add f_0 4)) fun r8 =>
    IDX (0 : Int) 2 <|
    oF .f32 (cell h (Addr.add g_1 4)) fun r9 =>
    CALL prg f_spec_l01Same #[.float .f32 r8, .float .f32 r9] (fun q10 h11 =>
    asB q10 fun b12 =>
    BIF b12 (
    IDX (1 : Int) 2 <|
    oF .f32 (cell h11 (Addr.add f_0 5)) fun r13 =>
    IDX (1 : Int) 2 <|
    oF .f32 (cell h11 (Addr.add g_1 5)) fun r14 =>
    CALL prg f_spec_l01Same #[.float .f32 r13, .float .f32 r14] (fun q15 h16 =>
    asB q15 fun b17 =>
    Post (.bool b17) h16) h11) (
    Post (.bool false) h11)) h)
def spec_l02Same.g4 (fr : Frame) : Addr × Addr × Int := ((gP (lget fr 0)), (gP (lget fr 1)), (gI (lget fr 5)))
def spec_l02Same.l4 (Post : Value → Heap → Prop) : Frame → Heap → Prop := fun fr h => GRD (shape (kds 57 [(0, .p), (1, .p), (5, .i .i64)]) fr) (LOOP (spec_l02Same.B4 Post) (spec_l02Same.g4 fr) h)
def spec_l02Same.S (f_0 : Addr) (g_1 : Addr) (Post : Value → Heap → Prop) (h : Heap) : Prop :=
    oI .i64 (cell h f_0) fun n1 =>
    oI .i64 (cell h g_1) fun n2 =>
    BIF (n1 != n2) (
    Post (.bool false) h) (
    LOOP (spec_l02Same.B4 Post) (f_0, g_1, (0 : Int)) h)
noncomputable def spec_l02Same.code : Code := (Tryz.f120.body).getD .skip
theorem spec_l02Same.call {f_0 : Addr} {g_1 : Addr} {Post : Value → Heap → Prop} {h : Heap} (H : spec_l02Same.S f_0 g_1 Post h) : CALL prg f_spec_l02Same #[.pointer (some f_0), .pointer (some g_1)] Post h :=
  fn_call tau_ok mixed (c := spec_l02Same.code) (Λ := lookL [(1000004, spec_l02Same.l4 Post)]) Tryz.func120 (by kernel_rfl) (by kernel_rfl)
    (Rq.seq (by kernel_rfl) (Rq.free (by kernel_rfl)) (Rq.seq (by kernel_rfl) (Rq.free (by kernel_rfl)) (Rq.seq (by kernel_rfl) (Rq.seq (by kernel_rfl) (Rq.free (by kernel_rfl)) (Rq.block (Rq.loop (spec_l02Same.l4 Post) (by kernel_rfl) (segL (g := spec_l02Same.g4) tau_ok mixed (Λ := fun N4 => lookL []) (fun _ _ _ => by kernel_rfl) (fun N4 => (Rq.free (by kernel_rfl))))))) (Rq.free (by kernel_rfl)))))
    (Eq.mp (by kernel_rfl) H)

def spec_l04SameRings.B4 (Post : Value → Heap → Prop) (N4 : (Option Addr × Nat × Nat × Option Addr × Nat × Nat × Int) → Heap → Prop) : Option Addr × Nat × Nat × Option Addr × Nat × Nat × Int → Heap → Prop
  | (a_0b, a_0l, a_0c, b_1b, b_1l, b_1c, i_5), h =>
    BIF ((decide (i_5 < (a_0l : Int)))) (
    IDXS a_0b i_5 a_0l fun p7 =>
    oI .i64 (cell h ((Addr.add ((Addr.add p7 ((Int.toNat i_5) * 2))) 1))) fun n8 =>
    IDXS b_1b i_5 b_1l fun p9 =>
    oI .i64 (cell h ((Addr.add ((Addr.add p9 ((Int.toNat i_5) * 2))) 1))) fun n10 =>
    BIF (n8 != n10) (
    Post (.bool false) h) (
    IDXS a_0b i_5 a_0l fun p11 =>
    oL (cell h ((Addr.add p11 ((Int.toNat i_5) * 2)))) fun l12b l12l l12c =>
    IDXS b_1b i_5 b_1l fun p13 =>
    oL (cell h ((Addr.add p13 ((Int.toNat i_5) * 2)))) fun l14b l14l l14c =>
    CALL prg f_spec_l02SameList #[.slice l12b l12l l12c, .slice l14b l14l l14c] (fun q15 h16 =>
    asB q15 fun b17 =>
    BIF (!b17) (
    Post (.bool false) h16) (
    N4 (a_0b, a_0l, a_0c, b_1b, b_1l, b_1c, ((IntKind.i64.wrap (i_5 + (1 : Int))))) h16)) h)) (
    Post (.bool true) h)
def spec_l04SameRings.g4 (fr : Frame) : Option Addr × Nat × Nat × Option Addr × Nat × Nat × Int := ((gLb (lget fr 0)), (gLl (lget fr 0)), (gLc (lget fr 0)), (gLb (lget fr 1)), (gLl (lget fr 1)), (gLc (lget fr 1)), (gI (lget fr 5)))
def spec_l04SameRings.l4 (Post : Value → Heap → Prop) : Frame → Heap → Prop := fun fr h => GRD (shape (kds 42 [(0, .l), (1, .l), (5, .i .i64)]) fr) (LOOP (spec_l04SameRings.B4 Post) (spec_l04SameRings.g4 fr) h)
def spec_l04SameRings.S (a_0b : Option Addr) (a_0l a_0c : Nat) (b_1b : Option Addr) (b_1l b_1c : Nat) (Post : Value → Heap → Prop) (h : Heap) : Prop :=
    BIF ((a_0l : Int) != (b_1l : Int)) (
    Post (.bool false) h) (
    LOOP (spec_l04SameRings.B4 Post) (a_0b, a_0l, a_0c, b_1b, b_1l, b_1c, (0 : Int)) h)
noncomputable def spec_l04SameRings.code : Code := (Tryz.f119.body).getD .skip
theorem spec_l04SameRings.call {a_0b : Option Addr} {a_0l a_0c : Nat} {b_1b : Option Addr} {b_1l b_1c : Nat} {Post : Value → Heap → Prop} {h : Heap} (H : spec_l04SameRings.S a_0b a_0l a_0c b_1b b_1l b_1c Post h) : CALL prg f_spec_l04SameRings #[.slice a_0b a_0l a_0c, .slice b_1b b_1l b_1c] Post h :=
  fn_call tau_ok mixed (c := spec_l04SameRings.code) (Λ := lookL [(1000004, spec_l04SameRings.l4 Post)]) Tryz.func119 (by kernel_rfl) (by kernel_rfl)
    (Rq.seq (by kernel_rfl) (Rq.free (by kernel_rfl)) (Rq.seq (by kernel_rfl) (Rq.free (by kernel_rfl)) (Rq.seq (by kernel_rfl) (Rq.seq (by kernel_rfl) (Rq.free (by kernel_rfl)) (Rq.block (Rq.loop (spec_l04SameRings.l4 Post) (by kernel_rfl) (segL (g := spec_l04SameRings.g4) tau_ok mixed (Λ := fun N4 => lookL []) (fun _ _ _ => by kernel_rfl) (fun N4 => (Rq.free (by kernel_rfl))))))) (Rq.free (by kernel_rfl)))))
    (Eq.mp (by kernel_rfl) H)

def spec_l04Same.S (x_0 : Addr) (y_1 : Addr) (Post : Value → Heap → Prop) (h : Heap) : Prop :=
    oL (cell h x_0) fun l1b l1l l1c =>
    oL (cell h y_1) fun l2b l2l l2c =>
    CALL prg f_spec_l04SameRings #[.slice l1b l1l l1c, .slice l2b l2l l2c] (fun q3 h4 =>
    asB q3 fun b5 =>
    BIF b5 (
    oL (cell h4 (Addr.add x_0 1)) fun l6b l6l l6c =>
    oL (cell h4 (Addr.add y_1 1)) fun l7b l7l l7c =>
    CALL prg f_spec_l04SameRings #[.slice l6b l6l l6c, .slice l7b l7l l7c] (fun q8 h9 =>
    asB q8 fun b10 =>
    BIF b10 (
    oL (cell h9 (Addr.add x_0 2)) fun l11b l11l l11c =>
    oL (cell h9 (Addr.add y_1 2)) fun l12b l12l l12c =>
    CALL prg f_spec_l02SameList #[.slice l11b l11l l11c, .slice l12b l12l l12c] (fun q13 h14 =>
    asB q13 fun b15 =>
    BIF b15 (
    CALL prg f_spec_l02Same #[.pointer (some (Addr.add x_0 3)), .pointer (some (Addr.add y_1 3))] (fun q16 h17 =>
    asB q16 fun b18 =>
    BIF b18 (
    oB (cell h17 (Addr.add x_0 9)) fun b19 =>
    oB (cell h17 (Addr.add y_1 9)) fun b20 =>
    BIF (b19 == b20) (
    oF .f32 (cell h17 (Addr.add x_0 10)) fun r21 =>
    oF .f32 (cell h17 (Addr.add y_1 10)) fun r22 =>
    CALL prg f_spec_l01Same #[.float .f32 r21, .float .f32 r22] (fun q23 h24 =>
    asB q23 fun b25 =>
    BIF b25 (
    oF .f32 (cell h24 (Addr.add x_0 11)) fun r26 =>
    oF .f32 (cell h24 (Addr.add y_1 11)) fun r27 =>
    CALL prg f_spec_l01Same #[.float .f32 r26, .float .f32 r27] (fun q28 h29 =>
    asB q28 fun b30 =>
    BIF b30 (
    oF .f32 (cell h29 (Addr.add x_0 12)) fun r31 =>
    oF .f32 (cell h29 (Addr.add y_1 12)) fun r32 =>
    CALL prg f_spec_l01Same #[.float .f32 r31, .float .f32 r32] (fun q33 h34 =>
    asB q33 fun b35 =>
    Post (.bool b35) h34) h29) (
    Post (.bool false) h29)) h24) (
    Post (.bool false) h24)) h17) (
    Post (.bool false) h17)) (
    Post (.bool false) h17)) h14) (
    Post (.bool false) h14)) h9) (
    Post (.bool false) h9)) h4) (
    Post (.bool false) h4)) h
noncomputable def spec_l04Same.code : Code := (Tryz.f57.body).getD .skip
theorem spec_l04Same.call {x_0 : Addr} {y_1 : Addr} {Post : Value → Heap → Prop} {h : Heap} (H : spec_l04Same.S x_0 y_1 Post h) : CALL prg f_spec_l04Same #[.pointer (some x_0), .pointer (some y_1)] Post h :=
  fn_call tau_ok mixed (c := spec_l04Same.code) (Λ := lookL []) Tryz.func57 (by kernel_rfl) (by kernel_rfl)
    (Rq.free (by kernel_rfl))
    (Eq.mp (by kernel_rfl) H)

def slices_EqualFunc_sl_float32_sl_float32_float32_float32.B4 (Post : Value → Heap → Prop) (N4 : (Option Addr × Nat × Nat × Value × Option Addr × Nat × Nat × Int × Int) → Heap → Prop) : Option Addr × Nat × Nat × Value × Option Addr × Nat × Nat × Int × Int → Heap → Prop
  | (s2_1b, s2_1l, s2_1c, eq_2, t15b, t15l, t15c, t16, t17), h =>
    BIF (decide (t17 < t16)) (
    IDXS t15b t17 t15l fun p7 =>
    oF .f32 (cell h ((Addr.add p7 ((Int.toNat t17) * 1)))) fun r8 =>
    IDXS s2_1b t17 s2_1l fun p9 =>
    oF .f32 (cell h ((Addr.add p9 ((Int.toNat t17) * 1)))) fun r10 =>
    CALLD prg eq_2 #[.float .f32 r8, .float .f32 r10] (fun q11 h12 =>
    asB q11 fun b13 =>
    BIF (!b13) (
    Post (.bool false) h12) (
    N4 (s2_1b, s2_1l, s2_1c, eq_2, t15b, t15l, t15c, t16, ((IntKind.i64.wrap (t17 + (1 : Int))))) h12)) h) (
    Post (.bool true) h)
def slices_EqualFunc_sl_float32_sl_float32_float32_float32.g4 (fr : Frame) : Option Addr × Nat × Nat × Value × Option Addr × Nat × Nat × Int × Int := ((gLb (lget fr 1)), (gLl (lget fr 1)), (gLc (lget fr 1)), (lget fr 2), (gLb (lget fr 15)), (gLl (lget fr 15)), (gLc (lget fr 15)), (gI (lget fr 16)), (gI (lget fr 17)))
def slices_EqualFunc_sl_float32_sl_float32_float32_float32.l4 (Post : Value → Heap → Prop) : Frame → Heap → Prop := fun fr h => GRD (shape (kds 32 [(1, .l), (2, .v), (15, .l), (16, .i .i64), (17, .i .i64)]) fr) (LOOP (slices_EqualFunc_sl_float32_sl_float32_float32_float32.B4 Post) (slices_EqualFunc_sl_float32_sl_float32_float32_float32.g4 fr) h)
def slices_EqualFunc_sl_float32_sl_float32_float32_float32.S (s1_0b : Option Addr) (s1_0l s1_0c : Nat) (s2_1b : Option Addr) (s2_1l s2_1c : Nat) (eq_2 : Value) (Post : Value → Heap → Prop) (h : Heap) : Prop :=
    BIF ((s1_0l : Int) != (s2_1l : Int)) (
    Post (.bool false) h) (
    LOOP (slices_EqualFunc_sl_float32_sl_float32_float32_float32.B4 Post) (s2_1b, s2_1l, s2_1c, eq_2, s1_0b, s1_0l, s1_0c, (s1_0l : Int), (0 : Int)) h)
noncomputable def slices_EqualFunc_sl_float32_sl_float32_float32_float32.code : Code := (Tryz.f122.body).getD .skip
theorem slices_EqualFunc_sl_float32_sl_float32_float32_float32.call {s1_0b : Option Addr} {s1_0l s1_0c : Nat} {s2_1b : Option Addr} {s2_1l s2_1c : Nat} {eq_2 : Value} {Post : Value → Heap → Prop} {h : Heap} (H : slices_EqualFunc_sl_float32_sl_float32_float32_float32.S s1_0b s1_0l s1_0c s2_1b s2_1l s2_1c eq_2 Post h) : CALL prg f_slices_EqualFunc_sl_float32_sl_float32_float32_float32 #[.slice s1_0b s1_0l s1_0c, .slice s2_1b s2_1l s2_1c, eq_2] Post h :=
  fn_call tau_ok mixed (c := slices_EqualFunc_sl_float32_sl_float32_float32_float32.code) (Λ := lookL [(1000004, slices_EqualFunc_sl_float32_sl_float32_float32_float32.l4 Post)]) Tryz.func122 (by kernel_rfl) (by kernel_rfl)
    (Rq.seq (by kernel_rfl) (Rq.free (by kernel_rfl)) (Rq.seq (by kernel_rfl) (Rq.free (by kernel_rfl)) (Rq.seq (by kernel_rfl) (Rq.seq (by kernel_rfl) (Rq.free (by kernel_rfl)) (Rq.block (Rq.loop (slices_EqualFunc_sl_float32_sl_float32_float32_float32.l4 Post) (by kernel_rfl) (segL (g := slices_EqualFunc_sl_float32_sl_float32_float32_float32.g4) tau_ok mixed (Λ := fun N4 => lookL []) (fun _ _ _ => by kernel_rfl) (fun N4 => (Rq.free (by kernel_rfl))))))) (Rq.free (by kernel_rfl)))))
    (Eq.mp (by kernel_rfl) H)

def impl_sameSamples.S (a_0b : Option Addr) (a_0l a_0c : Nat) (b_1b : Option Addr) (b_1l b_1c : Nat) (Post : Value → Heap → Prop) (h : Heap) : Prop :=
    CALL prg f_slices_EqualFunc_sl_float32_sl_float32_float32_float32 #[.slice a_0b a_0l a_0c, .slice b_1b b_1l b_1c, .func (.func 62) #[] #[]] (fun q1 h2 =>
    asB q1 fun b3 =>
    Post (.bool b3) h2) h
noncomputable def impl_sameSamples.code : Code := (Tryz.f60.body).getD .skip
theorem impl_sameSamples.call {a_0b : Option Addr} {a_0l a_0c : Nat} {b_1b : Option Addr} {b_1l b_1c : Nat} {Post : Value → Heap → Prop} {h : Heap} (H : impl_sameSamples.S a_0b a_0l a_0c b_1b b_1l b_1c Post h) : CALL prg f_impl_sameSamples #[.slice a_0b a_0l a_0c, .slice b_1b b_1l b_1c] Post h :=
  fn_call tau_ok mixed (c := impl_sameSamples.code) (Λ := lookL []) Tryz.func60 (by kernel_rfl) (by kernel_rfl)
    (Rq.free (by kernel_rfl))
    (Eq.mp (by kernel_rfl) H)

def impl_SameRing.S (r_0 : Array Value) (s_1 : Array Value) (Post : Value → Heap → Prop) (h : Heap) : Prop :=
    ALC r_0 T_impl_Ring (fun g1 h2 =>
    ALC s_1 T_impl_Ring (fun g3 h4 =>
    oL (cell h4 ⟨g1, 0, none⟩) fun l5b l5l l5c =>
    oL (cell h4 ⟨g3, 0, none⟩) fun l6b l6l l6c =>
    CALL prg f_impl_sameSamples #[.slice l5b l5l l5c, .slice l6b l6l l6c] (fun q7 h8 =>
    asB q7 fun b9 =>
    BIF b9 (
    oI .i64 (cell h8 ⟨g1, 1, none⟩) fun n10 =>
    oI .i64 (cell h8 ⟨g3, 1, none⟩) fun n11 =>
    Post (.bool (n10 == n11)) h8) (
    Post (.bool false) h8)) h4) h2) h
noncomputable def impl_SameRing.code : Code := (Tryz.f59.body).getD .skip
theorem impl_SameRing.call {r_0 : Array Value} {s_1 : Array Value} {Post : Value → Heap → Prop} {h : Heap} (H : impl_SameRing.S r_0 s_1 Post h) : CALL prg f_impl_SameRing #[.agg r_0, .agg s_1] Post h :=
  fn_call tau_ok mixed (c := impl_SameRing.code) (Λ := lookL []) Tryz.func59 (by kernel_rfl) (by kernel_rfl)
    (Rq.free (by kernel_rfl))
    (Eq.mp (by kernel_rfl) H)

def impl_SameFilter.S (f_0 : Array Value) (g_1 : Array Value) (Post : Value → Heap → Prop) (h : Heap) : Prop :=
    ALC f_0 T_impl_Filter (fun g1 h2 =>
    ALC g_1 T_impl_Filter (fun g3 h4 =>
    oI .i64 (cell h4 ⟨g1, 0, none⟩) fun n5 =>
    oI .i64 (cell h4 ⟨g3, 0, none⟩) fun n6 =>
    BIF (n5 == n6) (
    SLB (0 : Int) (3 : Int) (3 : Int) <|
    SLB (0 : Int) (3 : Int) (3 : Int) <|
    CALL prg f_impl_sameSamples #[.slice (some (slP ⟨g1, 1, none⟩ 3 0 1)) (3 - 0) (3 - 0), .slice (some (slP ⟨g3, 1, none⟩ 3 0 1)) (3 - 0) (3 - 0)] (fun q7 h8 =>
    asB q7 fun b9 =>
    BIF b9 (
    SLB (0 : Int) (2 : Int) (2 : Int) <|
    SLB (0 : Int) (2 : Int) (2 : Int) <|
    CALL prg f_impl_sameSamples #[.slice (some (slP ⟨g1, 4, none⟩ 2 0 1)) (2 - 0) (2 - 0), .slice (some (slP ⟨g3, 4, none⟩ 2 0 1)) (2 - 0) (2 - 0)] (fun q10 h11 =>
    asB q10 fun b12 =>
    Post (.bool b12) h11) h8) (
    Post (.bool false) h8)) h4) (
    Post (.bool false) h4)) h2) h
noncomputable def impl_SameFilter.code : Code := (Tryz.f61.body).getD .skip
theorem impl_SameFilter.call {f_0 : Array Value} {g_1 : Array Value} {Post : Value → Heap → Prop} {h : Heap} (H : impl_SameFilter.S f_0 g_1 Post h) : CALL prg f_impl_SameFilter #[.agg f_0, .agg g_1] Post h :=
  fn_call tau_ok mixed (c := impl_SameFilter.code) (Λ := lookL []) Tryz.func61 (by kernel_rfl) (by kernel_rfl)
    (Rq.free (by kernel_rfl))
    (Eq.mp (by kernel_rfl) H)

def slices_EqualFunc_sl_impl_Ring_sl_impl_Ring_impl_Ring_impl_Ring.B4 (Post : Value → Heap → Prop) (N4 : (Option Addr × Nat × Nat × Value × Option Addr × Nat × Nat × Int × Int) → Heap → Prop) : Option Addr × Nat × Nat × Value × Option Addr × Nat × Nat × Int × Int → Heap → Prop
  | (s2_1b, s2_1l, s2_1c, eq_2, t15b, t15l, t15c, t16, t17), h =>
    BIF (decide (t17 < t16)) (
    IDXS t15b t17 t15l fun p7 =>
    LDA 2 h ((Addr.add p7 ((Int.toNat t17) * 2))) fun a8 =>
    ALC ⟨Z_impl_Ring⟩ T_impl_Ring (fun g9 h10 =>
    STA 2 h10 ⟨g9, 0, none⟩ a8 fun h11 =>
    IDXS s2_1b t17 s2_1l fun p12 =>
    LDA 2 h11 ((Addr.add p12 ((Int.toNat t17) * 2))) fun a13 =>
    ALC ⟨Z_impl_Ring⟩ T_impl_Ring (fun g14 h15 =>
    STA 2 h15 ⟨g14, 0, none⟩ a13 fun h16 =>
    LDA 2 h16 ⟨g9, 0, none⟩ fun a17 =>
    LDA 2 h16 ⟨g14, 0, none⟩ fun a18 =>
    CALLD prg eq_2 #[.agg a17, .agg a18] (fun q19 h20 =>
    asB q19 fun b21 =>
    BIF (!b21) (
    Post (.bool false) h20) (
    N4 (s2_1b, s2_1l, s2_1c, eq_2, t15b, t15l, t15c, t16, ((IntKind.i64.wrap (t17 + (1 : Int))))) h20)) h16) h11) h) (
    Post (.bool true) h)
def slices_EqualFunc_sl_impl_Ring_sl_impl_Ring_impl_Ring_impl_Ring.g4 (fr : Frame) : Option Addr × Nat × Nat × Value × Option Addr × Nat × Nat × Int × Int := ((gLb (lget fr 1)), (gLl (lget fr 1)), (gLc (lget fr 1)), (lget fr 2), (gLb (lget fr 15)), (gLl (lget fr 15)), (gLc (lget fr 15)), (gI (lget fr 16)), (gI (lget fr 17)))
def slices_EqualFunc_sl_impl_Ring_sl_impl_Ring_impl_Ring_impl_Ring.l4 (Post : Value → Heap → Prop) : Frame → Heap → Prop := fun fr h => GRD (shape (kds 32 [(1, .l), (2, .v), (15, .l), (16, .i .i64), (17, .i .i64)]) fr) (LOOP (slices_EqualFunc_sl_impl_Ring_sl_impl_Ring_impl_Ring_impl_Ring.B4 Post) (slices_EqualFunc_sl_impl_Ring_sl_impl_Ring_impl_Ring_impl_Ring.g4 fr) h)
def slices_EqualFunc_sl_impl_Ring_sl_impl_Ring_impl_Ring_impl_Ring.S (s1_0b : Option Addr) (s1_0l s1_0c : Nat) (s2_1b : Option Addr) (s2_1l s2_1c : Nat) (eq_2 : Value) (Post : Value → Heap → Prop) (h : Heap) : Prop :=
    BIF ((s1_0l : Int) != (s2_1l : Int)) (
    Post (.bool false) h) (
    LOOP (slices_EqualFunc_sl_impl_Ring_sl_impl_Ring_impl_Ring_impl_Ring.B4 Post) (s2_1b, s2_1l, s2_1c, eq_2, s1_0b, s1_0l, s1_0c, (s1_0l : Int), (0 : Int)) h)
noncomputable def slices_EqualFunc_sl_impl_Ring_sl_impl_Ring_impl_Ring_impl_Ring.code : Code := (Tryz.f58.body).getD .skip
theorem slices_EqualFunc_sl_impl_Ring_sl_impl_Ring_impl_Ring_impl_Ring.call {s1_0b : Option Addr} {s1_0l s1_0c : Nat} {s2_1b : Option Addr} {s2_1l s2_1c : Nat} {eq_2 : Value} {Post : Value → Heap → Prop} {h : Heap} (H : slices_EqualFunc_sl_impl_Ring_sl_impl_Ring_impl_Ring_impl_Ring.S s1_0b s1_0l s1_0c s2_1b s2_1l s2_1c eq_2 Post h) : CALL prg f_slices_EqualFunc_sl_impl_Ring_sl_impl_Ring_impl_Ring_impl_Ring #[.slice s1_0b s1_0l s1_0c, .slice s2_1b s2_1l s2_1c, eq_2] Post h :=
  fn_call tau_ok mixed (c := slices_EqualFunc_sl_impl_Ring_sl_impl_Ring_impl_Ring_impl_Ring.code) (Λ := lookL [(1000004, slices_EqualFunc_sl_impl_Ring_sl_impl_Ring_impl_Ring_impl_Ring.l4 Post)]) Tryz.func58 (by kernel_rfl) (by kernel_rfl)
    (Rq.seq (by kernel_rfl) (Rq.free (by kernel_rfl)) (Rq.seq (by kernel_rfl) (Rq.free (by kernel_rfl)) (Rq.seq (by kernel_rfl) (Rq.seq (by kernel_rfl) (Rq.free (by kernel_rfl)) (Rq.block (Rq.loop (slices_EqualFunc_sl_impl_Ring_sl_impl_Ring_impl_Ring_impl_Ring.l4 Post) (by kernel_rfl) (segL (g := slices_EqualFunc_sl_impl_Ring_sl_impl_Ring_impl_Ring_impl_Ring.g4) tau_ok mixed (Λ := fun N4 => lookL []) (fun _ _ _ => by kernel_rfl) (fun N4 => (Rq.free (by kernel_rfl))))))) (Rq.free (by kernel_rfl)))))
    (Eq.mp (by kernel_rfl) H)

def impl_SamePipe.J2 (Post : Value → Heap → Prop) (x_2 : Addr) (y_3 : Addr) (rings_5 : Bool) (h : Heap) : Prop :=
    BIF rings_5 (
    oL (cell h (Addr.add x_2 2)) fun l15b l15l l15c =>
    oL (cell h (Addr.add y_3 2)) fun l16b l16l l16c =>
    CALL prg f_impl_sameSamples #[.slice l15b l15l l15c, .slice l16b l16l l16c] (fun q17 h18 =>
    asB q17 fun b19 =>
    BIF b19 (
    LDA 6 h18 (Addr.add x_2 3) fun a20 =>
    LDA 6 h18 (Addr.add y_3 3) fun a21 =>
    CALL prg f_impl_SameFilter #[.agg a20, .agg a21] (fun q22 h23 =>
    asB q22 fun b24 =>
    BIF b24 (
    oB (cell h23 (Addr.add x_2 9)) fun b25 =>
    oB (cell h23 (Addr.add y_3 9)) fun b26 =>
    BIF (b25 == b26) (
    oF .f32 (cell h23 (Addr.add x_2 10)) fun r27 =>
    oF .f32 (cell h23 (Addr.add y_3 10)) fun r28 =>
    CALL prg f_impl_SameSample #[.float .f32 r27, .float .f32 r28] (fun q29 h30 =>
    asB q29 fun b31 =>
    BIF b31 (
    oF .f32 (cell h30 (Addr.add x_2 11)) fun r32 =>
    oF .f32 (cell h30 (Addr.add y_3 11)) fun r33 =>
    CALL prg f_impl_SameSample #[.float .f32 r32, .float .f32 r33] (fun q34 h35 =>
    asB q34 fun b36 =>
    BIF b36 (
    oF .f32 (cell h35 (Addr.add x_2 12)) fun r37 =>
    oF .f32 (cell h35 (Addr.add y_3 12)) fun r38 =>
    CALL prg f_impl_SameSample #[.float .f32 r37, .float .f32 r38] (fun q39 h40 =>
    asB q39 fun b41 =>
    Post (.bool b41) h40) h35) (
    Post (.bool false) h35)) h30) (
    Post (.bool false) h30)) h23) (
    Post (.bool false) h23)) (
    Post (.bool false) h23)) h18) (
    Post (.bool false) h18)) h) (
    Post (.bool false) h)
def impl_SamePipe.j2 (Post : Value → Heap → Prop) : Frame → Heap → Prop := fun fr h => GRD (shape (kds 61 [(2, .p), (3, .p), (5, .b)]) fr) (impl_SamePipe.J2 Post (gP (lget fr 2)) (gP (lget fr 3)) (gB (lget fr 5)) h)
def impl_SamePipe.S (x_0 : Array Value) (y_1 : Array Value) (Post : Value → Heap → Prop) (h : Heap) : Prop :=
    ALC x_0 T_impl_Pipe (fun g1 h2 =>
    ALC y_1 T_impl_Pipe (fun g3 h4 =>
    oL (cell h4 ⟨g1, 0, none⟩) fun l5b l5l l5c =>
    oL (cell h4 ⟨g3, 0, none⟩) fun l6b l6l l6c =>
    CALL prg f_slices_EqualFunc_sl_impl_Ring_sl_impl_Ring_impl_Ring_impl_Ring #[.slice l5b l5l l5c, .slice l6b l6l l6c, .func (.func 59) #[] #[]] (fun q7 h8 =>
    asB q7 fun b9 =>
    BIF b9 (
    oL (cell h8 ⟨g1, 1, none⟩) fun l10b l10l l10c =>
    oL (cell h8 ⟨g3, 1, none⟩) fun l11b l11l l11c =>
    CALL prg f_slices_EqualFunc_sl_impl_Ring_sl_impl_Ring_impl_Ring_impl_Ring #[.slice l10b l10l l10c, .slice l11b l11l l11c, .func (.func 59) #[] #[]] (fun q12 h13 =>
    asB q12 fun b14 =>
    impl_SamePipe.J2 Post ⟨g1, 0, none⟩ ⟨g3, 0, none⟩ b14 h13) h8) (
    impl_SamePipe.J2 Post ⟨g1, 0, none⟩ ⟨g3, 0, none⟩ false h8)) h4) h2) h
noncomputable def impl_SamePipe.code : Code := (Tryz.f15.body).getD .skip
theorem impl_SamePipe.call {x_0 : Array Value} {y_1 : Array Value} {Post : Value → Heap → Prop} {h : Heap} (H : impl_SamePipe.S x_0 y_1 Post h) : CALL prg f_impl_SamePipe #[.agg x_0, .agg y_1] Post h :=
  fn_call tau_ok mixed (c := impl_SamePipe.code) (Λ := lookL [(2, impl_SamePipe.j2 Post)]) Tryz.func15 (by kernel_rfl) (by kernel_rfl)
    (Rq.seq (by kernel_rfl) (Rq.free (by kernel_rfl)) (Rq.seqJ (impl_SamePipe.j2 Post) (by kernel_rfl) (seg (fun _ _ => by kernel_rfl)) (Rq.free (by kernel_rfl))
(Rq.free (by kernel_rfl))))
    (Eq.mp (by kernel_rfl) H)

end Go.Sx
