/- What functions of this seat's program compute, told in words (a predicate over heaps for each), and the proofs that the words are no more than the code's own weakest precondition. -/
import Derived.Test.YtnhcoeogejgidacGreatDoorTab
namespace Go.Sx
open Go.Proofs
set_option linter.unusedVariables false
set_option maxRecDepth 100000

def spec_l02SameList.B4 (Post : Value → Heap → Prop) (N4 : (Option Addr × Nat × Nat × Option Addr × Nat × Nat × Int) → Heap → Prop) : Option Addr × Nat × Nat × Option Addr × Nat × Nat × Int → Heap → Prop
  | (a_0b, a_0l, a_0c, b_1b, b_1l, b_1c, i_5), h =>
    BIF ((decide (i_5 < (a_0l : Int)))) (
    IDXS a_0b i_5 a_0l fun p7 =>
    oF .f32 (cell h ((Addr.add p7 ((Int.toNat i_5) * 1)))) fun r8 =>
    IDXS b_1b i_5 b_1l fun p9 =>
    oF .f32 (cell h ((Addr.add p9 ((Int.toNat i_5) * 1)))) fun r10 =>
    CALL prg f_spec_l01Same #[.float .f32 r8, .float .f32 r10] (fun q11 h12 =>
    asB q11 fun b13 =>
    BIF (!b13) (
    Post (.bool false) h12) (
    N4 (a_0b, a_0l, a_0c, b_1b, b_1l, b_1c, ((IntKind.i64.wrap (i_5 + (1 : Int))))) h12)) h) (
    Post (.bool true) h)
def spec_l02SameList.g4 (fr : Frame) : Option Addr × Nat × Nat × Option Addr × Nat × Nat × Int := ((gLb (lget fr 0)), (gLl (lget fr 0)), (gLc (lget fr 0)), (gLb (lget fr 1)), (gLl (lget fr 1)), (gLc (lget fr 1)), (gI (lget fr 5)))
def spec_l02SameList.l4 (Post : Value → Heap → Prop) : Frame → Heap → Prop := fun fr h => GRD (shape (kds 27 [(0, .l), (1, .l), (5, .i .i64)]) fr) (LOOP (spec_l02SameList.B4 Post) (spec_l02SameList.g4 fr) h)
def spec_l02SameList.S (a_0b : Option Addr) (a_0l a_0c : Nat) (b_1b : Option Addr) (b_1l b_1c : Nat) (Post : Value → Heap → Prop) (h : Heap) : Prop :=
    BIF ((a_0l : Int) != (b_1l : Int)) (
    Post (.bool false) h) (
    LOOP (spec_l02SameList.B4 Post) (a_0b, a_0l, a_0c, b_1b, b_1l, b_1c, (0 : Int)) h)
noncomputable def spec_l02SameList.code : Code := (Tryz.f90.body).getD .skip
theorem spec_l02SameList.call {a_0b : Option Addr} {a_0l a_0c : Nat} {b_1b : Option Addr} {b_1l b_1c : Nat} {Post : Value → Heap → Prop} {h : Heap} (H : spec_l02SameList.S a_0b a_0l a_0c b_1b b_1l b_1c Post h) : CALL prg f_spec_l02SameList #[.slice a_0b a_0l a_0c, .slice b_1b b_1l b_1c] Post h :=
  fn_call tau_ok mixed (c := spec_l02SameList.code) (Λ := lookL [(1000004, spec_l02SameList.l4 Post)]) Tryz.func90 (by kernel_rfl) (by kernel_rfl)
    (Rq.seq (by kernel_rfl) (Rq.free (by kernel_rfl)) (Rq.seq (by kernel_rfl) (Rq.free (by kernel_rfl)) (Rq.seq (by kernel_rfl) (Rq.seq (by kernel_rfl) (Rq.free (by kernel_rfl)) (Rq.block (Rq.loop (spec_l02SameList.l4 Post) (by kernel_rfl) (segL (g := spec_l02SameList.g4) tau_ok mixed (Λ := fun N4 => lookL []) (fun _ _ _ => by kernel_rfl) (fun N4 => (Rq.free (by kernel_rfl))))))) (Rq.free (by kernel_rfl)))))
    (Eq.mp (by kernel_rfl) H)

def spec_SameTuning.S (t_0 : Array Value) (u_1 : Array Value) (Post : Value → Heap → Prop) (h : Heap) : Prop :=
    ALC t_0 T_impl_Tuning (fun g1 h2 =>
    ALC u_1 T_impl_Tuning (fun g3 h4 =>
    oF .f32 (cell h4 ⟨g1, 0, none⟩) fun r5 =>
    oF .f32 (cell h4 ⟨g3, 0, none⟩) fun r6 =>
    CALL prg f_spec_l01Same #[.float .f32 r5, .float .f32 r6] (fun q7 h8 =>
    asB q7 fun b9 =>
    BIF b9 (
    oF .f32 (cell h8 ⟨g1, 1, none⟩) fun r10 =>
    oF .f32 (cell h8 ⟨g3, 1, none⟩) fun r11 =>
    CALL prg f_spec_l01Same #[.float .f32 r10, .float .f32 r11] (fun q12 h13 =>
    asB q12 fun b14 =>
    BIF b14 (
    oL (cell h13 ⟨g1, 2, none⟩) fun l15b l15l l15c =>
    oL (cell h13 ⟨g3, 2, none⟩) fun l16b l16l l16c =>
    CALL prg f_spec_l02SameList #[.slice l15b l15l l15c, .slice l16b l16l l16c] (fun q17 h18 =>
    asB q17 fun b19 =>
    Post (.bool b19) h18) h13) (
    Post (.bool false) h13)) h8) (
    Post (.bool false) h8)) h4) h2) h
noncomputable def spec_SameTuning.code : Code := (Tryz.f33.body).getD .skip
theorem spec_SameTuning.call {t_0 : Array Value} {u_1 : Array Value} {Post : Value → Heap → Prop} {h : Heap} (H : spec_SameTuning.S t_0 u_1 Post h) : CALL prg f_spec_SameTuning #[.agg t_0, .agg u_1] Post h :=
  fn_call tau_ok mixed (c := spec_SameTuning.code) (Λ := lookL []) Tryz.func33 (by kernel_rfl) (by kernel_rfl)
    (Rq.free (by kernel_rfl))
    (Eq.mp (by kernel_rfl) H)

def spec_l08SameInstruments.B4 (Post : Value → Heap → Prop) (N4 : (Option Addr × Nat × Nat × Option Addr × Nat × Nat × Int) → Heap → Prop) : Option Addr × Nat × Nat × Option Addr × Nat × Nat × Int → Heap → Prop
  | (a_0b, a_0l, a_0c, b_1b, b_1l, b_1c, i_5), h =>
    BIF ((decide (i_5 < (a_0l : Int)))) (
    IDXS a_0b i_5 a_0l fun p7 =>
    oS (cell h ((Addr.add p7 ((Int.toNat i_5) * 5)))) fun s8 =>
    IDXS b_1b i_5 b_1l fun p9 =>
    oS (cell h ((Addr.add p9 ((Int.toNat i_5) * 5)))) fun s10 =>
    BIF (!(ByteArray.toList s8 == ByteArray.toList s10)) (
    Post (.bool false) h) (
    IDXS a_0b i_5 a_0l fun p11 =>
    oI .i64 (cell h ((Addr.add ((Addr.add p11 ((Int.toNat i_5) * 5))) 1))) fun n12 =>
    IDXS b_1b i_5 b_1l fun p13 =>
    oI .i64 (cell h ((Addr.add ((Addr.add p13 ((Int.toNat i_5) * 5))) 1))) fun n14 =>
    BIF (n12 != n14) (
    Post (.bool false) h) (
    IDXS a_0b i_5 a_0l fun p15 =>
    oF .f32 (cell h ((Addr.add ((Addr.add p15 ((Int.toNat i_5) * 5))) 2))) fun r16 =>
    IDXS b_1b i_5 b_1l fun p17 =>
    oF .f32 (cell h ((Addr.add ((Addr.add p17 ((Int.toNat i_5) * 5))) 2))) fun r18 =>
    CALL prg f_spec_l01Same #[.float .f32 r16, .float .f32 r18] (fun q19 h20 =>
    asB q19 fun b21 =>
    BIF (!b21) (
    Post (.bool false) h20) (
    IDXS a_0b i_5 a_0l fun p22 =>
    oF .f32 (cell h20 ((Addr.add ((Addr.add p22 ((Int.toNat i_5) * 5))) 3))) fun r23 =>
    IDXS b_1b i_5 b_1l fun p24 =>
    oF .f32 (cell h20 ((Addr.add ((Addr.add p24 ((Int.toNat i_5) * 5))) 3))) fun r25 =>
    CALL prg f_spec_l01Same #[.float .f32 r23, .float .f32 r25] (fun q26 h27 =>
    asB q26 fun b28 =>
    BIF (!b28) (
    Post (.bool false) h27) (
    IDXS a_0b i_5 a_0l fun p29 =>
    oF .f32 (cell h27 ((Addr.add ((Addr.add p29 ((Int.toNat i_5) * 5))) 4))) fun r30 =>
    IDXS b_1b i_5 b_1l fun p31 =>
    oF .f32 (cell h27 ((Addr.add ((Addr.add p31 ((Int.toNat i_5) * 5))) 4))) fun r32 =>
    CALL prg f_spec_l01Same #[.float .f32 r30, .float .f32 r32] (fun q33 h34 =>
    asB q33 fun b35 =>
    BIF (!b35) (
    Post (.bool false) h34) (
    N4 (a_0b, a_0l, a_0c, b_1b, b_1l, b_1c, ((IntKind.i64.wrap (i_5 + (1 : Int))))) h34)) h27)) h20)) h))) (
    Post (.bool true) h)
def spec_l08SameInstruments.g4 (fr : Frame) : Option Addr × Nat × Nat × Option Addr × Nat × Nat × Int := ((gLb (lget fr 0)), (gLl (lget fr 0)), (gLc (lget fr 0)), (gLb (lget fr 1)), (gLl (lget fr 1)), (gLc (lget fr 1)), (gI (lget fr 5)))
def spec_l08SameInstruments.l4 (Post : Value → Heap → Prop) : Frame → Heap → Prop := fun fr h => GRD (shape (kds 83 [(0, .l), (1, .l), (5, .i .i64)]) fr) (LOOP (spec_l08SameInstruments.B4 Post) (spec_l08SameInstruments.g4 fr) h)
def spec_l08SameInstruments.S (a_0b : Option Addr) (a_0l a_0c : Nat) (b_1b : Option Addr) (b_1l b_1c : Nat) (Post : Value → Heap → Prop) (h : Heap) : Prop :=
    BIF ((a_0l : Int) != (b_1l : Int)) (
    Post (.bool false) h) (
    LOOP (spec_l08SameInstruments.B4 Post) (a_0b, a_0l, a_0c, b_1b, b_1l, b_1c, (0 : Int)) h)
noncomputable def spec_l08SameInstruments.code : Code := (Tryz.f34.body).getD .skip
theorem spec_l08SameInstruments.call {a_0b : Option Addr} {a_0l a_0c : Nat} {b_1b : Option Addr} {b_1l b_1c : Nat} {Post : Value → Heap → Prop} {h : Heap} (H : spec_l08SameInstruments.S a_0b a_0l a_0c b_1b b_1l b_1c Post h) : CALL prg f_spec_l08SameInstruments #[.slice a_0b a_0l a_0c, .slice b_1b b_1l b_1c] Post h :=
  fn_call tau_ok mixed (c := spec_l08SameInstruments.code) (Λ := lookL [(1000004, spec_l08SameInstruments.l4 Post)]) Tryz.func34 (by kernel_rfl) (by kernel_rfl)
    (Rq.seq (by kernel_rfl) (Rq.free (by kernel_rfl)) (Rq.seq (by kernel_rfl) (Rq.free (by kernel_rfl)) (Rq.seq (by kernel_rfl) (Rq.seq (by kernel_rfl) (Rq.free (by kernel_rfl)) (Rq.block (Rq.loop (spec_l08SameInstruments.l4 Post) (by kernel_rfl) (segL (g := spec_l08SameInstruments.g4) tau_ok mixed (Λ := fun N4 => lookL []) (fun _ _ _ => by kernel_rfl) (fun N4 => (Rq.free (by kernel_rfl))))))) (Rq.free (by kernel_rfl)))))
    (Eq.mp (by kernel_rfl) H)

def slices_EqualFunc_sl_float32_sl_float32_float32_float32.B4 (Post : Value → Heap → Prop) (N4 : (Option Addr × Nat × Nat × Value × Option Addr × Nat × Nat × Int × Int) → Heap → Prop) : Option Addr × Nat × Nat × Value × Option Addr × Nat × Nat × Int × Int → Heap → Prop
  | (s2_1b, s2_1l, s2_1c, eq_2, t15b, t15l, t15c, t16, t17), h =>
    BIF (decide (t17 < t16)) (
    IDXS t15b t17 t15l fun p7 =>
    oF .f32 (cell h ((Addr.add p7 ((Int.toNat t17) * 1)))) fun r8 =>
    IDXS s2_1b t17 s2_1l fun p9 =>
    oF .f32 (cell h ((Addr.add p9 ((Int.toNat t17) * 1)))) fun r10 =>
    CALLD prg eq_2 #[.float .f32 r8, .float .f32 r10] (fun q11 h12 =>
    asB q11 fun b13 =>
    BIF (!b13) (
    Post (.bool false) h12) (
    N4 (s2_1b, s2_1l, s2_1c, eq_2, t15b, t15l, t15c, t16, ((IntKind.i64.wrap (t17 + (1 : Int))))) h12)) h) (
    Post (.bool true) h)
def slices_EqualFunc_sl_float32_sl_float32_float32_float32.g4 (fr : Frame) : Option Addr × Nat × Nat × Value × Option Addr × Nat × Nat × Int × Int := ((gLb (lget fr 1)), (gLl (lget fr 1)), (gLc (lget fr 1)), (lget fr 2), (gLb (lget fr 15)), (gLl (lget fr 15)), (gLc (lget fr 15)), (gI (lget fr 16)), (gI (lget fr 17)))
def slices_EqualFunc_sl_float32_sl_float32_float32_float32.l4 (Post : Value → Heap → Prop) : Frame → Heap → Prop := fun fr h => GRD (shape (kds 32 [(1, .l), (2, .v), (15, .l), (16, .i .i64), (17, .i .i64)]) fr) (LOOP (slices_EqualFunc_sl_float32_sl_float32_float32_float32.B4 Post) (slices_EqualFunc_sl_float32_sl_float32_float32_float32.g4 fr) h)
def slices_EqualFunc_sl_float32_sl_float32_float32_float32.S (s1_0b : Option Addr) (s1_0l s1_0c : Nat) (s2_1b : Option Addr) (s2_1l s2_1c : Nat) (eq_2 : Value) (Post : Value → Heap → Prop) (h : Heap) : Prop :=
    BIF ((s1_0l : Int) != (s2_1l : Int)) (
    Post (.bool false) h) (
    LOOP (slices_EqualFunc_sl_float32_sl_float32_float32_float32.B4 Post) (s2_1b, s2_1l, s2_1c, eq_2, s1_0b, s1_0l, s1_0c, (s1_0l : Int), (0 : Int)) h)
noncomputable def slices_EqualFunc_sl_float32_sl_float32_float32_float32.code : Code := (Tryz.f238.body).getD .skip
theorem slices_EqualFunc_sl_float32_sl_float32_float32_float32.call {s1_0b : Option Addr} {s1_0l s1_0c : Nat} {s2_1b : Option Addr} {s2_1l s2_1c : Nat} {eq_2 : Value} {Post : Value → Heap → Prop} {h : Heap} (H : slices_EqualFunc_sl_float32_sl_float32_float32_float32.S s1_0b s1_0l s1_0c s2_1b s2_1l s2_1c eq_2 Post h) : CALL prg f_slices_EqualFunc_sl_float32_sl_float32_float32_float32 #[.slice s1_0b s1_0l s1_0c, .slice s2_1b s2_1l s2_1c, eq_2] Post h :=
  fn_call tau_ok mixed (c := slices_EqualFunc_sl_float32_sl_float32_float32_float32.code) (Λ := lookL [(1000004, slices_EqualFunc_sl_float32_sl_float32_float32_float32.l4 Post)]) Tryz.func238 (by kernel_rfl) (by kernel_rfl)
    (Rq.seq (by kernel_rfl) (Rq.free (by kernel_rfl)) (Rq.seq (by kernel_rfl) (Rq.free (by kernel_rfl)) (Rq.seq (by kernel_rfl) (Rq.seq (by kernel_rfl) (Rq.free (by kernel_rfl)) (Rq.block (Rq.loop (slices_EqualFunc_sl_float32_sl_float32_float32_float32.l4 Post) (by kernel_rfl) (segL (g := slices_EqualFunc_sl_float32_sl_float32_float32_float32.g4) tau_ok mixed (Λ := fun N4 => lookL []) (fun _ _ _ => by kernel_rfl) (fun N4 => (Rq.free (by kernel_rfl))))))) (Rq.free (by kernel_rfl)))))
    (Eq.mp (by kernel_rfl) H)

def impl_sameSamples.S (a_0b : Option Addr) (a_0l a_0c : Nat) (b_1b : Option Addr) (b_1l b_1c : Nat) (Post : Value → Heap → Prop) (h : Heap) : Prop :=
    CALL prg f_slices_EqualFunc_sl_float32_sl_float32_float32_float32 #[.slice a_0b a_0l a_0c, .slice b_1b b_1l b_1c, .func (.func 102) #[] #[]] (fun q1 h2 =>
    asB q1 fun b3 =>
    Post (.bool b3) h2) h
noncomputable def impl_sameSamples.code : Code := (Tryz.f165.body).getD .skip
theorem impl_sameSamples.call {a_0b : Option Addr} {a_0l a_0c : Nat} {b_1b : Option Addr} {b_1l b_1c : Nat} {Post : Value → Heap → Prop} {h : Heap} (H : impl_sameSamples.S a_0b a_0l a_0c b_1b b_1l b_1c Post h) : CALL prg f_impl_sameSamples #[.slice a_0b a_0l a_0c, .slice b_1b b_1l b_1c] Post h :=
  fn_call tau_ok mixed (c := impl_sameSamples.code) (Λ := lookL []) Tryz.func165 (by kernel_rfl) (by kernel_rfl)
    (Rq.free (by kernel_rfl))
    (Eq.mp (by kernel_rfl) H)

def impl_SameTuning.S (t_0 : Array Value) (u_1 : Array Value) (Post : Value → Heap → Prop) (h : Heap) : Prop :=
    ALC t_0 T_impl_Tuning (fun g1 h2 =>
    ALC u_1 T_impl_Tuning (fun g3 h4 =>
    oF .f32 (cell h4 ⟨g1, 0, none⟩) fun r5 =>
    oF .f32 (cell h4 ⟨g3, 0, none⟩) fun r6 =>
    CALL prg f_impl_SameSample #[.float .f32 r5, .float .f32 r6] (fun q7 h8 =>
    asB q7 fun b9 =>
    BIF b9 (
    oF .f32 (cell h8 ⟨g1, 1, none⟩) fun r10 =>
    oF .f32 (cell h8 ⟨g3, 1, none⟩) fun r11 =>
    CALL prg f_impl_SameSample #[.float .f32 r10, .float .f32 r11] (fun q12 h13 =>
    asB q12 fun b14 =>
    BIF b14 (
    oL (cell h13 ⟨g1, 2, none⟩) fun l15b l15l l15c =>
    oL (cell h13 ⟨g3, 2, none⟩) fun l16b l16l l16c =>
    CALL prg f_impl_sameSamples #[.slice l15b l15l l15c, .slice l16b l16l l16c] (fun q17 h18 =>
    asB q17 fun b19 =>
    Post (.bool b19) h18) h13) (
    Post (.bool false) h13)) h8) (
    Post (.bool false) h8)) h4) h2) h
noncomputable def impl_SameTuning.code : Code := (Tryz.f103.body).getD .skip
theorem impl_SameTuning.call {t_0 : Array Value} {u_1 : Array Value} {Post : Value → Heap → Prop} {h : Heap} (H : impl_SameTuning.S t_0 u_1 Post h) : CALL prg f_impl_SameTuning #[.agg t_0, .agg u_1] Post h :=
  fn_call tau_ok mixed (c := impl_SameTuning.code) (Λ := lookL []) Tryz.func103 (by kernel_rfl) (by kernel_rfl)
    (Rq.free (by kernel_rfl))
    (Eq.mp (by kernel_rfl) H)

def slices_EqualFunc_sl_impl_Instrument_sl_impl_Instrument_impl_Instrument_impl_Instrument.B4 (Post : Value → Heap → Prop) (N4 : (Option Addr × Nat × Nat × Value × Option Addr × Nat × Nat × Int × Int) → Heap → Prop) : Option Addr × Nat × Nat × Value × Option Addr × Nat × Nat × Int × Int → Heap → Prop
  | (s2_1b, s2_1l, s2_1c, eq_2, t15b, t15l, t15c, t16, t17), h =>
    BIF (decide (t17 < t16)) (
    IDXS t15b t17 t15l fun p7 =>
    LDA 5 h ((Addr.add p7 ((Int.toNat t17) * 5))) fun a8 =>
    ALC ⟨Z_impl_Instrument⟩ T_impl_Instrument (fun g9 h10 =>
    STA 5 h10 ⟨g9, 0, none⟩ a8 fun h11 =>
    IDXS s2_1b t17 s2_1l fun p12 =>
    LDA 5 h11 ((Addr.add p12 ((Int.toNat t17) * 5))) fun a13 =>
    ALC ⟨Z_impl_Instrument⟩ T_impl_Instrument (fun g14 h15 =>
    STA 5 h15 ⟨g14, 0, none⟩ a13 fun h16 =>
    LDA 5 h16 ⟨g9, 0, none⟩ fun a17 =>
    LDA 5 h16 ⟨g14, 0, none⟩ fun a18 =>
    CALLD prg eq_2 #[.agg a17, .agg a18] (fun q19 h20 =>
    asB q19 fun b21 =>
    BIF (!b21) (
    Post (.bool false) h20) (
    N4 (s2_1b, s2_1l, s2_1c, eq_2, t15b, t15l, t15c, t16, ((IntKind.i64.wrap (t17 + (1 : Int))))) h20)) h16) h11) h) (
    Post (.bool true) h)
def slices_EqualFunc_sl_impl_Instrument_sl_impl_Instrument_impl_Instrument_impl_Instrument.g4 (fr : Frame) : Option Addr × Nat × Nat × Value × Option Addr × Nat × Nat × Int × Int := ((gLb (lget fr 1)), (gLl (lget fr 1)), (gLc (lget fr 1)), (lget fr 2), (gLb (lget fr 15)), (gLl (lget fr 15)), (gLc (lget fr 15)), (gI (lget fr 16)), (gI (lget fr 17)))
def slices_EqualFunc_sl_impl_Instrument_sl_impl_Instrument_impl_Instrument_impl_Instrument.l4 (Post : Value → Heap → Prop) : Frame → Heap → Prop := fun fr h => GRD (shape (kds 32 [(1, .l), (2, .v), (15, .l), (16, .i .i64), (17, .i .i64)]) fr) (LOOP (slices_EqualFunc_sl_impl_Instrument_sl_impl_Instrument_impl_Instrument_impl_Instrument.B4 Post) (slices_EqualFunc_sl_impl_Instrument_sl_impl_Instrument_impl_Instrument_impl_Instrument.g4 fr) h)
def slices_EqualFunc_sl_impl_Instrument_sl_impl_Instrument_impl_Instrument_impl_Instrument.S (s1_0b : Option Addr) (s1_0l s1_0c : Nat) (s2_1b : Option Addr) (s2_1l s2_1c : Nat) (eq_2 : Value) (Post : Value → Heap → Prop) (h : Heap) : Prop :=
    BIF ((s1_0l : Int) != (s2_1l : Int)) (
    Post (.bool false) h) (
    LOOP (slices_EqualFunc_sl_impl_Instrument_sl_impl_Instrument_impl_Instrument_impl_Instrument.B4 Post) (s2_1b, s2_1l, s2_1c, eq_2, s1_0b, s1_0l, s1_0c, (s1_0l : Int), (0 : Int)) h)
noncomputable def slices_EqualFunc_sl_impl_Instrument_sl_impl_Instrument_impl_Instrument_impl_Instrument.code : Code := (Tryz.f166.body).getD .skip
theorem slices_EqualFunc_sl_impl_Instrument_sl_impl_Instrument_impl_Instrument_impl_Instrument.call {s1_0b : Option Addr} {s1_0l s1_0c : Nat} {s2_1b : Option Addr} {s2_1l s2_1c : Nat} {eq_2 : Value} {Post : Value → Heap → Prop} {h : Heap} (H : slices_EqualFunc_sl_impl_Instrument_sl_impl_Instrument_impl_Instrument_impl_Instrument.S s1_0b s1_0l s1_0c s2_1b s2_1l s2_1c eq_2 Post h) : CALL prg f_slices_EqualFunc_sl_impl_Instrument_sl_impl_Instrument_impl_Instrument_impl_Instrument #[.slice s1_0b s1_0l s1_0c, .slice s2_1b s2_1l s2_1c, eq_2] Post h :=
  fn_call tau_ok mixed (c := slices_EqualFunc_sl_impl_Instrument_sl_impl_Instrument_impl_Instrument_impl_Instrument.code) (Λ := lookL [(1000004, slices_EqualFunc_sl_impl_Instrument_sl_impl_Instrument_impl_Instrument_impl_Instrument.l4 Post)]) Tryz.func166 (by kernel_rfl) (by kernel_rfl)
    (Rq.seq (by kernel_rfl) (Rq.free (by kernel_rfl)) (Rq.seq (by kernel_rfl) (Rq.free (by kernel_rfl)) (Rq.seq (by kernel_rfl) (Rq.seq (by kernel_rfl) (Rq.free (by kernel_rfl)) (Rq.block (Rq.loop (slices_EqualFunc_sl_impl_Instrument_sl_impl_Instrument_impl_Instrument_impl_Instrument.l4 Post) (by kernel_rfl) (segL (g := slices_EqualFunc_sl_impl_Instrument_sl_impl_Instrument_impl_Instrument_impl_Instrument.g4) tau_ok mixed (Λ := fun N4 => lookL []) (fun _ _ _ => by kernel_rfl) (fun N4 => (Rq.free (by kernel_rfl))))))) (Rq.free (by kernel_rfl)))))
    (Eq.mp (by kernel_rfl) H)

def impl_sameInstruments_c1.S (x_0 : Array Value) (y_1 : Array Value) (Post : Value → Heap → Prop) (h : Heap) : Prop :=
    ALC x_0 T_impl_Instrument (fun g1 h2 =>
    ALC y_1 T_impl_Instrument (fun g3 h4 =>
    oS (cell h4 ⟨g1, 0, none⟩) fun s5 =>
    oS (cell h4 ⟨g3, 0, none⟩) fun s6 =>
    BIF (ByteArray.toList s5 == ByteArray.toList s6) (
    oI .i64 (cell h4 ⟨g1, 1, none⟩) fun n7 =>
    oI .i64 (cell h4 ⟨g3, 1, none⟩) fun n8 =>
    BIF (n7 == n8) (
    oF .f32 (cell h4 ⟨g1, 2, none⟩) fun r9 =>
    oF .f32 (cell h4 ⟨g3, 2, none⟩) fun r10 =>
    CALL prg f_impl_SameSample #[.float .f32 r9, .float .f32 r10] (fun q11 h12 =>
    asB q11 fun b13 =>
    BIF b13 (
    oF .f32 (cell h12 ⟨g1, 3, none⟩) fun r14 =>
    oF .f32 (cell h12 ⟨g3, 3, none⟩) fun r15 =>
    CALL prg f_impl_SameSample #[.float .f32 r14, .float .f32 r15] (fun q16 h17 =>
    asB q16 fun b18 =>
    BIF b18 (
    oF .f32 (cell h17 ⟨g1, 4, none⟩) fun r19 =>
    oF .f32 (cell h17 ⟨g3, 4, none⟩) fun r20 =>
    CALL prg f_impl_SameSample #[.float .f32 r19, .float .f32 r20] (fun q21 h22 =>
    asB q21 fun b23 =>
    Post (.bool b23) h22) h17) (
    Post (.bool false) h17)) h12) (
    Post (.bool false) h12)) h4) (
    Post (.bool false) h4)) (
    Post (.bool false) h4)) h2) h
noncomputable def impl_sameInstruments_c1.code : Code := (Tryz.f167.body).getD .skip
theorem impl_sameInstruments_c1.call {x_0 : Array Value} {y_1 : Array Value} {Post : Value → Heap → Prop} {h : Heap} (H : impl_sameInstruments_c1.S x_0 y_1 Post h) : CALL prg f_impl_sameInstruments_c1 #[.agg x_0, .agg y_1] Post h :=
  fn_call tau_ok mixed (c := impl_sameInstruments_c1.code) (Λ := lookL []) Tryz.func167 (by kernel_rfl) (by kernel_rfl)
    (Rq.free (by kernel_rfl))
    (Eq.mp (by kernel_rfl) H)

def impl_sameInstruments.S (a_0b : Option Addr) (a_0l a_0c : Nat) (b_1b : Option Addr) (b_1l b_1c : Nat) (Post : Value → Heap → Prop) (h : Heap) : Prop :=
    CALL prg f_slices_EqualFunc_sl_impl_Instrument_sl_impl_Instrument_impl_Instrument_impl_Instrument #[.slice a_0b a_0l a_0c, .slice b_1b b_1l b_1c, .func (.func 167) #[] #[]] (fun q1 h2 =>
    asB q1 fun b3 =>
    Post (.bool b3) h2) h
noncomputable def impl_sameInstruments.code : Code := (Tryz.f104.body).getD .skip
theorem impl_sameInstruments.call {a_0b : Option Addr} {a_0l a_0c : Nat} {b_1b : Option Addr} {b_1l b_1c : Nat} {Post : Value → Heap → Prop} {h : Heap} (H : impl_sameInstruments.S a_0b a_0l a_0c b_1b b_1l b_1c Post h) : CALL prg f_impl_sameInstruments #[.slice a_0b a_0l a_0c, .slice b_1b b_1l b_1c] Post h :=
  fn_call tau_ok mixed (c := impl_sameInstruments.code) (Λ := lookL []) Tryz.func104 (by kernel_rfl) (by kernel_rfl)
    (Rq.free (by kernel_rfl))
    (Eq.mp (by kernel_rfl) H)

def impl_sameGround.S (s_0 : Array Value) (t_1 : Array Value) (Post : Value → Heap → Prop) (h : Heap) : Prop :=
    ALC s_0 T_impl_Score (fun g1 h2 =>
    ALC t_1 T_impl_Score (fun g3 h4 =>
    oF .f32 (cell h4 ⟨g1, 0, none⟩) fun r5 =>
    oF .f32 (cell h4 ⟨g3, 0, none⟩) fun r6 =>
    CALL prg f_impl_SameSample #[.float .f32 r5, .float .f32 r6] (fun q7 h8 =>
    asB q7 fun b9 =>
    BIF b9 (
    LDA 3 h8 ⟨g1, 1, none⟩ fun a10 =>
    LDA 3 h8 ⟨g3, 1, none⟩ fun a11 =>
    CALL prg f_impl_SameTuning #[.agg a10, .agg a11] (fun q12 h13 =>
    asB q12 fun b14 =>
    BIF b14 (
    oL (cell h13 ⟨g1, 4, none⟩) fun l15b l15l l15c =>
    oL (cell h13 ⟨g3, 4, none⟩) fun l16b l16l l16c =>
    CALL prg f_impl_sameInstruments #[.slice l15b l15l l15c, .slice l16b l16l l16c] (fun q17 h18 =>
    asB q17 fun b19 =>
    Post (.bool b19) h18) h13) (
    Post (.bool false) h13)) h8) (
    Post (.bool false) h8)) h4) h2) h
noncomputable def impl_sameGround.code : Code := (Tryz.f44.body).getD .skip
theorem impl_sameGround.call {s_0 : Array Value} {t_1 : Array Value} {Post : Value → Heap → Prop} {h : Heap} (H : impl_sameGround.S s_0 t_1 Post h) : CALL prg f_impl_sameGround #[.agg s_0, .agg t_1] Post h :=
  fn_call tau_ok mixed (c := impl_sameGround.code) (Λ := lookL []) Tryz.func44 (by kernel_rfl) (by kernel_rfl)
    (Rq.free (by kernel_rfl))
    (Eq.mp (by kernel_rfl) H)

end Go.Sx
