/- What functions of this seat's program compute, told in words (a predicate over heaps for each), and the proofs that the words are no more than the code's own weakest precondition. -/
import Derived.Test.YthhepeklpgefkaaGreatDoorTab
namespace Go.Sx
open Go.Proofs
set_option linter.unusedVariables false
set_option maxRecDepth 100000

def spec_l07Key.S (key_0 : Int) (Post : Value → Heap → Prop) (h : Heap) : Prop :=
    CALL prg f_spec_l00In #[.int .i64 key_0, .int .i64 (-100 : Int), .int .i64 (100 : Int)] (fun q1 h2 =>
    asB q1 fun b3 =>
    Post (.bool b3) h2) h
noncomputable def spec_l07Key.code : Code := (Tryz.f303.body).getD .skip
theorem spec_l07Key.call {key_0 : Int} {Post : Value → Heap → Prop} {h : Heap} (H : spec_l07Key.S key_0 Post h) : CALL prg f_spec_l07Key #[.int .i64 key_0] Post h :=
  fn_call tau_ok mixed (c := spec_l07Key.code) (Λ := lookL []) Tryz.func303 (by kernel_rfl) (by kernel_rfl)
    (Rq.free (by kernel_rfl))
    (Eq.mp (by kernel_rfl) H)

def spec_l07KeyCents.J5 (Post : Value → Heap → Prop) (t_0 : Addr) (key_1 : Int) (n_5 : Int) (octave_6 : Int) (h : Heap) : Prop :=
    oF .f32 (cell h (Addr.add t_0 1)) fun r4 =>
    oL (cell h (Addr.add t_0 2)) fun l5b l5l l5c =>
    IDXS l5b ((IntKind.i64.wrap (key_1 - (IntKind.i64.wrap (octave_6 * n_5))))) l5l fun p6 =>
    oF .f32 (cell h ((Addr.add p6 ((Int.toNat ((IntKind.i64.wrap (key_1 - (IntKind.i64.wrap (octave_6 * n_5)))))) * 1)))) fun r7 =>
    FOP .f32 (FloatKind.f32.format.mul r4 (FloatKind.f32.nearest octave_6)) fun r8 =>
    PIN h ((Addr.add p6 ((Int.toNat ((IntKind.i64.wrap (key_1 - (IntKind.i64.wrap (octave_6 * n_5)))))) * 1))) 1 h <|
    PIN h (Addr.add t_0 2) 1 h <|
    FOP .f32 (FloatKind.f32.format.add r8 r7) fun r9 =>
    Post (.float .f32 r9) h
def spec_l07KeyCents.j5 (Post : Value → Heap → Prop) : Frame → Heap → Prop := fun fr h => GRD (shape (kds 40 [(0, .p), (1, .i .i64), (5, .i .i64), (6, .i .i64)]) fr) (spec_l07KeyCents.J5 Post (gP (lget fr 0)) (gI (lget fr 1)) (gI (lget fr 5)) (gI (lget fr 6)) h)
def spec_l07KeyCents.S (t_0 : Addr) (key_1 : Int) (Post : Value → Heap → Prop) (h : Heap) : Prop :=
    oL (cell h (Addr.add t_0 2)) fun l1b l1l l1c =>
    NZ (l1l : Int) <|
    NZ (l1l : Int) <|
    BIF ((decide ((Int.tmod key_1 (l1l : Int)) < (0 : Int)))) (
    spec_l07KeyCents.J5 Post t_0 key_1 (l1l : Int) ((IntKind.i64.wrap ((IntKind.i64.wrap (Int.tdiv key_1 (l1l : Int))) - (1 : Int)))) h) (
    spec_l07KeyCents.J5 Post t_0 key_1 (l1l : Int) ((IntKind.i64.wrap (Int.tdiv key_1 (l1l : Int)))) h)
noncomputable def spec_l07KeyCents.code : Code := (Tryz.f358.body).getD .skip
theorem spec_l07KeyCents.call {t_0 : Addr} {key_1 : Int} {Post : Value → Heap → Prop} {h : Heap} (H : spec_l07KeyCents.S t_0 key_1 Post h) : CALL prg f_spec_l07KeyCents #[.pointer (some t_0), .int .i64 key_1] Post h :=
  fn_call tau_ok mixed (c := spec_l07KeyCents.code) (Λ := lookL [(5, spec_l07KeyCents.j5 Post)]) Tryz.func358 (by kernel_rfl) (by kernel_rfl)
    (Rq.seq (by kernel_rfl) (Rq.free (by kernel_rfl)) (Rq.seq (by kernel_rfl) (Rq.free (by kernel_rfl)) (Rq.seq (by kernel_rfl) (Rq.free (by kernel_rfl)) (Rq.seqJ (spec_l07KeyCents.j5 Post) (by kernel_rfl) (seg (fun _ _ => by kernel_rfl)) (Rq.free (by kernel_rfl))
(Rq.free (by kernel_rfl))))))
    (Eq.mp (by kernel_rfl) H)

def math_IsNaN.S (f_0 : Nat) (Post : Value → Heap → Prop) (h : Heap) : Prop :=
    Post (.bool (FloatKind.f64.format.order f_0 f_0 != some .eq)) h
noncomputable def math_IsNaN.code : Code := (Tryz.f360.body).getD .skip
theorem math_IsNaN.call {f_0 : Nat} {Post : Value → Heap → Prop} {h : Heap} (H : math_IsNaN.S f_0 Post h) : CALL prg f_math_IsNaN #[.float .f64 f_0] Post h :=
  fn_call tau_ok mixed (c := math_IsNaN.code) (Λ := lookL []) Tryz.func360 (by kernel_rfl) (by kernel_rfl)
    (Rq.free (by kernel_rfl))
    (Eq.mp (by kernel_rfl) H)

def math_IsInf.S (f_0 : Nat) (sign_1 : Int) (Post : Value → Heap → Prop) (h : Heap) : Prop :=
    BIF (sign_1 == (0 : Int)) (
    CALL prg f_math_Abs #[.float .f64 f_0] (fun q1 h2 =>
    asF .f64 q1 fun r3 =>
    Post (.bool (FloatKind.f64.format.order r3 9218868437227405311 == some .gt)) h2) h) (
    BIF ((decide (sign_1 < (0 : Int)))) (
    Post (.bool (FloatKind.f64.format.order (Op.negFloat .f64 f_0) 9218868437227405311 == some .gt)) h) (
    Post (.bool (FloatKind.f64.format.order f_0 9218868437227405311 == some .gt)) h))
noncomputable def math_IsInf.code : Code := (Tryz.f361.body).getD .skip
theorem math_IsInf.call {f_0 : Nat} {sign_1 : Int} {Post : Value → Heap → Prop} {h : Heap} (H : math_IsInf.S f_0 sign_1 Post h) : CALL prg f_math_IsInf #[.float .f64 f_0, .int .i64 sign_1] Post h :=
  fn_call tau_ok mixed (c := math_IsInf.code) (Λ := lookL []) Tryz.func361 (by kernel_rfl) (by kernel_rfl)
    (Rq.free (by kernel_rfl))
    (Eq.mp (by kernel_rfl) H)

def math_Floor.S (x_0 : Nat) (Post : Value → Heap → Prop) (h : Heap) : Prop :=
    CALL prg f_math_archFloor #[.float .f64 x_0] (fun q1 h2 =>
    asF .f64 q1 fun r3 =>
    Post (.float .f64 r3) h2) h
noncomputable def math_Floor.code : Code := (Tryz.f227.body).getD .skip
theorem math_Floor.call {x_0 : Nat} {Post : Value → Heap → Prop} {h : Heap} (H : math_Floor.S x_0 Post h) : CALL prg f_math_Floor #[.float .f64 x_0] Post h :=
  fn_call tau_ok mixed (c := math_Floor.code) (Λ := lookL []) Tryz.func227 (by kernel_rfl) (by kernel_rfl)
    (Rq.free (by kernel_rfl))
    (Eq.mp (by kernel_rfl) H)

def spec_l07Power.B5 (Post : Value → Heap → Prop) (N5 : (Int × Nat) → Heap → Prop) : Int × Nat → Heap → Prop
  | (k_0, p_3), h =>
    BIF ((decide (k_0 < (0 : Int)))) (
    FOP .f64 (FloatKind.f64.format.div p_3 4611686018427387904) fun r2 =>
    N5 (((IntKind.i64.wrap (k_0 + (1 : Int)))), r2) h) (
    Post (.float .f64 p_3) h)
def spec_l07Power.g5 (fr : Frame) : Int × Nat := ((gI (lget fr 0)), (gF (lget fr 3)))
def spec_l07Power.l5 (Post : Value → Heap → Prop) : Frame → Heap → Prop := fun fr h => GRD (shape (kds 17 [(0, .i .i64), (3, .f .f64)]) fr) (LOOP (spec_l07Power.B5 Post) (spec_l07Power.g5 fr) h)
def spec_l07Power.B2 (Post : Value → Heap → Prop) (N2 : (Int × Nat) → Heap → Prop) : Int × Nat → Heap → Prop
  | (k_0, p_3), h =>
    BIF ((decide ((0 : Int) < k_0))) (
    FOP .f64 (FloatKind.f64.format.mul p_3 4611686018427387904) fun r1 =>
    N2 (((IntKind.i64.wrap (k_0 - (1 : Int)))), r1) h) (
    LOOP (spec_l07Power.B5 Post) (k_0, p_3) h)
def spec_l07Power.g2 (fr : Frame) : Int × Nat := ((gI (lget fr 0)), (gF (lget fr 3)))
def spec_l07Power.l2 (Post : Value → Heap → Prop) : Frame → Heap → Prop := fun fr h => GRD (shape (kds 17 [(0, .i .i64), (3, .f .f64)]) fr) (LOOP (spec_l07Power.B2 Post) (spec_l07Power.g2 fr) h)
def spec_l07Power.S (k_0 : Int) (Post : Value → Heap → Prop) (h : Heap) : Prop :=
    LOOP (spec_l07Power.B2 Post) (k_0, 4607182418800017408) h
noncomputable def spec_l07Power.code : Code := (Tryz.f386.body).getD .skip
theorem spec_l07Power.call {k_0 : Int} {Post : Value → Heap → Prop} {h : Heap} (H : spec_l07Power.S k_0 Post h) : CALL prg f_spec_l07Power #[.int .i64 k_0] Post h :=
  fn_call tau_ok mixed (c := spec_l07Power.code) (Λ := lookL [(1000002, spec_l07Power.l2 Post), (1000005, spec_l07Power.l5 Post)]) Tryz.func386 (by kernel_rfl) (by kernel_rfl)
    (Rq.seq (by kernel_rfl) (Rq.free (by kernel_rfl)) (Rq.seq (by kernel_rfl) (Rq.free (by kernel_rfl)) (Rq.seq (by kernel_rfl) (Rq.block (Rq.loop (spec_l07Power.l2 Post) (by kernel_rfl) (segL (g := spec_l07Power.g2) tau_ok mixed (Λ := fun N2 => lookL []) (fun _ _ _ => by kernel_rfl) (fun N2 => (Rq.free (by kernel_rfl)))))) (Rq.seq (by kernel_rfl) (Rq.block (Rq.loop (spec_l07Power.l5 Post) (by kernel_rfl) (segL (g := spec_l07Power.g5) tau_ok mixed (Λ := fun N5 => lookL []) (fun _ _ _ => by kernel_rfl) (fun N5 => (Rq.free (by kernel_rfl)))))) (Rq.free (by kernel_rfl))))))
    (Eq.mp (by kernel_rfl) H)

def spec_l07Two.B7 (Post : Value → Heap → Prop) (N7 : (Nat × Nat × Nat × Int) → Heap → Prop) : Nat × Nat × Nat × Int → Heap → Prop
  | (k_4, y_5, s_6, m_7), h =>
    BIF ((decide ((1 : Int) ≤ m_7))) (
    FOP .f64 (FloatKind.f64.format.div y_5 (FloatKind.f64.nearest m_7)) fun r8 =>
    FOP .f64 (FloatKind.f64.format.mul r8 s_6) fun r9 =>
    FOP .f64 (FloatKind.f64.format.add 4607182418800017408 r9) fun r10 =>
    N7 (k_4, y_5, r10, ((IntKind.i64.wrap (m_7 - (1 : Int))))) h) (
    FIC .f64 k_4 .i64 fun n11 =>
    CALL prg f_spec_l07Power #[.int .i64 n11] (fun q12 h13 =>
    asF .f64 q12 fun r14 =>
    FOP .f64 (FloatKind.f64.format.mul s_6 r14) fun r15 =>
    FFC .f64 r15 .f32 fun r16 =>
    Post (.tuple ⟨[.float .f32 r16, .bool true]⟩) h13) h)
def spec_l07Two.g7 (fr : Frame) : Nat × Nat × Nat × Int := ((gF (lget fr 4)), (gF (lget fr 5)), (gF (lget fr 6)), (gI (lget fr 7)))
def spec_l07Two.l7 (Post : Value → Heap → Prop) : Frame → Heap → Prop := fun fr h => GRD (shape (kds 40 [(4, .f .f64), (5, .f .f64), (6, .f .f64), (7, .i .i64)]) fr) (LOOP (spec_l07Two.B7 Post) (spec_l07Two.g7 fr) h)
def spec_l07Two.J3 (Post : Value → Heap → Prop) (x_0 : Nat) (h : Heap) : Prop :=
    FFC .f32 x_0 .f64 fun r1 =>
    CALL prg f_math_Floor #[.float .f64 r1] (fun q2 h3 =>
    asF .f64 q2 fun r4 =>
    FFC .f32 x_0 .f64 fun r5 =>
    FOP .f64 (FloatKind.f64.format.sub r5 r4) fun r6 =>
    FOP .f64 (FloatKind.f64.format.mul r6 4604418534313441775) fun r7 =>
    LOOP (spec_l07Two.B7 Post) (r4, r7, 4607182418800017408, (14 : Int)) h3) h
def spec_l07Two.j3 (Post : Value → Heap → Prop) : Frame → Heap → Prop := fun fr h => GRD (shape (kds 40 [(0, .f .f32)]) fr) (spec_l07Two.J3 Post (gF (lget fr 0)) h)
def spec_l07Two.S (x_0 : Nat) (Post : Value → Heap → Prop) (h : Heap) : Prop :=
    BIF (FloatKind.f32.format.order x_0 3270508544 == some .gt || FloatKind.f32.format.order x_0 3270508544 == some .eq) (
    BIF (!(FloatKind.f32.format.order x_0 1123024896 == some .lt || FloatKind.f32.format.order x_0 1123024896 == some .eq)) (
    Post (.tuple ⟨[.float .f32 0, .bool false]⟩) h) (
    spec_l07Two.J3 Post x_0 h)) (
    Post (.tuple ⟨[.float .f32 0, .bool false]⟩) h)
noncomputable def spec_l07Two.code : Code := (Tryz.f357.body).getD .skip
theorem spec_l07Two.call {x_0 : Nat} {Post : Value → Heap → Prop} {h : Heap} (H : spec_l07Two.S x_0 Post h) : CALL prg f_spec_l07Two #[.float .f32 x_0] Post h :=
  fn_call tau_ok mixed (c := spec_l07Two.code) (Λ := lookL [(3, spec_l07Two.j3 Post), (1000007, spec_l07Two.l7 Post)]) Tryz.func357 (by kernel_rfl) (by kernel_rfl)
    (Rq.seq (by kernel_rfl) (Rq.free (by kernel_rfl)) (Rq.seqJ (spec_l07Two.j3 Post) (by kernel_rfl) (seg (fun _ _ => by kernel_rfl)) (Rq.free (by kernel_rfl))
(Rq.seq (by kernel_rfl) (Rq.free (by kernel_rfl)) (Rq.seq (by kernel_rfl) (Rq.free (by kernel_rfl)) (Rq.seq (by kernel_rfl) (Rq.free (by kernel_rfl)) (Rq.seq (by kernel_rfl) (Rq.seq (by kernel_rfl) (Rq.free (by kernel_rfl)) (Rq.block (Rq.loop (spec_l07Two.l7 Post) (by kernel_rfl) (segL (g := spec_l07Two.g7) tau_ok mixed (Λ := fun N7 => lookL []) (fun _ _ _ => by kernel_rfl) (fun N7 => (Rq.free (by kernel_rfl))))))) (Rq.free (by kernel_rfl))))))))
    (Eq.mp (by kernel_rfl) H)

def spec_l07Hertz.S (t_0 : Addr) (key_1 : Int) (Post : Value → Heap → Prop) (h : Heap) : Prop :=
    CALL prg f_spec_l07KeyCents #[.pointer (some t_0), .int .i64 key_1] (fun q1 h2 =>
    asF .f32 q1 fun r3 =>
    FOP .f32 (FloatKind.f32.format.div r3 1150681088) fun r4 =>
    CALL prg f_spec_l07Two #[.float .f32 r4] (fun q5 h6 =>
    TUP2 q5 fun q7 q8 =>
    asF .f32 q7 fun r9 =>
    asB q8 fun b10 =>
    oF .f32 (cell h6 t_0) fun r11 =>
    FOP .f32 (FloatKind.f32.format.mul r11 r9) fun r12 =>
    Post (.tuple ⟨[.float .f32 r12, .bool b10]⟩) h6) h2) h
noncomputable def spec_l07Hertz.code : Code := (Tryz.f304.body).getD .skip
theorem spec_l07Hertz.call {t_0 : Addr} {key_1 : Int} {Post : Value → Heap → Prop} {h : Heap} (H : spec_l07Hertz.S t_0 key_1 Post h) : CALL prg f_spec_l07Hertz #[.pointer (some t_0), .int .i64 key_1] Post h :=
  fn_call tau_ok mixed (c := spec_l07Hertz.code) (Λ := lookL []) Tryz.func304 (by kernel_rfl) (by kernel_rfl)
    (Rq.free (by kernel_rfl))
    (Eq.mp (by kernel_rfl) H)

def spec_l07Asked.S (t_0 : Addr) (key_1 : Int) (Post : Value → Heap → Prop) (h : Heap) : Prop :=
    CALL prg f_spec_l07Ok #[.pointer (some t_0)] (fun q1 h2 =>
    asB q1 fun b3 =>
    BIF (!b3) (
    Post (.tuple ⟨[.float .f32 0, .int .i64 (1 : Int)]⟩) h2) (
    CALL prg f_spec_l07Key #[.int .i64 key_1] (fun q4 h5 =>
    asB q4 fun b6 =>
    BIF (!b6) (
    Post (.tuple ⟨[.float .f32 0, .int .i64 (2 : Int)]⟩) h5) (
    CALL prg f_spec_l07Hertz #[.pointer (some t_0), .int .i64 key_1] (fun q7 h8 =>
    TUP2 q7 fun q9 q10 =>
    asF .f32 q9 fun r11 =>
    asB q10 fun b12 =>
    BIF (!b12) (
    Post (.tuple ⟨[.float .f32 0, .int .i64 (2 : Int)]⟩) h8) (
    Post (.tuple ⟨[.float .f32 r11, .int .i64 (0 : Int)]⟩) h8)) h5)) h2)) h
noncomputable def spec_l07Asked.code : Code := (Tryz.f220.body).getD .skip
theorem spec_l07Asked.call {t_0 : Addr} {key_1 : Int} {Post : Value → Heap → Prop} {h : Heap} (H : spec_l07Asked.S t_0 key_1 Post h) : CALL prg f_spec_l07Asked #[.pointer (some t_0), .int .i64 key_1] Post h :=
  fn_call tau_ok mixed (c := spec_l07Asked.code) (Λ := lookL []) Tryz.func220 (by kernel_rfl) (by kernel_rfl)
    (Rq.free (by kernel_rfl))
    (Eq.mp (by kernel_rfl) H)

def spec_PeriodOfKey.S (t_0 : Array Value) (key_1 : Int) (rate_2 : Nat) (Post : Value → Heap → Prop) (h : Heap) : Prop :=
    ALC t_0 T_impl_Tuning (fun g1 h2 =>
    CALL prg f_spec_l07Asked #[.pointer (some ⟨g1, 0, none⟩), .int .i64 key_1] (fun q3 h4 =>
    TUP2 q3 fun q5 q6 =>
    asF .f32 q5 fun r7 =>
    asI .i64 q6 fun n8 =>
    BIF (n8 != (0 : Int)) (
    Post (.tuple ⟨[.float .f32 0, .int .i64 n8]⟩) h4) (
    BIF (FloatKind.f32.format.order rate_2 1065353216 == some .gt || FloatKind.f32.format.order rate_2 1065353216 == some .eq) (
    BIF (!(FloatKind.f32.format.order rate_2 1232348160 == some .lt || FloatKind.f32.format.order rate_2 1232348160 == some .eq)) (
    Post (.tuple ⟨[.float .f32 0, .int .i64 (2 : Int)]⟩) h4) (
    FOP .f32 (FloatKind.f32.format.div rate_2 r7) fun r9 =>
    Post (.tuple ⟨[.float .f32 r9, .int .i64 (0 : Int)]⟩) h4)) (
    Post (.tuple ⟨[.float .f32 0, .int .i64 (2 : Int)]⟩) h4))) h2) h
noncomputable def spec_PeriodOfKey.code : Code := (Tryz.f158.body).getD .skip
theorem spec_PeriodOfKey.call {t_0 : Array Value} {key_1 : Int} {rate_2 : Nat} {Post : Value → Heap → Prop} {h : Heap} (H : spec_PeriodOfKey.S t_0 key_1 rate_2 Post h) : CALL prg f_spec_PeriodOfKey #[.agg t_0, .int .i64 key_1, .float .f32 rate_2] Post h :=
  fn_call tau_ok mixed (c := spec_PeriodOfKey.code) (Λ := lookL []) Tryz.func158 (by kernel_rfl) (by kernel_rfl)
    (Rq.free (by kernel_rfl))
    (Eq.mp (by kernel_rfl) H)

def impl_Tuning_cents.S (t_0 : Array Value) (key_1 : Int) (Post : Value → Heap → Prop) (h : Heap) : Prop :=
    ALC t_0 T_impl_Tuning (fun g1 h2 =>
    oL (cell h2 ⟨g1, 2, none⟩) fun l3b l3l l3c =>
    CALL prg f_impl_length_float32 #[.slice l3b l3l l3c] (fun q4 h5 =>
    asI .i64 q4 fun n6 =>
    NZ n6 <|
    NZ n6 <|
    oF .f32 (cell h5 ⟨g1, 1, none⟩) fun r7 =>
    NZ n6 <|
    oL (cell h5 ⟨g1, 2, none⟩) fun l8b l8l l8c =>
    IDXS l8b ((Int.tmod ((IntKind.i64.wrap ((Int.tmod key_1 n6) + n6))) n6)) l8l fun p9 =>
    oF .f32 (cell h5 ((Addr.add p9 ((Int.toNat ((Int.tmod ((IntKind.i64.wrap ((Int.tmod key_1 n6) + n6))) n6))) * 1)))) fun r10 =>
    FOP .f32 (FloatKind.f32.format.mul r7 ((FloatKind.f32.nearest ((IntKind.i64.wrap (Int.tdiv ((IntKind.i64.wrap (key_1 - (Int.tmod ((IntKind.i64.wrap ((Int.tmod key_1 n6) + n6))) n6)))) n6)))))) fun r11 =>
    PIN h5 ((Addr.add p9 ((Int.toNat ((Int.tmod ((IntKind.i64.wrap ((Int.tmod key_1 n6) + n6))) n6))) * 1))) 1 h5 <|
    PIN h5 ⟨g1, 2, none⟩ 1 h5 <|
    FOP .f32 (FloatKind.f32.format.add r11 r10) fun r12 =>
    Post (.float .f32 r12) h5) h2) h
noncomputable def impl_Tuning_cents.code : Code := (Tryz.f364.body).getD .skip
theorem impl_Tuning_cents.call {t_0 : Array Value} {key_1 : Int} {Post : Value → Heap → Prop} {h : Heap} (H : impl_Tuning_cents.S t_0 key_1 Post h) : CALL prg f_impl_Tuning_cents #[.agg t_0, .int .i64 key_1] Post h :=
  fn_call tau_ok mixed (c := impl_Tuning_cents.code) (Λ := lookL []) Tryz.func364 (by kernel_rfl) (by kernel_rfl)
    (Rq.free (by kernel_rfl))
    (Eq.mp (by kernel_rfl) H)

def math_normalize.S (x_0 : Nat) (Post : Value → Heap → Prop) (h : Heap) : Prop :=
    CALL prg f_math_Abs #[.float .f64 x_0] (fun q1 h2 =>
    asF .f64 q1 fun r3 =>
    BIF (FloatKind.f64.format.order r3 4503599627370496 == some .lt) (
    FOP .f64 (FloatKind.f64.format.mul x_0 4841369599423283200) fun r4 =>
    Post (.tuple ⟨[.float .f64 r4, .int .i64 (-52 : Int)]⟩) h2) (
    Post (.tuple ⟨[.float .f64 x_0, .int .i64 (0 : Int)]⟩) h2)) h
noncomputable def math_normalize.code : Code := (Tryz.f407.body).getD .skip
theorem math_normalize.call {x_0 : Nat} {Post : Value → Heap → Prop} {h : Heap} (H : math_normalize.S x_0 Post h) : CALL prg f_math_normalize #[.float .f64 x_0] Post h :=
  fn_call tau_ok mixed (c := math_normalize.code) (Λ := lookL []) Tryz.func407 (by kernel_rfl) (by kernel_rfl)
    (Rq.free (by kernel_rfl))
    (Eq.mp (by kernel_rfl) H)

def math_ldexp.J19 (Post : Value → Heap → Prop) (exp_1 : Int) (x_6 : Int) (m_7 : Nat) (h : Heap) : Prop :=
    NN (52 : Int) <|
    CALL prg f_math_Float64frombits #[.int .u64 ((bitI .or .u64 (bitI .andNot .u64 x_6 (9218868437227405312 : Int)) ((shlI .u64 ((IntKind.u64.wrap ((IntKind.i64.wrap (exp_1 + (1023 : Int)))))) (52 : Int)))))] (fun q25 h26 =>
    asF .f64 q25 fun r27 =>
    FOP .f64 (FloatKind.f64.format.mul m_7 r27) fun r28 =>
    Post (.float .f64 r28) h26) h
def math_ldexp.j19 (Post : Value → Heap → Prop) : Frame → Heap → Prop := fun fr h => GRD (shape (kds 63 [(1, .i .i64), (6, .i .u64), (7, .f .f64)]) fr) (math_ldexp.J19 Post (gI (lget fr 1)) (gI (lget fr 6)) (gF (lget fr 7)) h)
def math_ldexp.J5 (Post : Value → Heap → Prop) (frac_0 : Nat) (exp_1 : Int) (h : Heap) : Prop :=
    CALL prg f_math_normalize #[.float .f64 frac_0] (fun q7 h8 =>
    TUP2 q7 fun q9 q10 =>
    asF .f64 q9 fun r11 =>
    asI .i64 q10 fun n12 =>
    CALL prg f_math_Float64bits #[.float .f64 r11] (fun q13 h14 =>
    asI .u64 q13 fun n15 =>
    NN (52 : Int) <|
    BIF ((decide ((IntKind.i64.wrap ((IntKind.i64.wrap (exp_1 + n12)) + (IntKind.i64.wrap ((bitI .and .i64 ((IntKind.i64.wrap (shrI .u64 n15 (52 : Int)))) (2047 : Int)) - (1023 : Int))))) < (-1075 : Int)))) (
    CALL prg f_math_Copysign #[.float .f64 0, .float .f64 r11] (fun q16 h17 =>
    asF .f64 q16 fun r18 =>
    Post (.float .f64 r18) h17) h14) (
    BIF ((decide ((1023 : Int) < (IntKind.i64.wrap ((IntKind.i64.wrap (exp_1 + n12)) + (IntKind.i64.wrap ((bitI .and .i64 ((IntKind.i64.wrap (shrI .u64 n15 (52 : Int)))) (2047 : Int)) - (1023 : Int)))))))) (
    BIF (FloatKind.f64.format.order r11 0 == some .lt) (
    CALL prg f_math_Inf #[.int .i64 (-1 : Int)] (fun q19 h20 =>
    asF .f64 q19 fun r21 =>
    Post (.float .f64 r21) h20) h14) (
    CALL prg f_math_Inf #[.int .i64 (1 : Int)] (fun q22 h23 =>
    asF .f64 q22 fun r24 =>
    Post (.float .f64 r24) h23) h14)) (
    BIF ((decide ((IntKind.i64.wrap ((IntKind.i64.wrap (exp_1 + n12)) + (IntKind.i64.wrap ((bitI .and .i64 ((IntKind.i64.wrap (shrI .u64 n15 (52 : Int)))) (2047 : Int)) - (1023 : Int))))) < (-1022 : Int)))) (
    math_ldexp.J19 Post ((IntKind.i64.wrap ((IntKind.i64.wrap ((IntKind.i64.wrap (exp_1 + n12)) + (IntKind.i64.wrap ((bitI .and .i64 ((IntKind.i64.wrap (shrI .u64 n15 (52 : Int)))) (2047 : Int)) - (1023 : Int))))) + (53 : Int)))) n15 4368491638549381120 h14) (
    math_ldexp.J19 Post ((IntKind.i64.wrap ((IntKind.i64.wrap (exp_1 + n12)) + (IntKind.i64.wrap ((bitI .and .i64 ((IntKind.i64.wrap (shrI .u64 n15 (52 : Int)))) (2047 : Int)) - (1023 : Int)))))) n15 4607182418800017408 h14)))) h8) h
def math_ldexp.j5 (Post : Value → Heap → Prop) : Frame → Heap → Prop := fun fr h => GRD (shape (kds 63 [(0, .f .f64), (1, .i .i64)]) fr) (math_ldexp.J5 Post (gF (lget fr 0)) (gI (lget fr 1)) h)
def math_ldexp.S (frac_0 : Nat) (exp_1 : Int) (Post : Value → Heap → Prop) (h : Heap) : Prop :=
    BIF (FloatKind.f64.format.order frac_0 0 == some .eq) (
    Post (.float .f64 frac_0) h) (
    CALL prg f_math_IsInf #[.float .f64 frac_0, .int .i64 (0 : Int)] (fun q1 h2 =>
    asB q1 fun b3 =>
    BIF b3 (
    Post (.float .f64 frac_0) h2) (
    CALL prg f_math_IsNaN #[.float .f64 frac_0] (fun q4 h5 =>
    asB q4 fun b6 =>
    BIF b6 (
    Post (.float .f64 frac_0) h5) (
    math_ldexp.J5 Post frac_0 exp_1 h5)) h2)) h)
noncomputable def math_ldexp.code : Code := (Tryz.f403.body).getD .skip
theorem math_ldexp.call {frac_0 : Nat} {exp_1 : Int} {Post : Value → Heap → Prop} {h : Heap} (H : math_ldexp.S frac_0 exp_1 Post h) : CALL prg f_math_ldexp #[.float .f64 frac_0, .int .i64 exp_1] Post h :=
  fn_call tau_ok mixed (c := math_ldexp.code) (Λ := lookL [(5, math_ldexp.j5 Post), (19, math_ldexp.j19 Post)]) Tryz.func403 (by kernel_rfl) (by kernel_rfl)
    (Rq.seq (by kernel_rfl) (Rq.free (by kernel_rfl)) (Rq.seqJ (math_ldexp.j5 Post) (by kernel_rfl) (seg (fun _ _ => by kernel_rfl)) (Rq.free (by kernel_rfl))
(Rq.seq (by kernel_rfl) (Rq.free (by kernel_rfl)) (Rq.seq (by kernel_rfl) (Rq.free (by kernel_rfl)) (Rq.seq (by kernel_rfl) (Rq.free (by kernel_rfl)) (Rq.seq (by kernel_rfl) (Rq.free (by kernel_rfl)) (Rq.seq (by kernel_rfl) (Rq.free (by kernel_rfl)) (Rq.seq (by kernel_rfl) (Rq.free (by kernel_rfl)) (Rq.seq (by kernel_rfl) (Rq.free (by kernel_rfl)) (Rq.seqJ (math_ldexp.j19 Post) (by kernel_rfl) (seg (fun _ _ => by kernel_rfl)) (Rq.free (by kernel_rfl))
(Rq.free (by kernel_rfl))))))))))))
    (Eq.mp (by kernel_rfl) H)

def math_Ldexp.S (frac_0 : Nat) (exp_1 : Int) (Post : Value → Heap → Prop) (h : Heap) : Prop :=
    CALL prg f_math_ldexp #[.float .f64 frac_0, .int .i64 exp_1] (fun q1 h2 =>
    asF .f64 q1 fun r3 =>
    Post (.float .f64 r3) h2) h
noncomputable def math_Ldexp.code : Code := (Tryz.f390.body).getD .skip
theorem math_Ldexp.call {frac_0 : Nat} {exp_1 : Int} {Post : Value → Heap → Prop} {h : Heap} (H : math_Ldexp.S frac_0 exp_1 Post h) : CALL prg f_math_Ldexp #[.float .f64 frac_0, .int .i64 exp_1] Post h :=
  fn_call tau_ok mixed (c := math_Ldexp.code) (Λ := lookL []) Tryz.func390 (by kernel_rfl) (by kernel_rfl)
    (Rq.free (by kernel_rfl))
    (Eq.mp (by kernel_rfl) H)

def impl_TwoTo.B7 (Post : Value → Heap → Prop) (N7 : (Nat × Nat × Nat × Int) → Heap → Prop) : Nat × Nat × Nat × Int → Heap → Prop
  | (k_4, y_5, s_6, m_7), h =>
    BIF ((decide ((1 : Int) ≤ m_7))) (
    FOP .f64 (FloatKind.f64.format.div y_5 (FloatKind.f64.nearest m_7)) fun r11 =>
    FOP .f64 (FloatKind.f64.format.mul r11 s_6) fun r12 =>
    FOP .f64 (FloatKind.f64.format.add 4607182418800017408 r12) fun r13 =>
    N7 (k_4, y_5, r13, ((IntKind.i64.wrap (m_7 - (1 : Int))))) h) (
    FIC .f64 k_4 .i64 fun n14 =>
    CALL prg f_math_Ldexp #[.float .f64 s_6, .int .i64 n14] (fun q15 h16 =>
    asF .f64 q15 fun r17 =>
    FFC .f64 r17 .f32 fun r18 =>
    Post (.tuple ⟨[.float .f32 r18, .int .i64 (0 : Int)]⟩) h16) h)
def impl_TwoTo.g7 (fr : Frame) : Nat × Nat × Nat × Int := ((gF (lget fr 4)), (gF (lget fr 5)), (gF (lget fr 6)), (gI (lget fr 7)))
def impl_TwoTo.l7 (Post : Value → Heap → Prop) : Frame → Heap → Prop := fun fr h => GRD (shape (kds 35 [(4, .f .f64), (5, .f .f64), (6, .f .f64), (7, .i .i64)]) fr) (LOOP (impl_TwoTo.B7 Post) (impl_TwoTo.g7 fr) h)
def impl_TwoTo.S (x_0 : Nat) (Post : Value → Heap → Prop) (h : Heap) : Prop :=
    CALL prg f_impl_inside #[.float .f32 x_0, .float .f32 3270508544, .float .f32 1123024896] (fun q1 h2 =>
    asB q1 fun b3 =>
    BIF (!b3) (
    Post (.tuple ⟨[.float .f32 0, .int .i64 (2 : Int)]⟩) h2) (
    FFC .f32 x_0 .f64 fun r4 =>
    CALL prg f_math_Floor #[.float .f64 r4] (fun q5 h6 =>
    asF .f64 q5 fun r7 =>
    FFC .f32 x_0 .f64 fun r8 =>
    FOP .f64 (FloatKind.f64.format.sub r8 r7) fun r9 =>
    FOP .f64 (FloatKind.f64.format.mul r9 4604418534313441775) fun r10 =>
    LOOP (impl_TwoTo.B7 Post) (r7, r10, 4607182418800017408, (14 : Int)) h6) h2)) h
noncomputable def impl_TwoTo.code : Code := (Tryz.f363.body).getD .skip
theorem impl_TwoTo.call {x_0 : Nat} {Post : Value → Heap → Prop} {h : Heap} (H : impl_TwoTo.S x_0 Post h) : CALL prg f_impl_TwoTo #[.float .f32 x_0] Post h :=
  fn_call tau_ok mixed (c := impl_TwoTo.code) (Λ := lookL [(1000007, impl_TwoTo.l7 Post)]) Tryz.func363 (by kernel_rfl) (by kernel_rfl)
    (Rq.seq (by kernel_rfl) (Rq.free (by kernel_rfl)) (Rq.seq (by kernel_rfl) (Rq.free (by kernel_rfl)) (Rq.seq (by kernel_rfl) (Rq.free (by kernel_rfl)) (Rq.seq (by kernel_rfl) (Rq.free (by kernel_rfl)) (Rq.seq (by kernel_rfl) (Rq.free (by kernel_rfl)) (Rq.seq (by kernel_rfl) (Rq.seq (by kernel_rfl) (Rq.free (by kernel_rfl)) (Rq.block (Rq.loop (impl_TwoTo.l7 Post) (by kernel_rfl) (segL (g := impl_TwoTo.g7) tau_ok mixed (Λ := fun N7 => lookL []) (fun _ _ _ => by kernel_rfl) (fun N7 => (Rq.free (by kernel_rfl))))))) (Rq.free (by kernel_rfl))))))))
    (Eq.mp (by kernel_rfl) H)

def impl_Tuning_hertz.S (t_0 : Array Value) (key_1 : Int) (Post : Value → Heap → Prop) (h : Heap) : Prop :=
    ALC t_0 T_impl_Tuning (fun g1 h2 =>
    LDA 3 h2 ⟨g1, 0, none⟩ fun a3 =>
    CALL prg f_impl_Tuning_cents #[.agg a3, .int .i64 key_1] (fun q4 h5 =>
    asF .f32 q4 fun r6 =>
    FOP .f32 (FloatKind.f32.format.div r6 1150681088) fun r7 =>
    CALL prg f_impl_TwoTo #[.float .f32 r7] (fun q8 h9 =>
    TUP2 q8 fun q10 q11 =>
    asF .f32 q10 fun r12 =>
    asI .i64 q11 fun n13 =>
    oF .f32 (cell h9 ⟨g1, 0, none⟩) fun r14 =>
    FOP .f32 (FloatKind.f32.format.mul r14 r12) fun r15 =>
    Post (.tuple ⟨[.float .f32 r15, .int .i64 n13]⟩) h9) h5) h2) h
noncomputable def impl_Tuning_hertz.code : Code := (Tryz.f310.body).getD .skip
theorem impl_Tuning_hertz.call {t_0 : Array Value} {key_1 : Int} {Post : Value → Heap → Prop} {h : Heap} (H : impl_Tuning_hertz.S t_0 key_1 Post h) : CALL prg f_impl_Tuning_hertz #[.agg t_0, .int .i64 key_1] Post h :=
  fn_call tau_ok mixed (c := impl_Tuning_hertz.code) (Λ := lookL []) Tryz.func310 (by kernel_rfl) (by kernel_rfl)
    (Rq.free (by kernel_rfl))
    (Eq.mp (by kernel_rfl) H)

def impl_KeyHertz.S (t_0 : Array Value) (key_1 : Int) (Post : Value → Heap → Prop) (h : Heap) : Prop :=
    ALC t_0 T_impl_Tuning (fun g1 h2 =>
    LDA 3 h2 ⟨g1, 0, none⟩ fun a3 =>
    CALL prg f_impl_ValidTuning #[.agg a3] (fun q4 h5 =>
    asB q4 fun b6 =>
    BIF (!b6) (
    Post (.tuple ⟨[.float .f32 0, .int .i64 (1 : Int)]⟩) h5) (
    CALL prg f_impl_isKey #[.int .i64 key_1] (fun q7 h8 =>
    asB q7 fun b9 =>
    BIF (!b9) (
    Post (.tuple ⟨[.float .f32 0, .int .i64 (2 : Int)]⟩) h8) (
    LDA 3 h8 ⟨g1, 0, none⟩ fun a10 =>
    CALL prg f_impl_Tuning_hertz #[.agg a10, .int .i64 key_1] (fun q11 h12 =>
    TUP2 q11 fun q13 q14 =>
    asF .f32 q13 fun r15 =>
    asI .i64 q14 fun n16 =>
    BIF (n16 != (0 : Int)) (
    Post (.tuple ⟨[.float .f32 0, .int .i64 n16]⟩) h12) (
    Post (.tuple ⟨[.float .f32 r15, .int .i64 (0 : Int)]⟩) h12)) h8)) h5)) h2) h
noncomputable def impl_KeyHertz.code : Code := (Tryz.f230.body).getD .skip
theorem impl_KeyHertz.call {t_0 : Array Value} {key_1 : Int} {Post : Value → Heap → Prop} {h : Heap} (H : impl_KeyHertz.S t_0 key_1 Post h) : CALL prg f_impl_KeyHertz #[.agg t_0, .int .i64 key_1] Post h :=
  fn_call tau_ok mixed (c := impl_KeyHertz.code) (Λ := lookL []) Tryz.func230 (by kernel_rfl) (by kernel_rfl)
    (Rq.free (by kernel_rfl))
    (Eq.mp (by kernel_rfl) H)

def impl_isTail.S (tail_0 : Nat) (Post : Value → Heap → Prop) (h : Heap) : Prop :=
    CALL prg f_impl_inside #[.float .f32 tail_0, .float .f32 1065353216, .float .f32 1232348160] (fun q1 h2 =>
    asB q1 fun b3 =>
    Post (.bool b3) h2) h
noncomputable def impl_isTail.code : Code := (Tryz.f231.body).getD .skip
theorem impl_isTail.call {tail_0 : Nat} {Post : Value → Heap → Prop} {h : Heap} (H : impl_isTail.S tail_0 Post h) : CALL prg f_impl_isTail #[.float .f32 tail_0] Post h :=
  fn_call tau_ok mixed (c := impl_isTail.code) (Λ := lookL []) Tryz.func231 (by kernel_rfl) (by kernel_rfl)
    (Rq.free (by kernel_rfl))
    (Eq.mp (by kernel_rfl) H)

def impl_PeriodOfKey.S (t_0 : Array Value) (key_1 : Int) (rate_2 : Nat) (Post : Value → Heap → Prop) (h : Heap) : Prop :=
    ALC t_0 T_impl_Tuning (fun g1 h2 =>
    LDA 3 h2 ⟨g1, 0, none⟩ fun a3 =>
    CALL prg f_impl_KeyHertz #[.agg a3, .int .i64 key_1] (fun q4 h5 =>
    TUP2 q4 fun q6 q7 =>
    asF .f32 q6 fun r8 =>
    asI .i64 q7 fun n9 =>
    BIF (n9 != (0 : Int)) (
    Post (.tuple ⟨[.float .f32 0, .int .i64 n9]⟩) h5) (
    CALL prg f_impl_isTail #[.float .f32 rate_2] (fun q10 h11 =>
    asB q10 fun b12 =>
    BIF (!b12) (
    Post (.tuple ⟨[.float .f32 0, .int .i64 (2 : Int)]⟩) h11) (
    FOP .f32 (FloatKind.f32.format.div rate_2 r8) fun r13 =>
    Post (.tuple ⟨[.float .f32 r13, .int .i64 (0 : Int)]⟩) h11)) h5)) h2) h
noncomputable def impl_PeriodOfKey.code : Code := (Tryz.f164.body).getD .skip
theorem impl_PeriodOfKey.call {t_0 : Array Value} {key_1 : Int} {rate_2 : Nat} {Post : Value → Heap → Prop} {h : Heap} (H : impl_PeriodOfKey.S t_0 key_1 rate_2 Post h) : CALL prg f_impl_PeriodOfKey #[.agg t_0, .int .i64 key_1, .float .f32 rate_2] Post h :=
  fn_call tau_ok mixed (c := impl_PeriodOfKey.code) (Λ := lookL []) Tryz.func164 (by kernel_rfl) (by kernel_rfl)
    (Rq.free (by kernel_rfl))
    (Eq.mp (by kernel_rfl) H)

end Go.Sx
