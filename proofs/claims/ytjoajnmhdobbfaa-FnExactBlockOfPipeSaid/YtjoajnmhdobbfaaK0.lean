/- What functions of this seat's program compute, told in words (a predicate over heaps for each), and the proofs that the words are no more than the code's own weakest precondition. -/
import Derived.Test.YtjoajnmhdobbfaaTab
namespace Go.Sx
open Go.Proofs
set_option linter.unusedVariables false
set_option maxRecDepth 100000

def spec_l00In.S (n_0 : Int) (low_1 : Int) (high_2 : Int) (Post : Value → Heap → Prop) (h : Heap) : Prop :=
    BIF (decide (low_1 ≤ n_0)) (
    Post (.bool (decide (n_0 ≤ high_2))) h) (
    Post (.bool false) h)
noncomputable def spec_l00In.code : Code := (Try.f154.body).getD .skip
theorem spec_l00In.call {n_0 : Int} {low_1 : Int} {high_2 : Int} {Post : Value → Heap → Prop} {h : Heap} (H : spec_l00In.S n_0 low_1 high_2 Post h) : CALL prg f_spec_l00In #[.int .i64 n_0, .int .i64 low_1, .int .i64 high_2] Post h :=
  fn_call tau_ok mixed (c := spec_l00In.code) (Λ := lookL []) Try.func154 (by kernel_rfl) (by kernel_rfl)
    (Rq.free (by kernel_rfl))
    (Eq.mp (by kernel_rfl) H)

def impl_within.S (n_0 : Int) (low_1 : Int) (high_2 : Int) (Post : Value → Heap → Prop) (h : Heap) : Prop :=
    BIF (decide (low_1 ≤ n_0)) (
    Post (.bool (decide (n_0 ≤ high_2))) h) (
    Post (.bool false) h)
noncomputable def impl_within.code : Code := (Try.f34.body).getD .skip
theorem impl_within.call {n_0 : Int} {low_1 : Int} {high_2 : Int} {Post : Value → Heap → Prop} {h : Heap} (H : impl_within.S n_0 low_1 high_2 Post h) : CALL prg f_impl_within #[.int .i64 n_0, .int .i64 low_1, .int .i64 high_2] Post h :=
  fn_call tau_ok mixed (c := impl_within.code) (Λ := lookL []) Try.func34 (by kernel_rfl) (by kernel_rfl)
    (Rq.free (by kernel_rfl))
    (Eq.mp (by kernel_rfl) H)

def impl_length_float32.S (list_0b : Option Addr) (list_0l list_0c : Nat) (Post : Value → Heap → Prop) (h : Heap) : Prop :=
    Post (.int .i64 (list_0l : Int)) h
noncomputable def impl_length_float32.code : Code := (Try.f168.body).getD .skip
theorem impl_length_float32.call {list_0b : Option Addr} {list_0l list_0c : Nat} {Post : Value → Heap → Prop} {h : Heap} (H : impl_length_float32.S list_0b list_0l list_0c Post h) : CALL prg f_impl_length_float32 #[.slice list_0b list_0l list_0c] Post h :=
  fn_call tau_ok mixed (c := impl_length_float32.code) (Λ := lookL []) Try.func168 (by kernel_rfl) (by kernel_rfl)
    (Rq.free (by kernel_rfl))
    (Eq.mp (by kernel_rfl) H)

def spec_l01NaN.S (a_0 : Nat) (Post : Value → Heap → Prop) (h : Heap) : Prop :=
    Post (.bool (FloatKind.f32.format.order a_0 a_0 != some .eq)) h
noncomputable def spec_l01NaN.code : Code := (Try.f153.body).getD .skip
theorem spec_l01NaN.call {a_0 : Nat} {Post : Value → Heap → Prop} {h : Heap} (H : spec_l01NaN.S a_0 Post h) : CALL prg f_spec_l01NaN #[.float .f32 a_0] Post h :=
  fn_call tau_ok mixed (c := spec_l01NaN.code) (Λ := lookL []) Try.func153 (by kernel_rfl) (by kernel_rfl)
    (Rq.free (by kernel_rfl))
    (Eq.mp (by kernel_rfl) H)

def math_Abs.S (x_0 : Nat) (Post : Value → Heap → Prop) (h : Heap) : Prop :=
    CALL prg f_math_Float64bits #[.float .f64 x_0] (fun q1 h2 =>
    asI .u64 q1 fun n3 =>
    CALL prg f_math_Float64frombits #[.int .u64 (bitI .andNot .u64 n3 (9223372036854775808 : Int))] (fun q4 h5 =>
    asF .f64 q4 fun r6 =>
    Post (.float .f64 r6) h5) h2) h
noncomputable def math_Abs.code : Code := (Try.f199.body).getD .skip
theorem math_Abs.call {x_0 : Nat} {Post : Value → Heap → Prop} {h : Heap} (H : math_Abs.S x_0 Post h) : CALL prg f_math_Abs #[.float .f64 x_0] Post h :=
  fn_call tau_ok mixed (c := math_Abs.code) (Λ := lookL []) Try.func199 (by kernel_rfl) (by kernel_rfl)
    (Rq.free (by kernel_rfl))
    (Eq.mp (by kernel_rfl) H)

def spec_l01Finite.S (a_0 : Nat) (Post : Value → Heap → Prop) (h : Heap) : Prop :=
    FOP .f32 (FloatKind.f32.format.sub a_0 a_0) fun r1 =>
    Post (.bool (FloatKind.f32.format.order r1 0 == some .eq)) h
noncomputable def spec_l01Finite.code : Code := (Try.f158.body).getD .skip
theorem spec_l01Finite.call {a_0 : Nat} {Post : Value → Heap → Prop} {h : Heap} (H : spec_l01Finite.S a_0 Post h) : CALL prg f_spec_l01Finite #[.float .f32 a_0] Post h :=
  fn_call tau_ok mixed (c := spec_l01Finite.code) (Λ := lookL []) Try.func158 (by kernel_rfl) (by kernel_rfl)
    (Rq.free (by kernel_rfl))
    (Eq.mp (by kernel_rfl) H)

def impl_isFinite.S (a_0 : Nat) (Post : Value → Heap → Prop) (h : Heap) : Prop :=
    FOP .f32 (FloatKind.f32.format.sub a_0 a_0) fun r1 =>
    Post (.bool (FloatKind.f32.format.order r1 0 == some .eq)) h
noncomputable def impl_isFinite.code : Code := (Try.f164.body).getD .skip
theorem impl_isFinite.call {a_0 : Nat} {Post : Value → Heap → Prop} {h : Heap} (H : impl_isFinite.S a_0 Post h) : CALL prg f_impl_isFinite #[.float .f32 a_0] Post h :=
  fn_call tau_ok mixed (c := impl_isFinite.code) (Λ := lookL []) Try.func164 (by kernel_rfl) (by kernel_rfl)
    (Rq.free (by kernel_rfl))
    (Eq.mp (by kernel_rfl) H)

def impl_bitsOf.S (a_0 : Nat) (Post : Value → Heap → Prop) (h : Heap) : Prop :=
    BIF (FloatKind.f32.format.order a_0 a_0 != some .eq) (
    Post (.int .u32 (2143289344 : Int)) h) (
    CALL prg f_math_Float32bits #[.float .f32 a_0] (fun q1 h2 =>
    asI .u32 q1 fun n3 =>
    Post (.int .u32 n3) h2) h)
noncomputable def impl_bitsOf.code : Code := (Try.f84.body).getD .skip
theorem impl_bitsOf.call {a_0 : Nat} {Post : Value → Heap → Prop} {h : Heap} (H : impl_bitsOf.S a_0 Post h) : CALL prg f_impl_bitsOf #[.float .f32 a_0] Post h :=
  fn_call tau_ok mixed (c := impl_bitsOf.code) (Λ := lookL []) Try.func84 (by kernel_rfl) (by kernel_rfl)
    (Rq.free (by kernel_rfl))
    (Eq.mp (by kernel_rfl) H)

def spec_l01Same.J2 (Post : Value → Heap → Prop) (a_0 : Nat) (b_1 : Nat) (t10 : Bool) (h : Heap) : Prop :=
    BIF t10 (
    CALL prg f_spec_l01NaN #[.float .f32 a_0] (fun q7 h8 =>
    asB q7 fun b9 =>
    BIF b9 (
    CALL prg f_spec_l01NaN #[.float .f32 b_1] (fun q10 h11 =>
    asB q10 fun b12 =>
    Post (.bool b12) h11) h8) (
    Post (.bool false) h8)) h) (
    CALL prg f_math_Float32bits #[.float .f32 a_0] (fun q13 h14 =>
    asI .u32 q13 fun n15 =>
    CALL prg f_math_Float32bits #[.float .f32 b_1] (fun q16 h17 =>
    asI .u32 q16 fun n18 =>
    Post (.bool (n15 == n18)) h17) h14) h)
def spec_l01Same.j2 (Post : Value → Heap → Prop) : Frame → Heap → Prop := fun fr h => GRD (shape (kds 22 [(0, .f .f32), (1, .f .f32), (10, .b)]) fr) (spec_l01Same.J2 Post (gF (lget fr 0)) (gF (lget fr 1)) (gB (lget fr 10)) h)
def spec_l01Same.S (a_0 : Nat) (b_1 : Nat) (Post : Value → Heap → Prop) (h : Heap) : Prop :=
    CALL prg f_spec_l01NaN #[.float .f32 a_0] (fun q1 h2 =>
    asB q1 fun b3 =>
    BIF b3 (
    spec_l01Same.J2 Post a_0 b_1 true h2) (
    CALL prg f_spec_l01NaN #[.float .f32 b_1] (fun q4 h5 =>
    asB q4 fun b6 =>
    spec_l01Same.J2 Post a_0 b_1 b6 h5) h2)) h
noncomputable def spec_l01Same.code : Code := (Try.f88.body).getD .skip
theorem spec_l01Same.call {a_0 : Nat} {b_1 : Nat} {Post : Value → Heap → Prop} {h : Heap} (H : spec_l01Same.S a_0 b_1 Post h) : CALL prg f_spec_l01Same #[.float .f32 a_0, .float .f32 b_1] Post h :=
  fn_call tau_ok mixed (c := spec_l01Same.code) (Λ := lookL [(2, spec_l01Same.j2 Post)]) Try.func88 (by kernel_rfl) (by kernel_rfl)
    (Rq.seq (by kernel_rfl) (Rq.free (by kernel_rfl)) (Rq.seq (by kernel_rfl) (Rq.seqJ (spec_l01Same.j2 Post) (by kernel_rfl) (seg (fun _ _ => by kernel_rfl)) (Rq.free (by kernel_rfl))
(Rq.free (by kernel_rfl))) (Rq.free (by kernel_rfl))))
    (Eq.mp (by kernel_rfl) H)

def spec_l01Abs.S (a_0 : Nat) (Post : Value → Heap → Prop) (h : Heap) : Prop :=
    CALL prg f_math_Float32bits #[.float .f32 a_0] (fun q1 h2 =>
    asI .u32 q1 fun n3 =>
    CALL prg f_math_Float32frombits #[.int .u32 (bitI .and .u32 n3 (2147483647 : Int))] (fun q4 h5 =>
    asF .f32 q4 fun r6 =>
    Post (.float .f32 r6) h5) h2) h
noncomputable def spec_l01Abs.code : Code := (Try.f192.body).getD .skip
theorem spec_l01Abs.call {a_0 : Nat} {Post : Value → Heap → Prop} {h : Heap} (H : spec_l01Abs.S a_0 Post h) : CALL prg f_spec_l01Abs #[.float .f32 a_0] Post h :=
  fn_call tau_ok mixed (c := spec_l01Abs.code) (Λ := lookL []) Try.func192 (by kernel_rfl) (by kernel_rfl)
    (Rq.free (by kernel_rfl))
    (Eq.mp (by kernel_rfl) H)

def impl_absolute.S (a_0 : Nat) (Post : Value → Heap → Prop) (h : Heap) : Prop :=
    FFC .f32 a_0 .f64 fun r1 =>
    CALL prg f_math_Abs #[.float .f64 r1] (fun q2 h3 =>
    asF .f64 q2 fun r4 =>
    FFC .f64 r4 .f32 fun r5 =>
    Post (.float .f32 r5) h3) h
noncomputable def impl_absolute.code : Code := (Try.f195.body).getD .skip
theorem impl_absolute.call {a_0 : Nat} {Post : Value → Heap → Prop} {h : Heap} (H : impl_absolute.S a_0 Post h) : CALL prg f_impl_absolute #[.float .f32 a_0] Post h :=
  fn_call tau_ok mixed (c := impl_absolute.code) (Λ := lookL []) Try.func195 (by kernel_rfl) (by kernel_rfl)
    (Rq.free (by kernel_rfl))
    (Eq.mp (by kernel_rfl) H)

def spec_l01Flush.S (a_0 : Nat) (Post : Value → Heap → Prop) (h : Heap) : Prop :=
    CALL prg f_spec_l01Abs #[.float .f32 a_0] (fun q1 h2 =>
    asF .f32 q1 fun r3 =>
    CALL prg f_math_Float32frombits #[.int .u32 (8388608 : Int)] (fun q4 h5 =>
    asF .f32 q4 fun r6 =>
    BIF (FloatKind.f32.format.order r3 r6 == some .lt) (
    Post (.float .f32 0) h5) (
    Post (.float .f32 a_0) h5)) h2) h
noncomputable def spec_l01Flush.code : Code := (Try.f160.body).getD .skip
theorem spec_l01Flush.call {a_0 : Nat} {Post : Value → Heap → Prop} {h : Heap} (H : spec_l01Flush.S a_0 Post h) : CALL prg f_spec_l01Flush #[.float .f32 a_0] Post h :=
  fn_call tau_ok mixed (c := spec_l01Flush.code) (Λ := lookL []) Try.func160 (by kernel_rfl) (by kernel_rfl)
    (Rq.free (by kernel_rfl))
    (Eq.mp (by kernel_rfl) H)

def impl_FlushSample.S (a_0 : Nat) (Post : Value → Heap → Prop) (h : Heap) : Prop :=
    CALL prg f_impl_absolute #[.float .f32 a_0] (fun q1 h2 =>
    asF .f32 q1 fun r3 =>
    BIF (FloatKind.f32.format.order r3 8388608 == some .lt) (
    Post (.float .f32 0) h2) (
    Post (.float .f32 a_0) h2)) h
noncomputable def impl_FlushSample.code : Code := (Try.f169.body).getD .skip
theorem impl_FlushSample.call {a_0 : Nat} {Post : Value → Heap → Prop} {h : Heap} (H : impl_FlushSample.S a_0 Post h) : CALL prg f_impl_FlushSample #[.float .f32 a_0] Post h :=
  fn_call tau_ok mixed (c := impl_FlushSample.code) (Λ := lookL []) Try.func169 (by kernel_rfl) (by kernel_rfl)
    (Rq.free (by kernel_rfl))
    (Eq.mp (by kernel_rfl) H)

def spec_l02Kept.S (a_0 : Nat) (Post : Value → Heap → Prop) (h : Heap) : Prop :=
    CALL prg f_spec_l01Finite #[.float .f32 a_0] (fun q1 h2 =>
    asB q1 fun b3 =>
    BIF (!b3) (
    Post (.float .f32 0) h2) (
    CALL prg f_spec_l01Flush #[.float .f32 a_0] (fun q4 h5 =>
    asF .f32 q4 fun r6 =>
    Post (.float .f32 r6) h5) h2)) h
noncomputable def spec_l02Kept.code : Code := (Try.f102.body).getD .skip
theorem spec_l02Kept.call {a_0 : Nat} {Post : Value → Heap → Prop} {h : Heap} (H : spec_l02Kept.S a_0 Post h) : CALL prg f_spec_l02Kept #[.float .f32 a_0] Post h :=
  fn_call tau_ok mixed (c := spec_l02Kept.code) (Λ := lookL []) Try.func102 (by kernel_rfl) (by kernel_rfl)
    (Rq.free (by kernel_rfl))
    (Eq.mp (by kernel_rfl) H)

def impl_kept.S (a_0 : Nat) (Post : Value → Heap → Prop) (h : Heap) : Prop :=
    CALL prg f_impl_isFinite #[.float .f32 a_0] (fun q1 h2 =>
    asB q1 fun b3 =>
    BIF (!b3) (
    Post (.float .f32 0) h2) (
    CALL prg f_impl_FlushSample #[.float .f32 a_0] (fun q4 h5 =>
    asF .f32 q4 fun r6 =>
    Post (.float .f32 r6) h5) h2)) h
noncomputable def impl_kept.code : Code := (Try.f118.body).getD .skip
theorem impl_kept.call {a_0 : Nat} {Post : Value → Heap → Prop} {h : Heap} (H : impl_kept.S a_0 Post h) : CALL prg f_impl_kept #[.float .f32 a_0] Post h :=
  fn_call tau_ok mixed (c := impl_kept.code) (Λ := lookL []) Try.func118 (by kernel_rfl) (by kernel_rfl)
    (Rq.free (by kernel_rfl))
    (Eq.mp (by kernel_rfl) H)

def spec_l01Clamp.S (a_0 : Nat) (limit_1 : Nat) (Post : Value → Heap → Prop) (h : Heap) : Prop :=
    BIF (FloatKind.f32.format.order a_0 limit_1 == some .gt) (
    Post (.float .f32 limit_1) h) (
    BIF (FloatKind.f32.format.order a_0 (Op.negFloat .f32 limit_1) == some .lt) (
    Post (.float .f32 (Op.negFloat .f32 limit_1)) h) (
    Post (.float .f32 a_0) h))
noncomputable def spec_l01Clamp.code : Code := (Try.f161.body).getD .skip
theorem spec_l01Clamp.call {a_0 : Nat} {limit_1 : Nat} {Post : Value → Heap → Prop} {h : Heap} (H : spec_l01Clamp.S a_0 limit_1 Post h) : CALL prg f_spec_l01Clamp #[.float .f32 a_0, .float .f32 limit_1] Post h :=
  fn_call tau_ok mixed (c := spec_l01Clamp.code) (Λ := lookL []) Try.func161 (by kernel_rfl) (by kernel_rfl)
    (Rq.free (by kernel_rfl))
    (Eq.mp (by kernel_rfl) H)

def impl_ClampSample.S (a_0 : Nat) (limit_1 : Nat) (Post : Value → Heap → Prop) (h : Heap) : Prop :=
    BIF (FloatKind.f32.format.order a_0 limit_1 == some .gt) (
    Post (.float .f32 limit_1) h) (
    BIF (FloatKind.f32.format.order a_0 (Op.negFloat .f32 limit_1) == some .lt) (
    Post (.float .f32 (Op.negFloat .f32 limit_1)) h) (
    Post (.float .f32 a_0) h))
noncomputable def impl_ClampSample.code : Code := (Try.f170.body).getD .skip
theorem impl_ClampSample.call {a_0 : Nat} {limit_1 : Nat} {Post : Value → Heap → Prop} {h : Heap} (H : impl_ClampSample.S a_0 limit_1 Post h) : CALL prg f_impl_ClampSample #[.float .f32 a_0, .float .f32 limit_1] Post h :=
  fn_call tau_ok mixed (c := impl_ClampSample.code) (Λ := lookL []) Try.func170 (by kernel_rfl) (by kernel_rfl)
    (Rq.free (by kernel_rfl))
    (Eq.mp (by kernel_rfl) H)

def impl_inside.S (a_0 : Nat) (low_1 : Nat) (high_2 : Nat) (Post : Value → Heap → Prop) (h : Heap) : Prop :=
    BIF (FloatKind.f32.format.order a_0 low_1 == some .gt || FloatKind.f32.format.order a_0 low_1 == some .eq) (
    Post (.bool (FloatKind.f32.format.order a_0 high_2 == some .lt || FloatKind.f32.format.order a_0 high_2 == some .eq)) h) (
    Post (.bool false) h)
noncomputable def impl_inside.code : Code := (Try.f113.body).getD .skip
theorem impl_inside.call {a_0 : Nat} {low_1 : Nat} {high_2 : Nat} {Post : Value → Heap → Prop} {h : Heap} (H : impl_inside.S a_0 low_1 high_2 Post h) : CALL prg f_impl_inside #[.float .f32 a_0, .float .f32 low_1, .float .f32 high_2] Post h :=
  fn_call tau_ok mixed (c := impl_inside.code) (Λ := lookL []) Try.func113 (by kernel_rfl) (by kernel_rfl)
    (Rq.free (by kernel_rfl))
    (Eq.mp (by kernel_rfl) H)

end Go.Sx
