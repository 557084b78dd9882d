/- The slice types of this seat's program: what their elements are. -/
import Derived.Test.YtnjbecdfoiiaoaaGreatDoorTab
import Derived.Test.YtnjbecdfoiiaoaaGreatDoorLg
namespace Go.Sx
open Go.Proofs
theorem E_sl_float32 : ElemT prg T_sl_float32 T_float32 1 4 := ⟨Tryz.underlying23, ⟨Tryz.t22, _, by kernel_rfl, rfl, by kernel_rfl, by kernel_rfl, by kernel_rfl⟩⟩
theorem E_sl_impl_Instrument : ElemT prg T_sl_impl_Instrument T_impl_Instrument 5 40 := ⟨Tryz.underlying32, ⟨Tryz.t207, _, by kernel_rfl, rfl, by kernel_rfl, by kernel_rfl, by kernel_rfl⟩⟩
theorem E_sl_impl_Event : ElemT prg T_sl_impl_Event T_impl_Event 6 48 := ⟨Tryz.underlying33, ⟨Tryz.t95, _, by kernel_rfl, rfl, by kernel_rfl, by kernel_rfl, by kernel_rfl⟩⟩
end Go.Sx
/- What functions of this seat's program compute, told in words (a predicate over heaps for each), and the proofs that the words are no more than the code's own weakest precondition. -/
namespace Go.Sx
open Go.Proofs
set_option linter.unusedVariables false
set_option maxRecDepth 100000

def spec_l00In.S (n_0 : Int) (low_1 : Int) (high_2 : Int) (Post : Value → Heap → Prop) (h : Heap) : Prop :=
    BIF (decide (low_1 ≤ n_0)) (
    Post (.bool (decide (n_0 ≤ high_2))) h) (
    Post (.bool false) h)
noncomputable def spec_l00In.code : Code := (Tryz.f67.body).getD .skip
theorem spec_l00In.call {n_0 : Int} {low_1 : Int} {high_2 : Int} {Post : Value → Heap → Prop} {h : Heap} (H : spec_l00In.S n_0 low_1 high_2 Post h) : CALL prg f_spec_l00In #[.int .i64 n_0, .int .i64 low_1, .int .i64 high_2] Post h :=
  fn_call tau_ok mixed (c := spec_l00In.code) (Λ := lookL []) Tryz.func67 (by kernel_rfl) (by kernel_rfl)
    (Rq.free (by kernel_rfl))
    (Eq.mp (by kernel_rfl) H)

def impl_within.S (n_0 : Int) (low_1 : Int) (high_2 : Int) (Post : Value → Heap → Prop) (h : Heap) : Prop :=
    BIF (decide (low_1 ≤ n_0)) (
    Post (.bool (decide (n_0 ≤ high_2))) h) (
    Post (.bool false) h)
noncomputable def impl_within.code : Code := (Tryz.f102.body).getD .skip
theorem impl_within.call {n_0 : Int} {low_1 : Int} {high_2 : Int} {Post : Value → Heap → Prop} {h : Heap} (H : impl_within.S n_0 low_1 high_2 Post h) : CALL prg f_impl_within #[.int .i64 n_0, .int .i64 low_1, .int .i64 high_2] Post h :=
  fn_call tau_ok mixed (c := impl_within.code) (Λ := lookL []) Tryz.func102 (by kernel_rfl) (by kernel_rfl)
    (Rq.free (by kernel_rfl))
    (Eq.mp (by kernel_rfl) H)

def impl_length_float32.S (list_0b : Option Addr) (list_0l list_0c : Nat) (Post : Value → Heap → Prop) (h : Heap) : Prop :=
    Post (.int .i64 (list_0l : Int)) h
noncomputable def impl_length_float32.code : Code := (Tryz.f234.body).getD .skip
theorem impl_length_float32.call {list_0b : Option Addr} {list_0l list_0c : Nat} {Post : Value → Heap → Prop} {h : Heap} (H : impl_length_float32.S list_0b list_0l list_0c Post h) : CALL prg f_impl_length_float32 #[.slice list_0b list_0l list_0c] Post h :=
  fn_call tau_ok mixed (c := impl_length_float32.code) (Λ := lookL []) Tryz.func234 (by kernel_rfl) (by kernel_rfl)
    (Rq.free (by kernel_rfl))
    (Eq.mp (by kernel_rfl) H)

def spec_l01NaN.S (a_0 : Nat) (Post : Value → Heap → Prop) (h : Heap) : Prop :=
    Post (.bool (FloatKind.f32.format.order a_0 a_0 != some .eq)) h
noncomputable def spec_l01NaN.code : Code := (Tryz.f184.body).getD .skip
theorem spec_l01NaN.call {a_0 : Nat} {Post : Value → Heap → Prop} {h : Heap} (H : spec_l01NaN.S a_0 Post h) : CALL prg f_spec_l01NaN #[.float .f32 a_0] Post h :=
  fn_call tau_ok mixed (c := spec_l01NaN.code) (Λ := lookL []) Tryz.func184 (by kernel_rfl) (by kernel_rfl)
    (Rq.free (by kernel_rfl))
    (Eq.mp (by kernel_rfl) H)

def spec_l01Finite.S (a_0 : Nat) (Post : Value → Heap → Prop) (h : Heap) : Prop :=
    FOP .f32 (FloatKind.f32.format.sub a_0 a_0) fun r1 =>
    Post (.bool (FloatKind.f32.format.order r1 0 == some .eq)) h
noncomputable def spec_l01Finite.code : Code := (Tryz.f167.body).getD .skip
theorem spec_l01Finite.call {a_0 : Nat} {Post : Value → Heap → Prop} {h : Heap} (H : spec_l01Finite.S a_0 Post h) : CALL prg f_spec_l01Finite #[.float .f32 a_0] Post h :=
  fn_call tau_ok mixed (c := spec_l01Finite.code) (Λ := lookL []) Tryz.func167 (by kernel_rfl) (by kernel_rfl)
    (Rq.free (by kernel_rfl))
    (Eq.mp (by kernel_rfl) H)

def impl_isFinite.S (a_0 : Nat) (Post : Value → Heap → Prop) (h : Heap) : Prop :=
    FOP .f32 (FloatKind.f32.format.sub a_0 a_0) fun r1 =>
    Post (.bool (FloatKind.f32.format.order r1 0 == some .eq)) h
noncomputable def impl_isFinite.code : Code := (Tryz.f177.body).getD .skip
theorem impl_isFinite.call {a_0 : Nat} {Post : Value → Heap → Prop} {h : Heap} (H : impl_isFinite.S a_0 Post h) : CALL prg f_impl_isFinite #[.float .f32 a_0] Post h :=
  fn_call tau_ok mixed (c := impl_isFinite.code) (Λ := lookL []) Tryz.func177 (by kernel_rfl) (by kernel_rfl)
    (Rq.free (by kernel_rfl))
    (Eq.mp (by kernel_rfl) H)

def impl_bitsOf.S (a_0 : Nat) (Post : Value → Heap → Prop) (h : Heap) : Prop :=
    BIF (FloatKind.f32.format.order a_0 a_0 != some .eq) (
    Post (.int .u32 (2143289344 : Int)) h) (
    CALL prg f_math_Float32bits #[.float .f32 a_0] (fun q1 h2 =>
    asI .u32 q1 fun n3 =>
    Post (.int .u32 n3) h2) h)
noncomputable def impl_bitsOf.code : Code := (Tryz.f175.body).getD .skip
theorem impl_bitsOf.call {a_0 : Nat} {Post : Value → Heap → Prop} {h : Heap} (H : impl_bitsOf.S a_0 Post h) : CALL prg f_impl_bitsOf #[.float .f32 a_0] Post h :=
  fn_call tau_ok mixed (c := impl_bitsOf.code) (Λ := lookL []) Tryz.func175 (by kernel_rfl) (by kernel_rfl)
    (Rq.free (by kernel_rfl))
    (Eq.mp (by kernel_rfl) H)

def spec_l01Same.J2 (Post : Value → Heap → Prop) (a_0 : Nat) (b_1 : Nat) (t10 : Bool) (h : Heap) : Prop :=
    BIF t10 (
    CALL prg f_spec_l01NaN #[.float .f32 a_0] (fun q7 h8 =>
    asB q7 fun b9 =>
    BIF b9 (
    CALL prg f_spec_l01NaN #[.float .f32 b_1] (fun q10 h11 =>
    asB q10 fun b12 =>
    Post (.bool b12) h11) h8) (
    Post (.bool false) h8)) h) (
    CALL prg f_math_Float32bits #[.float .f32 a_0] (fun q13 h14 =>
    asI .u32 q13 fun n15 =>
    CALL prg f_math_Float32bits #[.float .f32 b_1] (fun q16 h17 =>
    asI .u32 q16 fun n18 =>
    Post (.bool (n15 == n18)) h17) h14) h)
def spec_l01Same.j2 (Post : Value → Heap → Prop) : Frame → Heap → Prop := fun fr h => GRD (shape (kds 22 [(0, .f .f32), (1, .f .f32), (10, .b)]) fr) (spec_l01Same.J2 Post (gF (lget fr 0)) (gF (lget fr 1)) (gB (lget fr 10)) h)
def spec_l01Same.S (a_0 : Nat) (b_1 : Nat) (Post : Value → Heap → Prop) (h : Heap) : Prop :=
    CALL prg f_spec_l01NaN #[.float .f32 a_0] (fun q1 h2 =>
    asB q1 fun b3 =>
    BIF b3 (
    spec_l01Same.J2 Post a_0 b_1 true h2) (
    CALL prg f_spec_l01NaN #[.float .f32 b_1] (fun q4 h5 =>
    asB q4 fun b6 =>
    spec_l01Same.J2 Post a_0 b_1 b6 h5) h2)) h
noncomputable def spec_l01Same.code : Code := (Tryz.f96.body).getD .skip
theorem spec_l01Same.call {a_0 : Nat} {b_1 : Nat} {Post : Value → Heap → Prop} {h : Heap} (H : spec_l01Same.S a_0 b_1 Post h) : CALL prg f_spec_l01Same #[.float .f32 a_0, .float .f32 b_1] Post h :=
  fn_call tau_ok mixed (c := spec_l01Same.code) (Λ := lookL [(2, spec_l01Same.j2 Post)]) Tryz.func96 (by kernel_rfl) (by kernel_rfl)
    (Rq.seq (by kernel_rfl) (Rq.free (by kernel_rfl)) (Rq.seq (by kernel_rfl) (Rq.seqJ (spec_l01Same.j2 Post) (by kernel_rfl) (seg (fun _ _ => by kernel_rfl)) (Rq.free (by kernel_rfl))
(Rq.free (by kernel_rfl))) (Rq.free (by kernel_rfl))))
    (Eq.mp (by kernel_rfl) H)

def impl_inside.S (a_0 : Nat) (low_1 : Nat) (high_2 : Nat) (Post : Value → Heap → Prop) (h : Heap) : Prop :=
    BIF (FloatKind.f32.format.order a_0 low_1 == some .gt || FloatKind.f32.format.order a_0 low_1 == some .eq) (
    Post (.bool (FloatKind.f32.format.order a_0 high_2 == some .lt || FloatKind.f32.format.order a_0 high_2 == some .eq)) h) (
    Post (.bool false) h)
noncomputable def impl_inside.code : Code := (Tryz.f232.body).getD .skip
theorem impl_inside.call {a_0 : Nat} {low_1 : Nat} {high_2 : Nat} {Post : Value → Heap → Prop} {h : Heap} (H : impl_inside.S a_0 low_1 high_2 Post h) : CALL prg f_impl_inside #[.float .f32 a_0, .float .f32 low_1, .float .f32 high_2] Post h :=
  fn_call tau_ok mixed (c := impl_inside.code) (Λ := lookL []) Tryz.func232 (by kernel_rfl) (by kernel_rfl)
    (Rq.free (by kernel_rfl))
    (Eq.mp (by kernel_rfl) H)

end Go.Sx
