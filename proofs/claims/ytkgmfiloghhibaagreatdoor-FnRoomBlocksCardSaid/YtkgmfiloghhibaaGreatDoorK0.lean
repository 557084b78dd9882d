/- What functions of this seat's program compute, told in words (a predicate over heaps for each), and the proofs that the words are no more than the code's own weakest precondition. -/
import Derived.Test.YtkgmfiloghhibaaGreatDoorTab
import Derived.Test.YtkgmfiloghhibaaGreatDoorLx1
import Derived.Test.YtkgmfiloghhibaaGreatDoorTabE
namespace Go.Sx
open Go.Proofs
set_option linter.unusedVariables false
set_option maxRecDepth 100000

def spec_l00In.S (n_0 : Int) (low_1 : Int) (high_2 : Int) (Post : Value → Heap → Prop) (h : Heap) : Prop :=
    BIF (decide (low_1 ≤ n_0)) (
    Post (.bool (decide (n_0 ≤ high_2))) h) (
    Post (.bool false) h)
noncomputable def spec_l00In.code : Code := (Tryz.f139.body).getD .skip
theorem spec_l00In.call {n_0 : Int} {low_1 : Int} {high_2 : Int} {Post : Value → Heap → Prop} {h : Heap} (H : spec_l00In.S n_0 low_1 high_2 Post h) : CALL prg f_spec_l00In #[.int .i64 n_0, .int .i64 low_1, .int .i64 high_2] Post h :=
  fn_call tau_ok mixed (c := spec_l00In.code) (Λ := lookL []) Tryz.func139 (by kernel_rfl) (by kernel_rfl)
    (Rq.free (by kernel_rfl))
    (Eq.mp (by kernel_rfl) H)

def impl_within.S (n_0 : Int) (low_1 : Int) (high_2 : Int) (Post : Value → Heap → Prop) (h : Heap) : Prop :=
    BIF (decide (low_1 ≤ n_0)) (
    Post (.bool (decide (n_0 ≤ high_2))) h) (
    Post (.bool false) h)
noncomputable def impl_within.code : Code := (Tryz.f38.body).getD .skip
theorem impl_within.call {n_0 : Int} {low_1 : Int} {high_2 : Int} {Post : Value → Heap → Prop} {h : Heap} (H : impl_within.S n_0 low_1 high_2 Post h) : CALL prg f_impl_within #[.int .i64 n_0, .int .i64 low_1, .int .i64 high_2] Post h :=
  fn_call tau_ok mixed (c := impl_within.code) (Λ := lookL []) Tryz.func38 (by kernel_rfl) (by kernel_rfl)
    (Rq.free (by kernel_rfl))
    (Eq.mp (by kernel_rfl) H)

def impl_length_float32.S (list_0b : Option Addr) (list_0l list_0c : Nat) (Post : Value → Heap → Prop) (h : Heap) : Prop :=
    Post (.int .i64 (list_0l : Int)) h
noncomputable def impl_length_float32.code : Code := (Tryz.f56.body).getD .skip
theorem impl_length_float32.call {list_0b : Option Addr} {list_0l list_0c : Nat} {Post : Value → Heap → Prop} {h : Heap} (H : impl_length_float32.S list_0b list_0l list_0c Post h) : CALL prg f_impl_length_float32 #[.slice list_0b list_0l list_0c] Post h :=
  fn_call tau_ok mixed (c := impl_length_float32.code) (Λ := lookL []) Tryz.func56 (by kernel_rfl) (by kernel_rfl)
    (Rq.free (by kernel_rfl))
    (Eq.mp (by kernel_rfl) H)

def spec_l01NaN.S (a_0 : Nat) (Post : Value → Heap → Prop) (h : Heap) : Prop :=
    Post (.bool (FloatKind.f32.format.order a_0 a_0 != some .eq)) h
noncomputable def spec_l01NaN.code : Code := (Tryz.f179.body).getD .skip
theorem spec_l01NaN.call {a_0 : Nat} {Post : Value → Heap → Prop} {h : Heap} (H : spec_l01NaN.S a_0 Post h) : CALL prg f_spec_l01NaN #[.float .f32 a_0] Post h :=
  fn_call tau_ok mixed (c := spec_l01NaN.code) (Λ := lookL []) Tryz.func179 (by kernel_rfl) (by kernel_rfl)
    (Rq.free (by kernel_rfl))
    (Eq.mp (by kernel_rfl) H)

def math_Abs.S (x_0 : Nat) (Post : Value → Heap → Prop) (h : Heap) : Prop :=
    CALL prg f_math_Float64bits #[.float .f64 x_0] (fun q1 h2 =>
    asI .u64 q1 fun n3 =>
    CALL prg f_math_Float64frombits #[.int .u64 (bitI .andNot .u64 n3 (9223372036854775808 : Int))] (fun q4 h5 =>
    asF .f64 q4 fun r6 =>
    Post (.float .f64 r6) h5) h2) h
noncomputable def math_Abs.code : Code := (Tryz.f227.body).getD .skip
theorem math_Abs.call {x_0 : Nat} {Post : Value → Heap → Prop} {h : Heap} (H : math_Abs.S x_0 Post h) : CALL prg f_math_Abs #[.float .f64 x_0] Post h :=
  fn_call tau_ok mixed (c := math_Abs.code) (Λ := lookL []) Tryz.func227 (by kernel_rfl) (by kernel_rfl)
    (Rq.free (by kernel_rfl))
    (Eq.mp (by kernel_rfl) H)

def spec_l01Finite.S (a_0 : Nat) (Post : Value → Heap → Prop) (h : Heap) : Prop :=
    FOP .f32 (FloatKind.f32.format.sub a_0 a_0) fun r1 =>
    Post (.bool (FloatKind.f32.format.order r1 0 == some .eq)) h
noncomputable def spec_l01Finite.code : Code := (Tryz.f140.body).getD .skip
theorem spec_l01Finite.call {a_0 : Nat} {Post : Value → Heap → Prop} {h : Heap} (H : spec_l01Finite.S a_0 Post h) : CALL prg f_spec_l01Finite #[.float .f32 a_0] Post h :=
  fn_call tau_ok mixed (c := spec_l01Finite.code) (Λ := lookL []) Tryz.func140 (by kernel_rfl) (by kernel_rfl)
    (Rq.free (by kernel_rfl))
    (Eq.mp (by kernel_rfl) H)

def impl_isFinite.S (a_0 : Nat) (Post : Value → Heap → Prop) (h : Heap) : Prop :=
    FOP .f32 (FloatKind.f32.format.sub a_0 a_0) fun r1 =>
    Post (.bool (FloatKind.f32.format.order r1 0 == some .eq)) h
noncomputable def impl_isFinite.code : Code := (Tryz.f124.body).getD .skip
theorem impl_isFinite.call {a_0 : Nat} {Post : Value → Heap → Prop} {h : Heap} (H : impl_isFinite.S a_0 Post h) : CALL prg f_impl_isFinite #[.float .f32 a_0] Post h :=
  fn_call tau_ok mixed (c := impl_isFinite.code) (Λ := lookL []) Tryz.func124 (by kernel_rfl) (by kernel_rfl)
    (Rq.free (by kernel_rfl))
    (Eq.mp (by kernel_rfl) H)

def impl_bitsOf.S (a_0 : Nat) (Post : Value → Heap → Prop) (h : Heap) : Prop :=
    BIF (FloatKind.f32.format.order a_0 a_0 != some .eq) (
    Post (.int .u32 (2143289344 : Int)) h) (
    CALL prg f_math_Float32bits #[.float .f32 a_0] (fun q1 h2 =>
    asI .u32 q1 fun n3 =>
    Post (.int .u32 n3) h2) h)
noncomputable def impl_bitsOf.code : Code := (Tryz.f106.body).getD .skip
theorem impl_bitsOf.call {a_0 : Nat} {Post : Value → Heap → Prop} {h : Heap} (H : impl_bitsOf.S a_0 Post h) : CALL prg f_impl_bitsOf #[.float .f32 a_0] Post h :=
  fn_call tau_ok mixed (c := impl_bitsOf.code) (Λ := lookL []) Tryz.func106 (by kernel_rfl) (by kernel_rfl)
    (Rq.free (by kernel_rfl))
    (Eq.mp (by kernel_rfl) H)

def spec_l01Same.J2 (Post : Value → Heap → Prop) (a_0 : Nat) (b_1 : Nat) (t10 : Bool) (h : Heap) : Prop :=
    BIF t10 (
    CALL prg f_spec_l01NaN #[.float .f32 a_0] (fun q7 h8 =>
    asB q7 fun b9 =>
    BIF b9 (
    CALL prg f_spec_l01NaN #[.float .f32 b_1] (fun q10 h11 =>
    asB q10 fun b12 =>
    Post (.bool b12) h11) h8) (
    Post (.bool false) h8)) h) (
    CALL prg f_math_Float32bits #[.float .f32 a_0] (fun q13 h14 =>
    asI .u32 q13 fun n15 =>
    CALL prg f_math_Float32bits #[.float .f32 b_1] (fun q16 h17 =>
    asI .u32 q16 fun n18 =>
    Post (.bool (n15 == n18)) h17) h14) h)
def spec_l01Same.j2 (Post : Value → Heap → Prop) : Frame → Heap → Prop := fun fr h => GRD (shape (kds 22 [(0, .f .f32), (1, .f .f32), (10, .b)]) fr) (spec_l01Same.J2 Post (gF (lget fr 0)) (gF (lget fr 1)) (gB (lget fr 10)) h)
def spec_l01Same.S (a_0 : Nat) (b_1 : Nat) (Post : Value → Heap → Prop) (h : Heap) : Prop :=
    CALL prg f_spec_l01NaN #[.float .f32 a_0] (fun q1 h2 =>
    asB q1 fun b3 =>
    BIF b3 (
    spec_l01Same.J2 Post a_0 b_1 true h2) (
    CALL prg f_spec_l01NaN #[.float .f32 b_1] (fun q4 h5 =>
    asB q4 fun b6 =>
    spec_l01Same.J2 Post a_0 b_1 b6 h5) h2)) h
noncomputable def spec_l01Same.code : Code := (Tryz.f121.body).getD .skip
theorem spec_l01Same.call {a_0 : Nat} {b_1 : Nat} {Post : Value → Heap → Prop} {h : Heap} (H : spec_l01Same.S a_0 b_1 Post h) : CALL prg f_spec_l01Same #[.float .f32 a_0, .float .f32 b_1] Post h :=
  fn_call tau_ok mixed (c := spec_l01Same.code) (Λ := lookL [(2, spec_l01Same.j2 Post)]) Tryz.func121 (by kernel_rfl) (by kernel_rfl)
    (Rq.seq (by kernel_rfl) (Rq.free (by kernel_rfl)) (Rq.seq (by kernel_rfl) (Rq.seqJ (spec_l01Same.j2 Post) (by kernel_rfl) (seg (fun _ _ => by kernel_rfl)) (Rq.free (by kernel_rfl))
(Rq.free (by kernel_rfl))) (Rq.free (by kernel_rfl))))
    (Eq.mp (by kernel_rfl) H)

def impl_SameSample.S (a_0 : Nat) (b_1 : Nat) (Post : Value → Heap → Prop) (h : Heap) : Prop :=
    CALL prg f_impl_bitsOf #[.float .f32 a_0] (fun q1 h2 =>
    asI .u32 q1 fun n3 =>
    CALL prg f_impl_bitsOf #[.float .f32 b_1] (fun q4 h5 =>
    asI .u32 q4 fun n6 =>
    Post (.bool (n3 == n6)) h5) h2) h
noncomputable def impl_SameSample.code : Code := (Tryz.f62.body).getD .skip
theorem impl_SameSample.call {a_0 : Nat} {b_1 : Nat} {Post : Value → Heap → Prop} {h : Heap} (H : impl_SameSample.S a_0 b_1 Post h) : CALL prg f_impl_SameSample #[.float .f32 a_0, .float .f32 b_1] Post h :=
  fn_call tau_ok mixed (c := impl_SameSample.code) (Λ := lookL []) Tryz.func62 (by kernel_rfl) (by kernel_rfl)
    (Rq.free (by kernel_rfl))
    (Eq.mp (by kernel_rfl) H)

def spec_l01Abs.S (a_0 : Nat) (Post : Value → Heap → Prop) (h : Heap) : Prop :=
    CALL prg f_math_Float32bits #[.float .f32 a_0] (fun q1 h2 =>
    asI .u32 q1 fun n3 =>
    CALL prg f_math_Float32frombits #[.int .u32 (bitI .and .u32 n3 (2147483647 : Int))] (fun q4 h5 =>
    asF .f32 q4 fun r6 =>
    Post (.float .f32 r6) h5) h2) h
noncomputable def spec_l01Abs.code : Code := (Tryz.f210.body).getD .skip
theorem spec_l01Abs.call {a_0 : Nat} {Post : Value → Heap → Prop} {h : Heap} (H : spec_l01Abs.S a_0 Post h) : CALL prg f_spec_l01Abs #[.float .f32 a_0] Post h :=
  fn_call tau_ok mixed (c := spec_l01Abs.code) (Λ := lookL []) Tryz.func210 (by kernel_rfl) (by kernel_rfl)
    (Rq.free (by kernel_rfl))
    (Eq.mp (by kernel_rfl) H)

def impl_absolute.S (a_0 : Nat) (Post : Value → Heap → Prop) (h : Heap) : Prop :=
    FFC .f32 a_0 .f64 fun r1 =>
    CALL prg f_math_Abs #[.float .f64 r1] (fun q2 h3 =>
    asF .f64 q2 fun r4 =>
    FFC .f64 r4 .f32 fun r5 =>
    Post (.float .f32 r5) h3) h
noncomputable def impl_absolute.code : Code := (Tryz.f209.body).getD .skip
theorem impl_absolute.call {a_0 : Nat} {Post : Value → Heap → Prop} {h : Heap} (H : impl_absolute.S a_0 Post h) : CALL prg f_impl_absolute #[.float .f32 a_0] Post h :=
  fn_call tau_ok mixed (c := impl_absolute.code) (Λ := lookL []) Tryz.func209 (by kernel_rfl) (by kernel_rfl)
    (Rq.free (by kernel_rfl))
    (Eq.mp (by kernel_rfl) H)

def spec_l01Flush.S (a_0 : Nat) (Post : Value → Heap → Prop) (h : Heap) : Prop :=
    CALL prg f_spec_l01Abs #[.float .f32 a_0] (fun q1 h2 =>
    asF .f32 q1 fun r3 =>
    CALL prg f_math_Float32frombits #[.int .u32 (8388608 : Int)] (fun q4 h5 =>
    asF .f32 q4 fun r6 =>
    BIF (FloatKind.f32.format.order r3 r6 == some .lt) (
    Post (.float .f32 0) h5) (
    Post (.float .f32 a_0) h5)) h2) h
noncomputable def spec_l01Flush.code : Code := (Tryz.f186.body).getD .skip
theorem spec_l01Flush.call {a_0 : Nat} {Post : Value → Heap → Prop} {h : Heap} (H : spec_l01Flush.S a_0 Post h) : CALL prg f_spec_l01Flush #[.float .f32 a_0] Post h :=
  fn_call tau_ok mixed (c := spec_l01Flush.code) (Λ := lookL []) Tryz.func186 (by kernel_rfl) (by kernel_rfl)
    (Rq.free (by kernel_rfl))
    (Eq.mp (by kernel_rfl) H)

def impl_FlushSample.S (a_0 : Nat) (Post : Value → Heap → Prop) (h : Heap) : Prop :=
    CALL prg f_impl_absolute #[.float .f32 a_0] (fun q1 h2 =>
    asF .f32 q1 fun r3 =>
    BIF (FloatKind.f32.format.order r3 8388608 == some .lt) (
    Post (.float .f32 0) h2) (
    Post (.float .f32 a_0) h2)) h
noncomputable def impl_FlushSample.code : Code := (Tryz.f185.body).getD .skip
theorem impl_FlushSample.call {a_0 : Nat} {Post : Value → Heap → Prop} {h : Heap} (H : impl_FlushSample.S a_0 Post h) : CALL prg f_impl_FlushSample #[.float .f32 a_0] Post h :=
  fn_call tau_ok mixed (c := impl_FlushSample.code) (Λ := lookL []) Tryz.func185 (by kernel_rfl) (by kernel_rfl)
    (Rq.free (by kernel_rfl))
    (Eq.mp (by kernel_rfl) H)

def spec_l02Kept.S (a_0 : Nat) (Post : Value → Heap → Prop) (h : Heap) : Prop :=
    CALL prg f_spec_l01Finite #[.float .f32 a_0] (fun q1 h2 =>
    asB q1 fun b3 =>
    BIF (!b3) (
    Post (.float .f32 0) h2) (
    CALL prg f_spec_l01Flush #[.float .f32 a_0] (fun q4 h5 =>
    asF .f32 q4 fun r6 =>
    Post (.float .f32 r6) h5) h2)) h
noncomputable def spec_l02Kept.code : Code := (Tryz.f145.body).getD .skip
theorem spec_l02Kept.call {a_0 : Nat} {Post : Value → Heap → Prop} {h : Heap} (H : spec_l02Kept.S a_0 Post h) : CALL prg f_spec_l02Kept #[.float .f32 a_0] Post h :=
  fn_call tau_ok mixed (c := spec_l02Kept.code) (Λ := lookL []) Tryz.func145 (by kernel_rfl) (by kernel_rfl)
    (Rq.free (by kernel_rfl))
    (Eq.mp (by kernel_rfl) H)

def impl_kept.S (a_0 : Nat) (Post : Value → Heap → Prop) (h : Heap) : Prop :=
    CALL prg f_impl_isFinite #[.float .f32 a_0] (fun q1 h2 =>
    asB q1 fun b3 =>
    BIF (!b3) (
    Post (.float .f32 0) h2) (
    CALL prg f_impl_FlushSample #[.float .f32 a_0] (fun q4 h5 =>
    asF .f32 q4 fun r6 =>
    Post (.float .f32 r6) h5) h2)) h
noncomputable def impl_kept.code : Code := (Tryz.f132.body).getD .skip
theorem impl_kept.call {a_0 : Nat} {Post : Value → Heap → Prop} {h : Heap} (H : impl_kept.S a_0 Post h) : CALL prg f_impl_kept #[.float .f32 a_0] Post h :=
  fn_call tau_ok mixed (c := impl_kept.code) (Λ := lookL []) Tryz.func132 (by kernel_rfl) (by kernel_rfl)
    (Rq.free (by kernel_rfl))
    (Eq.mp (by kernel_rfl) H)

end Go.Sx
/- The bits of floats: what the externs answer. -/
set_option linter.unusedVariables false
set_option linter.unusedSimpArgs false
namespace Go.Sx
open Go.Proofs
set_option maxRecDepth 100000
set_option maxHeartbeats 4000000

theorem Float32bits_c (b : Nat) : Ret prg f_math_Float32bits #[.float .f32 b] (.int .u32 b) :=
  ext_ret (e := Extern.MathFloatBits.float32bits) X_math_Float32bits (by kernel_rfl) (by kernel_rfl) (by kernel_rfl) (by kernel_rfl) fun w => rfl
theorem frombits_c (n : Int) : Ret prg f_math_Float32frombits #[.int .u32 n] (.float .f32 n.toNat) :=
  ext_ret (e := Extern.MathFloatBits.float32frombits) X_math_Float32frombits (by kernel_rfl) (by kernel_rfl) (by kernel_rfl) (by kernel_rfl) fun w => rfl
theorem Float64bits_c (b : Nat) : Ret prg f_math_Float64bits #[.float .f64 b] (.int .u64 b) :=
  ext_ret (e := Extern.MathFloatBits.float64bits) X_math_Float64bits (by kernel_rfl) (by kernel_rfl) (by kernel_rfl) (by kernel_rfl) fun w => rfl
theorem frombits64_c (n : Int) : Ret prg f_math_Float64frombits #[.int .u64 n] (.float .f64 n.toNat) :=
  ext_ret (e := Extern.MathFloatBits.float64frombits) X_math_Float64frombits (by kernel_rfl) (by kernel_rfl) (by kernel_rfl) (by kernel_rfl) fun w => rfl
end Go.Sx
/- Floats in the program: what the small functions compute. -/
set_option linter.unusedVariables false
set_option linter.unusedSimpArgs false
namespace Go.Sx
open Go.Proofs Ieee
set_option maxRecDepth 100000

/-- The call answers a float. -/
abbrev Fl (P : Program) (f : FuncId) (args : Array Value) (k : FloatKind) (a : Nat) : Prop := ∀ h, CALL P f args (fun u h' => (∃ y, u = .float k y ∧ FW k y a) ∧ Ext h h') h
theorem Fl.go {P : Program} {f : FuncId} {args : Array Value} {k : FloatKind} {a : Nat} (c : Fl P f args k a) {h : Heap} {K : Value → Heap → Prop} (H : ∀ h' y, Ext h h' → FW k y a → K (.float k y) h') : CALL P f args K h :=
  (c h).mono fun u h' ⟨⟨y, e, hy⟩, x⟩ => by subst e; exact H h' y x hy
theorem Fl.mem {P : Program} {f : FuncId} {args : Array Value} {k : FloatKind} {a : Nat} (c : Fl P f args k a) {h0 h : Heap} {L : List Blk} (M : Mem h0 h L) {K : Value → Heap → Prop} (H : ∀ h' y, Mem h0 h' L → FW k y a → K (.float k y) h') : CALL P f args K h :=
  c.go fun h' y x hy => H h' y (M.grow x) hy

theorem l00In_c (n l r : Int) : Ret prg f_spec_l00In #[.int .i64 n, .int .i64 l, .int .i64 r] (.bool (inR n l r)) := fun h => by
  refine spec_l00In.call (br (fun hb => ?_) fun hb => ?_) <;> exact ⟨by simp [inR, hb], Ext.refl _⟩
theorem within_c (n l r : Int) : Ret prg f_impl_within #[.int .i64 n, .int .i64 l, .int .i64 r] (.bool (inR n l r)) := fun h => by
  refine impl_within.call (br (fun hb => ?_) fun hb => ?_) <;> exact ⟨by simp [inR, hb], Ext.refl _⟩
theorem length_f32_c (b : Option Addr) (l c : Nat) : Ret prg f_impl_length_float32 #[.slice b l c] (.int .i64 l) := fun h => impl_length_float32.call ⟨rfl, Ext.refl _⟩
theorem fw0 : FW .f32 0 0 := fw_c32 (by decide) (by decide)
section
variable {x y a b : Nat}
theorem l01NaN_c (hx : FW .f32 x a) : Ret prg f_spec_l01NaN #[.float .f32 x] (.bool (nan .f32 a)) := fun h => spec_l01NaN.call ⟨by rw [ne_self, hx.nan], Ext.refl _⟩
theorem cn_word (hx : FW .f32 x a) : (if nan .f32 a then qn .f32 else x) = a := by
  split
  · next h => have := hx.self; unfold cn at this; rw [if_pos h] at this; exact this
  · next h => exact hx.eq (by simpa using h)
theorem bitsOf_c (hx : FW .f32 x a) : Ret prg f_impl_bitsOf #[.float .f32 x] (.int .u32 a) := fun h => by
  refine impl_bitsOf.call ?_
  rw [impl_bitsOf.S, ne_self, hx.nan]
  have := cn_word hx
  refine br (fun hb => ⟨by rw [← this, if_pos hb]; rfl, Ext.refl _⟩) fun hb => ?_
  refine (Float32bits_c x).go fun h2 x2 => as_i ⟨by rw [← this, hb]; rfl, x2⟩
theorem l01Finite_c (hx : FW .f32 x a) : Ret prg f_spec_l01Finite #[.float .f32 x] (.bool (fin a)) := fun h =>
  spec_l01Finite.call (fS hx hx fun r hr => ⟨by rw [ord_eq hr fw0]; rfl, Ext.refl _⟩)
theorem isFinite_c (hx : FW .f32 x a) : Ret prg f_impl_isFinite #[.float .f32 x] (.bool (fin a)) := fun h =>
  impl_isFinite.call (fS hx hx fun r hr => ⟨by rw [ord_eq hr fw0]; rfl, Ext.refl _⟩)
theorem l01Same_c (hx : FW .f32 x a) (hy : FW .f32 y b) : Ret prg f_spec_l01Same #[.float .f32 x, .float .f32 y] (.bool (a == b)) := fun h => by
  have key : ∀ h1, Ext h h1 → ∀ t, t = (nan .f32 a || nan .f32 b) → spec_l01Same.J2 (fun u h' => u = .bool (a == b) ∧ Ext h h') x y t h1 := by
    intro h1 x1 t ht
    subst ht
    unfold spec_l01Same.J2
    refine br (fun hb => ?_) fun hb => ?_
    · refine (l01NaN_c hx).go fun h2 x2 => as_b (br (fun h3 => ?_) fun h3 => ?_)
      · refine (l01NaN_c hy).go fun h4 x4 => as_b ⟨?_, (x1.trans x2).trans x4⟩
        have ea : a = qn .f32 := by have := hx.self; unfold cn at this; rw [if_pos h3] at this; exact this.symm
        subst ea
        congr 1
        rw [Bool.eq_iff_iff]
        constructor
        · intro h5; have := hy.self; unfold cn at this; rw [if_pos h5] at this; rw [← this]; simp
        · intro h5; have := eq_of_beq h5; rw [← this]; exact nan_qn .f32
      · rw [h3, Bool.false_or] at hb
        refine ⟨?_, x1.trans x2⟩
        have : (a == b) = false := by
          apply beq_false_of_ne
          intro e
          rw [e, hb] at h3
          cases h3
        rw [this]
    · rw [Bool.or_eq_false_iff] at hb
      refine (Float32bits_c x).go fun h2 x2 => as_i ((Float32bits_c y).go fun h4 x4 => as_i ⟨?_, (x1.trans x2).trans x4⟩)
      rw [hx.eq hb.1, hy.eq hb.2]
      congr 1
      rw [Bool.eq_iff_iff, beq_iff_eq, beq_iff_eq]
      omega
  refine spec_l01Same.call ((l01NaN_c hx).go fun h1 x1 => as_b (br (fun hb => key _ x1 _ (by rw [hb]; rfl)) fun hb => ?_))
  exact (l01NaN_c hy).go fun h2 x2 => as_b (key _ (x1.trans x2) _ (by rw [hb]; rfl))
theorem fw_mod (hx : FW .f32 x a) : FW .f32 (x % 2 ^ 31) (fabs a) := by
  refine ⟨?_, Nat.lt_of_lt_of_le (Nat.mod_lt _ (by decide)) (show 2 ^ 31 ≤ 2 ^ 32 by decide)⟩
  have h1 : nan .f32 (x % 2 ^ 31) = nan .f32 x := nan_mod (Nat.mod_mod _ _)
  have h2 : nan .f32 (a % 2 ^ 31) = nan .f32 a := nan_mod (Nat.mod_mod _ _)
  unfold fabs cn
  rw [h1, h2, hx.nan]
  split
  · rfl
  · next h => rw [hx.eq (by simpa using h)]
theorem l01Abs_c (hx : FW .f32 x a) : Fl prg f_spec_l01Abs #[.float .f32 x] .f32 (fabs a) := fun h => by
  refine spec_l01Abs.call ((Float32bits_c x).go fun h1 x1 => as_i ((frombits_c _).go fun h2 x2 => as_f ⟨⟨_, rfl, ?_⟩, x1.trans x2⟩))
  have hlt : x < 4294967296 := hx.2
  have e : (bitI .and .u32 (x : Int) 2147483647).toNat = x % 2 ^ 31 := by
    simp only [bitI]
    have e2 : (BitVec.ofInt IntKind.u32.bits (x : Int) &&& BitVec.ofInt IntKind.u32.bits 2147483647).toNat = x % 2 ^ 31 := by
      rw [show (2147483647 : Int) = ((2147483647 : Nat) : Int) from rfl, BitVec.toNat_and, BitVec.ofInt_natCast, BitVec.ofInt_natCast, BitVec.toNat_ofNat, BitVec.toNat_ofNat]
      rw [show (2 : Nat) ^ IntKind.u32.bits = 4294967296 by decide, Nat.mod_eq_of_lt hlt, show (2147483647 : Nat) % 4294967296 = 2 ^ 31 - 1 by decide, Nat.and_two_pow_sub_one_eq_mod]
    rw [e2]
    simp only [IntKind.wrap, IntKind.signed, Bool.false_and, Bool.false_eq_true, if_false]
    rw [show (2 : Int) ^ IntKind.u32.bits = 4294967296 by decide]
    have := Nat.mod_lt x (show 2 ^ 31 > 0 by decide)
    omega
  rw [e]
  exact fw_mod hx
theorem abs64_c (hx : FW .f64 x a) : Fl prg f_math_Abs #[.float .f64 x] .f64 (cn .f64 (a % 2 ^ 63)) := fun h => by
  refine math_Abs.call ((Float64bits_c x).go fun h1 x1 => as_i ((frombits64_c _).go fun h2 x2 => as_f ⟨⟨_, rfl, ?_⟩, x1.trans x2⟩))
  have hlt : x < 18446744073709551616 := hx.2
  have e : (bitI .andNot .u64 (x : Int) 9223372036854775808).toNat = x % 2 ^ 63 := by
    simp only [bitI]
    have e2 : (BitVec.ofInt IntKind.u64.bits (x : Int) &&& ~~~BitVec.ofInt IntKind.u64.bits 9223372036854775808).toNat = x % 2 ^ 63 := by
      have e3 : (~~~BitVec.ofInt IntKind.u64.bits 9223372036854775808).toNat = 2 ^ 63 - 1 := by decide
      rw [BitVec.toNat_and, e3, BitVec.ofInt_natCast, BitVec.toNat_ofNat]
      rw [show (2 : Nat) ^ IntKind.u64.bits = 18446744073709551616 by decide, Nat.mod_eq_of_lt hlt, Nat.and_two_pow_sub_one_eq_mod]
    rw [e2]
    simp only [IntKind.wrap, IntKind.signed, Bool.false_and, Bool.false_eq_true, if_false]
    rw [show (2 : Int) ^ IntKind.u64.bits = 18446744073709551616 by decide]
    have := Nat.mod_lt x (show 2 ^ 63 > 0 by decide)
    omega
  rw [e]
  refine ⟨?_, Nat.lt_of_lt_of_le (Nat.mod_lt _ (by decide)) (show 2 ^ 63 ≤ 2 ^ 64 by decide)⟩
  have h1 : nan .f64 (x % 2 ^ 63) = nan .f64 x := nan_mod (Nat.mod_mod _ _)
  have h2 : nan .f64 (a % 2 ^ 63) = nan .f64 a := nan_mod (Nat.mod_mod _ _)
  unfold cn
  rw [h1, h2, hx.nan]
  split
  · rfl
  · next h => rw [hx.eq (by simpa using h)]
theorem absolute_c (hx : FW .f32 x a) : Fl prg f_impl_absolute #[.float .f32 x] .f32 (fabs a) := fun h => by
  refine impl_absolute.call (ffc_wide hx fun r hr => (abs64_c hr).go fun h1 y x1 hy => as_f ?_)
  obtain ⟨e1, e2⟩ := abs_fits a hx.self
  refine ffc_nar hy e1 fun r hr => ⟨⟨r, rfl, ?_⟩, x1⟩
  rw [e2] at hr
  exact hr
theorem l01Flush_c (hx : FW .f32 x a) : Fl prg f_spec_l01Flush #[.float .f32 x] .f32 (flush a) := fun h => by
  refine spec_l01Flush.call ((l01Abs_c hx).go fun h1 y x1 hy => as_f ((frombits_c _).go fun h2 x2 => as_f ?_))
  rw [show (8388608 : Int).toNat = 8388608 from rfl, ord_eq hy (fw_c32 (c := 8388608) (by decide) (by decide))]
  exact br (fun hb => ⟨⟨0, rfl, by rw [flush, flt, if_pos hb]; exact fw0⟩, x1.trans x2⟩) fun hb => ⟨⟨x, rfl, by rw [flush, flt, hb]; exact hx⟩, x1.trans x2⟩
theorem FlushSample_c (hx : FW .f32 x a) : Fl prg f_impl_FlushSample #[.float .f32 x] .f32 (flush a) := fun h => by
  refine impl_FlushSample.call ((absolute_c hx).go fun h1 y x1 hy => as_f ?_)
  rw [ord_eq hy (fw_c32 (c := 8388608) (by decide) (by decide))]
  exact br (fun hb => ⟨⟨0, rfl, by rw [flush, flt, if_pos hb]; exact fw0⟩, x1⟩) fun hb => ⟨⟨x, rfl, by rw [flush, flt, hb]; exact hx⟩, x1⟩
theorem l02Kept_c (hx : FW .f32 x a) : Fl prg f_spec_l02Kept #[.float .f32 x] .f32 (kept a) := fun h => by
  refine spec_l02Kept.call ((l01Finite_c hx).go fun h1 x1 => as_b (br (fun hb => ?_) fun hb => ?_))
  · exact ⟨⟨0, rfl, by rw [kept, if_neg (by simpa using hb)]; exact fw0⟩, x1⟩
  · exact (l01Flush_c hx).go fun h2 y x2 hy => as_f ⟨⟨y, rfl, by rw [kept, if_pos (by simpa using hb)]; exact hy⟩, x1.trans x2⟩
theorem kept_c (hx : FW .f32 x a) : Fl prg f_impl_kept #[.float .f32 x] .f32 (kept a) := fun h => by
  refine impl_kept.call ((isFinite_c hx).go fun h1 x1 => as_b (br (fun hb => ?_) fun hb => ?_))
  · exact ⟨⟨0, rfl, by rw [kept, if_neg (by simpa using hb)]; exact fw0⟩, x1⟩
  · exact (FlushSample_c hx).go fun h2 y x2 hy => as_f ⟨⟨y, rfl, by rw [kept, if_pos (by simpa using hb)]; exact hy⟩, x1.trans x2⟩
def clamp (a l : Nat) : Nat := if fgt .f32 a l then l else if flt .f32 a (fneg .f32 l) then fneg .f32 l else a
end
end Go.Sx
