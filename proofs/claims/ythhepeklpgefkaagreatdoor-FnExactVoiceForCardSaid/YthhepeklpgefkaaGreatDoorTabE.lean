/- The slice types of this seat's program: what their elements are. -/
import Derived.Test.YthhepeklpgefkaaGreatDoorTab
import Derived.Test.YthhepeklpgefkaaGreatDoorLg
import Derived.Test.YthhepeklpgefkaaGreatDoorLx2
import Derived.Test.YthhepeklpgefkaaGreatDoorLp3
import Derived.MapKept
namespace Go.Sx
open Go.Proofs
theorem E_sl_float32 : ElemT prg T_sl_float32 T_float32 1 4 := ⟨Tryz.underlying23, ⟨Tryz.t22, _, by kernel_rfl, rfl, by kernel_rfl, by kernel_rfl, by kernel_rfl⟩⟩
theorem E_sl_impl_Ring : ElemT prg T_sl_impl_Ring T_impl_Ring 2 32 := ⟨Tryz.underlying60, ⟨Tryz.t53, _, by kernel_rfl, rfl, by kernel_rfl, by kernel_rfl, by kernel_rfl⟩⟩
end Go.Sx
/- What functions of this seat's program compute, told in words (a predicate over heaps for each), and the proofs that the words are no more than the code's own weakest precondition. -/
namespace Go.Sx
open Go.Proofs
set_option linter.unusedVariables false
set_option maxRecDepth 100000

def spec_l00In.S (n_0 : Int) (low_1 : Int) (high_2 : Int) (Post : Value → Heap → Prop) (h : Heap) : Prop :=
    BIF (decide (low_1 ≤ n_0)) (
    Post (.bool (decide (n_0 ≤ high_2))) h) (
    Post (.bool false) h)
noncomputable def spec_l00In.code : Code := (Tryz.f60.body).getD .skip
theorem spec_l00In.call {n_0 : Int} {low_1 : Int} {high_2 : Int} {Post : Value → Heap → Prop} {h : Heap} (H : spec_l00In.S n_0 low_1 high_2 Post h) : CALL prg f_spec_l00In #[.int .i64 n_0, .int .i64 low_1, .int .i64 high_2] Post h :=
  fn_call tau_ok mixed (c := spec_l00In.code) (Λ := lookL []) Tryz.func60 (by kernel_rfl) (by kernel_rfl)
    (Rq.free (by kernel_rfl))
    (Eq.mp (by kernel_rfl) H)

def impl_within.S (n_0 : Int) (low_1 : Int) (high_2 : Int) (Post : Value → Heap → Prop) (h : Heap) : Prop :=
    BIF (decide (low_1 ≤ n_0)) (
    Post (.bool (decide (n_0 ≤ high_2))) h) (
    Post (.bool false) h)
noncomputable def impl_within.code : Code := (Tryz.f86.body).getD .skip
theorem impl_within.call {n_0 : Int} {low_1 : Int} {high_2 : Int} {Post : Value → Heap → Prop} {h : Heap} (H : impl_within.S n_0 low_1 high_2 Post h) : CALL prg f_impl_within #[.int .i64 n_0, .int .i64 low_1, .int .i64 high_2] Post h :=
  fn_call tau_ok mixed (c := impl_within.code) (Λ := lookL []) Tryz.func86 (by kernel_rfl) (by kernel_rfl)
    (Rq.free (by kernel_rfl))
    (Eq.mp (by kernel_rfl) H)

def impl_length_float32.S (list_0b : Option Addr) (list_0l list_0c : Nat) (Post : Value → Heap → Prop) (h : Heap) : Prop :=
    Post (.int .i64 (list_0l : Int)) h
noncomputable def impl_length_float32.code : Code := (Tryz.f200.body).getD .skip
theorem impl_length_float32.call {list_0b : Option Addr} {list_0l list_0c : Nat} {Post : Value → Heap → Prop} {h : Heap} (H : impl_length_float32.S list_0b list_0l list_0c Post h) : CALL prg f_impl_length_float32 #[.slice list_0b list_0l list_0c] Post h :=
  fn_call tau_ok mixed (c := impl_length_float32.code) (Λ := lookL []) Tryz.func200 (by kernel_rfl) (by kernel_rfl)
    (Rq.free (by kernel_rfl))
    (Eq.mp (by kernel_rfl) H)

def spec_l01NaN.S (a_0 : Nat) (Post : Value → Heap → Prop) (h : Heap) : Prop :=
    Post (.bool (FloatKind.f32.format.order a_0 a_0 != some .eq)) h
noncomputable def spec_l01NaN.code : Code := (Tryz.f144.body).getD .skip
theorem spec_l01NaN.call {a_0 : Nat} {Post : Value → Heap → Prop} {h : Heap} (H : spec_l01NaN.S a_0 Post h) : CALL prg f_spec_l01NaN #[.float .f32 a_0] Post h :=
  fn_call tau_ok mixed (c := spec_l01NaN.code) (Λ := lookL []) Tryz.func144 (by kernel_rfl) (by kernel_rfl)
    (Rq.free (by kernel_rfl))
    (Eq.mp (by kernel_rfl) H)

def math_Abs.S (x_0 : Nat) (Post : Value → Heap → Prop) (h : Heap) : Prop :=
    CALL prg f_math_Float64bits #[.float .f64 x_0] (fun q1 h2 =>
    asI .u64 q1 fun n3 =>
    CALL prg f_math_Float64frombits #[.int .u64 (bitI .andNot .u64 n3 (9223372036854775808 : Int))] (fun q4 h5 =>
    asF .f64 q4 fun r6 =>
    Post (.float .f64 r6) h5) h2) h
noncomputable def math_Abs.code : Code := (Tryz.f387.body).getD .skip
theorem math_Abs.call {x_0 : Nat} {Post : Value → Heap → Prop} {h : Heap} (H : math_Abs.S x_0 Post h) : CALL prg f_math_Abs #[.float .f64 x_0] Post h :=
  fn_call tau_ok mixed (c := math_Abs.code) (Λ := lookL []) Tryz.func387 (by kernel_rfl) (by kernel_rfl)
    (Rq.free (by kernel_rfl))
    (Eq.mp (by kernel_rfl) H)

def spec_l01Finite.S (a_0 : Nat) (Post : Value → Heap → Prop) (h : Heap) : Prop :=
    FOP .f32 (FloatKind.f32.format.sub a_0 a_0) fun r1 =>
    Post (.bool (FloatKind.f32.format.order r1 0 == some .eq)) h
noncomputable def spec_l01Finite.code : Code := (Tryz.f196.body).getD .skip
theorem spec_l01Finite.call {a_0 : Nat} {Post : Value → Heap → Prop} {h : Heap} (H : spec_l01Finite.S a_0 Post h) : CALL prg f_spec_l01Finite #[.float .f32 a_0] Post h :=
  fn_call tau_ok mixed (c := spec_l01Finite.code) (Λ := lookL []) Tryz.func196 (by kernel_rfl) (by kernel_rfl)
    (Rq.free (by kernel_rfl))
    (Eq.mp (by kernel_rfl) H)

def impl_isFinite.S (a_0 : Nat) (Post : Value → Heap → Prop) (h : Heap) : Prop :=
    FOP .f32 (FloatKind.f32.format.sub a_0 a_0) fun r1 =>
    Post (.bool (FloatKind.f32.format.order r1 0 == some .eq)) h
noncomputable def impl_isFinite.code : Code := (Tryz.f205.body).getD .skip
theorem impl_isFinite.call {a_0 : Nat} {Post : Value → Heap → Prop} {h : Heap} (H : impl_isFinite.S a_0 Post h) : CALL prg f_impl_isFinite #[.float .f32 a_0] Post h :=
  fn_call tau_ok mixed (c := impl_isFinite.code) (Λ := lookL []) Tryz.func205 (by kernel_rfl) (by kernel_rfl)
    (Rq.free (by kernel_rfl))
    (Eq.mp (by kernel_rfl) H)

def impl_bitsOf.S (a_0 : Nat) (Post : Value → Heap → Prop) (h : Heap) : Prop :=
    BIF (FloatKind.f32.format.order a_0 a_0 != some .eq) (
    Post (.int .u32 (2143289344 : Int)) h) (
    CALL prg f_math_Float32bits #[.float .f32 a_0] (fun q1 h2 =>
    asI .u32 q1 fun n3 =>
    Post (.int .u32 n3) h2) h)
noncomputable def impl_bitsOf.code : Code := (Tryz.f201.body).getD .skip
theorem impl_bitsOf.call {a_0 : Nat} {Post : Value → Heap → Prop} {h : Heap} (H : impl_bitsOf.S a_0 Post h) : CALL prg f_impl_bitsOf #[.float .f32 a_0] Post h :=
  fn_call tau_ok mixed (c := impl_bitsOf.code) (Λ := lookL []) Tryz.func201 (by kernel_rfl) (by kernel_rfl)
    (Rq.free (by kernel_rfl))
    (Eq.mp (by kernel_rfl) H)

def spec_l01Same.J2 (Post : Value → Heap → Prop) (a_0 : Nat) (b_1 : Nat) (t10 : Bool) (h : Heap) : Prop :=
    BIF t10 (
    CALL prg f_spec_l01NaN #[.float .f32 a_0] (fun q7 h8 =>
    asB q7 fun b9 =>
    BIF b9 (
    CALL prg f_spec_l01NaN #[.float .f32 b_1] (fun q10 h11 =>
    asB q10 fun b12 =>
    Post (.bool b12) h11) h8) (
    Post (.bool false) h8)) h) (
    CALL prg f_math_Float32bits #[.float .f32 a_0] (fun q13 h14 =>
    asI .u32 q13 fun n15 =>
    CALL prg f_math_Float32bits #[.float .f32 b_1] (fun q16 h17 =>
    asI .u32 q16 fun n18 =>
    Post (.bool (n15 == n18)) h17) h14) h)
def spec_l01Same.j2 (Post : Value → Heap → Prop) : Frame → Heap → Prop := fun fr h => GRD (shape (kds 22 [(0, .f .f32), (1, .f .f32), (10, .b)]) fr) (spec_l01Same.J2 Post (gF (lget fr 0)) (gF (lget fr 1)) (gB (lget fr 10)) h)
def spec_l01Same.S (a_0 : Nat) (b_1 : Nat) (Post : Value → Heap → Prop) (h : Heap) : Prop :=
    CALL prg f_spec_l01NaN #[.float .f32 a_0] (fun q1 h2 =>
    asB q1 fun b3 =>
    BIF b3 (
    spec_l01Same.J2 Post a_0 b_1 true h2) (
    CALL prg f_spec_l01NaN #[.float .f32 b_1] (fun q4 h5 =>
    asB q4 fun b6 =>
    spec_l01Same.J2 Post a_0 b_1 b6 h5) h2)) h
noncomputable def spec_l01Same.code : Code := (Tryz.f80.body).getD .skip
theorem spec_l01Same.call {a_0 : Nat} {b_1 : Nat} {Post : Value → Heap → Prop} {h : Heap} (H : spec_l01Same.S a_0 b_1 Post h) : CALL prg f_spec_l01Same #[.float .f32 a_0, .float .f32 b_1] Post h :=
  fn_call tau_ok mixed (c := spec_l01Same.code) (Λ := lookL [(2, spec_l01Same.j2 Post)]) Tryz.func80 (by kernel_rfl) (by kernel_rfl)
    (Rq.seq (by kernel_rfl) (Rq.free (by kernel_rfl)) (Rq.seq (by kernel_rfl) (Rq.seqJ (spec_l01Same.j2 Post) (by kernel_rfl) (seg (fun _ _ => by kernel_rfl)) (Rq.free (by kernel_rfl))
(Rq.free (by kernel_rfl))) (Rq.free (by kernel_rfl))))
    (Eq.mp (by kernel_rfl) H)

def impl_SameSample.S (a_0 : Nat) (b_1 : Nat) (Post : Value → Heap → Prop) (h : Heap) : Prop :=
    CALL prg f_impl_bitsOf #[.float .f32 a_0] (fun q1 h2 =>
    asI .u32 q1 fun n3 =>
    CALL prg f_impl_bitsOf #[.float .f32 b_1] (fun q4 h5 =>
    asI .u32 q4 fun n6 =>
    Post (.bool (n3 == n6)) h5) h2) h
noncomputable def impl_SameSample.code : Code := (Tryz.f150.body).getD .skip
theorem impl_SameSample.call {a_0 : Nat} {b_1 : Nat} {Post : Value → Heap → Prop} {h : Heap} (H : impl_SameSample.S a_0 b_1 Post h) : CALL prg f_impl_SameSample #[.float .f32 a_0, .float .f32 b_1] Post h :=
  fn_call tau_ok mixed (c := impl_SameSample.code) (Λ := lookL []) Tryz.func150 (by kernel_rfl) (by kernel_rfl)
    (Rq.free (by kernel_rfl))
    (Eq.mp (by kernel_rfl) H)

def impl_inside.S (a_0 : Nat) (low_1 : Nat) (high_2 : Nat) (Post : Value → Heap → Prop) (h : Heap) : Prop :=
    BIF (FloatKind.f32.format.order a_0 low_1 == some .gt || FloatKind.f32.format.order a_0 low_1 == some .eq) (
    Post (.bool (FloatKind.f32.format.order a_0 high_2 == some .lt || FloatKind.f32.format.order a_0 high_2 == some .eq)) h) (
    Post (.bool false) h)
noncomputable def impl_inside.code : Code := (Tryz.f198.body).getD .skip
theorem impl_inside.call {a_0 : Nat} {low_1 : Nat} {high_2 : Nat} {Post : Value → Heap → Prop} {h : Heap} (H : impl_inside.S a_0 low_1 high_2 Post h) : CALL prg f_impl_inside #[.float .f32 a_0, .float .f32 low_1, .float .f32 high_2] Post h :=
  fn_call tau_ok mixed (c := impl_inside.code) (Λ := lookL []) Tryz.func198 (by kernel_rfl) (by kernel_rfl)
    (Rq.free (by kernel_rfl))
    (Eq.mp (by kernel_rfl) H)

end Go.Sx
/- The bits of floats: what the externs answer. -/
set_option linter.unusedVariables false
set_option linter.unusedSimpArgs false
namespace Go.Sx
open Go.Proofs
set_option maxRecDepth 100000
set_option maxHeartbeats 4000000

theorem Float32bits_c (b : Nat) : Ret prg f_math_Float32bits #[.float .f32 b] (.int .u32 b) :=
  ext_ret (e := Extern.MathFloatBits.float32bits) X_math_Float32bits (by kernel_rfl) (by kernel_rfl) (by kernel_rfl) (by kernel_rfl) fun w => rfl
theorem Float64bits_c (b : Nat) : Ret prg f_math_Float64bits #[.float .f64 b] (.int .u64 b) :=
  ext_ret (e := Extern.MathFloatBits.float64bits) X_math_Float64bits (by kernel_rfl) (by kernel_rfl) (by kernel_rfl) (by kernel_rfl) fun w => rfl
theorem frombits64_c (n : Int) : Ret prg f_math_Float64frombits #[.int .u64 n] (.float .f64 n.toNat) :=
  ext_ret (e := Extern.MathFloatBits.float64frombits) X_math_Float64frombits (by kernel_rfl) (by kernel_rfl) (by kernel_rfl) (by kernel_rfl) fun w => rfl
end Go.Sx
/- Floats in the program: what the small functions compute. -/
set_option linter.unusedVariables false
set_option linter.unusedSimpArgs false
namespace Go.Sx
open Go.Proofs Ieee
set_option maxRecDepth 100000

/-- The call answers a float. -/
abbrev Fl (P : Program) (f : FuncId) (args : Array Value) (k : FloatKind) (a : Nat) : Prop := ∀ h, CALL P f args (fun u h' => (∃ y, u = .float k y ∧ FW k y a) ∧ Ext h h') h
theorem Fl.go {P : Program} {f : FuncId} {args : Array Value} {k : FloatKind} {a : Nat} (c : Fl P f args k a) {h : Heap} {K : Value → Heap → Prop} (H : ∀ h' y, Ext h h' → FW k y a → K (.float k y) h') : CALL P f args K h :=
  (c h).mono fun u h' ⟨⟨y, e, hy⟩, x⟩ => by subst e; exact H h' y x hy
theorem Fl.mem {P : Program} {f : FuncId} {args : Array Value} {k : FloatKind} {a : Nat} (c : Fl P f args k a) {h0 h : Heap} {L : List Blk} (M : Mem h0 h L) {K : Value → Heap → Prop} (H : ∀ h' y, Mem h0 h' L → FW k y a → K (.float k y) h') : CALL P f args K h :=
  c.go fun h' y x hy => H h' y (M.grow x) hy

theorem l00In_c (n l r : Int) : Ret prg f_spec_l00In #[.int .i64 n, .int .i64 l, .int .i64 r] (.bool (inR n l r)) := fun h => by
  refine spec_l00In.call (br (fun hb => ?_) fun hb => ?_) <;> exact ⟨by simp [inR, hb], Ext.refl _⟩
theorem within_c (n l r : Int) : Ret prg f_impl_within #[.int .i64 n, .int .i64 l, .int .i64 r] (.bool (inR n l r)) := fun h => by
  refine impl_within.call (br (fun hb => ?_) fun hb => ?_) <;> exact ⟨by simp [inR, hb], Ext.refl _⟩
theorem length_f32_c (b : Option Addr) (l c : Nat) : Ret prg f_impl_length_float32 #[.slice b l c] (.int .i64 l) := fun h => impl_length_float32.call ⟨rfl, Ext.refl _⟩
theorem fw0 : FW .f32 0 0 := fw_c32 (by decide) (by decide)
section
variable {x y a b : Nat}
theorem l01NaN_c (hx : FW .f32 x a) : Ret prg f_spec_l01NaN #[.float .f32 x] (.bool (nan .f32 a)) := fun h => spec_l01NaN.call ⟨by rw [ne_self, hx.nan], Ext.refl _⟩
theorem cn_word (hx : FW .f32 x a) : (if nan .f32 a then qn .f32 else x) = a := by
  split
  · next h => have := hx.self; unfold cn at this; rw [if_pos h] at this; exact this
  · next h => exact hx.eq (by simpa using h)
theorem bitsOf_c (hx : FW .f32 x a) : Ret prg f_impl_bitsOf #[.float .f32 x] (.int .u32 a) := fun h => by
  refine impl_bitsOf.call ?_
  rw [impl_bitsOf.S, ne_self, hx.nan]
  have := cn_word hx
  refine br (fun hb => ⟨by rw [← this, if_pos hb]; rfl, Ext.refl _⟩) fun hb => ?_
  refine (Float32bits_c x).go fun h2 x2 => as_i ⟨by rw [← this, hb]; rfl, x2⟩
theorem l01Finite_c (hx : FW .f32 x a) : Ret prg f_spec_l01Finite #[.float .f32 x] (.bool (fin a)) := fun h =>
  spec_l01Finite.call (fS hx hx fun r hr => ⟨by rw [ord_eq hr fw0]; rfl, Ext.refl _⟩)
theorem isFinite_c (hx : FW .f32 x a) : Ret prg f_impl_isFinite #[.float .f32 x] (.bool (fin a)) := fun h =>
  impl_isFinite.call (fS hx hx fun r hr => ⟨by rw [ord_eq hr fw0]; rfl, Ext.refl _⟩)
theorem l01Same_c (hx : FW .f32 x a) (hy : FW .f32 y b) : Ret prg f_spec_l01Same #[.float .f32 x, .float .f32 y] (.bool (a == b)) := fun h => by
  have key : ∀ h1, Ext h h1 → ∀ t, t = (nan .f32 a || nan .f32 b) → spec_l01Same.J2 (fun u h' => u = .bool (a == b) ∧ Ext h h') x y t h1 := by
    intro h1 x1 t ht
    subst ht
    unfold spec_l01Same.J2
    refine br (fun hb => ?_) fun hb => ?_
    · refine (l01NaN_c hx).go fun h2 x2 => as_b (br (fun h3 => ?_) fun h3 => ?_)
      · refine (l01NaN_c hy).go fun h4 x4 => as_b ⟨?_, (x1.trans x2).trans x4⟩
        have ea : a = qn .f32 := by have := hx.self; unfold cn at this; rw [if_pos h3] at this; exact this.symm
        subst ea
        congr 1
        rw [Bool.eq_iff_iff]
        constructor
        · intro h5; have := hy.self; unfold cn at this; rw [if_pos h5] at this; rw [← this]; simp
        · intro h5; have := eq_of_beq h5; rw [← this]; exact nan_qn .f32
      · rw [h3, Bool.false_or] at hb
        refine ⟨?_, x1.trans x2⟩
        have : (a == b) = false := by
          apply beq_false_of_ne
          intro e
          rw [e, hb] at h3
          cases h3
        rw [this]
    · rw [Bool.or_eq_false_iff] at hb
      refine (Float32bits_c x).go fun h2 x2 => as_i ((Float32bits_c y).go fun h4 x4 => as_i ⟨?_, (x1.trans x2).trans x4⟩)
      rw [hx.eq hb.1, hy.eq hb.2]
      congr 1
      rw [Bool.eq_iff_iff, beq_iff_eq, beq_iff_eq]
      omega
  refine spec_l01Same.call ((l01NaN_c hx).go fun h1 x1 => as_b (br (fun hb => key _ x1 _ (by rw [hb]; rfl)) fun hb => ?_))
  exact (l01NaN_c hy).go fun h2 x2 => as_b (key _ (x1.trans x2) _ (by rw [hb]; rfl))
theorem abs64_c (hx : FW .f64 x a) : Fl prg f_math_Abs #[.float .f64 x] .f64 (cn .f64 (a % 2 ^ 63)) := fun h => by
  refine math_Abs.call ((Float64bits_c x).go fun h1 x1 => as_i ((frombits64_c _).go fun h2 x2 => as_f ⟨⟨_, rfl, ?_⟩, x1.trans x2⟩))
  have hlt : x < 18446744073709551616 := hx.2
  have e : (bitI .andNot .u64 (x : Int) 9223372036854775808).toNat = x % 2 ^ 63 := by
    simp only [bitI]
    have e2 : (BitVec.ofInt IntKind.u64.bits (x : Int) &&& ~~~BitVec.ofInt IntKind.u64.bits 9223372036854775808).toNat = x % 2 ^ 63 := by
      have e3 : (~~~BitVec.ofInt IntKind.u64.bits 9223372036854775808).toNat = 2 ^ 63 - 1 := by decide
      rw [BitVec.toNat_and, e3, BitVec.ofInt_natCast, BitVec.toNat_ofNat]
      rw [show (2 : Nat) ^ IntKind.u64.bits = 18446744073709551616 by decide, Nat.mod_eq_of_lt hlt, Nat.and_two_pow_sub_one_eq_mod]
    rw [e2]
    simp only [IntKind.wrap, IntKind.signed, Bool.false_and, Bool.false_eq_true, if_false]
    rw [show (2 : Int) ^ IntKind.u64.bits = 18446744073709551616 by decide]
    have := Nat.mod_lt x (show 2 ^ 63 > 0 by decide)
    omega
  rw [e]
  refine ⟨?_, Nat.lt_of_lt_of_le (Nat.mod_lt _ (by decide)) (show 2 ^ 63 ≤ 2 ^ 64 by decide)⟩
  have h1 : nan .f64 (x % 2 ^ 63) = nan .f64 x := nan_mod (Nat.mod_mod _ _)
  have h2 : nan .f64 (a % 2 ^ 63) = nan .f64 a := nan_mod (Nat.mod_mod _ _)
  unfold cn
  rw [h1, h2, hx.nan]
  split
  · rfl
  · next h => rw [hx.eq (by simpa using h)]
def clamp (a l : Nat) : Nat := if fgt .f32 a l then l else if flt .f32 a (fneg .f32 l) then fneg .f32 l else a
end
end Go.Sx
/- Two more small functions over floats. -/
set_option linter.unusedVariables false
set_option linter.unusedSimpArgs false
namespace Go.Sx
open Go.Proofs Ieee
set_option maxRecDepth 100000
section
variable {x y a b : Nat}
theorem SameSample_c (hx : FW .f32 x a) (hy : FW .f32 y b) : Ret prg f_impl_SameSample #[.float .f32 x, .float .f32 y] (.bool (a == b)) := fun h => by
  refine impl_SameSample.call ((bitsOf_c hx).go fun h1 x1 => as_i ((bitsOf_c hy).go fun h2 x2 => as_i ⟨?_, x1.trans x2⟩))
  congr 1
  rw [Bool.eq_iff_iff, beq_iff_eq, beq_iff_eq]
  omega
def inside (a l r : Nat) : Bool := fge .f32 a l && fle .f32 a r
theorem inside_c {z c : Nat} (hx : FW .f32 x a) (hy : FW .f32 y b) (hz : FW .f32 z c) : Ret prg f_impl_inside #[.float .f32 x, .float .f32 y, .float .f32 z] (.bool (inside a b c)) := fun h => by
  refine impl_inside.call ?_
  rw [impl_inside.S, ord_eq hx hy, ord_eq hx hz]
  exact br (fun hb => ⟨by rw [inside, fge, hb]; rfl, Ext.refl _⟩) fun hb => ⟨by rw [inside, fge, hb]; rfl, Ext.refl _⟩
end
end Go.Sx
/- What pipes do, plain. -/
set_option linter.unusedVariables false
set_option linter.unusedSimpArgs false
namespace Go.Sx
def one32 : Nat := 1065353216
def neg32 : Nat := 3212836864
def GPipe.n (x : GPipe) : Nat := x.Right.length
def GPipe.d (x : GPipe) (b : Nat) : Nat := fsub .f32 x.Left[0]!.old b
def GPipe.t (x : GPipe) (i : Nat) : Nat := fmul .f32 x.Scatter[i]! (fsub .f32 x.Right[i]!.old x.Left[i + 1]!.old)
def GPipe.e (x : GPipe) : GFilter × Nat := x.End.step x.Right[x.n - 1]!.old
def GPipe.back (x : GPipe) : Nat := let b := fmul .f32 x.Loss x.e.2; if x.Open then fneg .f32 b else b
def GPipe.reed (x : GPipe) (d : Nat) : Nat := clamp (fadd .f32 x.Rest (fmul .f32 x.Slope d)) one32
def GPipe.rt (x : GPipe) (b : Nat) (i : Nat) : GRing := x.Right[i]!.push (kept (if i = 0 then fadd .f32 b (fmul .f32 (x.d b) (x.reed (x.d b))) else fadd .f32 x.Right[i - 1]!.old (x.t (i - 1))))
def GPipe.lf (x : GPipe) (i : Nat) : GRing := x.Left[i]!.push (kept (if i = x.n - 1 then x.back else fadd .f32 x.Left[i + 1]!.old (x.t i)))
/-- A step: the pipe behind it, and what comes out. -/
def GPipe.step (x : GPipe) (b : Nat) : GPipe × Nat := ({ x with Right := (List.range x.n).map (x.rt b), Left := (List.range x.n).map x.lf, End := x.e.1 }, x.e.2)
def GPipe.ok (x : GPipe) : Bool :=
  inR x.n 1 3 && decide (x.Left.length = x.n) && decide (x.Scatter.length + 1 = x.n) && x.Right.all GRing.okf && x.Left.all GRing.okf && ((List.range x.n).all fun i => x.Right[i]!.Samples.length == x.Left[i]!.Samples.length) &&
    (x.Scatter.all fun k => inside k neg32 one32) && x.End.ok && (x.End.Kind == 1) && fin x.Loss && fin x.Rest && fin x.Slope
end Go.Sx
/- Maps whose keys are integers: made, looked up, updated, counted. -/
set_option linter.unusedVariables false
set_option linter.unusedSimpArgs false
namespace Go.Sx
open Go.MapKept

def encM (p : Int × Value) : Value × Value := (.int .i64 p.1, p.2)
def pairM (e : MapEntry) : Value × Value := (e.key, e.val)
/-- In block g lies a map with these entries, in this order. -/
def MapI (h : Heap) (g : Nat) (m : List (Int × Value)) : Prop := ∃ (es : Array MapEntry) (clock : Nat), h[g]? = some (.map es clock) ∧ es.toList.map pairM = m.map encM
def ifind : List (Int × Value) → Int → Option (Nat × Value)
  | [], _ => none
  | (k, u) :: m, n => if n = k then some (0, u) else (ifind m n).map fun p => (p.1 + 1, p.2)
def mfind (m : List (Int × Value)) (n : Int) : Option Value := (ifind m n).map (·.2)
def mset : List (Int × Value) → Int → Value → List (Int × Value)
  | [], n, v => [(n, v)]
  | (k, u) :: m, n, v => if n = k then (n, v) :: m else (k, u) :: mset m n v
theorem mfind_cons (k n : Int) (u : Value) (m : List (Int × Value)) : mfind ((k, u) :: m) n = if n = k then some u else mfind m n := by
  unfold mfind
  rw [ifind]
  split
  · rfl
  · rw [Option.map_map]; rfl
theorem mfind_mset (m : List (Int × Value)) (k n : Int) (v : Value) : mfind (mset m k v) n = if n = k then some v else mfind m n := by
  induction m with
  | nil => rw [mset, mfind_cons]
  | cons p m ih =>
    obtain ⟨a, u⟩ := p
    rw [mset]
    split
    · next e =>
      subst e
      rw [mfind_cons, mfind_cons]
      split
      · rfl
      · rfl
    · next e =>
      rw [mfind_cons, mfind_cons, ih]
      by_cases h1 : n = a
      · subst h1
        rw [if_pos rfl, if_pos rfl]
        rw [if_neg (fun h => e h.symm)]
      · rw [if_neg h1, if_neg h1]
/-- How many entries there are, one more where the key is new. -/
theorem mset_len (m : List (Int × Value)) (k : Int) (v : Value) : (mset m k v).length = if (mfind m k).isSome then m.length else m.length + 1 := by
  induction m with
  | nil => rfl
  | cons p m ih =>
    obtain ⟨a, u⟩ := p
    rw [mset, mfind_cons]
    split
    · rfl
    · rw [List.length_cons, ih]
      split <;> simp
section
variable {P : Program} {h hb : Heap} {g : Nat} {m : List (Int × Value)} {t k e : TypeId} {K : Value → Heap → Prop}
theorem findNow_int (n : Int) : ∀ {L : List MapEntry} {m : List (Int × Value)} (i : Nat), L.map pairM = m.map encM → Instr.findNow (.int .i64) (.int .i64 n) L i = some ((ifind m n).map fun p => (i + p.1, p.2))
  | [], [], i, _ => rfl
  | [], _ :: _, i, h => by cases h
  | _ :: _, [], i, h => by cases h
  | x :: L, (a, u) :: m, i, h => by
    simp only [List.map_cons, List.cons.injEq] at h
    obtain ⟨h1, h2⟩ := h
    have hk : x.key = .int .i64 a := congrArg Prod.fst h1
    have hv : x.val = u := congrArg Prod.snd h1
    have ih := findNow_int n (i + 1) h2
    unfold Instr.findNow
    rw [hk]
    simp only [Instr.sameNow, if_pos]
    by_cases e : n = a
    · subst e
      rw [show (n == n) = true by simp]
      simp [ifind, hv]
    · rw [show (n == a) = false by simpa using e]
      simp only []
      rw [ih]
      simp only [ifind, if_neg e, Option.map_map]
      congr 1
      congr 1
      funext p
      simp only [Function.comp_apply, Prod.mk.injEq, and_true]
      omega
theorem MapI.ext {h' : Heap} (M : MapI h g m) (x : Ext h h') : MapI h' g m := by
  obtain ⟨es, c, e1, e2⟩ := M
  have hlt : g < h.size := (Array.getElem?_eq_some_iff.1 e1).1
  exact ⟨es, c, by rw [x.2 g hlt]; exact e1, e2⟩
theorem make_map {t : TypeId} (H : ∀ g h', Ext h h' → g = h.size → MapI h' g [] → K (.map (some g)) h') : SEMV P (Instr.makeMap t none) K h := by
  refine semv fun w hw => ⟨.map (some w.heap.size), w.alloc (.map #[] 0), by simp [Instr.makeMap, newObj, Sem.run], ⟨rfl, rfl, rfl⟩, ?_⟩
  have e : (w.alloc (.map #[] 0)).heap = w.heap.push (.map #[] 0) := rfl
  rw [e, hw]
  exact H _ _ (Ext.push _ _) rfl ⟨#[], 0, by simp, rfl⟩
theorem look_map {z : Value} (M : MapI h g m) (ht : P.underlying t = some (.map k e)) (hk : P.underlying k = some (.int .i64)) (hz : ∀ w : World, (zeroValue e).run P w = .ok z w) (n : Int)
    (H : K (.tuple #[(mfind m n).getD z, .bool (mfind m n).isSome]) h) : SEMV P (Instr.lookup t (.map (some g)) (.int .i64 n) true) K h := by
  obtain ⟨es, c, e1, e2⟩ := M
  refine semv fun w hw => ⟨.tuple #[(mfind m n).getD z, .bool (mfind m n).isSome], w, ?_, Same.refl _, by rw [hw]; exact H⟩
  have hb : w.heap[g]? = some (.map es c) := by rw [hw]; exact e1
  have hf := findNow_int n 0 e2
  have hc := MapKept.run_checkKey (P := P) (w := w) (k := .int .i64 n) hk (by exact rfl) es.isEmpty 9999
  simp only [Instr.lookup, Sem.run_bind, run_underlying ht, Result.andThen_ok, MapKept.run_getObj_map hb, Sem.run_pure]
  rw [show (10000 : Nat) = 9999 + 1 from rfl, hc]
  simp only [Result.andThen_ok]
  rw [MapKept.run_findKey hk hf]
  unfold mfind
  cases ifind m n with
  | none => simp [hz w, Result.andThen]
  | some p => simp [Result.andThen]
theorem look_map1 {z : Value} (M : MapI h g m) (ht : P.underlying t = some (.map k e)) (hk : P.underlying k = some (.int .i64)) (hz : ∀ w : World, (zeroValue e).run P w = .ok z w) (n : Int)
    (H : K ((mfind m n).getD z) h) : SEMV P (Instr.lookup t (.map (some g)) (.int .i64 n) false) K h := by
  obtain ⟨es, c, e1, e2⟩ := M
  refine semv fun w hw => ⟨(mfind m n).getD z, w, ?_, Same.refl _, by rw [hw]; exact H⟩
  have hb : w.heap[g]? = some (.map es c) := by rw [hw]; exact e1
  have hf := findNow_int n 0 e2
  have hc := MapKept.run_checkKey (P := P) (w := w) (k := .int .i64 n) hk (by exact rfl) es.isEmpty 9999
  simp only [Instr.lookup, Sem.run_bind, run_underlying ht, Result.andThen_ok, MapKept.run_getObj_map hb, Sem.run_pure]
  rw [show (10000 : Nat) = 9999 + 1 from rfl, hc]
  simp only [Result.andThen_ok]
  rw [MapKept.run_findKey hk hf]
  unfold mfind
  cases ifind m n with
  | none => simp [hz w, Result.andThen]
  | some p => simp [Result.andThen]
theorem modify_pair {L : List MapEntry} {n : Int} {v : Value} : ∀ {m : List (Int × Value)} {j : Nat} {u : Value}, L.map pairM = m.map encM → ifind m n = some (j, u) →
    ((L.modify j fun x => { x with key := .int .i64 n, val := v }).map pairM = (mset m n v).map encM ∧ L[j]?.map (·.key) = some (.int .i64 n)) := by
  induction L with
  | nil =>
    intro m j u h1 h2
    cases m with
    | nil => cases h2
    | cons _ _ => cases h1
  | cons x L ih =>
    intro m j u h1 h2
    cases m with
    | nil => cases h1
    | cons p m =>
      obtain ⟨a, b⟩ := p
      simp only [List.map_cons, List.cons.injEq] at h1
      obtain ⟨h3, h4⟩ := h1
      rw [ifind] at h2
      rw [mset]
      split at h2
      · next e =>
        subst e
        obtain ⟨rfl, rfl⟩ : j = 0 ∧ u = b := by simpa [eq_comm] using h2
        rw [if_pos rfl]
        refine ⟨?_, ?_⟩
        · simp only [List.modify_zero_cons, List.map_cons, h4]
          rfl
        · have : x.key = .int .i64 n := congrArg Prod.fst h3
          simp [this]
      · next e =>
        rw [if_neg e]
        cases hf : ifind m n with
        | none => rw [hf] at h2; cases h2
        | some q =>
          obtain ⟨j', u'⟩ := q
          rw [hf] at h2
          obtain ⟨rfl, rfl⟩ : j' + 1 = j ∧ u' = u := by simpa using h2
          obtain ⟨k1, k2⟩ := ih h4 hf
          exact ⟨by simp only [List.modify_succ_cons, List.map_cons, k1, h3], by simpa using k2⟩
theorem push_pair {L : List MapEntry} {n : Int} {v : Value} {x : MapEntry} (hx : pairM x = encM (n, v)) {m : List (Int × Value)} (h1 : L.map pairM = m.map encM) (h2 : ifind m n = none) : (L ++ [x]).map pairM = (mset m n v).map encM := by
  have : mset m n v = m ++ [(n, v)] := by
    clear h1
    induction m with
    | nil => rfl
    | cons p m ih =>
      obtain ⟨a, b⟩ := p
      rw [ifind] at h2
      split at h2
      · cases h2
      · next e =>
        rw [mset, if_neg e, ih (by simpa using h2)]
        rfl
  rw [this, List.map_append, List.map_append, h1]
  simp [hx]
theorem put_map (M : MapI h g m) (X : Ext hb h) (hg : hb.size ≤ g) (ht : P.underlying t = some (.map k e)) (hk : P.underlying k = some (.int .i64)) (n : Int) (v : Value)
    (H : ∀ q h', Ext hb h' → MapI h' g (mset m n v) → (∀ i, i ≠ g → h'[i]? = h[i]?) → K q h') : SEMN P (do Instr.mapUpdate t (.map (some g)) (.int .i64 n) v; pure .skip) K h := by
  obtain ⟨es, c, e1, e2⟩ := M
  have hlt : g < h.size := (Array.getElem?_eq_some_iff.1 e1).1
  refine semn_skip fun w hw => ?_
  have hbb : w.heap[g]? = some (.map es c) := by rw [hw]; exact e1
  have hf := findNow_int n 0 e2
  have hc := MapKept.run_checkKey (P := P) (w := w) (k := .int .i64 n) hk (by exact rfl) false 9999
  have key : ∀ o : Obj, Ext hb (h.setIfInBounds g o) := fun o => ⟨by rw [Array.size_setIfInBounds]; exact X.1, fun i hi => by rw [Array.getElem?_setIfInBounds, if_neg (by omega)]; exact X.2 i hi⟩
  have other : ∀ (o : Obj) i, i ≠ g → (h.setIfInBounds g o)[i]? = h[i]? := fun o i hi => by rw [Array.getElem?_setIfInBounds, if_neg (fun e => hi e.symm)]
  have self : ∀ o : Obj, (h.setIfInBounds g o)[g]? = some o := fun o => by rw [Array.getElem?_setIfInBounds, if_pos rfl, if_pos hlt]
  cases hi : ifind m n with
  | none =>
    refine ⟨{ w with heap := w.heap.setIfInBounds g (.map (es.push { key := .int .i64 n, val := v, born := c }) (c + 1)) }, ?_, ⟨rfl, rfl, rfl⟩, ?_⟩
    · rw [hi] at hf
      simp only [Instr.mapUpdate, Sem.run_bind, run_underlying ht, Result.andThen_ok, MapKept.run_getObj_map hbb, Sem.run_pure]
      rw [show (10000 : Nat) = 9999 + 1 from rfl, hc]
      simp only [Result.andThen_ok]
      rw [MapKept.run_findKey hk hf]
      simp [MapKept.run_setObj_map _ hbb, Result.andThen]
    · simp only [hw]
      exact H _ _ (key _) ⟨_, _, self _, by rw [Array.toList_push]; exact push_pair rfl e2 hi⟩ (other _)
  | some p =>
    obtain ⟨j, u⟩ := p
    obtain ⟨k1, k2⟩ := modify_pair (v := v) e2 hi
    refine ⟨{ w with heap := w.heap.setIfInBounds g (.map (es.modify j fun x => { x with key := .int .i64 n, val := v }) c) }, ?_, ⟨rfl, rfl, rfl⟩, ?_⟩
    · rw [hi] at hf
      simp only [Instr.mapUpdate, Sem.run_bind, run_underlying ht, Result.andThen_ok, MapKept.run_getObj_map hbb, Sem.run_pure]
      rw [show (10000 : Nat) = 9999 + 1 from rfl, hc]
      simp only [Result.andThen_ok]
      rw [MapKept.run_findKey hk hf]
      have hj : (es[j]?.map (·.key)).getD (.int .i64 n) = .int .i64 n := by
        rw [Array.getElem?_toList] at k2
        rw [k2]; rfl
      simp only [Option.map_some, Nat.zero_add, Sem.run_bind, Result.andThen_ok]
      rw [hj, MapKept.run_keyThatStays (d := .int .i64) (k := .int .i64 n) (show IsKey (.int .i64) (.int .i64 n) from rfl)]
      simp [MapKept.run_setObj_map _ hbb, Result.andThen]
    · simp only [hw]
      exact H _ _ (key _) ⟨_, _, self _, by rw [Array.toList_modify]; exact k1⟩ (other _)
theorem len_map {ty : TypeId} (M : MapI h g m) (ht : P.underlying t = some (.map k e)) (H : K (.int .i64 (m.length : Int)) h) : SEMV P (Builtin.len_ #[t] ty #[.map (some g)]) K h := by
  obtain ⟨es, c, e1, e2⟩ := M
  have hl : es.size = m.length := by have := congrArg List.length e2; simpa using this
  refine semv fun w hw => ⟨.int .i64 (m.length : Int), w, ?_, Same.refl _, by rw [hw]; exact H⟩
  have hbb : w.heap[g]? = some (.map es c) := by rw [hw]; exact e1
  simp [Builtin.len_, run_underlying ht, MapKept.run_getObj_map hbb, Result.andThen, goInt, hl]
end
end Go.Sx
