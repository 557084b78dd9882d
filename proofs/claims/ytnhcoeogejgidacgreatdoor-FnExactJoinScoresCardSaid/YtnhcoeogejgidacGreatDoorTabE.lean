/- The slice types of this seat's program: what their elements are. -/
import Derived.Test.YtnhcoeogejgidacGreatDoorTab
import Derived.Test.YtnhcoeogejgidacGreatDoorLg
import Derived.Test.YtnhcoeogejgidacGreatDoorLx2
import Derived.Test.YtnhcoeogejgidacGreatDoorLp2
namespace Go.Sx
open Go.Proofs
theorem E_sl_float32 : ElemT prg T_sl_float32 T_float32 1 4 := ⟨Tryz.underlying23, ⟨Tryz.t22, _, by kernel_rfl, rfl, by kernel_rfl, by kernel_rfl, by kernel_rfl⟩⟩
theorem E_sl_impl_Instrument : ElemT prg T_sl_impl_Instrument T_impl_Instrument 5 40 := ⟨Tryz.underlying32, ⟨Tryz.t147, _, by kernel_rfl, rfl, by kernel_rfl, by kernel_rfl, by kernel_rfl⟩⟩
theorem E_sl_impl_Event : ElemT prg T_sl_impl_Event T_impl_Event 6 48 := ⟨Tryz.underlying33, ⟨Tryz.t74, _, by kernel_rfl, rfl, by kernel_rfl, by kernel_rfl, by kernel_rfl⟩⟩
theorem E_sl_spec_l08Note : ElemT prg T_sl_spec_l08Note T_spec_l08Note 5 40 := ⟨Tryz.underlying86, ⟨Tryz.t89, _, by kernel_rfl, rfl, by kernel_rfl, by kernel_rfl, by kernel_rfl⟩⟩
theorem E_sl_4_int64 : ElemT prg T_sl_4_int64 T_4_int64 4 32 := ⟨Tryz.underlying153, ⟨Tryz.t154, _, by kernel_rfl, rfl, by kernel_rfl, by kernel_rfl, by kernel_rfl⟩⟩
end Go.Sx
/- What functions of this seat's program compute, told in words (a predicate over heaps for each), and the proofs that the words are no more than the code's own weakest precondition. -/
namespace Go.Sx
open Go.Proofs
set_option linter.unusedVariables false
set_option maxRecDepth 100000

def spec_l00In.S (n_0 : Int) (low_1 : Int) (high_2 : Int) (Post : Value → Heap → Prop) (h : Heap) : Prop :=
    BIF (decide (low_1 ≤ n_0)) (
    Post (.bool (decide (n_0 ≤ high_2))) h) (
    Post (.bool false) h)
noncomputable def spec_l00In.code : Code := (Tryz.f30.body).getD .skip
theorem spec_l00In.call {n_0 : Int} {low_1 : Int} {high_2 : Int} {Post : Value → Heap → Prop} {h : Heap} (H : spec_l00In.S n_0 low_1 high_2 Post h) : CALL prg f_spec_l00In #[.int .i64 n_0, .int .i64 low_1, .int .i64 high_2] Post h :=
  fn_call tau_ok mixed (c := spec_l00In.code) (Λ := lookL []) Tryz.func30 (by kernel_rfl) (by kernel_rfl)
    (Rq.free (by kernel_rfl))
    (Eq.mp (by kernel_rfl) H)

def impl_within.S (n_0 : Int) (low_1 : Int) (high_2 : Int) (Post : Value → Heap → Prop) (h : Heap) : Prop :=
    BIF (decide (low_1 ≤ n_0)) (
    Post (.bool (decide (n_0 ≤ high_2))) h) (
    Post (.bool false) h)
noncomputable def impl_within.code : Code := (Tryz.f43.body).getD .skip
theorem impl_within.call {n_0 : Int} {low_1 : Int} {high_2 : Int} {Post : Value → Heap → Prop} {h : Heap} (H : impl_within.S n_0 low_1 high_2 Post h) : CALL prg f_impl_within #[.int .i64 n_0, .int .i64 low_1, .int .i64 high_2] Post h :=
  fn_call tau_ok mixed (c := impl_within.code) (Λ := lookL []) Tryz.func43 (by kernel_rfl) (by kernel_rfl)
    (Rq.free (by kernel_rfl))
    (Eq.mp (by kernel_rfl) H)

def impl_length_float32.S (list_0b : Option Addr) (list_0l list_0c : Nat) (Post : Value → Heap → Prop) (h : Heap) : Prop :=
    Post (.int .i64 (list_0l : Int)) h
noncomputable def impl_length_float32.code : Code := (Tryz.f161.body).getD .skip
theorem impl_length_float32.call {list_0b : Option Addr} {list_0l list_0c : Nat} {Post : Value → Heap → Prop} {h : Heap} (H : impl_length_float32.S list_0b list_0l list_0c Post h) : CALL prg f_impl_length_float32 #[.slice list_0b list_0l list_0c] Post h :=
  fn_call tau_ok mixed (c := impl_length_float32.code) (Λ := lookL []) Tryz.func161 (by kernel_rfl) (by kernel_rfl)
    (Rq.free (by kernel_rfl))
    (Eq.mp (by kernel_rfl) H)

def spec_l01NaN.S (a_0 : Nat) (Post : Value → Heap → Prop) (h : Heap) : Prop :=
    Post (.bool (FloatKind.f32.format.order a_0 a_0 != some .eq)) h
noncomputable def spec_l01NaN.code : Code := (Tryz.f88.body).getD .skip
theorem spec_l01NaN.call {a_0 : Nat} {Post : Value → Heap → Prop} {h : Heap} (H : spec_l01NaN.S a_0 Post h) : CALL prg f_spec_l01NaN #[.float .f32 a_0] Post h :=
  fn_call tau_ok mixed (c := spec_l01NaN.code) (Λ := lookL []) Tryz.func88 (by kernel_rfl) (by kernel_rfl)
    (Rq.free (by kernel_rfl))
    (Eq.mp (by kernel_rfl) H)

def spec_l01Finite.S (a_0 : Nat) (Post : Value → Heap → Prop) (h : Heap) : Prop :=
    FOP .f32 (FloatKind.f32.format.sub a_0 a_0) fun r1 =>
    Post (.bool (FloatKind.f32.format.order r1 0 == some .eq)) h
noncomputable def spec_l01Finite.code : Code := (Tryz.f157.body).getD .skip
theorem spec_l01Finite.call {a_0 : Nat} {Post : Value → Heap → Prop} {h : Heap} (H : spec_l01Finite.S a_0 Post h) : CALL prg f_spec_l01Finite #[.float .f32 a_0] Post h :=
  fn_call tau_ok mixed (c := spec_l01Finite.code) (Λ := lookL []) Tryz.func157 (by kernel_rfl) (by kernel_rfl)
    (Rq.free (by kernel_rfl))
    (Eq.mp (by kernel_rfl) H)

def impl_isFinite.S (a_0 : Nat) (Post : Value → Heap → Prop) (h : Heap) : Prop :=
    FOP .f32 (FloatKind.f32.format.sub a_0 a_0) fun r1 =>
    Post (.bool (FloatKind.f32.format.order r1 0 == some .eq)) h
noncomputable def impl_isFinite.code : Code := (Tryz.f137.body).getD .skip
theorem impl_isFinite.call {a_0 : Nat} {Post : Value → Heap → Prop} {h : Heap} (H : impl_isFinite.S a_0 Post h) : CALL prg f_impl_isFinite #[.float .f32 a_0] Post h :=
  fn_call tau_ok mixed (c := impl_isFinite.code) (Λ := lookL []) Tryz.func137 (by kernel_rfl) (by kernel_rfl)
    (Rq.free (by kernel_rfl))
    (Eq.mp (by kernel_rfl) H)

def impl_bitsOf.S (a_0 : Nat) (Post : Value → Heap → Prop) (h : Heap) : Prop :=
    BIF (FloatKind.f32.format.order a_0 a_0 != some .eq) (
    Post (.int .u32 (2143289344 : Int)) h) (
    CALL prg f_math_Float32bits #[.float .f32 a_0] (fun q1 h2 =>
    asI .u32 q1 fun n3 =>
    Post (.int .u32 n3) h2) h)
noncomputable def impl_bitsOf.code : Code := (Tryz.f135.body).getD .skip
theorem impl_bitsOf.call {a_0 : Nat} {Post : Value → Heap → Prop} {h : Heap} (H : impl_bitsOf.S a_0 Post h) : CALL prg f_impl_bitsOf #[.float .f32 a_0] Post h :=
  fn_call tau_ok mixed (c := impl_bitsOf.code) (Λ := lookL []) Tryz.func135 (by kernel_rfl) (by kernel_rfl)
    (Rq.free (by kernel_rfl))
    (Eq.mp (by kernel_rfl) H)

def spec_l01Same.J2 (Post : Value → Heap → Prop) (a_0 : Nat) (b_1 : Nat) (t10 : Bool) (h : Heap) : Prop :=
    BIF t10 (
    CALL prg f_spec_l01NaN #[.float .f32 a_0] (fun q7 h8 =>
    asB q7 fun b9 =>
    BIF b9 (
    CALL prg f_spec_l01NaN #[.float .f32 b_1] (fun q10 h11 =>
    asB q10 fun b12 =>
    Post (.bool b12) h11) h8) (
    Post (.bool false) h8)) h) (
    CALL prg f_math_Float32bits #[.float .f32 a_0] (fun q13 h14 =>
    asI .u32 q13 fun n15 =>
    CALL prg f_math_Float32bits #[.float .f32 b_1] (fun q16 h17 =>
    asI .u32 q16 fun n18 =>
    Post (.bool (n15 == n18)) h17) h14) h)
def spec_l01Same.j2 (Post : Value → Heap → Prop) : Frame → Heap → Prop := fun fr h => GRD (shape (kds 22 [(0, .f .f32), (1, .f .f32), (10, .b)]) fr) (spec_l01Same.J2 Post (gF (lget fr 0)) (gF (lget fr 1)) (gB (lget fr 10)) h)
def spec_l01Same.S (a_0 : Nat) (b_1 : Nat) (Post : Value → Heap → Prop) (h : Heap) : Prop :=
    CALL prg f_spec_l01NaN #[.float .f32 a_0] (fun q1 h2 =>
    asB q1 fun b3 =>
    BIF b3 (
    spec_l01Same.J2 Post a_0 b_1 true h2) (
    CALL prg f_spec_l01NaN #[.float .f32 b_1] (fun q4 h5 =>
    asB q4 fun b6 =>
    spec_l01Same.J2 Post a_0 b_1 b6 h5) h2)) h
noncomputable def spec_l01Same.code : Code := (Tryz.f32.body).getD .skip
theorem spec_l01Same.call {a_0 : Nat} {b_1 : Nat} {Post : Value → Heap → Prop} {h : Heap} (H : spec_l01Same.S a_0 b_1 Post h) : CALL prg f_spec_l01Same #[.float .f32 a_0, .float .f32 b_1] Post h :=
  fn_call tau_ok mixed (c := spec_l01Same.code) (Λ := lookL [(2, spec_l01Same.j2 Post)]) Tryz.func32 (by kernel_rfl) (by kernel_rfl)
    (Rq.seq (by kernel_rfl) (Rq.free (by kernel_rfl)) (Rq.seq (by kernel_rfl) (Rq.seqJ (spec_l01Same.j2 Post) (by kernel_rfl) (seg (fun _ _ => by kernel_rfl)) (Rq.free (by kernel_rfl))
(Rq.free (by kernel_rfl))) (Rq.free (by kernel_rfl))))
    (Eq.mp (by kernel_rfl) H)

def impl_SameSample.S (a_0 : Nat) (b_1 : Nat) (Post : Value → Heap → Prop) (h : Heap) : Prop :=
    CALL prg f_impl_bitsOf #[.float .f32 a_0] (fun q1 h2 =>
    asI .u32 q1 fun n3 =>
    CALL prg f_impl_bitsOf #[.float .f32 b_1] (fun q4 h5 =>
    asI .u32 q4 fun n6 =>
    Post (.bool (n3 == n6)) h5) h2) h
noncomputable def impl_SameSample.code : Code := (Tryz.f102.body).getD .skip
theorem impl_SameSample.call {a_0 : Nat} {b_1 : Nat} {Post : Value → Heap → Prop} {h : Heap} (H : impl_SameSample.S a_0 b_1 Post h) : CALL prg f_impl_SameSample #[.float .f32 a_0, .float .f32 b_1] Post h :=
  fn_call tau_ok mixed (c := impl_SameSample.code) (Λ := lookL []) Tryz.func102 (by kernel_rfl) (by kernel_rfl)
    (Rq.free (by kernel_rfl))
    (Eq.mp (by kernel_rfl) H)

def impl_inside.S (a_0 : Nat) (low_1 : Nat) (high_2 : Nat) (Post : Value → Heap → Prop) (h : Heap) : Prop :=
    BIF (FloatKind.f32.format.order a_0 low_1 == some .gt || FloatKind.f32.format.order a_0 low_1 == some .eq) (
    Post (.bool (FloatKind.f32.format.order a_0 high_2 == some .lt || FloatKind.f32.format.order a_0 high_2 == some .eq)) h) (
    Post (.bool false) h)
noncomputable def impl_inside.code : Code := (Tryz.f159.body).getD .skip
theorem impl_inside.call {a_0 : Nat} {low_1 : Nat} {high_2 : Nat} {Post : Value → Heap → Prop} {h : Heap} (H : impl_inside.S a_0 low_1 high_2 Post h) : CALL prg f_impl_inside #[.float .f32 a_0, .float .f32 low_1, .float .f32 high_2] Post h :=
  fn_call tau_ok mixed (c := impl_inside.code) (Λ := lookL []) Tryz.func159 (by kernel_rfl) (by kernel_rfl)
    (Rq.free (by kernel_rfl))
    (Eq.mp (by kernel_rfl) H)

end Go.Sx
/- The bits of floats: what the externs answer. -/
set_option linter.unusedVariables false
set_option linter.unusedSimpArgs false
namespace Go.Sx
open Go.Proofs
set_option maxRecDepth 100000
set_option maxHeartbeats 4000000

theorem Float32bits_c (b : Nat) : Ret prg f_math_Float32bits #[.float .f32 b] (.int .u32 b) :=
  ext_ret (e := Extern.MathFloatBits.float32bits) X_math_Float32bits (by kernel_rfl) (by kernel_rfl) (by kernel_rfl) (by kernel_rfl) fun w => rfl
end Go.Sx
/- Floats in the program: what the small functions compute. -/
set_option linter.unusedVariables false
set_option linter.unusedSimpArgs false
namespace Go.Sx
open Go.Proofs Ieee
set_option maxRecDepth 100000

/-- The call answers a float. -/
abbrev Fl (P : Program) (f : FuncId) (args : Array Value) (k : FloatKind) (a : Nat) : Prop := ∀ h, CALL P f args (fun u h' => (∃ y, u = .float k y ∧ FW k y a) ∧ Ext h h') h
theorem Fl.go {P : Program} {f : FuncId} {args : Array Value} {k : FloatKind} {a : Nat} (c : Fl P f args k a) {h : Heap} {K : Value → Heap → Prop} (H : ∀ h' y, Ext h h' → FW k y a → K (.float k y) h') : CALL P f args K h :=
  (c h).mono fun u h' ⟨⟨y, e, hy⟩, x⟩ => by subst e; exact H h' y x hy
theorem Fl.mem {P : Program} {f : FuncId} {args : Array Value} {k : FloatKind} {a : Nat} (c : Fl P f args k a) {h0 h : Heap} {L : List Blk} (M : Mem h0 h L) {K : Value → Heap → Prop} (H : ∀ h' y, Mem h0 h' L → FW k y a → K (.float k y) h') : CALL P f args K h :=
  c.go fun h' y x hy => H h' y (M.grow x) hy

theorem l00In_c (n l r : Int) : Ret prg f_spec_l00In #[.int .i64 n, .int .i64 l, .int .i64 r] (.bool (inR n l r)) := fun h => by
  refine spec_l00In.call (br (fun hb => ?_) fun hb => ?_) <;> exact ⟨by simp [inR, hb], Ext.refl _⟩
theorem within_c (n l r : Int) : Ret prg f_impl_within #[.int .i64 n, .int .i64 l, .int .i64 r] (.bool (inR n l r)) := fun h => by
  refine impl_within.call (br (fun hb => ?_) fun hb => ?_) <;> exact ⟨by simp [inR, hb], Ext.refl _⟩
theorem length_f32_c (b : Option Addr) (l c : Nat) : Ret prg f_impl_length_float32 #[.slice b l c] (.int .i64 l) := fun h => impl_length_float32.call ⟨rfl, Ext.refl _⟩
theorem fw0 : FW .f32 0 0 := fw_c32 (by decide) (by decide)
section
variable {x y a b : Nat}
theorem l01NaN_c (hx : FW .f32 x a) : Ret prg f_spec_l01NaN #[.float .f32 x] (.bool (nan .f32 a)) := fun h => spec_l01NaN.call ⟨by rw [ne_self, hx.nan], Ext.refl _⟩
theorem cn_word (hx : FW .f32 x a) : (if nan .f32 a then qn .f32 else x) = a := by
  split
  · next h => have := hx.self; unfold cn at this; rw [if_pos h] at this; exact this
  · next h => exact hx.eq (by simpa using h)
theorem bitsOf_c (hx : FW .f32 x a) : Ret prg f_impl_bitsOf #[.float .f32 x] (.int .u32 a) := fun h => by
  refine impl_bitsOf.call ?_
  rw [impl_bitsOf.S, ne_self, hx.nan]
  have := cn_word hx
  refine br (fun hb => ⟨by rw [← this, if_pos hb]; rfl, Ext.refl _⟩) fun hb => ?_
  refine (Float32bits_c x).go fun h2 x2 => as_i ⟨by rw [← this, hb]; rfl, x2⟩
theorem l01Finite_c (hx : FW .f32 x a) : Ret prg f_spec_l01Finite #[.float .f32 x] (.bool (fin a)) := fun h =>
  spec_l01Finite.call (fS hx hx fun r hr => ⟨by rw [ord_eq hr fw0]; rfl, Ext.refl _⟩)
theorem isFinite_c (hx : FW .f32 x a) : Ret prg f_impl_isFinite #[.float .f32 x] (.bool (fin a)) := fun h =>
  impl_isFinite.call (fS hx hx fun r hr => ⟨by rw [ord_eq hr fw0]; rfl, Ext.refl _⟩)
theorem l01Same_c (hx : FW .f32 x a) (hy : FW .f32 y b) : Ret prg f_spec_l01Same #[.float .f32 x, .float .f32 y] (.bool (a == b)) := fun h => by
  have key : ∀ h1, Ext h h1 → ∀ t, t = (nan .f32 a || nan .f32 b) → spec_l01Same.J2 (fun u h' => u = .bool (a == b) ∧ Ext h h') x y t h1 := by
    intro h1 x1 t ht
    subst ht
    unfold spec_l01Same.J2
    refine br (fun hb => ?_) fun hb => ?_
    · refine (l01NaN_c hx).go fun h2 x2 => as_b (br (fun h3 => ?_) fun h3 => ?_)
      · refine (l01NaN_c hy).go fun h4 x4 => as_b ⟨?_, (x1.trans x2).trans x4⟩
        have ea : a = qn .f32 := by have := hx.self; unfold cn at this; rw [if_pos h3] at this; exact this.symm
        subst ea
        congr 1
        rw [Bool.eq_iff_iff]
        constructor
        · intro h5; have := hy.self; unfold cn at this; rw [if_pos h5] at this; rw [← this]; simp
        · intro h5; have := eq_of_beq h5; rw [← this]; exact nan_qn .f32
      · rw [h3, Bool.false_or] at hb
        refine ⟨?_, x1.trans x2⟩
        have : (a == b) = false := by
          apply beq_false_of_ne
          intro e
          rw [e, hb] at h3
          cases h3
        rw [this]
    · rw [Bool.or_eq_false_iff] at hb
      refine (Float32bits_c x).go fun h2 x2 => as_i ((Float32bits_c y).go fun h4 x4 => as_i ⟨?_, (x1.trans x2).trans x4⟩)
      rw [hx.eq hb.1, hy.eq hb.2]
      congr 1
      rw [Bool.eq_iff_iff, beq_iff_eq, beq_iff_eq]
      omega
  refine spec_l01Same.call ((l01NaN_c hx).go fun h1 x1 => as_b (br (fun hb => key _ x1 _ (by rw [hb]; rfl)) fun hb => ?_))
  exact (l01NaN_c hy).go fun h2 x2 => as_b (key _ (x1.trans x2) _ (by rw [hb]; rfl))
def clamp (a l : Nat) : Nat := if fgt .f32 a l then l else if flt .f32 a (fneg .f32 l) then fneg .f32 l else a
end
end Go.Sx
/- Two more small functions over floats. -/
set_option linter.unusedVariables false
set_option linter.unusedSimpArgs false
namespace Go.Sx
open Go.Proofs Ieee
set_option maxRecDepth 100000
section
variable {x y a b : Nat}
theorem SameSample_c (hx : FW .f32 x a) (hy : FW .f32 y b) : Ret prg f_impl_SameSample #[.float .f32 x, .float .f32 y] (.bool (a == b)) := fun h => by
  refine impl_SameSample.call ((bitsOf_c hx).go fun h1 x1 => as_i ((bitsOf_c hy).go fun h2 x2 => as_i ⟨?_, x1.trans x2⟩))
  congr 1
  rw [Bool.eq_iff_iff, beq_iff_eq, beq_iff_eq]
  omega
def inside (a l r : Nat) : Bool := fge .f32 a l && fle .f32 a r
theorem inside_c {z c : Nat} (hx : FW .f32 x a) (hy : FW .f32 y b) (hz : FW .f32 z c) : Ret prg f_impl_inside #[.float .f32 x, .float .f32 y, .float .f32 z] (.bool (inside a b c)) := fun h => by
  refine impl_inside.call ?_
  rw [impl_inside.S, ord_eq hx hy, ord_eq hx hz]
  exact br (fun hb => ⟨by rw [inside, fge, hb]; rfl, Ext.refl _⟩) fun hb => ⟨by rw [inside, fge, hb]; rfl, Ext.refl _⟩
end
end Go.Sx
/- Given arguments as data: what the row's reading says, put together to data. -/
set_option linter.unusedVariables false
set_option linter.unusedSimpArgs false
namespace Go.Sx
open Go.ChangeShapes Go.WideShapes Go.ChangeAt Go.RowKit

/-- Cells of these types, read, stand for some data. -/
def Opens {α : Type} (P : Program) (r : Rep α) (ls : List TypeId) : Prop :=
  ∀ (H : Type) (enc : TypeId × Value → H) (w : World) (base : Nat) (spare : Nat → Bool) (held : Bool) (vs : List Value), All2 enc P w base spare held ls vs → ∃ a, r.rd w.heap vs a
section
variable {α β : Type} {P : Program}
theorem All2.split {H : Type} {enc : TypeId × Value → H} {w : World} {base : Nat} {spare : Nat → Bool} {held : Bool} : ∀ {l1 l2 : List TypeId} {vs : List Value}, All2 enc P w base spare held (l1 ++ l2) vs →
    ∃ v1 v2, vs = v1 ++ v2 ∧ All2 enc P w base spare held l1 v1 ∧ All2 enc P w base spare held l2 v2
  | [], l2, vs, h => ⟨[], vs, rfl, trivial, h⟩
  | t :: l1, l2, [], h => h.elim
  | t :: l1, l2, v :: vs, h => by
    obtain ⟨v1, v2, rfl, h1, h2⟩ := All2.split h.2
    exact ⟨v :: v1, v2, rfl, ⟨h.1, h1⟩, h2⟩
theorem All2.one {H : Type} {enc : TypeId × Value → H} {w : World} {base : Nat} {spare : Nat → Bool} {held : Bool} {t : TypeId} : ∀ {vs : List Value}, All2 enc P w base spare held [t] vs → ∃ v, vs = [v] ∧ Leaf enc P w base spare held t v
  | [], h => h.elim
  | [v], h => ⟨v, rfl, h.1⟩
  | _ :: _ :: _, h => h.2.elim
theorem opens_int {k : IntKind} {t : TypeId} (ht : P.underlying t = some (.int k)) : Opens P (rI k) [t] := fun H enc w base spare held vs h => by
  obtain ⟨v, rfl, h'⟩ := h.one
  obtain ⟨n, rfl, _⟩ := leaf_int ht h'
  exact ⟨n, rfl⟩
theorem wf_float {k : FloatKind} {n : Nat} (h : (Lit.float k n).wf = true) : n < 2 ^ k.format.width := by
  cases k
  · show n < 4294967296
    simpa [Lit.wf] using h
  · show n < 18446744073709551616
    simpa [Lit.wf] using h
theorem opens_float {k : FloatKind} {t : TypeId} (ht : P.underlying t = some (.float k)) : Opens P (rF k) [t] := fun H enc w base spare held vs h => by
  obtain ⟨v, rfl, h'⟩ := h.one
  obtain ⟨n, rfl, hn⟩ := leaf_float ht h'
  exact ⟨cn k n, n, rfl, fw_cn (wf_float hn)⟩
theorem opens_str {t : TypeId} (ht : P.underlying t = some .string) : Opens P rS [t] := fun H enc w base spare held vs h => by
  obtain ⟨v, rfl, h'⟩ := h.one
  obtain ⟨n, rfl, hn⟩ := leaf_str ht h'
  exact ⟨n, rfl, hn⟩
theorem opens_seq {r : Rep α} {s : Rep β} {l1 l2 : List TypeId} (h1 : Opens P r l1) (h2 : Opens P s l2) : Opens P (r.seq s) (l1 ++ l2) := fun H enc w base spare held vs h => by
  obtain ⟨v1, v2, rfl, h3, h4⟩ := h.split
  obtain ⟨a, ha⟩ := h1 _ _ _ _ _ _ _ h3
  obtain ⟨b, hb⟩ := h2 _ _ _ _ _ _ _ h4
  exact ⟨(a, b), v1, v2, rfl, ha, hb⟩
theorem opens_via {r : Rep β} {f : α → β} {ls : List TypeId} (g : β → α) (hg : ∀ b, f (g b) = b) (h1 : Opens P r ls) : Opens P (r.via f) ls := fun H enc w base spare held vs h => by
  obtain ⟨a, ha⟩ := h1 _ _ _ _ _ _ _ h
  exact ⟨g a, by show r.rd _ _ (f (g a)); rw [hg]; exact ha⟩
theorem opens_rds {r : Rep α} {ls : List TypeId} (h1 : Opens P r ls) {H : Type} {enc : TypeId × Value → H} {w : World} {base : Nat} {spare : Nat → Bool} {held : Bool} : ∀ {n : Nat} {vs : List Value}, All2 enc P w base spare held (List.replicate n ls).flatten vs → ∃ els : List α, els.length = n ∧ rds r w.heap vs els
  | 0, vs, h => by
    cases vs with
    | nil => exact ⟨[], rfl, rfl⟩
    | cons v vs => exact h.elim
  | n + 1, vs, h => by
    rw [List.replicate_succ, List.flatten_cons] at h
    obtain ⟨v1, v2, rfl, h3, h4⟩ := h.split
    obtain ⟨a, ha⟩ := h1 _ _ _ _ _ _ _ h3
    obtain ⟨els, hl, hs⟩ := opens_rds h1 h4
    exact ⟨a :: els, by simp [hl], v1, v2, rfl, ha, hs⟩
theorem slc_rd {r : Rep α} {ls : List TypeId} {n : Nat} {e : TypeId} (hf : flat P n e = some ls) (hc : P.cellsOf e = r.sz) (h1 : Opens P r ls) {H : Type} {enc : TypeId × Value → H} {w : World} {base : Nat} {spare : Nat → Bool} {held : Bool} {b : Option Addr} {l c : Nat} {vs : List Value}
    (S : Slc enc P w base spare held e b l c vs) : ∃ els : List α, SlR r w.heap b l c els := by
  have h2 : All2 enc P w base spare held (List.replicate l ls).flatten vs := by
    refine All2.rep (sz := P.cellsOf e) S.len fun i hi => flat_out n e ls _ hf (S.elems i hi)
  obtain ⟨els, hl, hs⟩ := opens_rds h1 h2
  exact ⟨els, hl, S.le, S.max, vs, S.cells, hs⟩
theorem opens_sl {r : Rep α} {ls : List TypeId} {n e0 : Nat} {t e : TypeId} (ht : P.underlying t = some (.slice e)) (hf : flat P n e = some ls) (hc : P.cellsOf e = r.sz) (h1 : Opens P r ls) : Opens P (rSl e0 r) [t] := fun H enc w base spare held vs h => by
  obtain ⟨v, rfl, h'⟩ := h.one
  obtain ⟨b, l, c, vs, rfl, _, S⟩ := leaf_slice ht h'
  obtain ⟨els, hs⟩ := slc_rd hf hc h1 S
  exact ⟨els, b, l, c, rfl, hs⟩
end
end Go.Sx
