/- Floats up to which NaN they are: operations, comparisons, conversions. -/
import Derived.Test.YthgnpepchedpbaaGreatLp2
import Derived.Test.YthgnpepchedpbaaGreatLf2
set_option linter.unusedVariables false
set_option linter.unusedSimpArgs false
namespace Go.Sx
open Ieee

section
variable {k : FloatKind} {x y a b r : Nat}
theorem FW.nan (h : FW k x a) : Sx.nan k x = Sx.nan k a := by rw [← h.1, nan_canon]
theorem FW.self (h : FW k x a) : cn k a = a := by rw [← h.1, canon_canon]
theorem FW.eq (h : FW k x a) (hn : Sx.nan k a = false) : x = a := by
  have := h.nan
  rw [hn] at this
  rw [← h.1]; unfold cn; rw [this]; rfl
theorem qn_lt (k : FloatKind) : qn k < 2 ^ k.format.width := by cases k <;> decide +kernel
theorem FW.lt (h : FW k x a) : a < 2 ^ k.format.width := by
  rw [← h.1]; unfold cn; split
  · exact qn_lt k
  · exact h.2
theorem op_cong {op : Nat → Nat → Option Nat} (hl : ∀ x y, Sx.nan k x = true → op x y = none) (hr : ∀ x y, Sx.nan k y = true → op x y = none) (hx : FW k x a) (hy : FW k y b) : op x y = op a b := by
  have h1 := hx.nan
  have h2 := hy.nan
  cases e1 : Sx.nan k a with
  | true => rw [hl a b e1, hl x y (by rw [h1, e1])]
  | false =>
    cases e2 : Sx.nan k b with
    | true => rw [hr a b e2, hr x y (by rw [h2, e2])]
    | false => rw [hx.eq e1, hy.eq e2]
theorem isnan_read {k : FloatKind} {x : Nat} (h : Sx.nan k x = true) : ∃ s t, k.format.read x = .nan s t := by
  unfold Sx.nan at h
  cases e : k.format.read x <;> rw [e] at h <;> first | (cases h; done) | exact ⟨_, _, rfl⟩
theorem add_nl (x y : Nat) (h : Sx.nan k x = true) : k.format.add x y = none := by obtain ⟨s, t, e⟩ := isnan_read h; unfold Format.add; rw [e]; rfl
theorem add_nr (x y : Nat) (h : Sx.nan k y = true) : k.format.add x y = none := by obtain ⟨s, t, e⟩ := isnan_read h; unfold Format.add; rw [e]; cases k.format.read x <;> rfl
theorem sub_nl (x y : Nat) (h : Sx.nan k x = true) : k.format.sub x y = none := by obtain ⟨s, t, e⟩ := isnan_read h; unfold Format.sub; rw [e]; rfl
theorem sub_nr (x y : Nat) (h : Sx.nan k y = true) : k.format.sub x y = none := by obtain ⟨s, t, e⟩ := isnan_read h; unfold Format.sub; rw [e]; cases k.format.read x <;> rfl
theorem mul_nl (x y : Nat) (h : Sx.nan k x = true) : k.format.mul x y = none := by obtain ⟨s, t, e⟩ := isnan_read h; unfold Format.mul; rw [e]; rfl
theorem mul_nr (x y : Nat) (h : Sx.nan k y = true) : k.format.mul x y = none := by obtain ⟨s, t, e⟩ := isnan_read h; unfold Format.mul; rw [e]; cases k.format.read x <;> rfl
theorem div_nl (x y : Nat) (h : Sx.nan k x = true) : k.format.div x y = none := by obtain ⟨s, t, e⟩ := isnan_read h; unfold Format.div; rw [e]; rfl
theorem div_nr (x y : Nat) (h : Sx.nan k y = true) : k.format.div x y = none := by obtain ⟨s, t, e⟩ := isnan_read h; unfold Format.div; rw [e]; cases k.format.read x <;> rfl
def fadd (k : FloatKind) (a b : Nat) : Nat := cn k ((k.format.add a b).getD (qn k))
def fsub (k : FloatKind) (a b : Nat) : Nat := cn k ((k.format.sub a b).getD (qn k))
def fmul (k : FloatKind) (a b : Nat) : Nat := cn k ((k.format.mul a b).getD (qn k))
def fdiv (k : FloatKind) (a b : Nat) : Nat := cn k ((k.format.div a b).getD (qn k))
theorem isF_lt {k : FloatKind} {o : Option Nat} {r : Nat} (h : IsF k o r) (ho : ∀ v, o = some v → v < 2 ^ k.format.width) : r < 2 ^ k.format.width := by
  cases o with
  | some v => rw [show r = v from h]; exact ho v rfl
  | none =>
    cases k with
    | f32 =>
      obtain ⟨t, rfl⟩ := (h : isNaNW .f32 r)
      show _ < 2 ^ 32
      have hs : t % 2 = 0 ∨ t % 2 = 1 := by omega
      have hu : t / 2 % (2 ^ 23 - 1) < 2 ^ 23 - 1 := Nat.mod_lt _ (by decide)
      generalize t / 2 % (2 ^ 23 - 1) = u at hu ⊢
      rcases hs with hs | hs <;> rw [hs] <;> omega
    | f64 =>
      obtain ⟨t, rfl⟩ := (h : isNaNW .f64 r)
      show _ < 2 ^ 64
      have hs : t % 2 = 0 ∨ t % 2 = 1 := by omega
      have hu : t / 2 % (2 ^ 52 - 1) < 2 ^ 52 - 1 := Nat.mod_lt _ (by decide)
      generalize t / 2 % (2 ^ 52 - 1) = u at hu ⊢
      rcases hs with hs | hs <;> rw [hs] <;> omega
theorem fw_add (hx : FW k x a) (hy : FW k y b) (h : IsF k (k.format.add x y) r) : FW k r (fadd k a b) :=
  ⟨by rw [canon_of_isF h, op_cong add_nl add_nr hx hy]; rfl, isF_lt h fun v e => k.format.add_lt e⟩
theorem fw_sub (hx : FW k x a) (hy : FW k y b) (h : IsF k (k.format.sub x y) r) : FW k r (fsub k a b) :=
  ⟨by rw [canon_of_isF h, op_cong sub_nl sub_nr hx hy]; rfl, isF_lt h fun v e => k.format.sub_lt e⟩
theorem fw_mul (hx : FW k x a) (hy : FW k y b) (h : IsF k (k.format.mul x y) r) : FW k r (fmul k a b) :=
  ⟨by rw [canon_of_isF h, op_cong mul_nl mul_nr hx hy]; rfl, isF_lt h fun v e => k.format.mul_lt e⟩
theorem fw_div (hx : FW k x a) (hy : FW k y b) (h : IsF k (k.format.div x y) r) : FW k r (fdiv k a b) :=
  ⟨by rw [canon_of_isF h, op_cong div_nl div_nr hx hy]; rfl, isF_lt h fun v e => k.format.div_lt e⟩
theorem fA {F : Nat → Prop} (hx : FW k x a) (hy : FW k y b) (H : ∀ r, FW k r (fadd k a b) → F r) : FOP k (k.format.add x y) F := fun r h => H r (fw_add hx hy h)
theorem fS {F : Nat → Prop} (hx : FW k x a) (hy : FW k y b) (H : ∀ r, FW k r (fsub k a b) → F r) : FOP k (k.format.sub x y) F := fun r h => H r (fw_sub hx hy h)
theorem fM {F : Nat → Prop} (hx : FW k x a) (hy : FW k y b) (H : ∀ r, FW k r (fmul k a b) → F r) : FOP k (k.format.mul x y) F := fun r h => H r (fw_mul hx hy h)
theorem fD {F : Nat → Prop} (hx : FW k x a) (hy : FW k y b) (H : ∀ r, FW k r (fdiv k a b) → F r) : FOP k (k.format.div x y) F := fun r h => H r (fw_div hx hy h)
theorem ord_eq (hx : FW k x a) (hy : FW k y b) : k.format.order x y = k.format.order a b := by
  have h1 := hx.nan
  have h2 := hy.nan
  cases e1 : Sx.nan k a with
  | true => rw [order_nan_left e1, order_nan_left (by rw [h1, e1])]
  | false =>
    cases e2 : Sx.nan k b with
    | true => rw [order_nan_right e2, order_nan_right (by rw [h2, e2])]
    | false => rw [hx.eq e1, hy.eq e2]
theorem nan32 (c : Nat) : Sx.nan .f32 c = decide (2139095040 < c % 2147483648) := by
  unfold Sx.nan
  have e1 : FloatKind.f32.format.signWeight = 2147483648 := rfl
  have e2 : FloatKind.f32.format.infRung = 2139095040 := by decide +kernel
  have e3 : FloatKind.f32.format.binade = 8388608 := rfl
  rw [read_isNaN, e1, e2, e3, decide_eq_decide]
  omega
theorem nan64 (c : Nat) : Sx.nan .f64 c = decide (9218868437227405312 < c % 9223372036854775808) := by
  unfold Sx.nan
  have e1 : FloatKind.f64.format.signWeight = 9223372036854775808 := rfl
  have e2 : FloatKind.f64.format.infRung = 9218868437227405312 := by decide +kernel
  have e3 : FloatKind.f64.format.binade = 4503599627370496 := rfl
  rw [read_isNaN, e1, e2, e3, decide_eq_decide]
  omega
theorem fw_c32 {c : Nat} (h : c % 2147483648 ≤ 2139095040) (h2 : c < 4294967296) : FW .f32 c c :=
  ⟨by unfold cn; rw [nan32, if_neg (by simpa using h)], h2⟩
theorem fw_c64 {c : Nat} (h : c % 9223372036854775808 ≤ 9218868437227405312) (h2 : c < 18446744073709551616) : FW .f64 c c :=
  ⟨by unfold cn; rw [nan64, if_neg (by simpa using h)], h2⟩
theorem fw_nearest (k : FloatKind) (n : Int) : FW k (k.nearest n) (k.nearest n) :=
  ⟨by unfold cn; rw [nearest_not_nan]; rfl, by show k.format.nearest _ _ _ < _; exact k.format.nearest_lt _ _ _⟩
def fneg (k : FloatKind) (a : Nat) : Nat := cn k (Op.negFloat k a)
theorem nan_mod {x y : Nat} (h : x % k.format.signWeight = y % k.format.signWeight) : Sx.nan k x = Sx.nan k y := by
  unfold Sx.nan
  rw [read_isNaN, read_isNaN, h]
/-- A float32 as a float64, and back where it fits. -/
def wid (a : Nat) : Nat := cn .f64 (wide a)
theorem isFF_lt64 {b r : Nat} (h : IsFF .f32 b .f64 r) : r < 2 ^ FloatKind.f64.format.width := by
  unfold IsFF at h
  split at h
  · exact isF_lt (k := .f64) (o := none) h (fun v e => by cases e)
  · rw [h]; exact FloatKind.f64.format.write_lt _
  · split at h
    · exact Nat.lt_trans h (show 2 ^ 32 < 2 ^ 64 by decide)
    · rw [h]; exact FloatKind.f64.format.write_lt _
theorem ffc_wide {F : Nat → Prop} (hx : FW .f32 x a) (H : ∀ r, FW .f64 r (wid a) → F r) : FFC .f32 x .f64 F := fun r h =>
  H r ⟨by rw [isFF_wide h, hx.1]; rfl, isFF_lt64 h⟩
def nar (a : Nat) : Nat := cn .f32 (if nan .f64 a then qn .f32 else FloatKind.f32.encode (FloatKind.f64.decode a))
def fits (a : Nat) : Bool := match FloatKind.f64.decode a with | .number n m e => !(FloatKind.f32.decode (FloatKind.f32.encode (.number n m e))).isInfinity | _ => true
theorem isFF_lt32 {s : FloatKind} {b r : Nat} (h : IsFF s b .f32 r) : r < 2 ^ 32 := by
  unfold IsFF at h
  split at h
  · exact isF_lt (k := .f32) (o := none) h (fun v e => by cases e)
  · rw [h]; exact FloatKind.f32.format.write_lt _
  · split at h
    · exact h
    · rw [h]; exact FloatKind.f32.format.write_lt _
theorem ffc_nar {F : Nat → Prop} (hx : FW .f64 x a) (hf : fits a = true) (H : ∀ r, FW .f32 r (nar a) → F r) : FFC .f64 x .f32 F := fun r h => by
  refine H r ⟨?_, isFF_lt32 h⟩
  have hn := hx.nan
  unfold IsFF at h
  cases e : FloatKind.f64.decode x with
  | nan s t =>
    rw [e] at h
    have h1 : nan .f64 x = true := by unfold nan; rw [show FloatKind.f64.format.read x = _ from e]; rfl
    rw [h1] at hn
    unfold nar
    rw [← hn, if_pos rfl]
    unfold cn
    rw [nan_of_isNaNW (k := .f32) h, nan_qn, if_pos rfl, if_pos rfl]
  | infinity s =>
    rw [e] at h
    have h1 : nan .f64 x = false := by unfold nan; rw [show FloatKind.f64.format.read x = _ from e]; rfl
    have h2 := hx.eq (by rw [← hn, h1])
    subst h2
    unfold nar
    rw [if_neg (by rw [h1]; decide), e, show r = _ from h]
  | number s m i =>
    rw [e] at h
    have h1 : nan .f64 x = false := by unfold nan; rw [show FloatKind.f64.format.read x = _ from e]; rfl
    have h2 := hx.eq (by rw [← hn, h1])
    subst h2
    unfold fits at hf
    rw [e] at hf
    dsimp only at h hf
    rw [show (FloatKind.f32.decode (FloatKind.f32.encode (Datum.number s m i))).isInfinity = false by simpa using hf] at h
    unfold nar
    rw [if_neg (by rw [h1]; decide), e, show r = _ by simpa using h]
end
end Go.Sx
