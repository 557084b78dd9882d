/- A 16 bit number as a float32 and back. -/
import Derived.Test.YtjoajnmhdobbfaaLf4
namespace Go.Sx
open Ieee
set_option linter.unusedVariables false
set_option linter.unusedSimpArgs false

theorem quot_number (d : Nat) (s t : Bool) (m n : Nat) (i j : Int) (h : n ≠ 0) : (Datum.number s m i).quotient d (.number t n j) =
    some (.number (s ^^ t) (2 * (m <<< (d + n.log2 - m.log2) / n) + (m <<< (d + n.log2 - m.log2) % n != 0).toNat) (i - j - (d + n.log2 - m.log2 : Nat) - 1)) := by
  unfold Datum.quotient
  simp only [if_neg h]
theorem div_row {f : Format} {x y : Nat} {d : Datum} (h : (f.read x).quotient (f.fractionBits + 2) (f.read y) = some d) : f.div x y = some (f.write d) := by
  unfold Format.div
  rw [h]; rfl
theorem read32 (s : Bool) {m : Nat} {p : Int} (h : m ≠ 0) (hm : m < 2 ^ 24) (h1 : -100 ≤ p) (h2 : p ≤ 100) :
    FloatKind.f32.format.read (FloatKind.f32.format.nearest s m p) = .number s (m * 2 ^ (23 - m.log2)) (p + m.log2 - 23) := by
  obtain ⟨e1, e2, e3, e4⟩ := f32_consts
  have hl : m.log2 ≤ 23 := by
    have := (Nat.log2_lt h (k := 24)).2 hm
    omega
  have hlast : p + m.log2 - 23 = max (p + m.log2 - FloatKind.f32.format.fractionBits) FloatKind.f32.format.leastPlace := by rw [e1, e2]; omega
  have ht : (p - (p + m.log2 - 23)).toNat = 23 - m.log2 := by omega
  have hk : m * 2 ^ (23 - m.log2) < 2 ^ 24 := by
    have b2 : 2 ^ 24 = 2 ^ (m.log2 + 1) * 2 ^ (23 - m.log2) := by rw [← Nat.pow_add]; congr 1; omega
    rw [b2]
    exact Nat.mul_lt_mul_of_pos_right Nat.lt_log2_self (Nat.two_pow_pos _)
  have := (read_nearest FloatKind.f32.format s h (by rw [e1]; omega) (by rw [e2]; omega) hlast (by
    rw [e2, e3, e4, ht]
    generalize m * 2 ^ (23 - m.log2) = q at hk
    have h4 : (p + (m.log2 : Int) - 23 - -149).toNat ≤ 250 := by omega
    generalize (p + (m.log2 : Int) - 23 - -149).toNat = z at h4
    omega)).1
  rw [ht] at this
  exact this
theorem div_number (s : Bool) {m : Nat} (h : m ≠ 0) (hm : m < 2 ^ 24) : FloatKind.f32.format.div (FloatKind.f32.format.nearest s m 0) c15s = some (FloatKind.f32.format.nearest s m (-15)) := by
  obtain ⟨e1, _⟩ := f32_consts
  have hl : m.log2 ≤ 23 := by
    have := (Nat.log2_lt h (k := 24)).2 hm
    omega
  have hlm : (m * 2 ^ (23 - m.log2)).log2 = 23 := by rw [log2_mul_pow h]; omega
  have hl2 : (2 ^ 23 : Nat).log2 = 23 := by decide +kernel
  have h3 := div_row (f := FloatKind.f32.format) (x := FloatKind.f32.format.nearest s m 0) (y := c15s) (by
    rw [read_c15s, read32 s h hm (by decide) (by decide), quot_number _ _ _ _ _ _ _ (pow_ne 23), e1, hlm, hl2])
  rw [h3, Bool.xor_false]
  have h4 : (m * 2 ^ (23 - m.log2)) <<< (23 + 2 + 23 - 23) = (m * 2 ^ (23 - m.log2) * 4) * 2 ^ 23 := by
    rw [Nat.shiftLeft_eq, Nat.mul_assoc (m * 2 ^ (23 - m.log2)) 4]
  rw [h4, Nat.mul_div_cancel _ (Nat.two_pow_pos 23), Nat.mul_mod_left]
  have h5 : 2 * (m * 2 ^ (23 - m.log2) * 4) + ((0 : Nat) != 0).toNat = m * 2 ^ (23 - m.log2 + 3) := by
    rw [Nat.pow_add, ← Nat.mul_assoc m]
    show 2 * (m * 2 ^ (23 - m.log2) * 4) + 0 = m * 2 ^ (23 - m.log2) * 8
    omega
  rw [h5]
  have h6 : (0 : Int) + (m.log2 : Int) - 23 - -8 - ((23 + 2 + 23 - 23 : Nat) : Int) - 1 = -15 - ((23 - m.log2 + 3 : Nat) : Int) := by omega
  rw [h6]
  exact congrArg some (nearest_scale FloatKind.f32.format s m (-15) (23 - m.log2 + 3))
theorem wide_number (s : Bool) {m : Nat} {p : Int} (h : m ≠ 0) (hm : m < 2 ^ 24) (h1 : -100 ≤ p) (h2 : p ≤ 100) : wide (FloatKind.f32.format.nearest s m p) = FloatKind.f64.format.nearest s m p := by
  have hl : m.log2 ≤ 23 := by
    have := (Nat.log2_lt h (k := 24)).2 hm
    omega
  unfold wide FloatKind.decode
  rw [read32 s h hm h1 h2, enc_number, show p + (m.log2 : Int) - 23 = p - ((23 - m.log2 : Nat) : Int) by omega]
  exact nearest_scale _ _ _ _ _
theorem rte_whole (s : Bool) {m : Nat} (h : m ≠ 0) (hm : m < 2 ^ 24) : rte (FloatKind.f64.format.nearest s m 0) = FloatKind.f64.format.nearest s m 0 := by
  have hl : m.log2 ≤ 23 := by
    have := (Nat.log2_lt h (k := 24)).2 hm
    omega
  have hi : (Datum.number s (m * 2 ^ (52 - m.log2)) (0 + (m.log2 : Int) - 52)).integral .even = .number s m 0 := by
    show Datum.number s (Toward.even.cut s ((m * 2 ^ (52 - m.log2)) <<< (0 + (m.log2 : Int) - 52).toNat) (-(0 + (m.log2 : Int) - 52)).toNat) 0 = _
    rw [show (0 + (m.log2 : Int) - 52).toNat = 0 by omega, Nat.shiftLeft_zero, show (-(0 + (m.log2 : Int) - 52)).toNat = 52 - m.log2 by omega, cut_exact _ _ h]
  unfold rte FloatKind.decode
  rw [read64 s h hm (by decide) (by decide), hi, enc_number]
theorem compare_mul {a b q : Int} (hq : 0 < q) : compare (a * q) (b * q) = compare a b := by
  rcases Int.lt_trichotomy a b with h | h | h
  · rw [compare_lt h, compare_lt (Int.mul_lt_mul_of_pos_right h hq)]
  · subst h; simp
  · rw [compare_gt h, compare_gt (Int.mul_lt_mul_of_pos_right h hq)]
theorem signed_add (s : Bool) (m u v : Nat) : signed s m (u + v) = signed s m u * ((2 ^ v : Nat) : Int) := by
  cases s
  · rw [signed_f, signed_f, Nat.pow_add, ← Nat.mul_assoc]; exact Int.natCast_mul _ _
  · rw [signed_t, signed_t, Nat.pow_add, ← Nat.mul_assoc, Int.neg_mul]; exact congrArg Neg.neg (Int.natCast_mul _ _)
/-- Numbers compared over any base that is low enough. -/
theorem order_base (s t : Bool) (m n : Nat) (i j b : Int) (hi : b ≤ i) (hj : b ≤ j) : (Datum.number s m i).order (.number t n j) = some (compare (signed s m (i - b).toNat) (signed t n (j - b).toNat)) := by
  rw [order_number]
  congr 1
  rw [show (i - b).toNat = (i - min i j).toNat + (min i j - b).toNat by omega, show (j - b).toNat = (j - min i j).toNat + (min i j - b).toNat by omega, signed_add, signed_add]
  exact (compare_mul (by exact_mod_cast Nat.two_pow_pos _)).symm
theorem shortR_whole (s : Bool) {m : Nat} (h : m ≠ 0) (hm : m ≤ 32768) (hs : s = false → m ≤ 32767) : shortR (FloatKind.f64.format.nearest s m 0) = if s then -(m : Int) else (m : Int) := by
  have hm' : m < 2 ^ 24 := by omega
  have hl : m.log2 ≤ 23 := by
    have := (Nat.log2_lt h (k := 24)).2 hm'
    omega
  have hr := read64 s h hm' (p := 0) (by decide) (by decide)
  obtain ⟨o1, o2⟩ := order_rows
  have c1 : FloatKind.f64.format.order (FloatKind.f64.format.nearest s m 0) 4674736138332667904 ≠ some .gt := by
    rw [order_read hr o1, order_base _ _ _ _ _ _ (-60) (by omega) (by decide)]
    intro e
    have e := Option.some.inj e
    revert e
    have f1 : m * 2 ^ (52 - m.log2) * 2 ^ (0 + (m.log2 : Int) - 52 - -60).toNat = m * 2 ^ 60 := by
      rw [Nat.mul_assoc, ← Nat.pow_add, show 52 - m.log2 + (0 + (m.log2 : Int) - 52 - -60).toNat = 60 by omega]
    have f2 : 32767 * 2 ^ 38 * 2 ^ ((-38 : Int) - -60).toNat = 32767 * 2 ^ 60 := by
      rw [Nat.mul_assoc, ← Nat.pow_add]; rfl
    cases s
    · have := hs rfl
      rw [signed_f, signed_f, f1, f2]
      intro e
      rcases Int.lt_or_le ((32767 * 2 ^ 60 : Nat) : Int) ((m * 2 ^ 60 : Nat) : Int) with g | g
      · omega
      · rcases Int.lt_or_eq_of_le g with g | g
        · rw [compare_lt g] at e; cases e
        · rw [g] at e; simp at e
    · rw [signed_t, signed_f, f1, f2]
      intro e
      rw [compare_lt (by omega)] at e; cases e
  have c2 : FloatKind.f64.format.order (FloatKind.f64.format.nearest s m 0) 13898108450065350656 ≠ some .lt := by
    rw [order_read hr o2, order_base _ _ _ _ _ _ (-60) (by omega) (by decide)]
    intro e
    have e := Option.some.inj e
    revert e
    have f1 : m * 2 ^ (52 - m.log2) * 2 ^ (0 + (m.log2 : Int) - 52 - -60).toNat = m * 2 ^ 60 := by
      rw [Nat.mul_assoc, ← Nat.pow_add, show 52 - m.log2 + (0 + (m.log2 : Int) - 52 - -60).toNat = 60 by omega]
    have f2 : 2 ^ 52 * 2 ^ ((-37 : Int) - -60).toNat = 32768 * 2 ^ 60 := by
      rw [← Nat.pow_add]; rfl
    cases s
    · rw [signed_f, signed_t, f1, f2]
      intro e
      rw [compare_gt (by omega)] at e; cases e
    · rw [signed_t, signed_t, f1, f2]
      intro e
      rcases Int.lt_or_le (-((m * 2 ^ 60 : Nat) : Int)) (-((32768 * 2 ^ 60 : Nat) : Int)) with g | g
      · omega
      · rcases Int.lt_or_eq_of_le g with g | g
        · rw [compare_gt g] at e; cases e
        · rw [g] at e; simp at e
  unfold shortR
  rw [if_neg c1, if_neg c2]
  unfold FloatKind.decode
  rw [hr, toInt_number, Option.getD_some, show (0 + (m.log2 : Int) - 52).toNat = 0 by omega, Nat.shiftLeft_zero, show (-(0 + (m.log2 : Int) - 52)).toNat = 52 - m.log2 by omega, cut_exact _ _ h]
  cases s
  · rw [signed_f, Nat.pow_zero, Nat.mul_one]; rfl
  · rw [signed_t, Nat.pow_zero, Nat.mul_one]; rfl
end Go.Sx
