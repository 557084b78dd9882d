/- A float32 as a 16 bit number: times 32768 in float32 or in float64 comes to the same. -/
import Derived.Test.YtjoajnmhdobbfaaLf2
namespace Go.Sx
open Ieee
set_option linter.unusedVariables false
set_option linter.unusedSimpArgs false

theorem enc_not_nan (k : FloatKind) {d : Datum} (h : d.isNaN = false) : nan k (k.encode d) = false := by
  cases d with
  | number s m p =>
    show nan k (k.format.nearest s m p) = false
    unfold Format.nearest
    split
    · exact word_not_nan (Nat.zero_le _)
    · exact word_not_nan (Nat.min_le_right _ _)
  | infinity s => exact word_not_nan (Nat.le_refl _)
  | nan s t => cases h
theorem wide_not_nan {a : Nat} (h : nan .f32 a = false) : nan .f64 (wide a) = false := enc_not_nan .f64 h
def c15s : Nat := 1191182336
def c15d : Nat := 4674736413210574848
theorem read_c15s : FloatKind.f32.format.read c15s = .number false (2 ^ 23) (-8) := by decide +kernel
theorem read_c15d : FloatKind.f64.format.read c15d = .number false (2 ^ 52) (-37) := by decide +kernel
def rte (w : Nat) : Nat := FloatKind.f64.encode ((FloatKind.f64.decode w).integral .even)
def shortR (r : Nat) : Int := if FloatKind.f64.format.order r 4674736138332667904 = some .gt then 32767 else if FloatKind.f64.format.order r 13898108450065350656 = some .lt then -32768 else ((FloatKind.f64.decode r).toInt .zero).getD 0
def mulS (a : Nat) : Nat := (FloatKind.f32.format.mul a c15s).getD 0
def mulD (w : Nat) : Nat := (FloatKind.f64.format.mul w c15d).getD 0
theorem prod_number (s t : Bool) (m n : Nat) (i j : Int) : (Datum.number s m i).product (.number t n j) = some (.number (s ^^ t) (m * n) (i + j)) := rfl
theorem prod_inf (s t : Bool) (n : Nat) (j : Int) (h : n ≠ 0) : (Datum.infinity s).product (.number t n j) = some (.infinity (s ^^ t)) := by
  show (if n = 0 then none else some (Datum.infinity (s ^^ t))) = _
  rw [if_neg h]
theorem mul_row {f : Format} {x y : Nat} {d : Datum} (h : (f.read x).product (f.read y) = some d) : f.mul x y = some (f.write d) := by
  unfold Format.mul
  rw [h]; rfl
theorem mul_some {k : FloatKind} {a c n : Nat} {j : Int} (hn : n ≠ 0) (hc : k.format.read c = .number false n j) (h : nan k a = false) : ∃ d : Datum, d.isNaN = false ∧ k.format.mul a c = some (k.encode d) := by
  have hh : (k.format.read a).isNaN = false := h
  cases e : k.format.read a with
  | number s m p => exact ⟨_, rfl, mul_row (by rw [e, hc, prod_number])⟩
  | infinity s => exact ⟨_, rfl, mul_row (by rw [e, hc, prod_inf _ _ _ _ hn])⟩
  | nan s t => rw [e] at hh; cases hh
theorem pow_ne (n : Nat) : 2 ^ n ≠ 0 := Nat.ne_of_gt (Nat.two_pow_pos n)
theorem mulS_some {a : Nat} (h : nan .f32 a = false) : FloatKind.f32.format.mul a c15s = some (mulS a) ∧ nan .f32 (mulS a) = false := by
  obtain ⟨d, h1, h2⟩ := mul_some (pow_ne 23) read_c15s h
  unfold mulS
  rw [h2, Option.getD_some]
  exact ⟨Eq.refl _, enc_not_nan .f32 h1⟩
theorem mulD_some {a : Nat} (h : nan .f64 a = false) : FloatKind.f64.format.mul a c15d = some (mulD a) ∧ nan .f64 (mulD a) = false := by
  obtain ⟨d, h1, h2⟩ := mul_some (pow_ne 52) read_c15d h
  unfold mulD
  rw [h2, Option.getD_some]
  exact ⟨Eq.refl _, enc_not_nan .f64 h1⟩
theorem mul_nan {k : FloatKind} {a : Nat} (h : nan k a = true) (b : Nat) : k.format.mul a b = none := by
  have hh : (k.format.read a).isNaN = true := h
  unfold Format.mul
  cases e : k.format.read a <;> rw [e] at hh <;> first | (cases hh; done) | rfl
theorem f32_consts : FloatKind.f32.format.fractionBits = 23 ∧ FloatKind.f32.format.leastPlace = -149 ∧ FloatKind.f32.format.binade = 2 ^ 23 ∧ FloatKind.f32.format.infRung = 255 * 2 ^ 23 := by decide +kernel
theorem f64_consts : FloatKind.f64.format.fractionBits = 52 ∧ FloatKind.f64.format.leastPlace = -1074 ∧ FloatKind.f64.format.binade = 2 ^ 52 ∧ FloatKind.f64.format.infRung = 2047 * 2 ^ 52 := by decide +kernel
/-- A number of at most 24 digits in a float64. -/
theorem read64 (s : Bool) {m : Nat} {p : Int} (h : m ≠ 0) (hm : m < 2 ^ 24) (h1 : -149 ≤ p) (h2 : p ≤ 200) :
    FloatKind.f64.format.read (FloatKind.f64.format.nearest s m p) = .number s (m * 2 ^ (52 - m.log2)) (p + m.log2 - 52) := by
  obtain ⟨e1, e2, e3, e4⟩ := f64_consts
  have hl : m.log2 ≤ 23 := by
    have := (Nat.log2_lt h (k := 24)).2 hm
    omega
  have hlast : p + m.log2 - 52 = max (p + m.log2 - FloatKind.f64.format.fractionBits) FloatKind.f64.format.leastPlace := by rw [e1, e2]; omega
  have ht : (p - (p + m.log2 - 52)).toNat = 52 - m.log2 := by omega
  have hk : m * 2 ^ (52 - m.log2) < 2 ^ 53 := by
    have b2 : 2 ^ 53 = 2 ^ (m.log2 + 1) * 2 ^ (52 - m.log2) := by rw [← Nat.pow_add]; congr 1; omega
    rw [b2]
    exact Nat.mul_lt_mul_of_pos_right Nat.lt_log2_self (Nat.two_pow_pos _)
  have := (read_nearest FloatKind.f64.format s h (by rw [e1]; omega) (by rw [e2]; omega) hlast (by
    rw [e2, e3, e4, ht]
    generalize m * 2 ^ (52 - m.log2) = q at hk
    have h4 : (p + (m.log2 : Int) - 52 - -1074).toNat ≤ 1300 := by omega
    generalize (p + (m.log2 : Int) - 52 - -1074).toNat = z at h4
    omega)).1
  rw [ht] at this
  exact this
theorem mulD_number (s : Bool) {m : Nat} {e : Int} (h : m ≠ 0) (hm : m < 2 ^ 24) (h1 : -149 ≤ e) (h2 : e ≤ 104) :
    mulD (FloatKind.f64.format.nearest s m e) = FloatKind.f64.format.nearest s m (e + 15) := by
  have hl : m.log2 ≤ 23 := by
    have := (Nat.log2_lt h (k := 24)).2 hm
    omega
  have h3 := mul_row (f := FloatKind.f64.format) (x := FloatKind.f64.format.nearest s m e) (y := c15d) (by rw [read_c15d, read64 s h hm h1 (by omega), prod_number])
  unfold mulD
  rw [h3, Option.getD_some, Bool.xor_false, Nat.mul_assoc, ← Nat.pow_add, show e + (m.log2 : Int) - 52 + -37 = (e + 15) - ((52 - m.log2 + 52 : Nat) : Int) by omega]
  exact nearest_scale _ _ _ _ _
theorem mulS_number (s : Bool) {a m : Nat} {e : Int} (hr : FloatKind.f32.format.read a = .number s m e) : mulS a = FloatKind.f32.format.nearest s m (e + 15) := by
  have h3 := mul_row (f := FloatKind.f32.format) (x := a) (y := c15s) (by rw [read_c15s, hr, prod_number])
  unfold mulS
  rw [h3, Option.getD_some, Bool.xor_false, show e + -8 = (e + 15) - ((23 : Nat) : Int) by omega]
  exact nearest_scale _ _ _ _ _
theorem inf32 (s : Bool) : FloatKind.f32.format.read (FloatKind.f32.format.word s FloatKind.f32.format.infRung) = .infinity s := by cases s <;> decide +kernel
theorem inf64 (s : Bool) : FloatKind.f64.format.read (FloatKind.f64.format.word s FloatKind.f64.format.infRung) = .infinity s := by cases s <;> decide +kernel
theorem zero32 (s : Bool) : FloatKind.f32.format.read (FloatKind.f32.format.word s 0) = .number s 0 (-149) := by cases s <;> decide +kernel
theorem zero64 (s : Bool) : FloatKind.f64.format.read (FloatKind.f64.format.word s 0) = .number s 0 (-1074) := by cases s <;> decide +kernel
theorem nearest_zero (f : Format) (s : Bool) (p : Int) : f.nearest s 0 p = f.word s 0 := by unfold Format.nearest; rw [if_pos rfl]
theorem order_rows : FloatKind.f64.format.read 4674736138332667904 = .number false (32767 * 2 ^ 38) (-38) ∧ FloatKind.f64.format.read 13898108450065350656 = .number true (2 ^ 52) (-37) := by decide +kernel
theorem order_number (s t : Bool) (m n : Nat) (i j : Int) : (Datum.number s m i).order (.number t n j) = some (compare (signed s m (i - min i j).toNat) (signed t n (j - min i j).toNat)) := rfl
theorem signed_f (m u : Nat) : signed false m u = ((m * 2 ^ u : Nat) : Int) := by unfold signed; rw [Nat.shiftLeft_eq]; rfl
theorem signed_t (m u : Nat) : signed true m u = -((m * 2 ^ u : Nat) : Int) := by unfold signed; rw [Nat.shiftLeft_eq]; rfl
theorem compare_gt {a b : Int} (h : b < a) : compare a b = .gt := by
  show compareOfLessAndEq a b = _
  unfold compareOfLessAndEq
  rw [if_neg (by omega), if_neg (by omega)]
theorem compare_lt {a b : Int} (h : a < b) : compare a b = .lt := by
  show compareOfLessAndEq a b = _
  unfold compareOfLessAndEq
  rw [if_pos h]
theorem order_read {f : Format} {x y : Nat} {d e : Datum} (h1 : f.read x = d) (h2 : f.read y = e) : f.order x y = d.order e := by unfold Format.order; rw [h1, h2]
theorem great_order {f : Format} {x y : Nat} {s : Bool} {m n : Nat} {i j : Int} (h1 : f.read x = .number s m i) (h2 : f.read y = .number false n j) (hij : j ≤ i) (hn : n < m * 2 ^ (i - j).toNat) :
    f.order x y = some (if s then .lt else .gt) := by
  rw [order_read h1 h2, order_number, Int.min_eq_right hij, Int.sub_self, Int.toNat_zero, signed_f, Nat.pow_zero, Nat.mul_one]
  cases s
  · rw [signed_f, compare_gt (by omega)]; rfl
  · rw [signed_t, compare_lt (by omega)]; rfl
theorem great_order' {f : Format} {x y : Nat} {m n : Nat} {i j : Int} (h1 : f.read x = .number true m i) (h2 : f.read y = .number true n j) (hij : j ≤ i) (hn : n < m * 2 ^ (i - j).toNat) :
    f.order x y = some .lt := by
  rw [order_read h1 h2, order_number, Int.min_eq_right hij, Int.sub_self, Int.toNat_zero, signed_t, signed_t, Nat.pow_zero, Nat.mul_one, compare_lt (by omega)]
theorem integral_number (s : Bool) (m : Nat) (q : Int) (h : 0 ≤ q) (way : Toward) : (Datum.number s m q).integral way = .number s (m * 2 ^ q.toNat) 0 := by
  show Datum.number s (way.cut s (m <<< q.toNat) (-q).toNat) 0 = _
  rw [show (-q).toNat = 0 by omega, cut_zero, Nat.shiftLeft_eq]
theorem enc_number (k : FloatKind) (s : Bool) (m : Nat) (p : Int) : k.encode (.number s m p) = k.format.nearest s m p := rfl
theorem great_pow {m a n : Nat} (h : m ≠ 0) (hn : n ≤ a) : 2 ^ n ≤ m * 2 ^ a := by
  have h3 : 2 ^ n ≤ 2 ^ a := Nat.pow_le_pow_right (by decide) hn
  have h4 : 1 * 2 ^ a ≤ m * 2 ^ a := Nat.mul_le_mul_right _ (by omega)
  omega
/-- A great number, rounded, is beyond the 16 bit numbers. -/
theorem short_great (s : Bool) {m : Nat} {p : Int} (h : m ≠ 0) (hm : m < 2 ^ 24) (h1 : 100 ≤ p) (h2 : p ≤ 200) :
    shortR (rte (FloatKind.f64.format.nearest s m p)) = if s then -32768 else 32767 := by
  have hl : m.log2 ≤ 23 := by
    have := (Nat.log2_lt h (k := 24)).2 hm
    omega
  have hr : rte (FloatKind.f64.format.nearest s m p) = FloatKind.f64.format.nearest s m p := by
    unfold rte FloatKind.decode
    rw [read64 s h hm (by omega) h2, integral_number _ _ _ (by omega), enc_number, Nat.mul_assoc, ← Nat.pow_add]
    have := nearest_scale FloatKind.f64.format s m p (52 - m.log2 + (p + (m.log2 : Int) - 52).toNat)
    rw [← this, show p - ((52 - m.log2 + (p + (m.log2 : Int) - 52).toNat : Nat) : Int) = 0 by omega]
  rw [hr]
  have hr64 := read64 s h hm (by omega) h2
  obtain ⟨o1, o2⟩ := order_rows
  have b1 : 32767 * 2 ^ 38 < m * 2 ^ (52 - m.log2) * 2 ^ (p + (m.log2 : Int) - 52 - -38).toNat := by
    rw [Nat.mul_assoc, ← Nat.pow_add]
    have := great_pow (m := m) (n := 60) (a := 52 - m.log2 + (p + (m.log2 : Int) - 52 - -38).toNat) h (by omega)
    generalize m * 2 ^ (52 - m.log2 + (p + (m.log2 : Int) - 52 - -38).toNat) = z at this ⊢
    omega
  have g1 := great_order hr64 o1 (by omega) b1
  unfold shortR
  rw [g1]
  cases s
  · simp
  · have b2 : 2 ^ 52 < m * 2 ^ (52 - m.log2) * 2 ^ (p + (m.log2 : Int) - 52 - -37).toNat := by
      rw [Nat.mul_assoc, ← Nat.pow_add]
      have := great_pow (m := m) (n := 60) (a := 52 - m.log2 + (p + (m.log2 : Int) - 52 - -37).toNat) h (by omega)
      generalize m * 2 ^ (52 - m.log2 + (p + (m.log2 : Int) - 52 - -37).toNat) = z at this ⊢
      omega
    have g2 := great_order' hr64 o2 (by omega) b2
    rw [g2]
    simp
theorem short_inf (s : Bool) : shortR (rte (FloatKind.f64.format.word s FloatKind.f64.format.infRung)) = if s then -32768 else 32767 := by
  unfold rte FloatKind.decode
  rw [inf64]
  show shortR (FloatKind.f64.format.word s FloatKind.f64.format.infRung) = _
  unfold shortR
  rw [order_read (inf64 s) order_rows.1, order_read (inf64 s) order_rows.2]
  cases s
  · show (if some Ordering.gt = some .gt then _ else _) = _
    rfl
  · show (if some Ordering.lt = some .gt then _ else if some Ordering.lt = some .lt then _ else _) = _
    rfl
/-- Times 32768 in float32, or in float64: the same 16 bit number. -/
theorem short_same {a : Nat} (h : nan .f32 a = false) : shortR (rte (wide (mulS a))) = shortR (rte (mulD (wide a))) := by
  have hh : (FloatKind.f32.format.read a).isNaN = false := h
  cases e : FloatKind.f32.format.read a with
  | nan s t => rw [e] at hh; cases hh
  | infinity s =>
    have w1 : mulS a = FloatKind.f32.format.word s FloatKind.f32.format.infRung := by
      have h3 := mul_row (f := FloatKind.f32.format) (x := a) (y := c15s) (by rw [read_c15s, e, prod_inf _ _ _ _ (pow_ne 23)])
      unfold mulS
      rw [h3, Option.getD_some, Bool.xor_false]; rfl
    have w2 : wide a = FloatKind.f64.format.word s FloatKind.f64.format.infRung := by
      unfold wide FloatKind.decode; rw [e]; rfl
    have w3 : mulD (FloatKind.f64.format.word s FloatKind.f64.format.infRung) = FloatKind.f64.format.word s FloatKind.f64.format.infRung := by
      have h3 := mul_row (f := FloatKind.f64.format) (x := FloatKind.f64.format.word s FloatKind.f64.format.infRung) (y := c15d) (by rw [read_c15d, inf64, prod_inf _ _ _ _ (pow_ne 52)])
      unfold mulD
      rw [h3, Option.getD_some, Bool.xor_false]; rfl
    have w4 : wide (FloatKind.f32.format.word s FloatKind.f32.format.infRung) = FloatKind.f64.format.word s FloatKind.f64.format.infRung := by
      unfold wide FloatKind.decode; rw [inf32]; rfl
    rw [w1, w2, w3, w4]
  | number s m p =>
    obtain ⟨hm, h1, h2⟩ := read_single a e
    have w2 : wide a = FloatKind.f64.format.nearest s m p := by unfold wide FloatKind.decode; rw [e, enc_number]
    rw [mulS_number s e, w2]
    by_cases h0 : m = 0
    · subst h0
      rw [nearest_zero, nearest_zero]
      have w3 : wide (FloatKind.f32.format.word s 0) = FloatKind.f64.format.word s 0 := by unfold wide FloatKind.decode; rw [zero32, enc_number, nearest_zero]
      have w4 : mulD (FloatKind.f64.format.word s 0) = FloatKind.f64.format.word s 0 := by
        have h3 := mul_row (f := FloatKind.f64.format) (x := FloatKind.f64.format.word s 0) (y := c15d) (by rw [read_c15d, zero64, prod_number])
        unfold mulD
        rw [h3, Option.getD_some, Bool.xor_false, Nat.zero_mul]
        exact nearest_zero _ _ _
      rw [w3, w4]
    · rw [mulD_number s h0 hm h1 h2]
      obtain ⟨e1, e2, e3, e4⟩ := f32_consts
      have hl : m.log2 ≤ 23 := by
        have := (Nat.log2_lt h0 (k := 24)).2 hm
        omega
      by_cases ho : (max (p + 15 + m.log2 - FloatKind.f32.format.fractionBits) FloatKind.f32.format.leastPlace - FloatKind.f32.format.leastPlace).toNat * FloatKind.f32.format.binade + m * 2 ^ (p + 15 - max (p + 15 + m.log2 - FloatKind.f32.format.fractionBits) FloatKind.f32.format.leastPlace).toNat < FloatKind.f32.format.infRung
      · obtain ⟨r1, r2⟩ := read_nearest FloatKind.f32.format s h0 (by rw [e1]; omega) (by rw [e2]; omega) rfl ho
        have w5 : wide (FloatKind.f32.format.nearest s m (p + 15)) = FloatKind.f64.format.nearest s m (p + 15) := by
          unfold wide FloatKind.decode
          rw [r1, enc_number]
          have := nearest_scale FloatKind.f64.format s m (p + 15) (p + 15 - max (p + 15 + m.log2 - FloatKind.f32.format.fractionBits) FloatKind.f32.format.leastPlace).toNat
          rw [← this]
          congr 1
          omega
        rw [w5]
      · have hlast : max (p + 15 + m.log2 - FloatKind.f32.format.fractionBits) FloatKind.f32.format.leastPlace = max (p + 15 + m.log2 - 23) (-149) := by rw [e1, e2]; rfl
        have hk : m * 2 ^ (p + 15 - max (p + 15 + (m.log2 : Int) - 23) (-149)).toNat < 2 ^ 24 := by
          have h3 : m * 2 ^ (p + 15 - max (p + 15 + (m.log2 : Int) - 23) (-149)).toNat < 2 ^ (m.log2 + 1 + (p + 15 - max (p + 15 + (m.log2 : Int) - 23) (-149)).toNat) := by
            rw [Nat.pow_add]; exact Nat.mul_lt_mul_of_pos_right Nat.lt_log2_self (Nat.two_pow_pos _)
          have h4 : 2 ^ (m.log2 + 1 + (p + 15 - max (p + 15 + (m.log2 : Int) - 23) (-149)).toNat) ≤ 2 ^ 24 := Nat.pow_le_pow_right (by decide) (by omega)
          omega
        have ho' := ho
        rw [hlast, e2, e3, e4] at ho'
        have hp : 89 ≤ p := by
          generalize m * 2 ^ (p + 15 - max (p + 15 + (m.log2 : Int) - 23) (-149)).toNat = z at hk ho'
          have h5 : 253 < (max (p + 15 + (m.log2 : Int) - 23) (-149) - -149).toNat := by omega
          omega
        have w6 : FloatKind.f32.format.nearest s m (p + 15) = FloatKind.f32.format.word s FloatKind.f32.format.infRung := by
          unfold Format.nearest
          rw [if_neg h0]
          dsimp only
          rw [show (max (p + 15 + (m.log2 : Int) - FloatKind.f32.format.fractionBits) FloatKind.f32.format.leastPlace - (p + 15)).toNat = 0 by rw [hlast]; omega, cut_zero, Nat.shiftLeft_eq, Nat.min_eq_right (by omega)]
        have w4 : wide (FloatKind.f32.format.word s FloatKind.f32.format.infRung) = FloatKind.f64.format.word s FloatKind.f64.format.infRung := by
          unfold wide FloatKind.decode; rw [inf32]; rfl
        rw [w6, w4, short_inf, short_great s h0 hm (by omega) (by omega)]
end Go.Sx
