/- Floats: a number's word does not depend on how it is written; exact words read back; a float32 as a 16 bit number in two ways. -/
import Derived.Test.YtdhhfilfcpljoaaGreatLfl
namespace Go.Sx
open Ieee
set_option linter.unusedVariables false
set_option linter.unusedSimpArgs false

theorem log2_mul_pow {m : Nat} (h : m ≠ 0) (k : Nat) : (m * 2 ^ k).log2 = m.log2 + k := by
  have h1 : m * 2 ^ k ≠ 0 := Nat.mul_ne_zero h (Nat.ne_of_gt (Nat.two_pow_pos k))
  have a1 : m < 2 ^ (m.log2 + 1) := Nat.lt_log2_self
  have a2 : 2 ^ m.log2 ≤ m := Nat.log2_self_le h
  have b1 : m * 2 ^ k < 2 ^ (m.log2 + k + 1) := by
    rw [show m.log2 + k + 1 = m.log2 + 1 + k by omega, Nat.pow_add]
    exact Nat.mul_lt_mul_of_pos_right a1 (Nat.two_pow_pos k)
  have b2 : 2 ^ (m.log2 + k) ≤ m * 2 ^ k := by
    rw [Nat.pow_add]
    exact Nat.mul_le_mul_right _ a2
  have c1 := (Nat.log2_lt h1 (k := m.log2 + k + 1)).2 b1
  have c2 : ¬ (m * 2 ^ k).log2 < m.log2 + k := fun h2 => by
    have := (Nat.log2_lt h1).1 h2
    omega
  omega
theorem cut_scale (way : Toward) (s : Bool) {n : Nat} (h : n ≠ 0) (d k : Nat) : way.cut s (n * 2 ^ k) (d + k) = way.cut s n d := by
  unfold Toward.cut
  dsimp only
  have hg : 1 <<< min (d + k) ((n * 2 ^ k).log2 + 2) = (1 <<< min d (n.log2 + 2)) * 2 ^ k := by
    rw [log2_mul_pow h, show min (d + k) (n.log2 + k + 2) = min d (n.log2 + 2) + k by omega, Nat.shiftLeft_eq, Nat.shiftLeft_eq, Nat.pow_add, Nat.one_mul, Nat.one_mul]
  rw [hg, Nat.mul_div_mul_right _ _ (Nat.two_pow_pos k), Nat.mul_mod_mul_right]
  generalize 1 <<< min d (n.log2 + 2) = gap
  generalize n % gap = rest
  have hp := Nat.two_pow_pos k
  generalize 2 ^ k = q at hp
  congr 2
  have e1 : (rest * q != 0) = (rest != 0) := by
    by_cases h0 : rest = 0
    · simp [h0]
    · have : rest * q ≠ 0 := Nat.mul_ne_zero h0 (by omega)
      rw [show (rest * q != 0) = true from bne_iff_ne.2 this, show (rest != 0) = true from bne_iff_ne.2 h0]
  cases way
  · have e2 : decide (gap * q < 2 * (rest * q)) = decide (gap < 2 * rest) := by
      rw [decide_eq_decide, ← Nat.mul_assoc]
      exact Nat.mul_lt_mul_right hp
    have e3 : (gap * q == 2 * (rest * q)) = (gap == 2 * rest) := by
      rw [← Nat.mul_assoc]
      by_cases h3 : gap = 2 * rest
      · simp [h3]
      · have : gap * q ≠ 2 * rest * q := fun e => h3 (Nat.eq_of_mul_eq_mul_right hp e)
        rw [beq_false_of_ne this, beq_false_of_ne h3]
    show (decide (gap * q < 2 * (rest * q)) || gap * q == 2 * (rest * q) && n / gap % 2 == 1) = (decide (gap < 2 * rest) || gap == 2 * rest && n / gap % 2 == 1)
    rw [e2, e3]
  · show (s && rest * q != 0) = (s && rest != 0)
    rw [e1]
  · show (!s && rest * q != 0) = (!s && rest != 0)
    rw [e1]
  · rfl
theorem cut_zero (way : Toward) (s : Bool) (n : Nat) : way.cut s n 0 = n := by
  unfold Toward.cut
  simp only [Nat.zero_le, Nat.min_eq_left, Nat.shiftLeft_zero, Nat.div_one, Nat.mod_one, Nat.mul_zero]
  cases way
  · rfl
  · cases s <;> rfl
  · cases s <;> rfl
  · rfl
theorem cut_exact (way : Toward) (s : Bool) {n : Nat} (h : n ≠ 0) (k : Nat) : way.cut s (n * 2 ^ k) k = n := by
  have := cut_scale way s h 0 k
  rw [Nat.zero_add, cut_zero] at this
  exact this
theorem nearest_scale (f : Format) (s : Bool) (m : Nat) (p : Int) (k : Nat) : f.nearest s (m * 2 ^ k) (p - k) = f.nearest s m p := by
  unfold Format.nearest
  by_cases h : m = 0
  · subst h; simp
  have h1 : m * 2 ^ k ≠ 0 := Nat.mul_ne_zero h (Nat.ne_of_gt (Nat.two_pow_pos k))
  rw [if_neg h, if_neg h1, log2_mul_pow h]
  dsimp only
  have hl : max (p - (k : Int) + ((m.log2 + k : Nat) : Int) - f.fractionBits) f.leastPlace = max (p + m.log2 - f.fractionBits) f.leastPlace := by
    rw [show p - (k : Int) + ((m.log2 + k : Nat) : Int) - f.fractionBits = p + m.log2 - f.fractionBits by omega]
  rw [hl]
  generalize max (p + (m.log2 : Int) - f.fractionBits) f.leastPlace = last
  have key : Toward.even.cut s ((m * 2 ^ k) <<< (p - k - last).toNat) (last - (p - k)).toNat = Toward.even.cut s (m <<< (p - last).toNat) (last - p).toNat := by
    rcases Int.le_total last p with h2 | h2
    · rw [show (last - p).toNat = 0 by omega, cut_zero]
      rcases Int.le_total last (p - k) with h3 | h3
      · rw [show (last - (p - k)).toNat = 0 by omega, cut_zero, Nat.shiftLeft_eq, Nat.shiftLeft_eq, show (p - last).toNat = k + (p - k - last).toNat by omega, Nat.pow_add, Nat.mul_assoc]
      · rw [show (p - k - last).toNat = 0 by omega, Nat.shiftLeft_zero]
        have : m * 2 ^ k = (m * 2 ^ (p - last).toNat) * 2 ^ (last - (p - k)).toNat := by
          rw [Nat.mul_assoc, ← Nat.pow_add]; congr 2; omega
        rw [this, cut_exact _ _ (Nat.mul_ne_zero h (Nat.ne_of_gt (Nat.two_pow_pos _))), Nat.shiftLeft_eq]
    · rw [show (p - k - last).toNat = 0 by omega, show (p - last).toNat = 0 by omega, Nat.shiftLeft_zero, Nat.shiftLeft_zero, show (last - (p - k)).toNat = (last - p).toNat + k by omega, cut_scale _ _ h]
  rw [key]
/-- A number that the format has reads back. -/
theorem read_nearest (f : Format) (s : Bool) {m : Nat} {p : Int} (h : m ≠ 0) (hm : m < 2 ^ (f.fractionBits + 1)) (hp : f.leastPlace ≤ p) {last : Int} (hlast : last = max (p + m.log2 - f.fractionBits) f.leastPlace)
    (ho : (last - f.leastPlace).toNat * f.binade + m * 2 ^ (p - last).toNat < f.infRung) :
    f.read (f.nearest s m p) = .number s (m * 2 ^ (p - last).toNat) last ∧ last ≤ p := by
  have hl2 : m.log2 ≤ f.fractionBits := by
    have := (Nat.log2_lt h (k := f.fractionBits + 1)).2 hm
    omega
  have hle : last ≤ p := by omega
  refine ⟨?_, hle⟩
  have a1 : m < 2 ^ (m.log2 + 1) := Nat.lt_log2_self
  have a2 : 2 ^ m.log2 ≤ m := Nat.log2_self_le h
  have e1 : f.nearest s m p = f.word s ((last - f.leastPlace).toNat * f.binade + m * 2 ^ (p - last).toNat) := by
    unfold Format.nearest
    rw [if_neg h]
    dsimp only
    rw [← hlast, show (last - p).toNat = 0 by omega, cut_zero, Nat.shiftLeft_eq, Nat.min_eq_left (Nat.le_of_lt ho)]
  have hb : f.binade = 2 ^ f.fractionBits := rfl
  have hbp : 0 < f.binade := Nat.two_pow_pos _
  have hk : m * 2 ^ (p - last).toNat < 2 * f.binade := by
    have : m * 2 ^ (p - last).toNat < 2 ^ (m.log2 + 1 + (p - last).toNat) := by
      rw [Nat.pow_add]; exact Nat.mul_lt_mul_of_pos_right a1 (Nat.two_pow_pos _)
    have h2 : 2 ^ (m.log2 + 1 + (p - last).toNat) ≤ 2 ^ (f.fractionBits + 1) := Nat.pow_le_pow_right (by decide) (by omega)
    rw [hb, ← Nat.pow_succ']
    omega
  have hk2 : last = f.leastPlace ∨ f.binade ≤ m * 2 ^ (p - last).toNat := by
    rcases Int.le_total (p + m.log2 - f.fractionBits) f.leastPlace with h3 | h3
    · exact .inl (by omega)
    · refine .inr ?_
      have : 2 ^ (m.log2 + (p - last).toNat) ≤ m * 2 ^ (p - last).toNat := by
        rw [Nat.pow_add]; exact Nat.mul_le_mul_right _ a2
      rw [show m.log2 + (p - last).toNat = f.fractionBits by omega] at this
      exact this
  rw [e1]
  have hinf := f.infRung_lt
  generalize m * 2 ^ (p - last).toNat = kept at *
  have hw : (f.word s ((last - f.leastPlace).toNat * f.binade + kept)) % f.signWeight = (last - f.leastPlace).toNat * f.binade + kept := by
    unfold Format.word
    split
    · rw [Nat.add_mod_left, Nat.mod_eq_of_lt (by omega)]
    · rw [Nat.mod_eq_of_lt (by omega)]
  have hn : (f.word s ((last - f.leastPlace).toNat * f.binade + kept) / f.signWeight % 2 == 1) = s := by
    have hsw : 0 < f.signWeight := Nat.two_pow_pos _
    unfold Format.word
    cases s
    · simp only [Bool.false_eq_true, if_false]
      rw [Nat.div_eq_of_lt (by omega)]; rfl
    · simp only [if_true]
      rw [Nat.add_div_left _ hsw, Nat.div_eq_of_lt (by omega)]; rfl
  unfold Format.read
  dsimp only
  rw [hw, hn]
  rcases hk2 with h3 | h3
  · rw [h3, Int.sub_self]
    simp only [Int.toNat_zero, Nat.zero_mul, Nat.zero_add]
    by_cases h4 : kept < f.binade
    · rw [if_pos h4]
    · rw [if_neg h4, if_pos (by rw [h3, Int.sub_self] at ho; simpa using ho)]
      have h5 : kept / f.binade = 1 := by
        rw [Nat.div_eq_iff hbp]; omega
      have h6 : kept % f.binade = kept - f.binade := by
        have := Nat.div_add_mod kept f.binade
        rw [h5] at this; omega
      rw [h5, h6]
      simp only [Nat.sub_self]
      rw [show f.binade + (kept - f.binade) = kept by omega]
      simp
  · have h4 : ¬ ((last - f.leastPlace).toNat * f.binade + kept < f.binade) := by omega
    rw [if_neg h4, if_pos ho]
    have h5 : ((last - f.leastPlace).toNat * f.binade + kept) / f.binade = (last - f.leastPlace).toNat + 1 := by
      rw [Nat.mul_comm, Nat.mul_add_div hbp]
      have : kept / f.binade = 1 := by rw [Nat.div_eq_iff hbp]; omega
      omega
    have h6 : ((last - f.leastPlace).toNat * f.binade + kept) % f.binade = kept - f.binade := by
      rw [Nat.mul_comm, Nat.mul_add_mod]
      have h7 : kept / f.binade = 1 := by rw [Nat.div_eq_iff hbp]; omega
      have := Nat.div_add_mod kept f.binade
      rw [h7] at this; omega
    rw [h5, h6]
    rw [show f.binade + (kept - f.binade) = kept by omega]
    congr 1
    omega
end Go.Sx
/- A float32 as a 16 bit number: times 32768 in float32 or in float64 comes to the same. -/
namespace Go.Sx
open Ieee
set_option linter.unusedVariables false
set_option linter.unusedSimpArgs false

theorem enc_not_nan (k : FloatKind) {d : Datum} (h : d.isNaN = false) : nan k (k.encode d) = false := by
  cases d with
  | number s m p =>
    show nan k (k.format.nearest s m p) = false
    unfold Format.nearest
    split
    · exact word_not_nan (Nat.zero_le _)
    · exact word_not_nan (Nat.min_le_right _ _)
  | infinity s => exact word_not_nan (Nat.le_refl _)
  | nan s t => cases h
theorem wide_not_nan {a : Nat} (h : nan .f32 a = false) : nan .f64 (wide a) = false := enc_not_nan .f64 h
def c15s : Nat := 1191182336
def c15d : Nat := 4674736413210574848
theorem read_c15s : FloatKind.f32.format.read c15s = .number false (2 ^ 23) (-8) := by decide +kernel
theorem read_c15d : FloatKind.f64.format.read c15d = .number false (2 ^ 52) (-37) := by decide +kernel
def rte (w : Nat) : Nat := FloatKind.f64.encode ((FloatKind.f64.decode w).integral .even)
def shortR (r : Nat) : Int := if FloatKind.f64.format.order r 4674736138332667904 = some .gt then 32767 else if FloatKind.f64.format.order r 13898108450065350656 = some .lt then -32768 else ((FloatKind.f64.decode r).toInt .zero).getD 0
def mulS (a : Nat) : Nat := (FloatKind.f32.format.mul a c15s).getD 0
def mulD (w : Nat) : Nat := (FloatKind.f64.format.mul w c15d).getD 0
theorem prod_number (s t : Bool) (m n : Nat) (i j : Int) : (Datum.number s m i).product (.number t n j) = some (.number (s ^^ t) (m * n) (i + j)) := rfl
theorem prod_inf (s t : Bool) (n : Nat) (j : Int) (h : n ≠ 0) : (Datum.infinity s).product (.number t n j) = some (.infinity (s ^^ t)) := by
  show (if n = 0 then none else some (Datum.infinity (s ^^ t))) = _
  rw [if_neg h]
theorem mul_row {f : Format} {x y : Nat} {d : Datum} (h : (f.read x).product (f.read y) = some d) : f.mul x y = some (f.write d) := by
  unfold Format.mul
  rw [h]; rfl
theorem mul_some {k : FloatKind} {a c n : Nat} {j : Int} (hn : n ≠ 0) (hc : k.format.read c = .number false n j) (h : nan k a = false) : ∃ d : Datum, d.isNaN = false ∧ k.format.mul a c = some (k.encode d) := by
  have hh : (k.format.read a).isNaN = false := h
  cases e : k.format.read a with
  | number s m p => exact ⟨_, rfl, mul_row (by rw [e, hc, prod_number])⟩
  | infinity s => exact ⟨_, rfl, mul_row (by rw [e, hc, prod_inf _ _ _ _ hn])⟩
  | nan s t => rw [e] at hh; cases hh
theorem pow_ne (n : Nat) : 2 ^ n ≠ 0 := Nat.ne_of_gt (Nat.two_pow_pos n)
theorem mulS_some {a : Nat} (h : nan .f32 a = false) : FloatKind.f32.format.mul a c15s = some (mulS a) ∧ nan .f32 (mulS a) = false := by
  obtain ⟨d, h1, h2⟩ := mul_some (pow_ne 23) read_c15s h
  unfold mulS
  rw [h2, Option.getD_some]
  exact ⟨Eq.refl _, enc_not_nan .f32 h1⟩
theorem mulD_some {a : Nat} (h : nan .f64 a = false) : FloatKind.f64.format.mul a c15d = some (mulD a) ∧ nan .f64 (mulD a) = false := by
  obtain ⟨d, h1, h2⟩ := mul_some (pow_ne 52) read_c15d h
  unfold mulD
  rw [h2, Option.getD_some]
  exact ⟨Eq.refl _, enc_not_nan .f64 h1⟩
theorem mul_nan {k : FloatKind} {a : Nat} (h : nan k a = true) (b : Nat) : k.format.mul a b = none := by
  have hh : (k.format.read a).isNaN = true := h
  unfold Format.mul
  cases e : k.format.read a <;> rw [e] at hh <;> first | (cases hh; done) | rfl
theorem f32_consts : FloatKind.f32.format.fractionBits = 23 ∧ FloatKind.f32.format.leastPlace = -149 ∧ FloatKind.f32.format.binade = 2 ^ 23 ∧ FloatKind.f32.format.infRung = 255 * 2 ^ 23 := by decide +kernel
theorem f64_consts : FloatKind.f64.format.fractionBits = 52 ∧ FloatKind.f64.format.leastPlace = -1074 ∧ FloatKind.f64.format.binade = 2 ^ 52 ∧ FloatKind.f64.format.infRung = 2047 * 2 ^ 52 := by decide +kernel
/-- A number of at most 24 digits in a float64. -/
theorem read64 (s : Bool) {m : Nat} {p : Int} (h : m ≠ 0) (hm : m < 2 ^ 24) (h1 : -149 ≤ p) (h2 : p ≤ 200) :
    FloatKind.f64.format.read (FloatKind.f64.format.nearest s m p) = .number s (m * 2 ^ (52 - m.log2)) (p + m.log2 - 52) := by
  obtain ⟨e1, e2, e3, e4⟩ := f64_consts
  have hl : m.log2 ≤ 23 := by
    have := (Nat.log2_lt h (k := 24)).2 hm
    omega
  have hlast : p + m.log2 - 52 = max (p + m.log2 - FloatKind.f64.format.fractionBits) FloatKind.f64.format.leastPlace := by rw [e1, e2]; omega
  have ht : (p - (p + m.log2 - 52)).toNat = 52 - m.log2 := by omega
  have hk : m * 2 ^ (52 - m.log2) < 2 ^ 53 := by
    have b2 : 2 ^ 53 = 2 ^ (m.log2 + 1) * 2 ^ (52 - m.log2) := by rw [← Nat.pow_add]; congr 1; omega
    rw [b2]
    exact Nat.mul_lt_mul_of_pos_right Nat.lt_log2_self (Nat.two_pow_pos _)
  have := (read_nearest FloatKind.f64.format s h (by rw [e1]; omega) (by rw [e2]; omega) hlast (by
    rw [e2, e3, e4, ht]
    generalize m * 2 ^ (52 - m.log2) = q at hk
    have h4 : (p + (m.log2 : Int) - 52 - -1074).toNat ≤ 1300 := by omega
    generalize (p + (m.log2 : Int) - 52 - -1074).toNat = z at h4
    omega)).1
  rw [ht] at this
  exact this
theorem mulD_number (s : Bool) {m : Nat} {e : Int} (h : m ≠ 0) (hm : m < 2 ^ 24) (h1 : -149 ≤ e) (h2 : e ≤ 104) :
    mulD (FloatKind.f64.format.nearest s m e) = FloatKind.f64.format.nearest s m (e + 15) := by
  have hl : m.log2 ≤ 23 := by
    have := (Nat.log2_lt h (k := 24)).2 hm
    omega
  have h3 := mul_row (f := FloatKind.f64.format) (x := FloatKind.f64.format.nearest s m e) (y := c15d) (by rw [read_c15d, read64 s h hm h1 (by omega), prod_number])
  unfold mulD
  rw [h3, Option.getD_some, Bool.xor_false, Nat.mul_assoc, ← Nat.pow_add, show e + (m.log2 : Int) - 52 + -37 = (e + 15) - ((52 - m.log2 + 52 : Nat) : Int) by omega]
  exact nearest_scale _ _ _ _ _
theorem mulS_number (s : Bool) {a m : Nat} {e : Int} (hr : FloatKind.f32.format.read a = .number s m e) : mulS a = FloatKind.f32.format.nearest s m (e + 15) := by
  have h3 := mul_row (f := FloatKind.f32.format) (x := a) (y := c15s) (by rw [read_c15s, hr, prod_number])
  unfold mulS
  rw [h3, Option.getD_some, Bool.xor_false, show e + -8 = (e + 15) - ((23 : Nat) : Int) by omega]
  exact nearest_scale _ _ _ _ _
theorem inf32 (s : Bool) : FloatKind.f32.format.read (FloatKind.f32.format.word s FloatKind.f32.format.infRung) = .infinity s := by cases s <;> decide +kernel
theorem inf64 (s : Bool) : FloatKind.f64.format.read (FloatKind.f64.format.word s FloatKind.f64.format.infRung) = .infinity s := by cases s <;> decide +kernel
theorem zero32 (s : Bool) : FloatKind.f32.format.read (FloatKind.f32.format.word s 0) = .number s 0 (-149) := by cases s <;> decide +kernel
theorem zero64 (s : Bool) : FloatKind.f64.format.read (FloatKind.f64.format.word s 0) = .number s 0 (-1074) := by cases s <;> decide +kernel
theorem nearest_zero (f : Format) (s : Bool) (p : Int) : f.nearest s 0 p = f.word s 0 := by unfold Format.nearest; rw [if_pos rfl]
theorem order_rows : FloatKind.f64.format.read 4674736138332667904 = .number false (32767 * 2 ^ 38) (-38) ∧ FloatKind.f64.format.read 13898108450065350656 = .number true (2 ^ 52) (-37) := by decide +kernel
theorem order_number (s t : Bool) (m n : Nat) (i j : Int) : (Datum.number s m i).order (.number t n j) = some (compare (signed s m (i - min i j).toNat) (signed t n (j - min i j).toNat)) := rfl
theorem signed_f (m u : Nat) : signed false m u = ((m * 2 ^ u : Nat) : Int) := by unfold signed; rw [Nat.shiftLeft_eq]; rfl
theorem signed_t (m u : Nat) : signed true m u = -((m * 2 ^ u : Nat) : Int) := by unfold signed; rw [Nat.shiftLeft_eq]; rfl
theorem compare_gt {a b : Int} (h : b < a) : compare a b = .gt := by
  show compareOfLessAndEq a b = _
  unfold compareOfLessAndEq
  rw [if_neg (by omega), if_neg (by omega)]
theorem compare_lt {a b : Int} (h : a < b) : compare a b = .lt := by
  show compareOfLessAndEq a b = _
  unfold compareOfLessAndEq
  rw [if_pos h]
theorem order_read {f : Format} {x y : Nat} {d e : Datum} (h1 : f.read x = d) (h2 : f.read y = e) : f.order x y = d.order e := by unfold Format.order; rw [h1, h2]
theorem great_order {f : Format} {x y : Nat} {s : Bool} {m n : Nat} {i j : Int} (h1 : f.read x = .number s m i) (h2 : f.read y = .number false n j) (hij : j ≤ i) (hn : n < m * 2 ^ (i - j).toNat) :
    f.order x y = some (if s then .lt else .gt) := by
  rw [order_read h1 h2, order_number, Int.min_eq_right hij, Int.sub_self, Int.toNat_zero, signed_f, Nat.pow_zero, Nat.mul_one]
  cases s
  · rw [signed_f, compare_gt (by omega)]; rfl
  · rw [signed_t, compare_lt (by omega)]; rfl
theorem great_order' {f : Format} {x y : Nat} {m n : Nat} {i j : Int} (h1 : f.read x = .number true m i) (h2 : f.read y = .number true n j) (hij : j ≤ i) (hn : n < m * 2 ^ (i - j).toNat) :
    f.order x y = some .lt := by
  rw [order_read h1 h2, order_number, Int.min_eq_right hij, Int.sub_self, Int.toNat_zero, signed_t, signed_t, Nat.pow_zero, Nat.mul_one, compare_lt (by omega)]
theorem integral_number (s : Bool) (m : Nat) (q : Int) (h : 0 ≤ q) (way : Toward) : (Datum.number s m q).integral way = .number s (m * 2 ^ q.toNat) 0 := by
  show Datum.number s (way.cut s (m <<< q.toNat) (-q).toNat) 0 = _
  rw [show (-q).toNat = 0 by omega, cut_zero, Nat.shiftLeft_eq]
theorem enc_number (k : FloatKind) (s : Bool) (m : Nat) (p : Int) : k.encode (.number s m p) = k.format.nearest s m p := rfl
theorem great_pow {m a n : Nat} (h : m ≠ 0) (hn : n ≤ a) : 2 ^ n ≤ m * 2 ^ a := by
  have h3 : 2 ^ n ≤ 2 ^ a := Nat.pow_le_pow_right (by decide) hn
  have h4 : 1 * 2 ^ a ≤ m * 2 ^ a := Nat.mul_le_mul_right _ (by omega)
  omega
/-- A great number, rounded, is beyond the 16 bit numbers. -/
theorem short_great (s : Bool) {m : Nat} {p : Int} (h : m ≠ 0) (hm : m < 2 ^ 24) (h1 : 100 ≤ p) (h2 : p ≤ 200) :
    shortR (rte (FloatKind.f64.format.nearest s m p)) = if s then -32768 else 32767 := by
  have hl : m.log2 ≤ 23 := by
    have := (Nat.log2_lt h (k := 24)).2 hm
    omega
  have hr : rte (FloatKind.f64.format.nearest s m p) = FloatKind.f64.format.nearest s m p := by
    unfold rte FloatKind.decode
    rw [read64 s h hm (by omega) h2, integral_number _ _ _ (by omega), enc_number, Nat.mul_assoc, ← Nat.pow_add]
    have := nearest_scale FloatKind.f64.format s m p (52 - m.log2 + (p + (m.log2 : Int) - 52).toNat)
    rw [← this, show p - ((52 - m.log2 + (p + (m.log2 : Int) - 52).toNat : Nat) : Int) = 0 by omega]
  rw [hr]
  have hr64 := read64 s h hm (by omega) h2
  obtain ⟨o1, o2⟩ := order_rows
  have b1 : 32767 * 2 ^ 38 < m * 2 ^ (52 - m.log2) * 2 ^ (p + (m.log2 : Int) - 52 - -38).toNat := by
    rw [Nat.mul_assoc, ← Nat.pow_add]
    have := great_pow (m := m) (n := 60) (a := 52 - m.log2 + (p + (m.log2 : Int) - 52 - -38).toNat) h (by omega)
    generalize m * 2 ^ (52 - m.log2 + (p + (m.log2 : Int) - 52 - -38).toNat) = z at this ⊢
    omega
  have g1 := great_order hr64 o1 (by omega) b1
  unfold shortR
  rw [g1]
  cases s
  · simp
  · have b2 : 2 ^ 52 < m * 2 ^ (52 - m.log2) * 2 ^ (p + (m.log2 : Int) - 52 - -37).toNat := by
      rw [Nat.mul_assoc, ← Nat.pow_add]
      have := great_pow (m := m) (n := 60) (a := 52 - m.log2 + (p + (m.log2 : Int) - 52 - -37).toNat) h (by omega)
      generalize m * 2 ^ (52 - m.log2 + (p + (m.log2 : Int) - 52 - -37).toNat) = z at this ⊢
      omega
    have g2 := great_order' hr64 o2 (by omega) b2
    rw [g2]
    simp
theorem short_inf (s : Bool) : shortR (rte (FloatKind.f64.format.word s FloatKind.f64.format.infRung)) = if s then -32768 else 32767 := by
  unfold rte FloatKind.decode
  rw [inf64]
  show shortR (FloatKind.f64.format.word s FloatKind.f64.format.infRung) = _
  unfold shortR
  rw [order_read (inf64 s) order_rows.1, order_read (inf64 s) order_rows.2]
  cases s
  · show (if some Ordering.gt = some .gt then _ else _) = _
    rfl
  · show (if some Ordering.lt = some .gt then _ else if some Ordering.lt = some .lt then _ else _) = _
    rfl
/-- Times 32768 in float32, or in float64: the same 16 bit number. -/
theorem short_same {a : Nat} (h : nan .f32 a = false) : shortR (rte (wide (mulS a))) = shortR (rte (mulD (wide a))) := by
  have hh : (FloatKind.f32.format.read a).isNaN = false := h
  cases e : FloatKind.f32.format.read a with
  | nan s t => rw [e] at hh; cases hh
  | infinity s =>
    have w1 : mulS a = FloatKind.f32.format.word s FloatKind.f32.format.infRung := by
      have h3 := mul_row (f := FloatKind.f32.format) (x := a) (y := c15s) (by rw [read_c15s, e, prod_inf _ _ _ _ (pow_ne 23)])
      unfold mulS
      rw [h3, Option.getD_some, Bool.xor_false]; rfl
    have w2 : wide a = FloatKind.f64.format.word s FloatKind.f64.format.infRung := by
      unfold wide FloatKind.decode; rw [e]; rfl
    have w3 : mulD (FloatKind.f64.format.word s FloatKind.f64.format.infRung) = FloatKind.f64.format.word s FloatKind.f64.format.infRung := by
      have h3 := mul_row (f := FloatKind.f64.format) (x := FloatKind.f64.format.word s FloatKind.f64.format.infRung) (y := c15d) (by rw [read_c15d, inf64, prod_inf _ _ _ _ (pow_ne 52)])
      unfold mulD
      rw [h3, Option.getD_some, Bool.xor_false]; rfl
    have w4 : wide (FloatKind.f32.format.word s FloatKind.f32.format.infRung) = FloatKind.f64.format.word s FloatKind.f64.format.infRung := by
      unfold wide FloatKind.decode; rw [inf32]; rfl
    rw [w1, w2, w3, w4]
  | number s m p =>
    obtain ⟨hm, h1, h2⟩ := read_single a e
    have w2 : wide a = FloatKind.f64.format.nearest s m p := by unfold wide FloatKind.decode; rw [e, enc_number]
    rw [mulS_number s e, w2]
    by_cases h0 : m = 0
    · subst h0
      rw [nearest_zero, nearest_zero]
      have w3 : wide (FloatKind.f32.format.word s 0) = FloatKind.f64.format.word s 0 := by unfold wide FloatKind.decode; rw [zero32, enc_number, nearest_zero]
      have w4 : mulD (FloatKind.f64.format.word s 0) = FloatKind.f64.format.word s 0 := by
        have h3 := mul_row (f := FloatKind.f64.format) (x := FloatKind.f64.format.word s 0) (y := c15d) (by rw [read_c15d, zero64, prod_number])
        unfold mulD
        rw [h3, Option.getD_some, Bool.xor_false, Nat.zero_mul]
        exact nearest_zero _ _ _
      rw [w3, w4]
    · rw [mulD_number s h0 hm h1 h2]
      obtain ⟨e1, e2, e3, e4⟩ := f32_consts
      have hl : m.log2 ≤ 23 := by
        have := (Nat.log2_lt h0 (k := 24)).2 hm
        omega
      by_cases ho : (max (p + 15 + m.log2 - FloatKind.f32.format.fractionBits) FloatKind.f32.format.leastPlace - FloatKind.f32.format.leastPlace).toNat * FloatKind.f32.format.binade + m * 2 ^ (p + 15 - max (p + 15 + m.log2 - FloatKind.f32.format.fractionBits) FloatKind.f32.format.leastPlace).toNat < FloatKind.f32.format.infRung
      · obtain ⟨r1, r2⟩ := read_nearest FloatKind.f32.format s h0 (by rw [e1]; omega) (by rw [e2]; omega) rfl ho
        have w5 : wide (FloatKind.f32.format.nearest s m (p + 15)) = FloatKind.f64.format.nearest s m (p + 15) := by
          unfold wide FloatKind.decode
          rw [r1, enc_number]
          have := nearest_scale FloatKind.f64.format s m (p + 15) (p + 15 - max (p + 15 + m.log2 - FloatKind.f32.format.fractionBits) FloatKind.f32.format.leastPlace).toNat
          rw [← this]
          congr 1
          omega
        rw [w5]
      · have hlast : max (p + 15 + m.log2 - FloatKind.f32.format.fractionBits) FloatKind.f32.format.leastPlace = max (p + 15 + m.log2 - 23) (-149) := by rw [e1, e2]; rfl
        have hk : m * 2 ^ (p + 15 - max (p + 15 + (m.log2 : Int) - 23) (-149)).toNat < 2 ^ 24 := by
          have h3 : m * 2 ^ (p + 15 - max (p + 15 + (m.log2 : Int) - 23) (-149)).toNat < 2 ^ (m.log2 + 1 + (p + 15 - max (p + 15 + (m.log2 : Int) - 23) (-149)).toNat) := by
            rw [Nat.pow_add]; exact Nat.mul_lt_mul_of_pos_right Nat.lt_log2_self (Nat.two_pow_pos _)
          have h4 : 2 ^ (m.log2 + 1 + (p + 15 - max (p + 15 + (m.log2 : Int) - 23) (-149)).toNat) ≤ 2 ^ 24 := Nat.pow_le_pow_right (by decide) (by omega)
          omega
        have ho' := ho
        rw [hlast, e2, e3, e4] at ho'
        have hp : 89 ≤ p := by
          generalize m * 2 ^ (p + 15 - max (p + 15 + (m.log2 : Int) - 23) (-149)).toNat = z at hk ho'
          have h5 : 253 < (max (p + 15 + (m.log2 : Int) - 23) (-149) - -149).toNat := by omega
          omega
        have w6 : FloatKind.f32.format.nearest s m (p + 15) = FloatKind.f32.format.word s FloatKind.f32.format.infRung := by
          unfold Format.nearest
          rw [if_neg h0]
          dsimp only
          rw [show (max (p + 15 + (m.log2 : Int) - FloatKind.f32.format.fractionBits) FloatKind.f32.format.leastPlace - (p + 15)).toNat = 0 by rw [hlast]; omega, cut_zero, Nat.shiftLeft_eq, Nat.min_eq_right (by omega)]
        have w4 : wide (FloatKind.f32.format.word s FloatKind.f32.format.infRung) = FloatKind.f64.format.word s FloatKind.f64.format.infRung := by
          unfold wide FloatKind.decode; rw [inf32]; rfl
        rw [w6, w4, short_inf, short_great s h0 hm (by omega) (by omega)]
end Go.Sx
/- Floats cut to whole numbers within bounds; math.RoundToEven. -/
namespace Go.Sx
open Ieee
set_option linter.unusedVariables false
set_option linter.unusedSimpArgs false

theorem cut_zero_le (s : Bool) (n d : Nat) : Toward.zero.cut s n d * 2 ^ d ≤ n := by
  unfold Toward.cut
  dsimp only
  rw [show (false.toNat) = 0 from rfl, Nat.add_zero, Nat.shiftLeft_eq, Nat.one_mul]
  rcases Nat.le_total d (n.log2 + 2) with h | h
  · rw [Nat.min_eq_left h]; exact Nat.div_mul_le_self _ _
  · rw [Nat.min_eq_right h]
    have : n < 2 ^ (n.log2 + 2) := Nat.lt_of_lt_of_le Nat.lt_log2_self (Nat.pow_le_pow_right (by decide) (by omega))
    rw [Nat.div_eq_of_lt this]; omega
theorem le_cut {s : Bool} {m n N : Nat} {e j : Int} (hj : j ≤ 0) (hn : n = N * 2 ^ (-j).toNat) (h : m * 2 ^ (e - min e j).toNat ≤ n * 2 ^ (j - min e j).toNat) : Toward.zero.cut s (m <<< e.toNat) (-e).toNat ≤ N := by
  subst hn
  have hc := cut_zero_le s (m <<< e.toNat) (-e).toNat
  generalize Toward.zero.cut s (m <<< e.toNat) (-e).toNat = c at hc ⊢
  rw [Nat.shiftLeft_eq] at hc
  rcases Int.le_total 0 e with he | he
  · rw [show (-e).toNat = 0 by omega, Nat.pow_zero, Nat.mul_one] at hc
    rw [Int.min_eq_right (by omega), Int.sub_self, Int.toNat_zero, Nat.pow_zero, Nat.mul_one] at h
    rw [show (e - j).toNat = e.toNat + (-j).toNat by omega, Nat.pow_add, ← Nat.mul_assoc] at h
    exact Nat.le_trans hc (Nat.le_of_mul_le_mul_right h (Nat.two_pow_pos _))
  · rw [show e.toNat = 0 by omega, Nat.pow_zero, Nat.mul_one] at hc
    rcases Int.le_total j e with h1 | h1
    · rw [Int.min_eq_right h1, Int.sub_self, Int.toNat_zero, Nat.pow_zero, Nat.mul_one] at h
      have h2 : c * 2 ^ (-j).toNat ≤ m * 2 ^ (e - j).toNat := by
        have := Nat.mul_le_mul_right (2 ^ (e - j).toNat) hc
        rwa [Nat.mul_assoc, ← Nat.pow_add, show (-e).toNat + (e - j).toNat = (-j).toNat by omega] at this
      exact Nat.le_of_mul_le_mul_right (Nat.le_trans h2 h) (Nat.two_pow_pos _)
    · rw [Int.min_eq_left h1, Int.sub_self, Int.toNat_zero, Nat.pow_zero, Nat.mul_one, Nat.mul_assoc, ← Nat.pow_add, show (-j).toNat + (j - e).toNat = (-e).toNat by omega] at h
      exact Nat.le_of_mul_le_mul_right (Nat.le_trans hc h) (Nat.two_pow_pos _)
theorem toInt_number (s : Bool) (m : Nat) (e : Int) : (Datum.number s m e).toInt .zero = some (signed s (Toward.zero.cut s (m <<< e.toNat) (-e).toNat) 0) := rfl
theorem compare_ne_gt {a b : Int} (h : compare a b ≠ .gt) : a ≤ b := by
  rcases Int.lt_or_le b a with h1 | h1
  · exact absurd (compare_gt h1) h
  · exact h1
theorem compare_ne_lt {a b : Int} (h : compare a b ≠ .lt) : b ≤ a := by
  rcases Int.lt_or_le a b with h1 | h1
  · exact absurd (compare_lt h1) h
  · exact h1
theorem fit_short {r : Nat} (h0 : nan .f64 r = false) (h1 : FloatKind.f64.format.order r 4674736138332667904 ≠ some .gt) (h2 : FloatKind.f64.format.order r 13898108450065350656 ≠ some .lt) {n : Int} (h : IsFI .f64 r .i16 n) :
    n = ((FloatKind.f64.decode r).toInt .zero).getD 0 := by
  have h0' : (FloatKind.f64.format.read r).isNaN = false := h0
  obtain ⟨o1, o2⟩ := order_rows
  unfold IsFI FloatKind.decode at h
  unfold FloatKind.decode
  cases e : FloatKind.f64.format.read r with
  | nan s t => rw [e] at h0'; cases h0'
  | infinity s =>
    exfalso
    cases s
    · exact h1 (by rw [order_read e o1]; rfl)
    · exact h2 (by rw [order_read e o2]; rfl)
  | number s m p =>
    rw [e, toInt_number] at h
    rw [toInt_number, Option.getD_some]
    dsimp only at h
    have hb : IntKind.i16.min ≤ signed s (Toward.zero.cut s (m <<< p.toNat) (-p).toNat) 0 ∧ signed s (Toward.zero.cut s (m <<< p.toNat) (-p).toNat) 0 ≤ IntKind.i16.max := by
      have i1 : IntKind.i16.min = -32768 := by decide
      have i2 : IntKind.i16.max = 32767 := by decide
      rw [i1, i2]
      rw [order_read e o1, order_number] at h1
      rw [order_read e o2, order_number] at h2
      cases s
      · have h3 := compare_ne_gt (fun e => h1 (by rw [e]))
        rw [signed_f, signed_f] at h3
        have h4 := le_cut (s := false) (m := m) (e := p) (n := 32767 * 2 ^ 38) (N := 32767) (j := -38) (by decide) (Eq.refl _) (by exact_mod_cast h3)
        rw [signed_f, Nat.pow_zero, Nat.mul_one]
        omega
      · have h3 := compare_ne_lt (fun e => h2 (by rw [e]))
        rw [signed_t, signed_t] at h3
        have h5 : m * 2 ^ (p - min p (-37)).toNat ≤ 2 ^ 52 * 2 ^ (-37 - min p (-37)).toNat := by
          generalize m * 2 ^ (p - min p (-37)).toNat = x at h3 ⊢
          generalize 2 ^ 52 * 2 ^ (-37 - min p (-37)).toNat = y at h3 ⊢
          omega
        have h4 := le_cut (s := true) (m := m) (e := p) (n := 2 ^ 52) (N := 32768) (j := -37) (by decide) (by decide) h5
        rw [signed_t, Nat.pow_zero, Nat.mul_one]
        omega
    rw [if_pos hb] at h
    exact h
theorem quiet_nan {s : Bool} (t : Nat) : nan .f64 (FloatKind.f64.encode (.nan s (FloatKind.f64.format.quiet t))) = true := by
  obtain ⟨e1, e2, e3, e4⟩ := f64_consts
  have h1 : FloatKind.f64.format.quiet t % FloatKind.f64.format.binade ≠ 0 := by
    unfold Format.quiet
    rw [e1, e3]
    intro h
    have h2 : ((t ||| 2 ^ (52 - 1)) % 2 ^ 52).testBit 51 = true := by
      rw [Nat.testBit_mod_two_pow]
      rw [Nat.testBit_or, show (2 ^ (52 - 1) : Nat).testBit 51 = true by decide +kernel]
      simp
    rw [h] at h2
    simp at h2
  have h3 : FloatKind.f64.format.quiet t % FloatKind.f64.format.binade < FloatKind.f64.format.binade := Nat.mod_lt _ (Nat.two_pow_pos _)
  have hE : ∀ u, FloatKind.f64.encode (.nan s u) = FloatKind.f64.format.word s (FloatKind.f64.format.infRung + u % FloatKind.f64.format.binade) := fun u => rfl
  unfold nan
  rw [hE, read_isNaN, decide_eq_true_eq]
  generalize FloatKind.f64.format.quiet t % FloatKind.f64.format.binade = q at h1 h3 ⊢
  have hs := FloatKind.f64.format.infRung_add_binade
  have hw : (FloatKind.f64.format.word s (FloatKind.f64.format.infRung + q)) % FloatKind.f64.format.signWeight = FloatKind.f64.format.infRung + q := by
    unfold Format.word
    split
    · rw [Nat.add_mod_left, Nat.mod_eq_of_lt (by omega)]
    · rw [Nat.mod_eq_of_lt (by omega)]
  rw [hw]
  rw [e3] at h3 hs ⊢
  rw [e4] at hs ⊢
  omega
theorem ext_call {P : Program} {f : FuncId} {fn : Func} {e : Array Value → Sem Value} {args : Array Value} {K : Value → Heap → Prop} {h : Heap} (hf : P.funcs[f]? = some fn) (hname : (fn.name == "runtime.NumGoroutine") = false)
    (hb : fn.body.isNone = true) (hn : Extern.findNext fn = none) (he : Extern.find fn = some e) (hr : ∀ w : World, w.heap = h → ∃ v w', (e args).run P w = .ok v w' ∧ Same w w' ∧ K v w'.heap) : CALL P f args K h := by
  intro w hw
  obtain ⟨v, w', h1, h2, h3⟩ := hr w hw
  unfold UponN
  rw [Go.run_callFunc_extern hf hname hb hn he, h1]
  exact ⟨h2, h3⟩
theorem rte_nan {x : Nat} {s : Bool} {u : Nat} (nm : String) (e : FloatKind.f64.decode x = .nan s u) : Extern.MathFloor.toIntegral nm .even #[.float .f64 x] =
    if FloatKind.f64.format.quiet u = u then pure (.float .f64 x) else (do
      let kept ← choose (.extern "math.Floor,Ceil,Trunc,RoundToEven.signallingNaN kept" 2)
      pure (.float .f64 (if kept == 1 then x else FloatKind.f64.encode (.nan s (FloatKind.f64.format.quiet u))))) := by
  show (match FloatKind.f64.decode x with | .nan s t => _ | d => _) = _
  rw [e]
theorem rte_else {x : Nat} (nm : String) (hx : nan .f64 x = false) : Extern.MathFloor.toIntegral nm .even #[.float .f64 x] = pure (.float .f64 (rte x)) := by
  have h' : (FloatKind.f64.decode x).isNaN = false := hx
  show (match FloatKind.f64.decode x with | .nan s t => _ | d => _) = _
  unfold rte
  cases e : FloatKind.f64.decode x with
  | nan s t => rw [e] at h'; cases h'
  | number s m p => rfl
  | infinity s => rfl
theorem rte_run {P : Program} (x : Nat) (w : World) (nm : String) : ∃ r w', (Extern.MathFloor.toIntegral nm .even #[.float .f64 x]).run P w = .ok (.float .f64 r) w' ∧ Same w w' ∧ w'.heap = w.heap ∧ (nan .f64 x = true → nan .f64 r = true) ∧ (nan .f64 x = false → r = rte x) := by
  cases hx : nan .f64 x with
  | false => exact ⟨_, w, by rw [rte_else nm hx, Sem.run_pure], Same.refl _, rfl, (fun h => by cases h), fun _ => rfl⟩
  | true =>
    have h' : (FloatKind.f64.decode x).isNaN = true := hx
    cases e : FloatKind.f64.decode x with
    | number s m p => rw [e] at h'; cases h'
    | infinity s => rw [e] at h'; cases h'
    | nan s u =>
      rw [rte_nan nm e]
      split
      · exact ⟨x, w, by rw [Sem.run_pure], Same.refl _, rfl, fun _ => hx, fun h => by cases h⟩
      · rw [Sem.run_bind, run_choose]
        have hq : ∀ c : Nat, nan .f64 (if c == 1 then x else FloatKind.f64.encode (.nan s (FloatKind.f64.format.quiet u))) = true := fun c => by
          split
          · exact hx
          · exact quiet_nan u
        split
        · exact ⟨_, w, by rw [Result.andThen_ok, Sem.run_pure], Same.refl _, rfl, fun _ => hq _, fun h => by cases h⟩
        · exact ⟨_, { w with drawn := w.drawn + 1 }, by rw [Result.andThen_ok, Sem.run_pure], ⟨rfl, rfl, rfl⟩, rfl, fun _ => hq _, fun h => by cases h⟩
theorem rte_not_nan {x : Nat} (h : nan .f64 x = false) : nan .f64 (rte x) = false := by
  have h' : (FloatKind.f64.format.read x).isNaN = false := h
  unfold rte FloatKind.decode
  cases e : FloatKind.f64.format.read x with
  | nan s t => rw [e] at h'; cases h'
  | number s m p => exact enc_not_nan .f64 rfl
  | infinity s => exact enc_not_nan .f64 rfl
/-- A float32 as a 16 bit number. -/
def shortOf (a : Nat) : Int := if nan .f32 a then 0 else shortR (rte (mulD (wide a)))
/-- The end that both ways have. -/
theorem short_tail {r : Nat} {Q : Int → Prop} (h1 : nan .f64 r = true → Q 0) (h2 : nan .f64 r = false → Q (shortR r)) :
    BIF (FloatKind.f64.format.order r r != some .eq) (Q 0) (BIF (FloatKind.f64.format.order r 4674736138332667904 == some .gt) (Q 32767) (BIF (FloatKind.f64.format.order r 13898108450065350656 == some .lt) (Q (-32768)) (FIC .f64 r .i16 fun n => Q n))) := by
  rw [ne_self]
  refine br h1 fun h0 => ?_
  have h2 := h2 h0
  unfold shortR at h2
  refine br (fun h3 => ?_) fun h3 => br (fun h4 => ?_) fun h4 n hn => ?_
  · rw [if_pos (by simpa using h3)] at h2; exact h2
  · rw [if_neg (by simpa using h3), if_pos (by simpa using h4)] at h2; exact h2
  · rw [if_neg (by simpa using h3), if_neg (by simpa using h4)] at h2
    rw [fit_short h0 (by simpa using h3) (by simpa using h4) hn]; exact h2
end Go.Sx
