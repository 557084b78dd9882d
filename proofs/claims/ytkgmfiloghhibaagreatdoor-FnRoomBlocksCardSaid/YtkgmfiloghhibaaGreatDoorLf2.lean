/- Floats: a number's word does not depend on how it is written; exact words read back; a float32 as a 16 bit number in two ways. -/
import Derived.Test.YtkgmfiloghhibaaGreatDoorLg
import Derived.Test.YtkgmfiloghhibaaGreatDoorLp1
namespace Go.Sx
open Ieee
set_option linter.unusedVariables false
set_option linter.unusedSimpArgs false

theorem log2_mul_pow {m : Nat} (h : m ≠ 0) (k : Nat) : (m * 2 ^ k).log2 = m.log2 + k := by
  have h1 : m * 2 ^ k ≠ 0 := Nat.mul_ne_zero h (Nat.ne_of_gt (Nat.two_pow_pos k))
  have a1 : m < 2 ^ (m.log2 + 1) := Nat.lt_log2_self
  have a2 : 2 ^ m.log2 ≤ m := Nat.log2_self_le h
  have b1 : m * 2 ^ k < 2 ^ (m.log2 + k + 1) := by
    rw [show m.log2 + k + 1 = m.log2 + 1 + k by omega, Nat.pow_add]
    exact Nat.mul_lt_mul_of_pos_right a1 (Nat.two_pow_pos k)
  have b2 : 2 ^ (m.log2 + k) ≤ m * 2 ^ k := by
    rw [Nat.pow_add]
    exact Nat.mul_le_mul_right _ a2
  have c1 := (Nat.log2_lt h1 (k := m.log2 + k + 1)).2 b1
  have c2 : ¬ (m * 2 ^ k).log2 < m.log2 + k := fun h2 => by
    have := (Nat.log2_lt h1).1 h2
    omega
  omega
theorem cut_scale (way : Toward) (s : Bool) {n : Nat} (h : n ≠ 0) (d k : Nat) : way.cut s (n * 2 ^ k) (d + k) = way.cut s n d := by
  unfold Toward.cut
  dsimp only
  have hg : 1 <<< min (d + k) ((n * 2 ^ k).log2 + 2) = (1 <<< min d (n.log2 + 2)) * 2 ^ k := by
    rw [log2_mul_pow h, show min (d + k) (n.log2 + k + 2) = min d (n.log2 + 2) + k by omega, Nat.shiftLeft_eq, Nat.shiftLeft_eq, Nat.pow_add, Nat.one_mul, Nat.one_mul]
  rw [hg, Nat.mul_div_mul_right _ _ (Nat.two_pow_pos k), Nat.mul_mod_mul_right]
  generalize 1 <<< min d (n.log2 + 2) = gap
  generalize n % gap = rest
  have hp := Nat.two_pow_pos k
  generalize 2 ^ k = q at hp
  congr 2
  have e1 : (rest * q != 0) = (rest != 0) := by
    by_cases h0 : rest = 0
    · simp [h0]
    · have : rest * q ≠ 0 := Nat.mul_ne_zero h0 (by omega)
      rw [show (rest * q != 0) = true from bne_iff_ne.2 this, show (rest != 0) = true from bne_iff_ne.2 h0]
  cases way
  · have e2 : decide (gap * q < 2 * (rest * q)) = decide (gap < 2 * rest) := by
      rw [decide_eq_decide, ← Nat.mul_assoc]
      exact Nat.mul_lt_mul_right hp
    have e3 : (gap * q == 2 * (rest * q)) = (gap == 2 * rest) := by
      rw [← Nat.mul_assoc]
      by_cases h3 : gap = 2 * rest
      · simp [h3]
      · have : gap * q ≠ 2 * rest * q := fun e => h3 (Nat.eq_of_mul_eq_mul_right hp e)
        rw [beq_false_of_ne this, beq_false_of_ne h3]
    show (decide (gap * q < 2 * (rest * q)) || gap * q == 2 * (rest * q) && n / gap % 2 == 1) = (decide (gap < 2 * rest) || gap == 2 * rest && n / gap % 2 == 1)
    rw [e2, e3]
  · show (s && rest * q != 0) = (s && rest != 0)
    rw [e1]
  · show (!s && rest * q != 0) = (!s && rest != 0)
    rw [e1]
  · rfl
theorem cut_zero (way : Toward) (s : Bool) (n : Nat) : way.cut s n 0 = n := by
  unfold Toward.cut
  simp only [Nat.zero_le, Nat.min_eq_left, Nat.shiftLeft_zero, Nat.div_one, Nat.mod_one, Nat.mul_zero]
  cases way
  · rfl
  · cases s <;> rfl
  · cases s <;> rfl
  · rfl
theorem cut_exact (way : Toward) (s : Bool) {n : Nat} (h : n ≠ 0) (k : Nat) : way.cut s (n * 2 ^ k) k = n := by
  have := cut_scale way s h 0 k
  rw [Nat.zero_add, cut_zero] at this
  exact this
theorem nearest_scale (f : Format) (s : Bool) (m : Nat) (p : Int) (k : Nat) : f.nearest s (m * 2 ^ k) (p - k) = f.nearest s m p := by
  unfold Format.nearest
  by_cases h : m = 0
  · subst h; simp
  have h1 : m * 2 ^ k ≠ 0 := Nat.mul_ne_zero h (Nat.ne_of_gt (Nat.two_pow_pos k))
  rw [if_neg h, if_neg h1, log2_mul_pow h]
  dsimp only
  have hl : max (p - (k : Int) + ((m.log2 + k : Nat) : Int) - f.fractionBits) f.leastPlace = max (p + m.log2 - f.fractionBits) f.leastPlace := by
    rw [show p - (k : Int) + ((m.log2 + k : Nat) : Int) - f.fractionBits = p + m.log2 - f.fractionBits by omega]
  rw [hl]
  generalize max (p + (m.log2 : Int) - f.fractionBits) f.leastPlace = last
  have key : Toward.even.cut s ((m * 2 ^ k) <<< (p - k - last).toNat) (last - (p - k)).toNat = Toward.even.cut s (m <<< (p - last).toNat) (last - p).toNat := by
    rcases Int.le_total last p with h2 | h2
    · rw [show (last - p).toNat = 0 by omega, cut_zero]
      rcases Int.le_total last (p - k) with h3 | h3
      · rw [show (last - (p - k)).toNat = 0 by omega, cut_zero, Nat.shiftLeft_eq, Nat.shiftLeft_eq, show (p - last).toNat = k + (p - k - last).toNat by omega, Nat.pow_add, Nat.mul_assoc]
      · rw [show (p - k - last).toNat = 0 by omega, Nat.shiftLeft_zero]
        have : m * 2 ^ k = (m * 2 ^ (p - last).toNat) * 2 ^ (last - (p - k)).toNat := by
          rw [Nat.mul_assoc, ← Nat.pow_add]; congr 2; omega
        rw [this, cut_exact _ _ (Nat.mul_ne_zero h (Nat.ne_of_gt (Nat.two_pow_pos _))), Nat.shiftLeft_eq]
    · rw [show (p - k - last).toNat = 0 by omega, show (p - last).toNat = 0 by omega, Nat.shiftLeft_zero, Nat.shiftLeft_zero, show (last - (p - k)).toNat = (last - p).toNat + k by omega, cut_scale _ _ h]
  rw [key]
/-- A number that the format has reads back. -/
theorem read_nearest (f : Format) (s : Bool) {m : Nat} {p : Int} (h : m ≠ 0) (hm : m < 2 ^ (f.fractionBits + 1)) (hp : f.leastPlace ≤ p) {last : Int} (hlast : last = max (p + m.log2 - f.fractionBits) f.leastPlace)
    (ho : (last - f.leastPlace).toNat * f.binade + m * 2 ^ (p - last).toNat < f.infRung) :
    f.read (f.nearest s m p) = .number s (m * 2 ^ (p - last).toNat) last ∧ last ≤ p := by
  have hl2 : m.log2 ≤ f.fractionBits := by
    have := (Nat.log2_lt h (k := f.fractionBits + 1)).2 hm
    omega
  have hle : last ≤ p := by omega
  refine ⟨?_, hle⟩
  have a1 : m < 2 ^ (m.log2 + 1) := Nat.lt_log2_self
  have a2 : 2 ^ m.log2 ≤ m := Nat.log2_self_le h
  have e1 : f.nearest s m p = f.word s ((last - f.leastPlace).toNat * f.binade + m * 2 ^ (p - last).toNat) := by
    unfold Format.nearest
    rw [if_neg h]
    dsimp only
    rw [← hlast, show (last - p).toNat = 0 by omega, cut_zero, Nat.shiftLeft_eq, Nat.min_eq_left (Nat.le_of_lt ho)]
  have hb : f.binade = 2 ^ f.fractionBits := rfl
  have hbp : 0 < f.binade := Nat.two_pow_pos _
  have hk : m * 2 ^ (p - last).toNat < 2 * f.binade := by
    have : m * 2 ^ (p - last).toNat < 2 ^ (m.log2 + 1 + (p - last).toNat) := by
      rw [Nat.pow_add]; exact Nat.mul_lt_mul_of_pos_right a1 (Nat.two_pow_pos _)
    have h2 : 2 ^ (m.log2 + 1 + (p - last).toNat) ≤ 2 ^ (f.fractionBits + 1) := Nat.pow_le_pow_right (by decide) (by omega)
    rw [hb, ← Nat.pow_succ']
    omega
  have hk2 : last = f.leastPlace ∨ f.binade ≤ m * 2 ^ (p - last).toNat := by
    rcases Int.le_total (p + m.log2 - f.fractionBits) f.leastPlace with h3 | h3
    · exact .inl (by omega)
    · refine .inr ?_
      have : 2 ^ (m.log2 + (p - last).toNat) ≤ m * 2 ^ (p - last).toNat := by
        rw [Nat.pow_add]; exact Nat.mul_le_mul_right _ a2
      rw [show m.log2 + (p - last).toNat = f.fractionBits by omega] at this
      exact this
  rw [e1]
  have hinf := f.infRung_lt
  generalize m * 2 ^ (p - last).toNat = kept at *
  have hw : (f.word s ((last - f.leastPlace).toNat * f.binade + kept)) % f.signWeight = (last - f.leastPlace).toNat * f.binade + kept := by
    unfold Format.word
    split
    · rw [Nat.add_mod_left, Nat.mod_eq_of_lt (by omega)]
    · rw [Nat.mod_eq_of_lt (by omega)]
  have hn : (f.word s ((last - f.leastPlace).toNat * f.binade + kept) / f.signWeight % 2 == 1) = s := by
    have hsw : 0 < f.signWeight := Nat.two_pow_pos _
    unfold Format.word
    cases s
    · simp only [Bool.false_eq_true, if_false]
      rw [Nat.div_eq_of_lt (by omega)]; rfl
    · simp only [if_true]
      rw [Nat.add_div_left _ hsw, Nat.div_eq_of_lt (by omega)]; rfl
  unfold Format.read
  dsimp only
  rw [hw, hn]
  rcases hk2 with h3 | h3
  · rw [h3, Int.sub_self]
    simp only [Int.toNat_zero, Nat.zero_mul, Nat.zero_add]
    by_cases h4 : kept < f.binade
    · rw [if_pos h4]
    · rw [if_neg h4, if_pos (by rw [h3, Int.sub_self] at ho; simpa using ho)]
      have h5 : kept / f.binade = 1 := by
        rw [Nat.div_eq_iff hbp]; omega
      have h6 : kept % f.binade = kept - f.binade := by
        have := Nat.div_add_mod kept f.binade
        rw [h5] at this; omega
      rw [h5, h6]
      simp only [Nat.sub_self]
      rw [show f.binade + (kept - f.binade) = kept by omega]
      simp
  · have h4 : ¬ ((last - f.leastPlace).toNat * f.binade + kept < f.binade) := by omega
    rw [if_neg h4, if_pos ho]
    have h5 : ((last - f.leastPlace).toNat * f.binade + kept) / f.binade = (last - f.leastPlace).toNat + 1 := by
      rw [Nat.mul_comm, Nat.mul_add_div hbp]
      have : kept / f.binade = 1 := by rw [Nat.div_eq_iff hbp]; omega
      omega
    have h6 : ((last - f.leastPlace).toNat * f.binade + kept) % f.binade = kept - f.binade := by
      rw [Nat.mul_comm, Nat.mul_add_mod]
      have h7 : kept / f.binade = 1 := by rw [Nat.div_eq_iff hbp]; omega
      have := Nat.div_add_mod kept f.binade
      rw [h7] at this; omega
    rw [h5, h6]
    rw [show f.binade + (kept - f.binade) = kept by omega]
    congr 1
    omega
end Go.Sx
/- A float32 as a 16 bit number: times 32768 in float32 or in float64 comes to the same. -/
namespace Go.Sx
open Ieee
set_option linter.unusedVariables false
set_option linter.unusedSimpArgs false

theorem enc_not_nan (k : FloatKind) {d : Datum} (h : d.isNaN = false) : nan k (k.encode d) = false := by
  cases d with
  | number s m p =>
    show nan k (k.format.nearest s m p) = false
    unfold Format.nearest
    split
    · exact word_not_nan (Nat.zero_le _)
    · exact word_not_nan (Nat.min_le_right _ _)
  | infinity s => exact word_not_nan (Nat.le_refl _)
  | nan s t => cases h
theorem wide_not_nan {a : Nat} (h : nan .f32 a = false) : nan .f64 (wide a) = false := enc_not_nan .f64 h
theorem f32_consts : FloatKind.f32.format.fractionBits = 23 ∧ FloatKind.f32.format.leastPlace = -149 ∧ FloatKind.f32.format.binade = 2 ^ 23 ∧ FloatKind.f32.format.infRung = 255 * 2 ^ 23 := by decide +kernel
theorem f64_consts : FloatKind.f64.format.fractionBits = 52 ∧ FloatKind.f64.format.leastPlace = -1074 ∧ FloatKind.f64.format.binade = 2 ^ 52 ∧ FloatKind.f64.format.infRung = 2047 * 2 ^ 52 := by decide +kernel
/-- A number of at most 24 digits in a float64. -/
theorem read64 (s : Bool) {m : Nat} {p : Int} (h : m ≠ 0) (hm : m < 2 ^ 24) (h1 : -149 ≤ p) (h2 : p ≤ 200) :
    FloatKind.f64.format.read (FloatKind.f64.format.nearest s m p) = .number s (m * 2 ^ (52 - m.log2)) (p + m.log2 - 52) := by
  obtain ⟨e1, e2, e3, e4⟩ := f64_consts
  have hl : m.log2 ≤ 23 := by
    have := (Nat.log2_lt h (k := 24)).2 hm
    omega
  have hlast : p + m.log2 - 52 = max (p + m.log2 - FloatKind.f64.format.fractionBits) FloatKind.f64.format.leastPlace := by rw [e1, e2]; omega
  have ht : (p - (p + m.log2 - 52)).toNat = 52 - m.log2 := by omega
  have hk : m * 2 ^ (52 - m.log2) < 2 ^ 53 := by
    have b2 : 2 ^ 53 = 2 ^ (m.log2 + 1) * 2 ^ (52 - m.log2) := by rw [← Nat.pow_add]; congr 1; omega
    rw [b2]
    exact Nat.mul_lt_mul_of_pos_right Nat.lt_log2_self (Nat.two_pow_pos _)
  have := (read_nearest FloatKind.f64.format s h (by rw [e1]; omega) (by rw [e2]; omega) hlast (by
    rw [e2, e3, e4, ht]
    generalize m * 2 ^ (52 - m.log2) = q at hk
    have h4 : (p + (m.log2 : Int) - 52 - -1074).toNat ≤ 1300 := by omega
    generalize (p + (m.log2 : Int) - 52 - -1074).toNat = z at h4
    omega)).1
  rw [ht] at this
  exact this
theorem inf64 (s : Bool) : FloatKind.f64.format.read (FloatKind.f64.format.word s FloatKind.f64.format.infRung) = .infinity s := by cases s <;> decide +kernel
theorem zero32 (s : Bool) : FloatKind.f32.format.read (FloatKind.f32.format.word s 0) = .number s 0 (-149) := by cases s <;> decide +kernel
theorem zero64 (s : Bool) : FloatKind.f64.format.read (FloatKind.f64.format.word s 0) = .number s 0 (-1074) := by cases s <;> decide +kernel
theorem nearest_zero (f : Format) (s : Bool) (p : Int) : f.nearest s 0 p = f.word s 0 := by unfold Format.nearest; rw [if_pos rfl]
theorem order_number (s t : Bool) (m n : Nat) (i j : Int) : (Datum.number s m i).order (.number t n j) = some (compare (signed s m (i - min i j).toNat) (signed t n (j - min i j).toNat)) := rfl
theorem signed_f (m u : Nat) : signed false m u = ((m * 2 ^ u : Nat) : Int) := by unfold signed; rw [Nat.shiftLeft_eq]; rfl
theorem signed_t (m u : Nat) : signed true m u = -((m * 2 ^ u : Nat) : Int) := by unfold signed; rw [Nat.shiftLeft_eq]; rfl
theorem compare_gt {a b : Int} (h : b < a) : compare a b = .gt := by
  show compareOfLessAndEq a b = _
  unfold compareOfLessAndEq
  rw [if_neg (by omega), if_neg (by omega)]
theorem compare_lt {a b : Int} (h : a < b) : compare a b = .lt := by
  show compareOfLessAndEq a b = _
  unfold compareOfLessAndEq
  rw [if_pos h]
theorem order_read {f : Format} {x y : Nat} {d e : Datum} (h1 : f.read x = d) (h2 : f.read y = e) : f.order x y = d.order e := by unfold Format.order; rw [h1, h2]
end Go.Sx
/- Floats cut to whole numbers within bounds; math.RoundToEven. -/
namespace Go.Sx
open Ieee
set_option linter.unusedVariables false
set_option linter.unusedSimpArgs false

theorem compare_ne_gt {a b : Int} (h : compare a b ≠ .gt) : a ≤ b := by
  rcases Int.lt_or_le b a with h1 | h1
  · exact absurd (compare_gt h1) h
  · exact h1
theorem compare_ne_lt {a b : Int} (h : compare a b ≠ .lt) : b ≤ a := by
  rcases Int.lt_or_le a b with h1 | h1
  · exact absurd (compare_lt h1) h
  · exact h1
end Go.Sx
/- Floats up to which NaN they are: operations, comparisons, conversions. -/
set_option linter.unusedVariables false
set_option linter.unusedSimpArgs false
namespace Go.Sx
open Ieee

section
variable {k : FloatKind} {x y a b r : Nat}
theorem FW.nan (h : FW k x a) : Sx.nan k x = Sx.nan k a := by rw [← h.1, nan_canon]
theorem FW.self (h : FW k x a) : cn k a = a := by rw [← h.1, canon_canon]
theorem FW.eq (h : FW k x a) (hn : Sx.nan k a = false) : x = a := by
  have := h.nan
  rw [hn] at this
  rw [← h.1]; unfold cn; rw [this]; rfl
theorem qn_lt (k : FloatKind) : qn k < 2 ^ k.format.width := by cases k <;> decide +kernel
theorem FW.lt (h : FW k x a) : a < 2 ^ k.format.width := by
  rw [← h.1]; unfold cn; split
  · exact qn_lt k
  · exact h.2
theorem op_cong {op : Nat → Nat → Option Nat} (hl : ∀ x y, Sx.nan k x = true → op x y = none) (hr : ∀ x y, Sx.nan k y = true → op x y = none) (hx : FW k x a) (hy : FW k y b) : op x y = op a b := by
  have h1 := hx.nan
  have h2 := hy.nan
  cases e1 : Sx.nan k a with
  | true => rw [hl a b e1, hl x y (by rw [h1, e1])]
  | false =>
    cases e2 : Sx.nan k b with
    | true => rw [hr a b e2, hr x y (by rw [h2, e2])]
    | false => rw [hx.eq e1, hy.eq e2]
theorem isnan_read {k : FloatKind} {x : Nat} (h : Sx.nan k x = true) : ∃ s t, k.format.read x = .nan s t := by
  unfold Sx.nan at h
  cases e : k.format.read x <;> rw [e] at h <;> first | (cases h; done) | exact ⟨_, _, rfl⟩
theorem add_nl (x y : Nat) (h : Sx.nan k x = true) : k.format.add x y = none := by obtain ⟨s, t, e⟩ := isnan_read h; unfold Format.add; rw [e]; rfl
theorem add_nr (x y : Nat) (h : Sx.nan k y = true) : k.format.add x y = none := by obtain ⟨s, t, e⟩ := isnan_read h; unfold Format.add; rw [e]; cases k.format.read x <;> rfl
theorem sub_nl (x y : Nat) (h : Sx.nan k x = true) : k.format.sub x y = none := by obtain ⟨s, t, e⟩ := isnan_read h; unfold Format.sub; rw [e]; rfl
theorem sub_nr (x y : Nat) (h : Sx.nan k y = true) : k.format.sub x y = none := by obtain ⟨s, t, e⟩ := isnan_read h; unfold Format.sub; rw [e]; cases k.format.read x <;> rfl
theorem mul_nl (x y : Nat) (h : Sx.nan k x = true) : k.format.mul x y = none := by obtain ⟨s, t, e⟩ := isnan_read h; unfold Format.mul; rw [e]; rfl
theorem mul_nr (x y : Nat) (h : Sx.nan k y = true) : k.format.mul x y = none := by obtain ⟨s, t, e⟩ := isnan_read h; unfold Format.mul; rw [e]; cases k.format.read x <;> rfl
theorem div_nl (x y : Nat) (h : Sx.nan k x = true) : k.format.div x y = none := by obtain ⟨s, t, e⟩ := isnan_read h; unfold Format.div; rw [e]; rfl
theorem div_nr (x y : Nat) (h : Sx.nan k y = true) : k.format.div x y = none := by obtain ⟨s, t, e⟩ := isnan_read h; unfold Format.div; rw [e]; cases k.format.read x <;> rfl
def fadd (k : FloatKind) (a b : Nat) : Nat := cn k ((k.format.add a b).getD (qn k))
def fsub (k : FloatKind) (a b : Nat) : Nat := cn k ((k.format.sub a b).getD (qn k))
def fmul (k : FloatKind) (a b : Nat) : Nat := cn k ((k.format.mul a b).getD (qn k))
def fdiv (k : FloatKind) (a b : Nat) : Nat := cn k ((k.format.div a b).getD (qn k))
theorem isF_lt {k : FloatKind} {o : Option Nat} {r : Nat} (h : IsF k o r) (ho : ∀ v, o = some v → v < 2 ^ k.format.width) : r < 2 ^ k.format.width := by
  cases o with
  | some v => rw [show r = v from h]; exact ho v rfl
  | none =>
    cases k with
    | f32 =>
      obtain ⟨t, rfl⟩ := (h : isNaNW .f32 r)
      show _ < 2 ^ 32
      have hs : t % 2 = 0 ∨ t % 2 = 1 := by omega
      have hu : t / 2 % (2 ^ 23 - 1) < 2 ^ 23 - 1 := Nat.mod_lt _ (by decide)
      generalize t / 2 % (2 ^ 23 - 1) = u at hu ⊢
      rcases hs with hs | hs <;> rw [hs] <;> omega
    | f64 =>
      obtain ⟨t, rfl⟩ := (h : isNaNW .f64 r)
      show _ < 2 ^ 64
      have hs : t % 2 = 0 ∨ t % 2 = 1 := by omega
      have hu : t / 2 % (2 ^ 52 - 1) < 2 ^ 52 - 1 := Nat.mod_lt _ (by decide)
      generalize t / 2 % (2 ^ 52 - 1) = u at hu ⊢
      rcases hs with hs | hs <;> rw [hs] <;> omega
theorem fw_add (hx : FW k x a) (hy : FW k y b) (h : IsF k (k.format.add x y) r) : FW k r (fadd k a b) :=
  ⟨by rw [canon_of_isF h, op_cong add_nl add_nr hx hy]; rfl, isF_lt h fun v e => k.format.add_lt e⟩
theorem fw_sub (hx : FW k x a) (hy : FW k y b) (h : IsF k (k.format.sub x y) r) : FW k r (fsub k a b) :=
  ⟨by rw [canon_of_isF h, op_cong sub_nl sub_nr hx hy]; rfl, isF_lt h fun v e => k.format.sub_lt e⟩
theorem fw_mul (hx : FW k x a) (hy : FW k y b) (h : IsF k (k.format.mul x y) r) : FW k r (fmul k a b) :=
  ⟨by rw [canon_of_isF h, op_cong mul_nl mul_nr hx hy]; rfl, isF_lt h fun v e => k.format.mul_lt e⟩
theorem fw_div (hx : FW k x a) (hy : FW k y b) (h : IsF k (k.format.div x y) r) : FW k r (fdiv k a b) :=
  ⟨by rw [canon_of_isF h, op_cong div_nl div_nr hx hy]; rfl, isF_lt h fun v e => k.format.div_lt e⟩
theorem fA {F : Nat → Prop} (hx : FW k x a) (hy : FW k y b) (H : ∀ r, FW k r (fadd k a b) → F r) : FOP k (k.format.add x y) F := fun r h => H r (fw_add hx hy h)
theorem fS {F : Nat → Prop} (hx : FW k x a) (hy : FW k y b) (H : ∀ r, FW k r (fsub k a b) → F r) : FOP k (k.format.sub x y) F := fun r h => H r (fw_sub hx hy h)
theorem fM {F : Nat → Prop} (hx : FW k x a) (hy : FW k y b) (H : ∀ r, FW k r (fmul k a b) → F r) : FOP k (k.format.mul x y) F := fun r h => H r (fw_mul hx hy h)
theorem fD {F : Nat → Prop} (hx : FW k x a) (hy : FW k y b) (H : ∀ r, FW k r (fdiv k a b) → F r) : FOP k (k.format.div x y) F := fun r h => H r (fw_div hx hy h)
theorem ord_eq (hx : FW k x a) (hy : FW k y b) : k.format.order x y = k.format.order a b := by
  have h1 := hx.nan
  have h2 := hy.nan
  cases e1 : Sx.nan k a with
  | true => rw [order_nan_left e1, order_nan_left (by rw [h1, e1])]
  | false =>
    cases e2 : Sx.nan k b with
    | true => rw [order_nan_right e2, order_nan_right (by rw [h2, e2])]
    | false => rw [hx.eq e1, hy.eq e2]
theorem nan32 (c : Nat) : Sx.nan .f32 c = decide (2139095040 < c % 2147483648) := by
  unfold Sx.nan
  have e1 : FloatKind.f32.format.signWeight = 2147483648 := rfl
  have e2 : FloatKind.f32.format.infRung = 2139095040 := by decide +kernel
  have e3 : FloatKind.f32.format.binade = 8388608 := rfl
  rw [read_isNaN, e1, e2, e3, decide_eq_decide]
  omega
theorem nan64 (c : Nat) : Sx.nan .f64 c = decide (9218868437227405312 < c % 9223372036854775808) := by
  unfold Sx.nan
  have e1 : FloatKind.f64.format.signWeight = 9223372036854775808 := rfl
  have e2 : FloatKind.f64.format.infRung = 9218868437227405312 := by decide +kernel
  have e3 : FloatKind.f64.format.binade = 4503599627370496 := rfl
  rw [read_isNaN, e1, e2, e3, decide_eq_decide]
  omega
theorem fw_c32 {c : Nat} (h : c % 2147483648 ≤ 2139095040) (h2 : c < 4294967296) : FW .f32 c c :=
  ⟨by unfold cn; rw [nan32, if_neg (by simpa using h)], h2⟩
theorem fw_c64 {c : Nat} (h : c % 9223372036854775808 ≤ 9218868437227405312) (h2 : c < 18446744073709551616) : FW .f64 c c :=
  ⟨by unfold cn; rw [nan64, if_neg (by simpa using h)], h2⟩
theorem fw_nearest (k : FloatKind) (n : Int) : FW k (k.nearest n) (k.nearest n) :=
  ⟨by unfold cn; rw [nearest_not_nan]; rfl, by show k.format.nearest _ _ _ < _; exact k.format.nearest_lt _ _ _⟩
def fneg (k : FloatKind) (a : Nat) : Nat := cn k (Op.negFloat k a)
theorem nan_mod {x y : Nat} (h : x % k.format.signWeight = y % k.format.signWeight) : Sx.nan k x = Sx.nan k y := by
  unfold Sx.nan
  rw [read_isNaN, read_isNaN, h]
/-- A float32 as a float64, and back where it fits. -/
def wid (a : Nat) : Nat := cn .f64 (wide a)
theorem isFF_lt64 {b r : Nat} (h : IsFF .f32 b .f64 r) : r < 2 ^ FloatKind.f64.format.width := by
  unfold IsFF at h
  split at h
  · exact isF_lt (k := .f64) (o := none) h (fun v e => by cases e)
  · rw [h]; exact FloatKind.f64.format.write_lt _
  · split at h
    · exact Nat.lt_trans h (show 2 ^ 32 < 2 ^ 64 by decide)
    · rw [h]; exact FloatKind.f64.format.write_lt _
theorem ffc_wide {F : Nat → Prop} (hx : FW .f32 x a) (H : ∀ r, FW .f64 r (wid a) → F r) : FFC .f32 x .f64 F := fun r h =>
  H r ⟨by rw [isFF_wide h, hx.1]; rfl, isFF_lt64 h⟩
def nar (a : Nat) : Nat := cn .f32 (if nan .f64 a then qn .f32 else FloatKind.f32.encode (FloatKind.f64.decode a))
def fits (a : Nat) : Bool := match FloatKind.f64.decode a with | .number n m e => !(FloatKind.f32.decode (FloatKind.f32.encode (.number n m e))).isInfinity | _ => true
theorem isFF_lt32 {s : FloatKind} {b r : Nat} (h : IsFF s b .f32 r) : r < 2 ^ 32 := by
  unfold IsFF at h
  split at h
  · exact isF_lt (k := .f32) (o := none) h (fun v e => by cases e)
  · rw [h]; exact FloatKind.f32.format.write_lt _
  · split at h
    · exact h
    · rw [h]; exact FloatKind.f32.format.write_lt _
theorem ffc_nar {F : Nat → Prop} (hx : FW .f64 x a) (hf : fits a = true) (H : ∀ r, FW .f32 r (nar a) → F r) : FFC .f64 x .f32 F := fun r h => by
  refine H r ⟨?_, isFF_lt32 h⟩
  have hn := hx.nan
  unfold IsFF at h
  cases e : FloatKind.f64.decode x with
  | nan s t =>
    rw [e] at h
    have h1 : nan .f64 x = true := by unfold nan; rw [show FloatKind.f64.format.read x = _ from e]; rfl
    rw [h1] at hn
    unfold nar
    rw [← hn, if_pos rfl]
    unfold cn
    rw [nan_of_isNaNW (k := .f32) h, nan_qn, if_pos rfl, if_pos rfl]
  | infinity s =>
    rw [e] at h
    have h1 : nan .f64 x = false := by unfold nan; rw [show FloatKind.f64.format.read x = _ from e]; rfl
    have h2 := hx.eq (by rw [← hn, h1])
    subst h2
    unfold nar
    rw [if_neg (by rw [h1]; decide), e, show r = _ from h]
  | number s m i =>
    rw [e] at h
    have h1 : nan .f64 x = false := by unfold nan; rw [show FloatKind.f64.format.read x = _ from e]; rfl
    have h2 := hx.eq (by rw [← hn, h1])
    subst h2
    unfold fits at hf
    rw [e] at hf
    dsimp only at h hf
    rw [show (FloatKind.f32.decode (FloatKind.f32.encode (Datum.number s m i))).isInfinity = false by simpa using hf] at h
    unfold nar
    rw [if_neg (by rw [h1]; decide), e, show r = _ by simpa using h]
end
end Go.Sx
