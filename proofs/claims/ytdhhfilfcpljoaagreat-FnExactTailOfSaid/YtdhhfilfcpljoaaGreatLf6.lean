/- The absolute value of a float32 by way of float64: the same as the sign taken away. -/
import Derived.Test.YtdhhfilfcpljoaaGreatLp3
set_option linter.unusedVariables false
set_option linter.unusedSimpArgs false
namespace Go.Sx
open Ieee

theorem nearest_keep (f : Format) (s : Bool) {m : Nat} {p : Int} (h : m ≠ 0) (hl : max (p + m.log2 - f.fractionBits) f.leastPlace = p) :
    f.nearest s m p = f.word s (min ((p - f.leastPlace).toNat * f.binade + m) f.infRung) := by
  unfold Format.nearest
  rw [if_neg h]
  dsimp only
  rw [hl]
  simp only [Int.sub_self, Int.toNat_zero, Nat.shiftLeft_zero, cut_zero]
theorem word_false (f : Format) (r : Nat) : f.word false r = r := by unfold Format.word; simp
/-- A float32 that is a number, written again without its sign. -/
theorem back32 {a m : Nat} {s : Bool} {e : Int} (h : FloatKind.f32.format.read a = .number s m e) : FloatKind.f32.format.nearest false m e = a % 2 ^ 31 ∧ (m = 0 → a % 2 ^ 31 = 0) := by
  obtain ⟨e1, e2, e3, e4⟩ := f32_consts
  have e5 : FloatKind.f32.format.signWeight = 2 ^ 31 := rfl
  unfold Format.read at h
  dsimp only at h
  rw [e5, e3, e4, e2] at h
  split at h
  · next hr =>
    simp only [Datum.number.injEq] at h
    obtain ⟨_, rfl, rfl⟩ := h
    refine ⟨?_, fun h => h⟩
    by_cases hz : a % 2 ^ 31 = 0
    · rw [hz, nearest_zero, word_false]
    · have hl : (a % 2 ^ 31).log2 < 23 := (Nat.log2_lt hz).2 hr
      rw [nearest_keep _ _ hz (by rw [e1, e2]; omega), e2, e3, e4, word_false]
      simp only [Int.sub_self, Int.toNat_zero, Nat.zero_mul, Nat.zero_add]
      omega
  · next hr =>
    split at h
    · next hr2 =>
      simp only [Datum.number.injEq] at h
      obtain ⟨_, rfl, rfl⟩ := h
      have hm : (2 ^ 23 + a % 2 ^ 31 % 2 ^ 23).log2 = 23 := by
        have h1 := (Nat.log2_lt (n := 2 ^ 23 + a % 2 ^ 31 % 2 ^ 23) (k := 24) (by omega)).2 (by omega)
        have h2 := (Nat.le_log2 (n := 2 ^ 23 + a % 2 ^ 31 % 2 ^ 23) (k := 23) (by omega)).2 (by omega)
        omega
      refine ⟨?_, fun h => by omega⟩
      rw [nearest_keep _ _ (by omega) (by rw [hm, e1, e2]; omega), e2, e3, e4, word_false]
      omega
    · split at h <;> cases h
def fabs (a : Nat) : Nat := cn .f32 (a % 2 ^ 31)
theorem word_mod (f : Format) (s : Bool) {r : Nat} (h : r < f.signWeight) : f.word s r % f.signWeight = r := by
  unfold Format.word
  split
  · rw [Nat.add_mod_left, Nat.mod_eq_of_lt h]
  · exact Nat.mod_eq_of_lt h
theorem near_mod (f : Format) (s : Bool) (m : Nat) (p : Int) : f.nearest s m p % f.signWeight = f.nearest false m p := by
  have key : ∀ r, r ≤ f.infRung → f.word s r % f.signWeight = f.word false r := fun r hr => by
    rw [word_mod f s (Nat.lt_of_le_of_lt hr f.infRung_lt), word_false]
  unfold Format.nearest
  split
  · exact key 0 (Nat.zero_le _)
  · exact key _ (Nat.min_le_right _ _)
theorem abs_wide {a : Nat} (h : nan .f32 a = false) : nan .f64 (wide a % 2 ^ 63) = false ∧ FloatKind.f32.encode (FloatKind.f64.decode (wide a % 2 ^ 63)) = a % 2 ^ 31 ∧ fits (wide a % 2 ^ 63) = true := by
  obtain ⟨e1, e2, e3, e4⟩ := f32_consts
  have w1 : FloatKind.f64.format.signWeight = 2 ^ 63 := rfl
  have w2 : FloatKind.f32.format.signWeight = 2 ^ 31 := rfl
  have hn : nan .f64 (wide a % 2 ^ 63) = nan .f64 (wide a) := nan_mod (by rw [w1, Nat.mod_mod])
  rw [wide_not_nan h] at hn
  refine ⟨hn, ?_⟩
  unfold wide
  cases e : FloatKind.f32.decode a with
  | nan s t => unfold nan at h; rw [show FloatKind.f32.format.read a = _ from e] at h; cases h
  | infinity s =>
    have h1 : FloatKind.f64.encode (Datum.infinity s) % 2 ^ 63 = FloatKind.f64.format.word false FloatKind.f64.format.infRung := by
      rw [← w1]; exact word_mod _ _ FloatKind.f64.format.infRung_lt
    rw [h1, show FloatKind.f64.decode (FloatKind.f64.format.word false FloatKind.f64.format.infRung) = .infinity false from inf64 false]
    have h2 : a % 2 ^ 31 = FloatKind.f32.format.infRung := by
      have e' : FloatKind.f32.format.read a = .infinity s := e
      unfold Format.read at e'
      dsimp only at e'
      rw [w2] at e'
      split at e'
      · cases e'
      · split at e'
        · cases e'
        · split at e'
          · next h3 => exact h3
          · cases e'
    refine ⟨by rw [h2]; show FloatKind.f32.format.word false FloatKind.f32.format.infRung = _; exact word_false _ _, ?_⟩
    unfold fits
    rw [show FloatKind.f64.decode (FloatKind.f64.format.word false FloatKind.f64.format.infRung) = .infinity false from inf64 false]
  | number s m i =>
    have e' : FloatKind.f32.format.read a = .number s m i := e
    obtain ⟨h1, h2, h3⟩ := read_single a e
    obtain ⟨b1, b2⟩ := back32 e'
    have h4 : FloatKind.f64.encode (Datum.number s m i) % 2 ^ 63 = FloatKind.f64.format.nearest false m i := by
      rw [← w1]; exact near_mod _ _ _ _
    rw [h4]
    have key : ∃ m' i', FloatKind.f64.decode (FloatKind.f64.format.nearest false m i) = .number false m' i' ∧ FloatKind.f32.format.nearest false m' i' = a % 2 ^ 31 := by
      by_cases hz : m = 0
      · subst hz
        refine ⟨0, -1074, ?_, ?_⟩
        · rw [nearest_zero]; exact zero64 false
        · rw [nearest_zero, b2 rfl, word_false]
      · refine ⟨_, _, read64 false hz h1 h2 (by omega), ?_⟩
        rw [← b1]
        have hl : m.log2 ≤ 23 := by
          have := (Nat.log2_lt hz (k := 24)).2 h1
          omega
        have := nearest_scale FloatKind.f32.format false m i (52 - m.log2)
        rw [show i + (m.log2 : Int) - 52 = i - ((52 - m.log2 : Nat) : Int) by omega]
        exact this
    obtain ⟨m', i', k1, k2⟩ := key
    have k3 : FloatKind.f32.encode (Datum.number false m' i') = a % 2 ^ 31 := k2
    refine ⟨by rw [k1, k3], ?_⟩
    unfold fits
    rw [k1]
    dsimp only
    rw [k3]
    have k4 : FloatKind.f32.decode (a % 2 ^ 31) = .number false m i ∨ ∃ x, FloatKind.f32.decode (a % 2 ^ 31) = x ∧ x.isInfinity = false := by
      right
      refine ⟨_, rfl, ?_⟩
      have e6 : FloatKind.f32.format.read a = .number s m i := e
      show (FloatKind.f32.format.read (a % 2 ^ 31)).isInfinity = false
      unfold Format.read at e6 ⊢
      dsimp only at e6 ⊢
      rw [w2] at e6 ⊢
      rw [Nat.mod_mod]
      split at e6
      · next g1 => rw [if_pos g1]; rfl
      · next g1 =>
        split at e6
        · next g2 => rw [if_neg g1, if_pos g2]; rfl
        · split at e6 <;> cases e6
    rcases k4 with k4 | ⟨x, k4, k5⟩
    · rw [k4]; rfl
    · rw [k4, k5]; rfl
/-- What float32(math.Abs(float64(a))) is. -/
theorem abs_fits (a : Nat) (ha : cn .f32 a = a) : fits (cn .f64 (wid a % 2 ^ 63)) = true ∧ nar (cn .f64 (wid a % 2 ^ 63)) = fabs a := by
  cases h : nan .f32 a with
  | true =>
    have h0 : a = qn .f32 := by rw [← ha]; unfold cn; rw [h]; rfl
    subst h0
    decide +kernel
  | false =>
    obtain ⟨h1, h2, h3⟩ := abs_wide h
    have h4 : wid a = wide a := by unfold wid cn; rw [wide_not_nan h]; rfl
    have h5 : cn .f64 (wide a % 2 ^ 63) = wide a % 2 ^ 63 := by unfold cn; rw [h1]; rfl
    rw [h4, h5]
    refine ⟨h3, ?_⟩
    unfold nar fabs
    rw [h1, h2]; rfl
end Go.Sx
