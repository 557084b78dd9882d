/- Floats: words up to which NaN they are. -/
import Derived.Test.YtnhcoeogejgidacGreatDoorLg
import Derived.Laws.FloatBits
namespace Go.Sx
open Ieee
set_option linter.unusedVariables false
set_option linter.unusedSimpArgs false

def nan (k : FloatKind) (x : Nat) : Bool := (k.format.read x).isNaN
def qn : FloatKind → Nat | .f32 => 2143289344 | .f64 => 9221120237041090561
/-- The word, or one NaN for all. -/
def cn (k : FloatKind) (x : Nat) : Nat := if nan k x then qn k else x
theorem Datum.order_self (d : Datum) : d.order d = if d.isNaN then none else some .eq := by
  cases d with
  | number s m i => simp [Datum.order, Datum.isNaN]
  | infinity s => cases s <;> rfl
  | nan s t => rfl
theorem order_self (k : FloatKind) (x : Nat) : k.format.order x x = if nan k x then none else some .eq := Datum.order_self _
theorem order_nan_left {k : FloatKind} {x : Nat} (h : nan k x = true) (y : Nat) : k.format.order x y = none := by
  unfold Format.order
  unfold nan at h
  cases e : k.format.read x <;> simp_all [Datum.isNaN, Datum.order]
theorem order_nan_right {k : FloatKind} {x : Nat} (h : nan k x = true) (y : Nat) : k.format.order y x = none := by
  unfold Format.order
  unfold nan at h
  cases e : k.format.read x <;> simp_all [Datum.isNaN]
  cases k.format.read y <;> rfl
theorem ne_self (k : FloatKind) (x : Nat) : (k.format.order x x != some .eq) = nan k x := by
  rw [order_self]; cases nan k x <;> rfl
theorem nan_qn (k : FloatKind) : nan k (qn k) = true := by cases k <;> decide +kernel
theorem canon_canon (k : FloatKind) (x : Nat) : cn k (cn k x) = cn k x := by
  unfold cn
  split
  · rw [nan_qn]; rfl
  · next h => simp [h]
theorem nan_canon (k : FloatKind) (x : Nat) : nan k (cn k x) = nan k x := by
  unfold cn
  split
  · next h => rw [nan_qn, h]
  · rfl
theorem canon_eq_iff {k : FloatKind} {x y : Nat} (h : cn k x = cn k y) : nan k x = nan k y ∧ (nan k x = false → x = y) := by
  have h1 : nan k x = nan k y := by rw [← nan_canon k x, ← nan_canon k y, h]
  refine ⟨h1, fun h2 => ?_⟩
  unfold cn at h
  rw [if_neg (by simp [h2]), if_neg (by simp [← h1, h2])] at h
  exact h
theorem read_isNaN (f : Format) (x : Nat) : (f.read x).isNaN = decide (f.infRung < x % f.signWeight ∧ f.binade ≤ x % f.signWeight) := by
  unfold Format.read
  dsimp only
  split
  · next h => simp [Datum.isNaN]; omega
  · split
    · next h => simp [Datum.isNaN]; omega
    · split
      · next h => simp [Datum.isNaN]; omega
      · simp [Datum.isNaN]; omega
theorem nan_of_isNaNW {k : FloatKind} {r : Nat} (h : isNaNW k r) : nan k r = true := by
  unfold nan
  rw [read_isNaN]
  cases k with
  | f32 =>
    obtain ⟨t, rfl⟩ := h
    have e1 : FloatKind.f32.format.signWeight = 2 ^ 31 := rfl
    have e2 : FloatKind.f32.format.infRung = 0x7f800000 := by decide +kernel
    have e3 : FloatKind.f32.format.binade = 2 ^ 23 := rfl
    rw [e1, e2, e3]
    simp only [decide_eq_true_eq]
    have hs : t % 2 = 0 ∨ t % 2 = 1 := by omega
    have hu : t / 2 % (2 ^ 23 - 1) < 2 ^ 23 - 1 := Nat.mod_lt _ (by decide)
    generalize t / 2 % (2 ^ 23 - 1) = u at hu ⊢
    rcases hs with hs | hs <;> rw [hs] <;> omega
  | f64 =>
    obtain ⟨t, rfl⟩ := h
    have e1 : FloatKind.f64.format.signWeight = 2 ^ 63 := rfl
    have e2 : FloatKind.f64.format.infRung = 0x7ff0000000000000 := by decide +kernel
    have e3 : FloatKind.f64.format.binade = 2 ^ 52 := rfl
    rw [e1, e2, e3]
    simp only [decide_eq_true_eq]
    have hs : t % 2 = 0 ∨ t % 2 = 1 := by omega
    have hu : t / 2 % (2 ^ 52 - 1) < 2 ^ 52 - 1 := Nat.mod_lt _ (by decide)
    generalize t / 2 % (2 ^ 52 - 1) = u at hu ⊢
    rcases hs with hs | hs <;> rw [hs] <;> omega
theorem canon_of_isF {k : FloatKind} {o : Option Nat} {r : Nat} (h : IsF k o r) : cn k r = cn k (o.getD (qn k)) := by
  cases o with
  | some v => rw [show r = v from h]; rfl
  | none =>
    have := nan_of_isNaNW (k := k) (r := r) h
    unfold cn
    rw [this, show (none : Option Nat).getD (qn k) = qn k from rfl, nan_qn]
    simp
/-- A float32 as a float64. -/
def wide (x : Nat) : Nat := FloatKind.f64.encode (FloatKind.f32.decode x)
theorem read_single (x : Nat) {s : Bool} {m : Nat} {e : Int} (h : FloatKind.f32.decode x = .number s m e) : m < 2 ^ 24 ∧ -149 ≤ e ∧ e ≤ 104 := by
  have e1 : FloatKind.f32.format.signWeight = 2 ^ 31 := rfl
  have e2 : FloatKind.f32.format.infRung = 0x7f800000 := by decide +kernel
  have e3 : FloatKind.f32.format.binade = 2 ^ 23 := rfl
  have e4 : FloatKind.f32.format.leastPlace = -149 := by decide +kernel
  unfold FloatKind.decode Format.read at h
  dsimp only at h
  rw [e1, e2, e3, e4] at h
  split at h
  · simp only [Datum.number.injEq] at h
    omega
  · split at h
    · simp only [Datum.number.injEq] at h
      omega
    · split at h <;> cases h
theorem double_finite {s : Bool} {m : Nat} {e : Int} (hm : m < 2 ^ 24) (h1 : -149 ≤ e) (h2 : e ≤ 104) : (FloatKind.f64.decode (FloatKind.f64.encode (.number s m e))).isInfinity = false := by
  have e1 : FloatKind.f64.format.signWeight = 2 ^ 63 := rfl
  have e2 : FloatKind.f64.format.infRung = 2047 * 2 ^ 52 := by decide +kernel
  have e3 : FloatKind.f64.format.binade = 2 ^ 52 := rfl
  have e4 : FloatKind.f64.format.leastPlace = -1074 := by decide +kernel
  have e5 : FloatKind.f64.format.fractionBits = 52 := rfl
  have key : ∃ r, FloatKind.f64.encode (.number s m e) = FloatKind.f64.format.word s r ∧ r < 2047 * 2 ^ 52 := by
    show ∃ r, FloatKind.f64.format.nearest s m e = _ ∧ _
    unfold Format.nearest
    split
    · exact ⟨0, rfl, by decide⟩
    · next h0 =>
      dsimp only
      have hl : m.log2 ≤ 23 := by
        have := (Nat.log2_lt h0 (k := 24)).2 hm
        omega
      have hk : Toward.even.cut s (m <<< (e - max (e + m.log2 - FloatKind.f64.format.fractionBits) FloatKind.f64.format.leastPlace).toNat) (max (e + m.log2 - FloatKind.f64.format.fractionBits) FloatKind.f64.format.leastPlace - e).toNat < 2 ^ 53 := by
        rw [e4, e5]
        have a1 : max (e + (m.log2 : Int) - (52 : Nat)) (-1074) = e + m.log2 - 52 := by omega
        rw [a1]
        have a2 : (e - (e + (m.log2 : Int) - 52)).toNat = 52 - m.log2 := by omega
        have a3 : (e + (m.log2 : Int) - 52 - e).toNat = 0 := by omega
        rw [a2, a3]
        have a4 : m <<< (52 - m.log2) < 2 ^ 53 := by
          rw [Nat.shiftLeft_eq]
          have b1 : m < 2 ^ (m.log2 + 1) := Nat.lt_log2_self
          have b2 : 2 ^ 53 = 2 ^ (m.log2 + 1) * 2 ^ (52 - m.log2) := by rw [← Nat.pow_add]; congr 1; omega
          rw [b2]
          exact Nat.mul_lt_mul_of_pos_right b1 (Nat.two_pow_pos _)
        unfold Toward.cut
        simp only [Nat.zero_le, Nat.min_eq_left, Nat.shiftLeft_zero, Nat.div_one, Nat.mod_one, Nat.mul_zero]
        simpa using a4
      generalize Toward.even.cut s (m <<< (e - max (e + m.log2 - FloatKind.f64.format.fractionBits) FloatKind.f64.format.leastPlace).toNat) (max (e + m.log2 - FloatKind.f64.format.fractionBits) FloatKind.f64.format.leastPlace - e).toNat = kept at hk ⊢
      refine ⟨_, Eq.refl _, ?_⟩
      rw [e2, e3]
      have h4 : (max (e + (m.log2 : Int) - FloatKind.f64.format.fractionBits) FloatKind.f64.format.leastPlace - FloatKind.f64.format.leastPlace).toNat ≤ 1149 := by
        rw [e4, e5]; omega
      generalize (max (e + (m.log2 : Int) - FloatKind.f64.format.fractionBits) FloatKind.f64.format.leastPlace - FloatKind.f64.format.leastPlace).toNat = q at h4 ⊢
      refine Nat.lt_of_le_of_lt (Nat.min_le_left _ _) ?_
      omega
  obtain ⟨r, h3, h4⟩ := key
  rw [h3]
  unfold FloatKind.decode Format.read Format.word
  dsimp only
  rw [e1, e2, e3]
  have h5 : (if s = true then 2 ^ 63 + r else r) % 2 ^ 63 = r := by split <;> omega
  rw [h5]
  split
  · rfl
  · rfl
theorem isFF_wide {x r : Nat} (h : IsFF .f32 x .f64 r) : cn .f64 r = cn .f64 (wide (cn .f32 x)) := by
  unfold IsFF at h
  cases e : FloatKind.f32.decode x with
  | nan s t =>
    rw [e] at h
    have hn : nan .f32 x = true := by unfold nan; rw [show FloatKind.f32.format.read x = _ from e]; rfl
    have h1 := nan_of_isNaNW h
    have h2 : nan .f64 (wide (qn .f32)) = true := by decide +kernel
    unfold cn
    rw [h1, hn, if_pos rfl, if_pos rfl, h2, if_pos rfl]
  | infinity s =>
    rw [e] at h
    have hn : nan .f32 x = false := by unfold nan; rw [show FloatKind.f32.format.read x = _ from e]; rfl
    rw [show cn .f32 x = x by unfold cn; rw [hn]; rfl, wide, e, show r = _ from h]
  | number s m i =>
    rw [e] at h
    obtain ⟨h1, h2, h3⟩ := read_single x e
    have hn : nan .f32 x = false := by unfold nan; rw [show FloatKind.f32.format.read x = _ from e]; rfl
    dsimp only at h
    rw [double_finite h1 h2 h3] at h
    rw [show cn .f32 x = x by unfold cn; rw [hn]; rfl, wide, e, show r = _ by simpa using h]
theorem word_not_nan {k : FloatKind} {s : Bool} {r : Nat} (h : r ≤ k.format.infRung) : nan k (k.format.word s r) = false := by
  unfold nan
  rw [read_isNaN, decide_eq_false_iff_not]
  have h1 := k.format.infRung_lt
  unfold Format.word
  intro h2
  have h3 : (if s = true then k.format.signWeight + r else r) % k.format.signWeight = r := by
    split
    · rw [Nat.add_mod_left, Nat.mod_eq_of_lt (by omega)]
    · rw [Nat.mod_eq_of_lt (by omega)]
  rw [h3] at h2
  omega
theorem nearest_not_nan (k : FloatKind) (n : Int) : nan k (k.nearest n) = false := by
  show nan k (k.format.nearest _ _ _) = false
  unfold Format.nearest
  split
  · exact word_not_nan (Nat.zero_le _)
  · exact word_not_nan (Nat.min_le_right _ _)
theorem order_eq {k : FloatKind} {x : Nat} (h : nan k x = false) : (k.format.order x x != some .eq) = false := by rw [ne_self, h]
end Go.Sx
