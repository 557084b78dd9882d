/- Floats up to which NaN they are: operations, comparisons, conversions. -/
import Derived.Test.YtjoajnmhdobbfaaLp2
import Derived.Test.YtjoajnmhdobbfaaLfl
set_option linter.unusedVariables false
set_option linter.unusedSimpArgs false
namespace Go.Sx
open Ieee

section
variable {k : FloatKind} {x y a b r : Nat}
theorem FW.nan (h : FW k x a) : Sx.nan k x = Sx.nan k a := by rw [← h.1, nan_canon]
theorem FW.self (h : FW k x a) : cn k a = a := by rw [← h.1, canon_canon]
theorem FW.eq (h : FW k x a) (hn : Sx.nan k a = false) : x = a := by
  have := h.nan
  rw [hn] at this
  rw [← h.1]; unfold cn; rw [this]; rfl
theorem fw_cn (h : x < 2 ^ k.format.width) : FW k x (cn k x) := ⟨rfl, h⟩
theorem qn_lt (k : FloatKind) : qn k < 2 ^ k.format.width := by cases k <;> decide +kernel
theorem FW.lt (h : FW k x a) : a < 2 ^ k.format.width := by
  rw [← h.1]; unfold cn; split
  · exact qn_lt k
  · exact h.2
def fadd (k : FloatKind) (a b : Nat) : Nat := cn k ((k.format.add a b).getD (qn k))
def fsub (k : FloatKind) (a b : Nat) : Nat := cn k ((k.format.sub a b).getD (qn k))
def fmul (k : FloatKind) (a b : Nat) : Nat := cn k ((k.format.mul a b).getD (qn k))
def fdiv (k : FloatKind) (a b : Nat) : Nat := cn k ((k.format.div a b).getD (qn k))
theorem isF_lt {k : FloatKind} {o : Option Nat} {r : Nat} (h : IsF k o r) (ho : ∀ v, o = some v → v < 2 ^ k.format.width) : r < 2 ^ k.format.width := by
  cases o with
  | some v => rw [show r = v from h]; exact ho v rfl
  | none =>
    cases k with
    | f32 =>
      obtain ⟨t, rfl⟩ := (h : isNaNW .f32 r)
      show _ < 2 ^ 32
      have hs : t % 2 = 0 ∨ t % 2 = 1 := by omega
      have hu : t / 2 % (2 ^ 23 - 1) < 2 ^ 23 - 1 := Nat.mod_lt _ (by decide)
      generalize t / 2 % (2 ^ 23 - 1) = u at hu ⊢
      rcases hs with hs | hs <;> rw [hs] <;> omega
    | f64 =>
      obtain ⟨t, rfl⟩ := (h : isNaNW .f64 r)
      show _ < 2 ^ 64
      have hs : t % 2 = 0 ∨ t % 2 = 1 := by omega
      have hu : t / 2 % (2 ^ 52 - 1) < 2 ^ 52 - 1 := Nat.mod_lt _ (by decide)
      generalize t / 2 % (2 ^ 52 - 1) = u at hu ⊢
      rcases hs with hs | hs <;> rw [hs] <;> omega
theorem nan32 (c : Nat) : Sx.nan .f32 c = decide (2139095040 < c % 2147483648) := by
  unfold Sx.nan
  have e1 : FloatKind.f32.format.signWeight = 2147483648 := rfl
  have e2 : FloatKind.f32.format.infRung = 2139095040 := by decide +kernel
  have e3 : FloatKind.f32.format.binade = 8388608 := rfl
  rw [read_isNaN, e1, e2, e3, decide_eq_decide]
  omega
theorem fw_c32 {c : Nat} (h : c % 2147483648 ≤ 2139095040) (h2 : c < 4294967296) : FW .f32 c c :=
  ⟨by unfold cn; rw [nan32, if_neg (by simpa using h)], h2⟩
/-- A float32 as a float64, and back where it fits. -/
def wid (a : Nat) : Nat := cn .f64 (wide a)
theorem isFF_lt64 {b r : Nat} (h : IsFF .f32 b .f64 r) : r < 2 ^ FloatKind.f64.format.width := by
  unfold IsFF at h
  split at h
  · exact isF_lt (k := .f64) (o := none) h (fun v e => by cases e)
  · rw [h]; exact FloatKind.f64.format.write_lt _
  · split at h
    · exact Nat.lt_trans h (show 2 ^ 32 < 2 ^ 64 by decide)
    · rw [h]; exact FloatKind.f64.format.write_lt _
theorem ffc_wide {F : Nat → Prop} (hx : FW .f32 x a) (H : ∀ r, FW .f64 r (wid a) → F r) : FFC .f32 x .f64 F := fun r h =>
  H r ⟨by rw [isFF_wide h, hx.1]; rfl, isFF_lt64 h⟩
def fits (a : Nat) : Bool := match FloatKind.f64.decode a with | .number n m e => !(FloatKind.f32.decode (FloatKind.f32.encode (.number n m e))).isInfinity | _ => true
end
end Go.Sx
