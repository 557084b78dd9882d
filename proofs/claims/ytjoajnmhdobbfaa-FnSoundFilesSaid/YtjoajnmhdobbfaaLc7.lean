/- The law FnExactMakeSoundFile: it answers true. -/
import Derived.Test.YtjoajnmhdobbfaaLc6
namespace Go.Sx
set_option maxRecDepth 100000
open Go.Proofs
set_option linter.unusedVariables false
set_option linter.unusedSimpArgs false

theorem Own.floats {g : Nat} {xs : List Nat} (h : xs.length ≤ 1048576) : Own [(g, T_float32, ⟨fv .f32 xs⟩)] T_float32 1 (some ⟨g, 0, none⟩) xs.length xs.length (fv .f32 xs) := by
  have := Own.one (g := g) (e := T_float32) (sz := 1) (l := xs.length) (c := xs.length) (cs := ⟨fv .f32 xs⟩) (Nat.le_refl _) (by simp [maxLen]; omega) (by simp [fv])
  simpa [fv, List.take_of_length_le] using this
theorem BlS.own {h0 h h' : Heap} {L : List Blk} (M : Mem h0 h L) {b : Option Addr} {l c : Nat} {xs : List Int} (F : BlS h h' [] b l c xs) :
    ∃ B : List Blk, Own B T_uint8 1 b l c (iv .u8 xs) ∧ l = xs.length ∧ Mem h0 h' (B ++ L) := by
  obtain ⟨B, O, M'⟩ := (Sl.join M F).own
  have hl := O.len1
  rw [iv_len] at hl
  exact ⟨B, O, hl.symm, by simpa using M'⟩
end Go.Sx
