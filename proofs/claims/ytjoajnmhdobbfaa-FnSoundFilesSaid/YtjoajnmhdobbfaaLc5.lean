/- The law FnExactTornSamples: it answers true. -/
import Derived.Test.YtjoajnmhdobbfaaLc3
namespace Go.Sx
set_option maxRecDepth 100000
open Go.Proofs
set_option linter.unusedVariables false
set_option linter.unusedSimpArgs false

theorem Own.bytes {g : Nat} {xs : List Int} (h : xs.length ≤ 1048576) : Own [(g, T_uint8, ⟨iv .u8 xs⟩)] T_uint8 1 (some ⟨g, 0, none⟩) xs.length xs.length (iv .u8 xs) := by
  have := Own.one (g := g) (e := T_uint8) (sz := 1) (l := xs.length) (c := xs.length) (cs := ⟨iv .u8 xs⟩) (Nat.le_refl _) (by simp [maxLen]; omega) (by simp [iv])
  simpa [iv, List.take_of_length_le] using this
theorem FlS.own {h0 h h' : Heap} {L : List Blk} (M : Mem h0 h L) {b : Option Addr} {l c : Nat} {ns : List Nat} (F : FlS h h' [] b l c ns) :
    ∃ (B : List Blk) (fs : List Nat), Own B T_float32 1 b l c (fv .f32 fs) ∧ fs.map (cn .f32) = ns ∧ fs.length = l ∧ l = ns.length ∧ Mem h0 h' (B ++ L) := by
  obtain ⟨fs, S, hf⟩ := F
  obtain ⟨B, O, M'⟩ := (S.join M).own
  have hl := O.len1
  rw [fv_len] at hl
  exact ⟨B, fs, O, hf, hl, by rw [← hf, List.length_map, hl], by simpa using M'⟩
end Go.Sx
