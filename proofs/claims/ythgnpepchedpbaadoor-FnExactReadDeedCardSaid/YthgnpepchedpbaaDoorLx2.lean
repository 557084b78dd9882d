/- Externs, counted loops, floats as cells. -/
import Derived.Test.YthgnpepchedpbaaDoorLx1
import Derived.Laws.Externs
namespace Go.Sx
set_option linter.unusedVariables false

theorem wrap64 {n : Int} (h1 : -9223372036854775808 ≤ n) (h2 : n < 9223372036854775808) : IntKind.i64.wrap n = n := by
  have e1 : (2 : Int) ^ 64 = 18446744073709551616 := by decide
  have e2 : (2 : Int) ^ (64 - 1) = 9223372036854775808 := by decide
  simp only [IntKind.wrap, IntKind.bits, IntKind.signed, e1, e2, Bool.true_and, decide_eq_true_eq]
  split <;> omega
theorem wrap64_succ {n : Nat} (h : n < 9223372036854775807) : IntKind.i64.wrap ((n : Int) + 1) = ((n + 1 : Nat) : Int) := by
  rw [wrap64 (by omega) (by omega)]; rfl
theorem brd {p : Prop} [Decidable p] {a b : Prop} (ht : p → a) (hf : ¬ p → b) : BIF (decide p) a b := by
  by_cases h : p
  · rw [decide_eq_true h]; exact ht h
  · rw [decide_eq_false h]; exact hf h
theorem toList_data (s : ByteArray) : s.toList = s.data.toList := Go.ByteArray.toList_eq s
theorem str_eq (s t : ByteArray) : (s.toList == t.toList) = decide (s = t) := by
  rw [toList_data, toList_data]
  by_cases h : s = t
  · subst h; simp
  · rw [decide_eq_false h]
    apply beq_false_of_ne
    intro e
    apply h
    cases s; cases t
    simpa using Array.toList_inj.1 e
end Go.Sx
