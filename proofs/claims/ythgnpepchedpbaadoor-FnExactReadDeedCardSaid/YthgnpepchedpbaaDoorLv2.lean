/- Decimals: the program's, by the shelf's contract. -/
import Derived.Test.YthgnpepchedpbaaDoorLv1
import Derived.Test.YthgnpepchedpbaaDoorLsh
import Derived.Test.YthgnpepchedpbaaDoorShl
set_option linter.unusedVariables false
set_option linter.unusedSimpArgs false
namespace Go.Sx
open Go.Proofs
set_option maxRecDepth 100000

/-- The table of tens lies where the program has it. -/
def Tens (h : Heap) : Prop := ∀ w : World, Ext h w.heap → Lib.TabIs prg w "internal/strconv.uint64pow10" .u64 Lib.pow10Tab
theorem Tens.ext {h h' : Heap} (T : Tens h) (X : Ext h h') : Tens h' := fun w Y => T w (X.trans Y)
theorem FormatInt_n {n : Int} (h1 : -9223372036854775808 ≤ n) (h2 : n ≤ 9223372036854775807) {h : Heap} (T : Tens h) : CALL prg f_strconv_FormatInt #[.int .i64 n, .int .i64 10] (fun u h' => u = .string ⟨(Lib.itoa n).toArray⟩ ∧ Ext h h') h := by
  refine CALL_of_calls L173.f173 rfl rfl fun w hw => ?_
  subst hw
  refine (Any.strconv_FormatInt_10 L173 n h1 h2 w (T w (Ext.refl _))).mono ?_
  rintro e w' ⟨rfl, k, os, rfl⟩
  exact ⟨_, rfl, grow_same w k os, rfl, grow_ext w k os⟩
theorem decimal_n {n : Int} (h1 : -9223372036854775808 ≤ n) (h2 : n ≤ 9223372036854775807) {h : Heap} (T : Tens h) : CALL prg f_impl_decimal #[.int .i64 n] (fun u h' => u = .string ⟨(Lib.itoa n).toArray⟩ ∧ Ext h h') h :=
  impl_decimal.call (goX (FormatInt_n h1 h2 T) fun h1 x1 => as_s ⟨rfl, x1⟩)
theorem decimal_c {m : Nat} (hm : m < 9223372036854775808) {h : Heap} (T : Tens h) : CALL prg f_impl_decimal #[.int .i64 (m : Int)] (fun u h' => u = .string (decB m) ∧ Ext h h') h := by
  have := decimal_n (n := (m : Int)) (by omega) (by omega) T
  rw [Lib.itoa_nonneg] at this
  exact this
end Go.Sx
