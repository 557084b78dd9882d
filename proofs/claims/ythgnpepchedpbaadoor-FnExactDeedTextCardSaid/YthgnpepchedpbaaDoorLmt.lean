/- The texts that mark strings: 'm' and a number. -/
import Derived.Test.YthgnpepchedpbaaDoorLgn
import Derived.Test.YthgnpepchedpbaaDoorTab
import Derived.Test.YthgnpepchedpbaaDoorLg
import Derived.Test.YthgnpepchedpbaaDoorLp4
import Derived.Test.YthgnpepchedpbaaDoorLp7
import Derived.Test.YthgnpepchedpbaaDoorLsl
import Derived.Test.YthgnpepchedpbaaDoorLr1
import Derived.Test.YthgnpepchedpbaaDoorLk13
import Derived.Test.YthgnpepchedpbaaDoorLgw
import Derived.Laws.BytesString
set_option linter.unusedVariables false
set_option linter.unusedSimpArgs false
namespace Go.Sx
open Go.Proofs
set_option maxRecDepth 100000

theorem conv_one {g : Nat} {h : Heap} {n : Int} {K : Value → Heap → Prop} (hc : cell h ⟨g, 0, none⟩ = some (.int .u8 n)) (H : K (.string ⟨#[UInt8.ofNat n.toNat]⟩) h) : SEMV prg (convert T_sl_uint8 T_string (.slice (some ⟨g, 0, none⟩) 1 1)) K h := by
  refine semv fun w hw => ⟨.string ⟨#[UInt8.ofNat n.toNat]⟩, w, ?_, Same.refl _, by rw [hw]; exact H⟩
  have hc' : w.cell? ⟨g, 0, none⟩ = some (.int .u8 n) := by rw [cell_eq, hw]; exact hc
  rw [run_convert_bytes_string w _ _ _ _ _ _ U_sl_uint8 U_uint8 U_string, run_bytesToString w _ 1 1 [n] ?_]
  · rfl
  · simp [loadCells, loadCellsFrom, hc', Addr.add, Sem.run_pure]
end Go.Sx
