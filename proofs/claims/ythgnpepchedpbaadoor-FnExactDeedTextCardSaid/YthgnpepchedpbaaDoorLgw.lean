/- What the laws have in common: values marked and compared among others. -/
import Derived.Test.YthgnpepchedpbaaDoorLgn
import Derived.Test.YthgnpepchedpbaaDoorTab
set_option linter.unusedVariables false
set_option linter.unusedSimpArgs false
namespace Go.Sx
open Go.Proofs
set_option maxRecDepth 100000

theorem PairR.go {α : Type} {r : Rep α} {P : Program} {f : FuncId} {args : Array Value} {a : α} {code : Int} {hb h : Heap} {L : List Blk} {K : Value → Heap → Prop} (M : Mem hb h L) (c : CALL P f args (fun u h' => PairR r h h' u a code) h)
    (H : ∀ h' cs B, Mem hb h' (B ++ L) → r.ow B cs.toList a → cs.size = r.sz → K (.tuple ⟨[.agg cs, .int .i64 code]⟩) h') : CALL P f args K h :=
  c.mono fun u h' ⟨cs, B, e, O, N⟩ => by subst e; exact H h' cs B (M.join N) O (by simpa using r.olen O)
end Go.Sx
