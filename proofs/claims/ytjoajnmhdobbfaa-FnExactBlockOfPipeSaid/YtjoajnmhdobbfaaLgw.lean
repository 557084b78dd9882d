/- What the laws have in common: values marked and compared among others. -/
import Derived.Test.YtjoajnmhdobbfaaLh0
set_option linter.unusedVariables false
set_option linter.unusedSimpArgs false
namespace Go.Sx
open Go.Proofs
set_option maxRecDepth 100000

theorem PairR.go {α : Type} {r : Rep α} {P : Program} {f : FuncId} {args : Array Value} {a : α} {code : Int} {hb h : Heap} {L : List Blk} {K : Value → Heap → Prop} (M : Mem hb h L) (c : CALL P f args (fun u h' => PairR r h h' u a code) h)
    (H : ∀ h' cs B, Mem hb h' (B ++ L) → r.ow B cs.toList a → cs.size = r.sz → K (.tuple ⟨[.agg cs, .int .i64 code]⟩) h') : CALL P f args K h :=
  c.mono fun u h' ⟨cs, B, e, O, N⟩ => by subst e; exact H h' cs B (M.join N) O (by simpa using r.olen O)
/-- A value marked, its blocks among the others. -/
theorem markM {α : Type} {r : Rep α} {P : Program} {f : FuncId} {args : Array Value} {b : α} {v : Value} {hb h : Heap} {L : List Blk} {cs : Array Value} {K : Value → Heap → Prop}
    (c : CALL P f args (fun u h' => u = v ∧ ∃ B', r.ow B' cs.toList b ∧ Mem hb h' (B' ++ L)) h) (H : ∀ h' B', Mem hb h' (B' ++ L) → r.ow B' cs.toList b → K v h') : CALL P f args K h :=
  c.mono fun u h' ⟨e, B', O, N⟩ => by subst e; exact H h' B' N O
theorem eqB {a : Int} {p q : Prop} (H : q) : BIF (a != a) p q := by
  rw [show (a != a) = false by simp]; exact H
theorem bne_br {b : Bool} {p q : Prop} (hb : b = true) (H : q) : BIF (!b) p q := by
  subst hb; exact H
theorem ge_br {a : Int} {p q : Prop} (h : 0 ≤ a) (H : q) : BIF (decide (a < 0)) p q := by
  rw [show decide (a < 0) = false by simp; omega]; exact H
theorem subW_le {left w : Nat} (h : decide (subW left w < 0) = false) : w ≤ left := by
  unfold subW at h
  split at h
  · simp at h
  · omega
end Go.Sx
