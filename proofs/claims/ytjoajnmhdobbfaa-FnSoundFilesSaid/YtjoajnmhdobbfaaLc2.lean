/- ValidDeed: what it computes. -/
import Derived.Test.YtjoajnmhdobbfaaLx2
import Derived.Test.YtjoajnmhdobbfaaG1
namespace Go.Sx
set_option maxRecDepth 100000
open Go.Proofs
set_option linter.unusedVariables false

def inR (n low high : Int) : Bool := decide (low ≤ n) && decide (n ≤ high)
def numbers (k : Int) : Int := if k = 7 ∨ k = 8 then 0 else if k = 6 then 2 else 1
theorem l00In_c (n l r : Int) : Ret prg f_spec_l00In #[.int .i64 n, .int .i64 l, .int .i64 r] (.bool (inR n l r)) := fun h => by
  refine spec_l00In.call (br (fun hb => ?_) fun hb => ?_) <;> exact ⟨by simp [inR, hb], Ext.refl _⟩
theorem within_c (n l r : Int) : Ret prg f_impl_within #[.int .i64 n, .int .i64 l, .int .i64 r] (.bool (inR n l r)) := fun h => by
  refine impl_within.call (br (fun hb => ?_) fun hb => ?_) <;> exact ⟨by simp [inR, hb], Ext.refl _⟩
end Go.Sx
