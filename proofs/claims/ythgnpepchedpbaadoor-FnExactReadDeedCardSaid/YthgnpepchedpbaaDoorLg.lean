/- The program's struct types as Lean structures; a float is a word up to which NaN it is. -/
set_option linter.unusedVariables false
set_option linter.unusedSimpArgs false
namespace Go.Sx
structure GRing where
  Samples : List Nat
  At : Int
deriving Inhabited
structure GFilter where
  Kind : Int
  C : List Nat
  S : List Nat
deriving Inhabited
structure GComb where
  Ring : GRing
  Gain : Nat
deriving Inhabited
structure GTap where
  Back : Int
  Gain : Nat
deriving Inhabited
structure GRoom where
  Early : GRing
  Taps : List GTap
  Combs : List GComb
  Loops : List GRing
  Damps : List GFilter
  Gains : List Nat
  Dry : Nat
  Wet : Nat
deriving Inhabited
end Go.Sx
