/- The program's struct types as Lean structures; a float is a word up to which NaN it is. -/
set_option linter.unusedVariables false
set_option linter.unusedSimpArgs false
namespace Go.Sx
structure GRing where
  Samples : List Nat
  At : Int
deriving Inhabited
structure GFilter where
  Kind : Int
  C : List Nat
  S : List Nat
deriving Inhabited
structure GComb where
  Ring : GRing
  Gain : Nat
deriving Inhabited
structure GTap where
  Back : Int
  Gain : Nat
deriving Inhabited
structure GRoom where
  Early : GRing
  Taps : List GTap
  Combs : List GComb
  Loops : List GRing
  Damps : List GFilter
  Gains : List Nat
  Dry : Nat
  Wet : Nat
deriving Inhabited
structure GTuning where
  Base : Nat
  Octave : Nat
  Degrees : List Nat
deriving Inhabited
structure GInstrument where
  Name : ByteArray
  Kind : Int
  A : Nat
  B : Nat
  C : Nat
deriving Inhabited
structure GEvent where
  At : Int
  Kind : Int
  Note : Int
  Instrument : Int
  Key : Int
  Force : Nat
deriving Inhabited
structure GScore where
  Rate : Nat
  Tuning : GTuning
  Instruments : List GInstrument
  Events : List GEvent
deriving Inhabited
structure GStage where
  Score : GScore
  Voices : Int
  Blocks : Int
  Workers : Int
deriving Inhabited
end Go.Sx
