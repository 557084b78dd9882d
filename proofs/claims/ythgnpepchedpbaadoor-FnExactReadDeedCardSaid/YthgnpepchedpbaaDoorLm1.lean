/- What rings, filters, combs and rooms do, over lists of floats; a float is a word up to which NaN it is. -/
import Derived.Test.YthgnpepchedpbaaDoorLg
import Derived.Test.YthgnpepchedpbaaDoorTabE
set_option linter.unusedVariables false
set_option linter.unusedSimpArgs false
namespace Go.Sx

def flt (k : FloatKind) (a b : Nat) : Bool := k.format.order a b == some .lt
def feq (k : FloatKind) (a b : Nat) : Bool := k.format.order a b == some .eq
def inR (n low high : Int) : Bool := decide (low ≤ n) && decide (n ≤ high)
def fin (a : Nat) : Bool := feq .f32 (fsub .f32 a a) 0
def flush (a : Nat) : Nat := if flt .f32 (fabs a) 8388608 then 0 else a
def kept (a : Nat) : Nat := if fin a then flush a else 0
def GRing.len (r : GRing) : Int := r.Samples.length
def GRing.ok (r : GRing) : Bool := inR r.len 1 1024 && inR r.At 0 (r.len - 1)
def GRing.old (r : GRing) : Nat := r.Samples[r.At.toNat]!
def GRing.push (r : GRing) (a : Nat) : GRing := ⟨r.Samples.set r.At.toNat a, (r.At + 1) % r.len⟩
def GRing.back (r : GRing) (k : Int) : Nat := r.Samples[((r.At - k + r.len) % r.len).toNat]!
def allFin (l : List Nat) : Bool := l.all fin
def GRing.okf (r : GRing) : Bool := r.ok && allFin r.Samples
def GRing.zero (r : GRing) : Bool := r.Samples.all fun a => feq .f32 a 0
def usesC (k : Int) : Int := if k = 1 ∨ k = 2 then 2 else if k = 3 ∨ k = 5 then 1 else 3
def usesS (k : Int) : Int := if k = 1 ∨ k = 2 then 1 else 2
def used (l : List Nat) (n : Int) : Bool := (List.range l.length).all fun i => fin l[i]! && (decide ((i : Int) < n) || l[i]! == 0)
def GFilter.ok (f : GFilter) : Bool := inR f.Kind 1 5 && used f.C (usesC f.Kind) && used f.S (usesS f.Kind)
def GFilter.step (f : GFilter) (x : Nat) : GFilter × Nat :=
  if f.Kind = 1 then
    let y := fadd .f32 (fmul .f32 f.C[0]! x) (fmul .f32 f.C[1]! f.S[0]!)
    ({ f with S := f.S.set 0 (kept y) }, y)
  else if f.Kind = 2 then
    let y := fadd .f32 (fmul .f32 f.C[0]! x) (fmul .f32 f.C[1]! f.S[0]!)
    ({ f with S := f.S.set 0 (kept x) }, y)
  else if f.Kind = 3 then
    let y := fadd .f32 (fmul .f32 f.C[0]! (fsub .f32 x f.S[1]!)) f.S[0]!
    ({ f with S := (f.S.set 0 (kept x)).set 1 (kept y) }, y)
  else if f.Kind = 4 then
    let y := fsub .f32 (fsub .f32 (fmul .f32 f.C[0]! x) (fmul .f32 f.C[1]! f.S[0]!)) (fmul .f32 f.C[2]! f.S[1]!)
    ({ f with S := (f.S.set 0 (kept y)).set 1 (kept f.S[0]!) }, y)
  else
    let y := fadd .f32 (fsub .f32 x f.S[0]!) (fmul .f32 f.C[0]! f.S[1]!)
    ({ f with S := (f.S.set 0 (kept x)).set 1 (kept y) }, y)
def GFilter.still (f : GFilter) : Bool := feq .f32 f.S[0]! 0 && feq .f32 f.S[1]! 0
def GComb.step (c : GComb) (x : Nat) : GComb × Nat :=
  let o := c.Ring.old
  let w := fadd .f32 x (fmul .f32 c.Gain o)
  ({ c with Ring := c.Ring.push (kept w) }, fsub .f32 o (fmul .f32 c.Gain w))
def GComb.ok (c : GComb) : Bool := c.Ring.okf && fin c.Gain
def half : Nat := 1056964608
def mixFour (x : List Nat) : List Nat :=
  let p := fadd .f32 x[0]! x[1]!
  let q := fsub .f32 x[0]! x[1]!
  let r := fadd .f32 x[2]! x[3]!
  let s := fsub .f32 x[2]! x[3]!
  [fmul .f32 half (fadd .f32 p r), fmul .f32 half (fadd .f32 q s), fmul .f32 half (fsub .f32 p r), fmul .f32 half (fsub .f32 q s)]
def GTap.ok (t : GTap) (n : Int) : Bool := inR t.Back 1 n && fin t.Gain
def GRoom.ok (x : GRoom) : Bool :=
  x.Early.okf && decide (x.Taps.length ≤ 6) && x.Combs.all GComb.ok && x.Loops.all GRing.okf && (x.Damps.all fun f => f.ok && f.Kind == 1) && (x.Taps.all fun t => t.ok x.Early.len) && allFin x.Gains && fin x.Dry && fin x.Wet
def GRoom.early (x : GRoom) : Nat :=
  match x.Taps with
  | [] => 0
  | t :: ts => ts.foldl (fun m t => fadd .f32 m (fmul .f32 t.Gain (x.Early.back t.Back))) (fmul .f32 t.Gain (x.Early.back t.Back))
/-- The four loops' step: what they made, what is made of it, the filters behind it. -/
def GRoom.step (x : GRoom) (a : Nat) : GRoom × Nat :=
  let m := x.early
  let c0 := x.Combs[0]!.step (fadd .f32 a m)
  let c1 := x.Combs[1]!.step c0.2
  let o := x.Loops.map GRing.old
  let g := (List.range 4).map fun i => x.Damps[i]!.step (fmul .f32 x.Gains[i]! o[i]!)
  let h := mixFour (g.map (·.2))
  ({ x with Early := x.Early.push (kept a), Combs := [c0.1, c1.1], Damps := g.map (·.1), Loops := (List.range 4).map fun i => x.Loops[i]!.push (kept (fadd .f32 c1.2 h[i]!)) },
    fadd .f32 (fmul .f32 x.Dry a) (fmul .f32 x.Wet (fadd .f32 (fadd .f32 o[0]! o[1]!) (fadd .f32 o[2]! o[3]!))))
def GRoom.zero (x : GRoom) : Bool := x.Early.zero && x.Combs.all (fun c => c.Ring.zero) && x.Loops.all GRing.zero && x.Damps.all GFilter.still
end Go.Sx
