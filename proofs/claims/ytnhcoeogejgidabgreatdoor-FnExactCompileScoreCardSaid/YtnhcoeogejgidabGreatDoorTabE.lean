/- The slice types of this seat's program: what their elements are. -/
import Derived.Test.YtnhcoeogejgidabGreatDoorTab
import Derived.Test.YtnhcoeogejgidabGreatDoorLg
import Derived.Test.YtnhcoeogejgidabGreatDoorLp2
import Derived.Test.YtnhcoeogejgidabGreatDoorLp5
namespace Go.Sx
open Go.Proofs
theorem E_sl_float32 : ElemT prg T_sl_float32 T_float32 1 4 := ⟨Tryz.underlying23, ⟨Tryz.t22, _, by kernel_rfl, rfl, by kernel_rfl, by kernel_rfl, by kernel_rfl⟩⟩
theorem E_sl_impl_Instrument : ElemT prg T_sl_impl_Instrument T_impl_Instrument 5 40 := ⟨Tryz.underlying26, ⟨Tryz.t106, _, by kernel_rfl, rfl, by kernel_rfl, by kernel_rfl, by kernel_rfl⟩⟩
theorem E_sl_impl_Event : ElemT prg T_sl_impl_Event T_impl_Event 6 48 := ⟨Tryz.underlying27, ⟨Tryz.t65, _, by kernel_rfl, rfl, by kernel_rfl, by kernel_rfl, by kernel_rfl⟩⟩
theorem E_sl_string : ElemT prg T_sl_string T_string 1 16 := ⟨Tryz.underlying43, ⟨Tryz.t9, _, by kernel_rfl, rfl, by kernel_rfl, by kernel_rfl, by kernel_rfl⟩⟩
theorem E_sl_spec_l08Note : ElemT prg T_sl_spec_l08Note T_spec_l08Note 5 40 := ⟨Tryz.underlying48, ⟨Tryz.t91, _, by kernel_rfl, rfl, by kernel_rfl, by kernel_rfl, by kernel_rfl⟩⟩
theorem E_sl_int : ElemT prg T_sl_int T_int 1 8 := ⟨Tryz.underlying49, ⟨Tryz.t3, _, by kernel_rfl, rfl, by kernel_rfl, by kernel_rfl, by kernel_rfl⟩⟩
theorem E_sl_int64 : ElemT prg T_sl_int64 T_int64 1 8 := ⟨Tryz.underlying50, ⟨Tryz.t2, _, by kernel_rfl, rfl, by kernel_rfl, by kernel_rfl, by kernel_rfl⟩⟩
theorem E_sl_impl_loop : ElemT prg T_sl_impl_loop T_impl_loop 2 16 := ⟨Tryz.underlying58, ⟨Tryz.t124, _, by kernel_rfl, rfl, by kernel_rfl, by kernel_rfl, by kernel_rfl⟩⟩
theorem E_sl_4_int64 : ElemT prg T_sl_4_int64 T_4_int64 4 32 := ⟨Tryz.underlying89, ⟨Tryz.t92, _, by kernel_rfl, rfl, by kernel_rfl, by kernel_rfl, by kernel_rfl⟩⟩
end Go.Sx
/- How Ring, Filter lie in cells; their parts; given ones opened. -/
set_option linter.unusedVariables false
set_option linter.unusedSimpArgs false
namespace Go.Sx
open Go.Proofs
def z_Ring : GRing := ⟨[], 0⟩
def rFilter : Rep GFilter := (Rep.seq (rI .i64) (Rep.seq (rArr 3 (rF .f32)) ((rArr 2 (rF .f32))))).via fun a => (a.Kind, a.C, a.S)
theorem foc_Filter_Kind : Foc rFilter (rI .i64) 0 (fun a => a.Kind) (fun a b => { a with Kind := b }) := (Foc.via (f := fun a : GFilter => (a.Kind, a.C, a.S)) (get' := fun a => a.Kind) (put' := fun a b => { a with Kind := b }) (Foc.fst (Foc.here (rI .i64))) (fun _ => rfl) (fun _ _ => rfl)).at rfl
theorem foc_Filter_C : Foc rFilter (rArr 3 (rF .f32)) 1 (fun a => a.C) (fun a b => { a with C := b }) := (Foc.via (f := fun a : GFilter => (a.Kind, a.C, a.S)) (get' := fun a => a.C) (put' := fun a b => { a with C := b }) (Foc.snd (Foc.fst (Foc.here (rArr 3 (rF .f32))))) (fun _ => rfl) (fun _ _ => rfl)).at rfl
theorem foc_Filter_S : Foc rFilter (rArr 2 (rF .f32)) 4 (fun a => a.S) (fun a b => { a with S := b }) := (Foc.via (f := fun a : GFilter => (a.Kind, a.C, a.S)) (get' := fun a => a.S) (put' := fun a b => { a with S := b }) (Foc.snd (Foc.snd (Foc.here (rArr 2 (rF .f32))))) (fun _ => rfl) (fun _ _ => rfl)).at rfl
def z_Filter : GFilter := ⟨0, [0, 0, 0], [0, 0]⟩
instance lf_Filter_0 : FocC rFilter 0 (rI .i64) (fun a => a.Kind) (fun a b => { a with Kind := b }) := ⟨Foc.at foc_Filter_Kind rfl⟩
instance lf_Filter_1 : FocC rFilter 1 (rF .f32) (fun a => a.C[0]!) (fun a b => { a with C := a.C.set 0 b }) := ⟨Foc.at (foc_Filter_C.trans (Foc.arr (rF .f32) 0 (by decide))) rfl⟩
instance lf_Filter_2 : FocC rFilter 2 (rF .f32) (fun a => a.C[1]!) (fun a b => { a with C := a.C.set 1 b }) := ⟨Foc.at (foc_Filter_C.trans (Foc.arr (rF .f32) 1 (by decide))) rfl⟩
instance lf_Filter_3 : FocC rFilter 3 (rF .f32) (fun a => a.C[2]!) (fun a b => { a with C := a.C.set 2 b }) := ⟨Foc.at (foc_Filter_C.trans (Foc.arr (rF .f32) 2 (by decide))) rfl⟩
instance lf_Filter_4 : FocC rFilter 4 (rF .f32) (fun a => a.S[0]!) (fun a b => { a with S := a.S.set 0 b }) := ⟨Foc.at (foc_Filter_S.trans (Foc.arr (rF .f32) 0 (by decide))) rfl⟩
instance lf_Filter_5 : FocC rFilter 5 (rF .f32) (fun a => a.S[1]!) (fun a b => { a with S := a.S.set 1 b }) := ⟨Foc.at (foc_Filter_S.trans (Foc.arr (rF .f32) 1 (by decide))) rfl⟩
end Go.Sx
/- The absolute value of a float32 by way of float64: the same as the sign taken away. -/
set_option linter.unusedVariables false
set_option linter.unusedSimpArgs false
namespace Go.Sx
open Ieee

def fabs (a : Nat) : Nat := cn .f32 (a % 2 ^ 31)
end Go.Sx
/- What rings, filters, combs and rooms do, over lists of floats; a float is a word up to which NaN it is. -/
set_option linter.unusedVariables false
set_option linter.unusedSimpArgs false
namespace Go.Sx

def flt (k : FloatKind) (a b : Nat) : Bool := k.format.order a b == some .lt
def fgt (k : FloatKind) (a b : Nat) : Bool := k.format.order a b == some .gt
def fle (k : FloatKind) (a b : Nat) : Bool := k.format.order a b == some .lt || k.format.order a b == some .eq
def fge (k : FloatKind) (a b : Nat) : Bool := k.format.order a b == some .gt || k.format.order a b == some .eq
def feq (k : FloatKind) (a b : Nat) : Bool := k.format.order a b == some .eq
def inR (n low high : Int) : Bool := decide (low ≤ n) && decide (n ≤ high)
def fin (a : Nat) : Bool := feq .f32 (fsub .f32 a a) 0
def flush (a : Nat) : Nat := if flt .f32 (fabs a) 8388608 then 0 else a
def kept (a : Nat) : Nat := if fin a then flush a else 0
def GRing.len (r : GRing) : Int := r.Samples.length
def GRing.ok (r : GRing) : Bool := inR r.len 1 1024 && inR r.At 0 (r.len - 1)
def GRing.old (r : GRing) : Nat := r.Samples[r.At.toNat]!
def GRing.push (r : GRing) (a : Nat) : GRing := ⟨r.Samples.set r.At.toNat a, (r.At + 1) % r.len⟩
def GRing.back (r : GRing) (k : Int) : Nat := r.Samples[((r.At - k + r.len) % r.len).toNat]!
def allFin (l : List Nat) : Bool := l.all fin
def GRing.okf (r : GRing) : Bool := r.ok && allFin r.Samples
def GRing.zero (r : GRing) : Bool := r.Samples.all fun a => feq .f32 a 0
def usesC (k : Int) : Int := if k = 1 ∨ k = 2 then 2 else if k = 3 ∨ k = 5 then 1 else 3
def usesS (k : Int) : Int := if k = 1 ∨ k = 2 then 1 else 2
def used (l : List Nat) (n : Int) : Bool := (List.range l.length).all fun i => fin l[i]! && (decide ((i : Int) < n) || l[i]! == 0)
def GFilter.ok (f : GFilter) : Bool := inR f.Kind 1 5 && used f.C (usesC f.Kind) && used f.S (usesS f.Kind)
def GFilter.step (f : GFilter) (x : Nat) : GFilter × Nat :=
  if f.Kind = 1 then
    let y := fadd .f32 (fmul .f32 f.C[0]! x) (fmul .f32 f.C[1]! f.S[0]!)
    ({ f with S := f.S.set 0 (kept y) }, y)
  else if f.Kind = 2 then
    let y := fadd .f32 (fmul .f32 f.C[0]! x) (fmul .f32 f.C[1]! f.S[0]!)
    ({ f with S := f.S.set 0 (kept x) }, y)
  else if f.Kind = 3 then
    let y := fadd .f32 (fmul .f32 f.C[0]! (fsub .f32 x f.S[1]!)) f.S[0]!
    ({ f with S := (f.S.set 0 (kept x)).set 1 (kept y) }, y)
  else if f.Kind = 4 then
    let y := fsub .f32 (fsub .f32 (fmul .f32 f.C[0]! x) (fmul .f32 f.C[1]! f.S[0]!)) (fmul .f32 f.C[2]! f.S[1]!)
    ({ f with S := (f.S.set 0 (kept y)).set 1 (kept f.S[0]!) }, y)
  else
    let y := fadd .f32 (fsub .f32 x f.S[0]!) (fmul .f32 f.C[0]! f.S[1]!)
    ({ f with S := (f.S.set 0 (kept x)).set 1 (kept y) }, y)
def GFilter.still (f : GFilter) : Bool := feq .f32 f.S[0]! 0 && feq .f32 f.S[1]! 0
def GComb.step (c : GComb) (x : Nat) : GComb × Nat :=
  let o := c.Ring.old
  let w := fadd .f32 x (fmul .f32 c.Gain o)
  ({ c with Ring := c.Ring.push (kept w) }, fsub .f32 o (fmul .f32 c.Gain w))
def GComb.ok (c : GComb) : Bool := c.Ring.okf && fin c.Gain
def half : Nat := 1056964608
def mixFour (x : List Nat) : List Nat :=
  let p := fadd .f32 x[0]! x[1]!
  let q := fsub .f32 x[0]! x[1]!
  let r := fadd .f32 x[2]! x[3]!
  let s := fsub .f32 x[2]! x[3]!
  [fmul .f32 half (fadd .f32 p r), fmul .f32 half (fadd .f32 q s), fmul .f32 half (fsub .f32 p r), fmul .f32 half (fsub .f32 q s)]
def GTap.ok (t : GTap) (n : Int) : Bool := inR t.Back 1 n && fin t.Gain
def GRoom.ok (x : GRoom) : Bool :=
  x.Early.okf && decide (x.Taps.length ≤ 6) && x.Combs.all GComb.ok && x.Loops.all GRing.okf && (x.Damps.all fun f => f.ok && f.Kind == 1) && (x.Taps.all fun t => t.ok x.Early.len) && allFin x.Gains && fin x.Dry && fin x.Wet
def GRoom.early (x : GRoom) : Nat :=
  match x.Taps with
  | [] => 0
  | t :: ts => ts.foldl (fun m t => fadd .f32 m (fmul .f32 t.Gain (x.Early.back t.Back))) (fmul .f32 t.Gain (x.Early.back t.Back))
/-- The four loops' step: what they made, what is made of it, the filters behind it. -/
def GRoom.step (x : GRoom) (a : Nat) : GRoom × Nat :=
  let m := x.early
  let c0 := x.Combs[0]!.step (fadd .f32 a m)
  let c1 := x.Combs[1]!.step c0.2
  let o := x.Loops.map GRing.old
  let g := (List.range 4).map fun i => x.Damps[i]!.step (fmul .f32 x.Gains[i]! o[i]!)
  let h := mixFour (g.map (·.2))
  ({ x with Early := x.Early.push (kept a), Combs := [c0.1, c1.1], Damps := g.map (·.1), Loops := (List.range 4).map fun i => x.Loops[i]!.push (kept (fadd .f32 c1.2 h[i]!)) },
    fadd .f32 (fmul .f32 x.Dry a) (fmul .f32 x.Wet (fadd .f32 (fadd .f32 o[0]! o[1]!) (fadd .f32 o[2]! o[3]!))))
def GRoom.zero (x : GRoom) : Bool := x.Early.zero && x.Combs.all (fun c => c.Ring.zero) && x.Loops.all GRing.zero && x.Damps.all GFilter.still
end Go.Sx
/- What functions of this seat's program compute, told in words (a predicate over heaps for each), and the proofs that the words are no more than the code's own weakest precondition. -/
namespace Go.Sx
open Go.Proofs
set_option linter.unusedVariables false
set_option maxRecDepth 100000

def spec_l00In.S (n_0 : Int) (low_1 : Int) (high_2 : Int) (Post : Value → Heap → Prop) (h : Heap) : Prop :=
    BIF (decide (low_1 ≤ n_0)) (
    Post (.bool (decide (n_0 ≤ high_2))) h) (
    Post (.bool false) h)
noncomputable def spec_l00In.code : Code := (Tryz.f41.body).getD .skip
theorem spec_l00In.call {n_0 : Int} {low_1 : Int} {high_2 : Int} {Post : Value → Heap → Prop} {h : Heap} (H : spec_l00In.S n_0 low_1 high_2 Post h) : CALL prg f_spec_l00In #[.int .i64 n_0, .int .i64 low_1, .int .i64 high_2] Post h :=
  fn_call tau_ok mixed (c := spec_l00In.code) (Λ := lookL []) Tryz.func41 (by kernel_rfl) (by kernel_rfl)
    (Rq.free (by kernel_rfl))
    (Eq.mp (by kernel_rfl) H)

def impl_within.S (n_0 : Int) (low_1 : Int) (high_2 : Int) (Post : Value → Heap → Prop) (h : Heap) : Prop :=
    BIF (decide (low_1 ≤ n_0)) (
    Post (.bool (decide (n_0 ≤ high_2))) h) (
    Post (.bool false) h)
noncomputable def impl_within.code : Code := (Tryz.f51.body).getD .skip
theorem impl_within.call {n_0 : Int} {low_1 : Int} {high_2 : Int} {Post : Value → Heap → Prop} {h : Heap} (H : impl_within.S n_0 low_1 high_2 Post h) : CALL prg f_impl_within #[.int .i64 n_0, .int .i64 low_1, .int .i64 high_2] Post h :=
  fn_call tau_ok mixed (c := impl_within.code) (Λ := lookL []) Tryz.func51 (by kernel_rfl) (by kernel_rfl)
    (Rq.free (by kernel_rfl))
    (Eq.mp (by kernel_rfl) H)

def spec_l01Finite.S (a_0 : Nat) (Post : Value → Heap → Prop) (h : Heap) : Prop :=
    FOP .f32 (FloatKind.f32.format.sub a_0 a_0) fun r1 =>
    Post (.bool (FloatKind.f32.format.order r1 0 == some .eq)) h
noncomputable def spec_l01Finite.code : Code := (Tryz.f125.body).getD .skip
theorem spec_l01Finite.call {a_0 : Nat} {Post : Value → Heap → Prop} {h : Heap} (H : spec_l01Finite.S a_0 Post h) : CALL prg f_spec_l01Finite #[.float .f32 a_0] Post h :=
  fn_call tau_ok mixed (c := spec_l01Finite.code) (Λ := lookL []) Tryz.func125 (by kernel_rfl) (by kernel_rfl)
    (Rq.free (by kernel_rfl))
    (Eq.mp (by kernel_rfl) H)

def impl_isFinite.S (a_0 : Nat) (Post : Value → Heap → Prop) (h : Heap) : Prop :=
    FOP .f32 (FloatKind.f32.format.sub a_0 a_0) fun r1 =>
    Post (.bool (FloatKind.f32.format.order r1 0 == some .eq)) h
noncomputable def impl_isFinite.code : Code := (Tryz.f112.body).getD .skip
theorem impl_isFinite.call {a_0 : Nat} {Post : Value → Heap → Prop} {h : Heap} (H : impl_isFinite.S a_0 Post h) : CALL prg f_impl_isFinite #[.float .f32 a_0] Post h :=
  fn_call tau_ok mixed (c := impl_isFinite.code) (Λ := lookL []) Tryz.func112 (by kernel_rfl) (by kernel_rfl)
    (Rq.free (by kernel_rfl))
    (Eq.mp (by kernel_rfl) H)

def impl_inside.S (a_0 : Nat) (low_1 : Nat) (high_2 : Nat) (Post : Value → Heap → Prop) (h : Heap) : Prop :=
    BIF (FloatKind.f32.format.order a_0 low_1 == some .gt || FloatKind.f32.format.order a_0 low_1 == some .eq) (
    Post (.bool (FloatKind.f32.format.order a_0 high_2 == some .lt || FloatKind.f32.format.order a_0 high_2 == some .eq)) h) (
    Post (.bool false) h)
noncomputable def impl_inside.code : Code := (Tryz.f82.body).getD .skip
theorem impl_inside.call {a_0 : Nat} {low_1 : Nat} {high_2 : Nat} {Post : Value → Heap → Prop} {h : Heap} (H : impl_inside.S a_0 low_1 high_2 Post h) : CALL prg f_impl_inside #[.float .f32 a_0, .float .f32 low_1, .float .f32 high_2] Post h :=
  fn_call tau_ok mixed (c := impl_inside.code) (Λ := lookL []) Tryz.func82 (by kernel_rfl) (by kernel_rfl)
    (Rq.free (by kernel_rfl))
    (Eq.mp (by kernel_rfl) H)

end Go.Sx
