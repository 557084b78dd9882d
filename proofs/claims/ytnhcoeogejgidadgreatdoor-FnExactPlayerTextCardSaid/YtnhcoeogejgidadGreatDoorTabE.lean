/- The slice types of this seat's program: what their elements are. -/
import Derived.Test.YtnhcoeogejgidadGreatDoorTab
import Derived.Test.YtnhcoeogejgidadGreatDoorLg
import Derived.Test.YtnhcoeogejgidadGreatDoorLp2
import Derived.Test.YtnhcoeogejgidadGreatDoorLp5
import Derived.Test.YtnhcoeogejgidadGreatDoorLx1
namespace Go.Sx
open Go.Proofs
theorem E_sl_string : ElemT prg T_sl_string T_string 1 16 := ⟨Tryz.underlying87, ⟨Tryz.t9, _, by kernel_rfl, rfl, by kernel_rfl, by kernel_rfl, by kernel_rfl⟩⟩
theorem E_sl_p_impl_Ring : ElemT prg T_sl_p_impl_Ring T_p_impl_Ring 1 8 := ⟨Tryz.underlying232, ⟨Tryz.t234, _, by kernel_rfl, rfl, by kernel_rfl, by kernel_rfl, by kernel_rfl⟩⟩
end Go.Sx
/- How Ring, Filter lie in cells; their parts; given ones opened. -/
set_option linter.unusedVariables false
set_option linter.unusedSimpArgs false
namespace Go.Sx
open Go.Proofs
def rRing : Rep GRing := (Rep.seq (rSl T_float32 (rF .f32)) ((rI .i64))).via fun a => (a.Samples, a.At)
theorem foc_Ring_Samples : Foc rRing (rSl T_float32 (rF .f32)) 0 (fun a => a.Samples) (fun a b => { a with Samples := b }) := (Foc.via (f := fun a : GRing => (a.Samples, a.At)) (get' := fun a => a.Samples) (put' := fun a b => { a with Samples := b }) (Foc.fst (Foc.here (rSl T_float32 (rF .f32)))) (fun _ => rfl) (fun _ _ => rfl)).at rfl
theorem foc_Ring_At : Foc rRing (rI .i64) 1 (fun a => a.At) (fun a b => { a with At := b }) := (Foc.via (f := fun a : GRing => (a.Samples, a.At)) (get' := fun a => a.At) (put' := fun a b => { a with At := b }) (Foc.snd (Foc.here (rI .i64))) (fun _ => rfl) (fun _ _ => rfl)).at rfl
def z_Ring : GRing := ⟨[], 0⟩
theorem zow_Ring : rRing.ow [] [Value.slice none 0 0, Value.int .i64 (0 : Int)] z_Ring := ⟨[], [], [Value.slice none 0 0], [Value.int .i64 (0 : Int)], rfl, rfl, ⟨none, 0, 0, rfl, SlO.nil⟩, ⟨rfl, rfl⟩⟩
instance lf_Ring_0 : FocC rRing 0 (rSl T_float32 (rF .f32)) (fun a => a.Samples) (fun a b => { a with Samples := b }) := ⟨Foc.at foc_Ring_Samples rfl⟩
instance lf_Ring_1 : FocC rRing 1 (rI .i64) (fun a => a.At) (fun a b => { a with At := b }) := ⟨Foc.at foc_Ring_At rfl⟩
def rFilter : Rep GFilter := (Rep.seq (rI .i64) (Rep.seq (rArr 3 (rF .f32)) ((rArr 2 (rF .f32))))).via fun a => (a.Kind, a.C, a.S)
theorem foc_Filter_Kind : Foc rFilter (rI .i64) 0 (fun a => a.Kind) (fun a b => { a with Kind := b }) := (Foc.via (f := fun a : GFilter => (a.Kind, a.C, a.S)) (get' := fun a => a.Kind) (put' := fun a b => { a with Kind := b }) (Foc.fst (Foc.here (rI .i64))) (fun _ => rfl) (fun _ _ => rfl)).at rfl
theorem foc_Filter_C : Foc rFilter (rArr 3 (rF .f32)) 1 (fun a => a.C) (fun a b => { a with C := b }) := (Foc.via (f := fun a : GFilter => (a.Kind, a.C, a.S)) (get' := fun a => a.C) (put' := fun a b => { a with C := b }) (Foc.snd (Foc.fst (Foc.here (rArr 3 (rF .f32))))) (fun _ => rfl) (fun _ _ => rfl)).at rfl
theorem foc_Filter_S : Foc rFilter (rArr 2 (rF .f32)) 4 (fun a => a.S) (fun a b => { a with S := b }) := (Foc.via (f := fun a : GFilter => (a.Kind, a.C, a.S)) (get' := fun a => a.S) (put' := fun a b => { a with S := b }) (Foc.snd (Foc.snd (Foc.here (rArr 2 (rF .f32))))) (fun _ => rfl) (fun _ _ => rfl)).at rfl
def z_Filter : GFilter := ⟨0, [0, 0, 0], [0, 0]⟩
theorem zow_Filter : rFilter.ow [] [Value.int .i64 (0 : Int), Value.float .f32 0, Value.float .f32 0, Value.float .f32 0, Value.float .f32 0, Value.float .f32 0] z_Filter := ⟨[], [], [Value.int .i64 (0 : Int)], [Value.float .f32 0, Value.float .f32 0, Value.float .f32 0, Value.float .f32 0, Value.float .f32 0], rfl, rfl, ⟨rfl, rfl⟩, ⟨[], [], [Value.float .f32 0, Value.float .f32 0, Value.float .f32 0], [Value.float .f32 0, Value.float .f32 0], rfl, rfl, ⟨rfl, ⟨[], [], [Value.float .f32 0], [Value.float .f32 0, Value.float .f32 0], rfl, rfl, ⟨rfl, 0, rfl, fw_c32 (by decide) (by decide)⟩, ⟨[], [], [Value.float .f32 0], [Value.float .f32 0], rfl, rfl, ⟨rfl, 0, rfl, fw_c32 (by decide) (by decide)⟩, ⟨[], [], [Value.float .f32 0], [], rfl, rfl, ⟨rfl, 0, rfl, fw_c32 (by decide) (by decide)⟩, ⟨rfl, rfl⟩⟩⟩⟩⟩, ⟨rfl, ⟨[], [], [Value.float .f32 0], [Value.float .f32 0], rfl, rfl, ⟨rfl, 0, rfl, fw_c32 (by decide) (by decide)⟩, ⟨[], [], [Value.float .f32 0], [], rfl, rfl, ⟨rfl, 0, rfl, fw_c32 (by decide) (by decide)⟩, ⟨rfl, rfl⟩⟩⟩⟩⟩⟩
instance lf_Filter_0 : FocC rFilter 0 (rI .i64) (fun a => a.Kind) (fun a b => { a with Kind := b }) := ⟨Foc.at foc_Filter_Kind rfl⟩
instance lf_Filter_1 : FocC rFilter 1 (rF .f32) (fun a => a.C[0]!) (fun a b => { a with C := a.C.set 0 b }) := ⟨Foc.at (foc_Filter_C.trans (Foc.arr (rF .f32) 0 (by decide))) rfl⟩
instance lf_Filter_2 : FocC rFilter 2 (rF .f32) (fun a => a.C[1]!) (fun a b => { a with C := a.C.set 1 b }) := ⟨Foc.at (foc_Filter_C.trans (Foc.arr (rF .f32) 1 (by decide))) rfl⟩
instance lf_Filter_3 : FocC rFilter 3 (rF .f32) (fun a => a.C[2]!) (fun a b => { a with C := a.C.set 2 b }) := ⟨Foc.at (foc_Filter_C.trans (Foc.arr (rF .f32) 2 (by decide))) rfl⟩
instance lf_Filter_4 : FocC rFilter 4 (rF .f32) (fun a => a.S[0]!) (fun a b => { a with S := a.S.set 0 b }) := ⟨Foc.at (foc_Filter_S.trans (Foc.arr (rF .f32) 0 (by decide))) rfl⟩
instance lf_Filter_5 : FocC rFilter 5 (rF .f32) (fun a => a.S[1]!) (fun a b => { a with S := a.S.set 1 b }) := ⟨Foc.at (foc_Filter_S.trans (Foc.arr (rF .f32) 1 (by decide))) rfl⟩
end Go.Sx
/- The absolute value of a float32 by way of float64: the same as the sign taken away. -/
set_option linter.unusedVariables false
set_option linter.unusedSimpArgs false
namespace Go.Sx
open Ieee

def fabs (a : Nat) : Nat := cn .f32 (a % 2 ^ 31)
end Go.Sx
/- What rings, filters, combs and rooms do, over lists of floats; a float is a word up to which NaN it is. -/
set_option linter.unusedVariables false
set_option linter.unusedSimpArgs false
namespace Go.Sx

def flt (k : FloatKind) (a b : Nat) : Bool := k.format.order a b == some .lt
def fgt (k : FloatKind) (a b : Nat) : Bool := k.format.order a b == some .gt
def fle (k : FloatKind) (a b : Nat) : Bool := k.format.order a b == some .lt || k.format.order a b == some .eq
def fge (k : FloatKind) (a b : Nat) : Bool := k.format.order a b == some .gt || k.format.order a b == some .eq
def feq (k : FloatKind) (a b : Nat) : Bool := k.format.order a b == some .eq
def inR (n low high : Int) : Bool := decide (low ≤ n) && decide (n ≤ high)
def fin (a : Nat) : Bool := feq .f32 (fsub .f32 a a) 0
def flush (a : Nat) : Nat := if flt .f32 (fabs a) 8388608 then 0 else a
def kept (a : Nat) : Nat := if fin a then flush a else 0
def GRing.len (r : GRing) : Int := r.Samples.length
def GRing.ok (r : GRing) : Bool := inR r.len 1 1024 && inR r.At 0 (r.len - 1)
def GRing.old (r : GRing) : Nat := r.Samples[r.At.toNat]!
def GRing.push (r : GRing) (a : Nat) : GRing := ⟨r.Samples.set r.At.toNat a, (r.At + 1) % r.len⟩
def GRing.back (r : GRing) (k : Int) : Nat := r.Samples[((r.At - k + r.len) % r.len).toNat]!
def allFin (l : List Nat) : Bool := l.all fin
def GRing.okf (r : GRing) : Bool := r.ok && allFin r.Samples
def GRing.zero (r : GRing) : Bool := r.Samples.all fun a => feq .f32 a 0
def usesC (k : Int) : Int := if k = 1 ∨ k = 2 then 2 else if k = 3 ∨ k = 5 then 1 else 3
def usesS (k : Int) : Int := if k = 1 ∨ k = 2 then 1 else 2
def used (l : List Nat) (n : Int) : Bool := (List.range l.length).all fun i => fin l[i]! && (decide ((i : Int) < n) || l[i]! == 0)
def GFilter.ok (f : GFilter) : Bool := inR f.Kind 1 5 && used f.C (usesC f.Kind) && used f.S (usesS f.Kind)
def GFilter.step (f : GFilter) (x : Nat) : GFilter × Nat :=
  if f.Kind = 1 then
    let y := fadd .f32 (fmul .f32 f.C[0]! x) (fmul .f32 f.C[1]! f.S[0]!)
    ({ f with S := f.S.set 0 (kept y) }, y)
  else if f.Kind = 2 then
    let y := fadd .f32 (fmul .f32 f.C[0]! x) (fmul .f32 f.C[1]! f.S[0]!)
    ({ f with S := f.S.set 0 (kept x) }, y)
  else if f.Kind = 3 then
    let y := fadd .f32 (fmul .f32 f.C[0]! (fsub .f32 x f.S[1]!)) f.S[0]!
    ({ f with S := (f.S.set 0 (kept x)).set 1 (kept y) }, y)
  else if f.Kind = 4 then
    let y := fsub .f32 (fsub .f32 (fmul .f32 f.C[0]! x) (fmul .f32 f.C[1]! f.S[0]!)) (fmul .f32 f.C[2]! f.S[1]!)
    ({ f with S := (f.S.set 0 (kept y)).set 1 (kept f.S[0]!) }, y)
  else
    let y := fadd .f32 (fsub .f32 x f.S[0]!) (fmul .f32 f.C[0]! f.S[1]!)
    ({ f with S := (f.S.set 0 (kept x)).set 1 (kept y) }, y)
def GFilter.still (f : GFilter) : Bool := feq .f32 f.S[0]! 0 && feq .f32 f.S[1]! 0
def GComb.step (c : GComb) (x : Nat) : GComb × Nat :=
  let o := c.Ring.old
  let w := fadd .f32 x (fmul .f32 c.Gain o)
  ({ c with Ring := c.Ring.push (kept w) }, fsub .f32 o (fmul .f32 c.Gain w))
def GComb.ok (c : GComb) : Bool := c.Ring.okf && fin c.Gain
def half : Nat := 1056964608
def mixFour (x : List Nat) : List Nat :=
  let p := fadd .f32 x[0]! x[1]!
  let q := fsub .f32 x[0]! x[1]!
  let r := fadd .f32 x[2]! x[3]!
  let s := fsub .f32 x[2]! x[3]!
  [fmul .f32 half (fadd .f32 p r), fmul .f32 half (fadd .f32 q s), fmul .f32 half (fsub .f32 p r), fmul .f32 half (fsub .f32 q s)]
def GTap.ok (t : GTap) (n : Int) : Bool := inR t.Back 1 n && fin t.Gain
def GRoom.ok (x : GRoom) : Bool :=
  x.Early.okf && decide (x.Taps.length ≤ 6) && x.Combs.all GComb.ok && x.Loops.all GRing.okf && (x.Damps.all fun f => f.ok && f.Kind == 1) && (x.Taps.all fun t => t.ok x.Early.len) && allFin x.Gains && fin x.Dry && fin x.Wet
def GRoom.early (x : GRoom) : Nat :=
  match x.Taps with
  | [] => 0
  | t :: ts => ts.foldl (fun m t => fadd .f32 m (fmul .f32 t.Gain (x.Early.back t.Back))) (fmul .f32 t.Gain (x.Early.back t.Back))
/-- The four loops' step: what they made, what is made of it, the filters behind it. -/
def GRoom.step (x : GRoom) (a : Nat) : GRoom × Nat :=
  let m := x.early
  let c0 := x.Combs[0]!.step (fadd .f32 a m)
  let c1 := x.Combs[1]!.step c0.2
  let o := x.Loops.map GRing.old
  let g := (List.range 4).map fun i => x.Damps[i]!.step (fmul .f32 x.Gains[i]! o[i]!)
  let h := mixFour (g.map (·.2))
  ({ x with Early := x.Early.push (kept a), Combs := [c0.1, c1.1], Damps := g.map (·.1), Loops := (List.range 4).map fun i => x.Loops[i]!.push (kept (fadd .f32 c1.2 h[i]!)) },
    fadd .f32 (fmul .f32 x.Dry a) (fmul .f32 x.Wet (fadd .f32 (fadd .f32 o[0]! o[1]!) (fadd .f32 o[2]! o[3]!))))
def GRoom.zero (x : GRoom) : Bool := x.Early.zero && x.Combs.all (fun c => c.Ring.zero) && x.Loops.all GRing.zero && x.Damps.all GFilter.still
end Go.Sx
/- What functions of this seat's program compute, told in words (a predicate over heaps for each), and the proofs that the words are no more than the code's own weakest precondition. -/
namespace Go.Sx
open Go.Proofs
set_option linter.unusedVariables false
set_option maxRecDepth 100000

def spec_l00In.S (n_0 : Int) (low_1 : Int) (high_2 : Int) (Post : Value → Heap → Prop) (h : Heap) : Prop :=
    BIF (decide (low_1 ≤ n_0)) (
    Post (.bool (decide (n_0 ≤ high_2))) h) (
    Post (.bool false) h)
noncomputable def spec_l00In.code : Code := (Tryz.f60.body).getD .skip
theorem spec_l00In.call {n_0 : Int} {low_1 : Int} {high_2 : Int} {Post : Value → Heap → Prop} {h : Heap} (H : spec_l00In.S n_0 low_1 high_2 Post h) : CALL prg f_spec_l00In #[.int .i64 n_0, .int .i64 low_1, .int .i64 high_2] Post h :=
  fn_call tau_ok mixed (c := spec_l00In.code) (Λ := lookL []) Tryz.func60 (by kernel_rfl) (by kernel_rfl)
    (Rq.free (by kernel_rfl))
    (Eq.mp (by kernel_rfl) H)

def impl_within.S (n_0 : Int) (low_1 : Int) (high_2 : Int) (Post : Value → Heap → Prop) (h : Heap) : Prop :=
    BIF (decide (low_1 ≤ n_0)) (
    Post (.bool (decide (n_0 ≤ high_2))) h) (
    Post (.bool false) h)
noncomputable def impl_within.code : Code := (Tryz.f70.body).getD .skip
theorem impl_within.call {n_0 : Int} {low_1 : Int} {high_2 : Int} {Post : Value → Heap → Prop} {h : Heap} (H : impl_within.S n_0 low_1 high_2 Post h) : CALL prg f_impl_within #[.int .i64 n_0, .int .i64 low_1, .int .i64 high_2] Post h :=
  fn_call tau_ok mixed (c := impl_within.code) (Λ := lookL []) Tryz.func70 (by kernel_rfl) (by kernel_rfl)
    (Rq.free (by kernel_rfl))
    (Eq.mp (by kernel_rfl) H)

def impl_length_float32.S (list_0b : Option Addr) (list_0l list_0c : Nat) (Post : Value → Heap → Prop) (h : Heap) : Prop :=
    Post (.int .i64 (list_0l : Int)) h
noncomputable def impl_length_float32.code : Code := (Tryz.f160.body).getD .skip
theorem impl_length_float32.call {list_0b : Option Addr} {list_0l list_0c : Nat} {Post : Value → Heap → Prop} {h : Heap} (H : impl_length_float32.S list_0b list_0l list_0c Post h) : CALL prg f_impl_length_float32 #[.slice list_0b list_0l list_0c] Post h :=
  fn_call tau_ok mixed (c := impl_length_float32.code) (Λ := lookL []) Tryz.func160 (by kernel_rfl) (by kernel_rfl)
    (Rq.free (by kernel_rfl))
    (Eq.mp (by kernel_rfl) H)

def spec_l01NaN.S (a_0 : Nat) (Post : Value → Heap → Prop) (h : Heap) : Prop :=
    Post (.bool (FloatKind.f32.format.order a_0 a_0 != some .eq)) h
noncomputable def spec_l01NaN.code : Code := (Tryz.f205.body).getD .skip
theorem spec_l01NaN.call {a_0 : Nat} {Post : Value → Heap → Prop} {h : Heap} (H : spec_l01NaN.S a_0 Post h) : CALL prg f_spec_l01NaN #[.float .f32 a_0] Post h :=
  fn_call tau_ok mixed (c := spec_l01NaN.code) (Λ := lookL []) Tryz.func205 (by kernel_rfl) (by kernel_rfl)
    (Rq.free (by kernel_rfl))
    (Eq.mp (by kernel_rfl) H)

def spec_l01Finite.S (a_0 : Nat) (Post : Value → Heap → Prop) (h : Heap) : Prop :=
    FOP .f32 (FloatKind.f32.format.sub a_0 a_0) fun r1 =>
    Post (.bool (FloatKind.f32.format.order r1 0 == some .eq)) h
noncomputable def spec_l01Finite.code : Code := (Tryz.f137.body).getD .skip
theorem spec_l01Finite.call {a_0 : Nat} {Post : Value → Heap → Prop} {h : Heap} (H : spec_l01Finite.S a_0 Post h) : CALL prg f_spec_l01Finite #[.float .f32 a_0] Post h :=
  fn_call tau_ok mixed (c := spec_l01Finite.code) (Λ := lookL []) Tryz.func137 (by kernel_rfl) (by kernel_rfl)
    (Rq.free (by kernel_rfl))
    (Eq.mp (by kernel_rfl) H)

def impl_isFinite.S (a_0 : Nat) (Post : Value → Heap → Prop) (h : Heap) : Prop :=
    FOP .f32 (FloatKind.f32.format.sub a_0 a_0) fun r1 =>
    Post (.bool (FloatKind.f32.format.order r1 0 == some .eq)) h
noncomputable def impl_isFinite.code : Code := (Tryz.f153.body).getD .skip
theorem impl_isFinite.call {a_0 : Nat} {Post : Value → Heap → Prop} {h : Heap} (H : impl_isFinite.S a_0 Post h) : CALL prg f_impl_isFinite #[.float .f32 a_0] Post h :=
  fn_call tau_ok mixed (c := impl_isFinite.code) (Λ := lookL []) Tryz.func153 (by kernel_rfl) (by kernel_rfl)
    (Rq.free (by kernel_rfl))
    (Eq.mp (by kernel_rfl) H)

def impl_bitsOf.S (a_0 : Nat) (Post : Value → Heap → Prop) (h : Heap) : Prop :=
    BIF (FloatKind.f32.format.order a_0 a_0 != some .eq) (
    Post (.int .u32 (2143289344 : Int)) h) (
    CALL prg f_math_Float32bits #[.float .f32 a_0] (fun q1 h2 =>
    asI .u32 q1 fun n3 =>
    Post (.int .u32 n3) h2) h)
noncomputable def impl_bitsOf.code : Code := (Tryz.f151.body).getD .skip
theorem impl_bitsOf.call {a_0 : Nat} {Post : Value → Heap → Prop} {h : Heap} (H : impl_bitsOf.S a_0 Post h) : CALL prg f_impl_bitsOf #[.float .f32 a_0] Post h :=
  fn_call tau_ok mixed (c := impl_bitsOf.code) (Λ := lookL []) Tryz.func151 (by kernel_rfl) (by kernel_rfl)
    (Rq.free (by kernel_rfl))
    (Eq.mp (by kernel_rfl) H)

def spec_l01Same.J2 (Post : Value → Heap → Prop) (a_0 : Nat) (b_1 : Nat) (t10 : Bool) (h : Heap) : Prop :=
    BIF t10 (
    CALL prg f_spec_l01NaN #[.float .f32 a_0] (fun q7 h8 =>
    asB q7 fun b9 =>
    BIF b9 (
    CALL prg f_spec_l01NaN #[.float .f32 b_1] (fun q10 h11 =>
    asB q10 fun b12 =>
    Post (.bool b12) h11) h8) (
    Post (.bool false) h8)) h) (
    CALL prg f_math_Float32bits #[.float .f32 a_0] (fun q13 h14 =>
    asI .u32 q13 fun n15 =>
    CALL prg f_math_Float32bits #[.float .f32 b_1] (fun q16 h17 =>
    asI .u32 q16 fun n18 =>
    Post (.bool (n15 == n18)) h17) h14) h)
def spec_l01Same.j2 (Post : Value → Heap → Prop) : Frame → Heap → Prop := fun fr h => GRD (shape (kds 22 [(0, .f .f32), (1, .f .f32), (10, .b)]) fr) (spec_l01Same.J2 Post (gF (lget fr 0)) (gF (lget fr 1)) (gB (lget fr 10)) h)
def spec_l01Same.S (a_0 : Nat) (b_1 : Nat) (Post : Value → Heap → Prop) (h : Heap) : Prop :=
    CALL prg f_spec_l01NaN #[.float .f32 a_0] (fun q1 h2 =>
    asB q1 fun b3 =>
    BIF b3 (
    spec_l01Same.J2 Post a_0 b_1 true h2) (
    CALL prg f_spec_l01NaN #[.float .f32 b_1] (fun q4 h5 =>
    asB q4 fun b6 =>
    spec_l01Same.J2 Post a_0 b_1 b6 h5) h2)) h
noncomputable def spec_l01Same.code : Code := (Tryz.f135.body).getD .skip
theorem spec_l01Same.call {a_0 : Nat} {b_1 : Nat} {Post : Value → Heap → Prop} {h : Heap} (H : spec_l01Same.S a_0 b_1 Post h) : CALL prg f_spec_l01Same #[.float .f32 a_0, .float .f32 b_1] Post h :=
  fn_call tau_ok mixed (c := spec_l01Same.code) (Λ := lookL [(2, spec_l01Same.j2 Post)]) Tryz.func135 (by kernel_rfl) (by kernel_rfl)
    (Rq.seq (by kernel_rfl) (Rq.free (by kernel_rfl)) (Rq.seq (by kernel_rfl) (Rq.seqJ (spec_l01Same.j2 Post) (by kernel_rfl) (seg (fun _ _ => by kernel_rfl)) (Rq.free (by kernel_rfl))
(Rq.free (by kernel_rfl))) (Rq.free (by kernel_rfl))))
    (Eq.mp (by kernel_rfl) H)

def impl_SameSample.S (a_0 : Nat) (b_1 : Nat) (Post : Value → Heap → Prop) (h : Heap) : Prop :=
    CALL prg f_impl_bitsOf #[.float .f32 a_0] (fun q1 h2 =>
    asI .u32 q1 fun n3 =>
    CALL prg f_impl_bitsOf #[.float .f32 b_1] (fun q4 h5 =>
    asI .u32 q4 fun n6 =>
    Post (.bool (n3 == n6)) h5) h2) h
noncomputable def impl_SameSample.code : Code := (Tryz.f261.body).getD .skip
theorem impl_SameSample.call {a_0 : Nat} {b_1 : Nat} {Post : Value → Heap → Prop} {h : Heap} (H : impl_SameSample.S a_0 b_1 Post h) : CALL prg f_impl_SameSample #[.float .f32 a_0, .float .f32 b_1] Post h :=
  fn_call tau_ok mixed (c := impl_SameSample.code) (Λ := lookL []) Tryz.func261 (by kernel_rfl) (by kernel_rfl)
    (Rq.free (by kernel_rfl))
    (Eq.mp (by kernel_rfl) H)

def impl_inside.S (a_0 : Nat) (low_1 : Nat) (high_2 : Nat) (Post : Value → Heap → Prop) (h : Heap) : Prop :=
    BIF (FloatKind.f32.format.order a_0 low_1 == some .gt || FloatKind.f32.format.order a_0 low_1 == some .eq) (
    Post (.bool (FloatKind.f32.format.order a_0 high_2 == some .lt || FloatKind.f32.format.order a_0 high_2 == some .eq)) h) (
    Post (.bool false) h)
noncomputable def impl_inside.code : Code := (Tryz.f179.body).getD .skip
theorem impl_inside.call {a_0 : Nat} {low_1 : Nat} {high_2 : Nat} {Post : Value → Heap → Prop} {h : Heap} (H : impl_inside.S a_0 low_1 high_2 Post h) : CALL prg f_impl_inside #[.float .f32 a_0, .float .f32 low_1, .float .f32 high_2] Post h :=
  fn_call tau_ok mixed (c := impl_inside.code) (Λ := lookL []) Tryz.func179 (by kernel_rfl) (by kernel_rfl)
    (Rq.free (by kernel_rfl))
    (Eq.mp (by kernel_rfl) H)

end Go.Sx
/- The bits of floats: what the externs answer. -/
set_option linter.unusedVariables false
set_option linter.unusedSimpArgs false
namespace Go.Sx
open Go.Proofs
set_option maxRecDepth 100000
set_option maxHeartbeats 4000000

theorem Float32bits_c (b : Nat) : Ret prg f_math_Float32bits #[.float .f32 b] (.int .u32 b) :=
  ext_ret (e := Extern.MathFloatBits.float32bits) X_math_Float32bits (by kernel_rfl) (by kernel_rfl) (by kernel_rfl) (by kernel_rfl) fun w => rfl
end Go.Sx
/- Floats in the program: what the small functions compute. -/
set_option linter.unusedVariables false
set_option linter.unusedSimpArgs false
namespace Go.Sx
open Go.Proofs Ieee
set_option maxRecDepth 100000

/-- The call answers a float. -/
abbrev Fl (P : Program) (f : FuncId) (args : Array Value) (k : FloatKind) (a : Nat) : Prop := ∀ h, CALL P f args (fun u h' => (∃ y, u = .float k y ∧ FW k y a) ∧ Ext h h') h
theorem Fl.go {P : Program} {f : FuncId} {args : Array Value} {k : FloatKind} {a : Nat} (c : Fl P f args k a) {h : Heap} {K : Value → Heap → Prop} (H : ∀ h' y, Ext h h' → FW k y a → K (.float k y) h') : CALL P f args K h :=
  (c h).mono fun u h' ⟨⟨y, e, hy⟩, x⟩ => by subst e; exact H h' y x hy
theorem Fl.mem {P : Program} {f : FuncId} {args : Array Value} {k : FloatKind} {a : Nat} (c : Fl P f args k a) {h0 h : Heap} {L : List Blk} (M : Mem h0 h L) {K : Value → Heap → Prop} (H : ∀ h' y, Mem h0 h' L → FW k y a → K (.float k y) h') : CALL P f args K h :=
  c.go fun h' y x hy => H h' y (M.grow x) hy

theorem l00In_c (n l r : Int) : Ret prg f_spec_l00In #[.int .i64 n, .int .i64 l, .int .i64 r] (.bool (inR n l r)) := fun h => by
  refine spec_l00In.call (br (fun hb => ?_) fun hb => ?_) <;> exact ⟨by simp [inR, hb], Ext.refl _⟩
theorem within_c (n l r : Int) : Ret prg f_impl_within #[.int .i64 n, .int .i64 l, .int .i64 r] (.bool (inR n l r)) := fun h => by
  refine impl_within.call (br (fun hb => ?_) fun hb => ?_) <;> exact ⟨by simp [inR, hb], Ext.refl _⟩
theorem length_f32_c (b : Option Addr) (l c : Nat) : Ret prg f_impl_length_float32 #[.slice b l c] (.int .i64 l) := fun h => impl_length_float32.call ⟨rfl, Ext.refl _⟩
theorem fw0 : FW .f32 0 0 := fw_c32 (by decide) (by decide)
section
variable {x y a b : Nat}
theorem l01NaN_c (hx : FW .f32 x a) : Ret prg f_spec_l01NaN #[.float .f32 x] (.bool (nan .f32 a)) := fun h => spec_l01NaN.call ⟨by rw [ne_self, hx.nan], Ext.refl _⟩
theorem cn_word (hx : FW .f32 x a) : (if nan .f32 a then qn .f32 else x) = a := by
  split
  · next h => have := hx.self; unfold cn at this; rw [if_pos h] at this; exact this
  · next h => exact hx.eq (by simpa using h)
theorem bitsOf_c (hx : FW .f32 x a) : Ret prg f_impl_bitsOf #[.float .f32 x] (.int .u32 a) := fun h => by
  refine impl_bitsOf.call ?_
  rw [impl_bitsOf.S, ne_self, hx.nan]
  have := cn_word hx
  refine br (fun hb => ⟨by rw [← this, if_pos hb]; rfl, Ext.refl _⟩) fun hb => ?_
  refine (Float32bits_c x).go fun h2 x2 => as_i ⟨by rw [← this, hb]; rfl, x2⟩
theorem l01Finite_c (hx : FW .f32 x a) : Ret prg f_spec_l01Finite #[.float .f32 x] (.bool (fin a)) := fun h =>
  spec_l01Finite.call (fS hx hx fun r hr => ⟨by rw [ord_eq hr fw0]; rfl, Ext.refl _⟩)
theorem isFinite_c (hx : FW .f32 x a) : Ret prg f_impl_isFinite #[.float .f32 x] (.bool (fin a)) := fun h =>
  impl_isFinite.call (fS hx hx fun r hr => ⟨by rw [ord_eq hr fw0]; rfl, Ext.refl _⟩)
theorem l01Same_c (hx : FW .f32 x a) (hy : FW .f32 y b) : Ret prg f_spec_l01Same #[.float .f32 x, .float .f32 y] (.bool (a == b)) := fun h => by
  have key : ∀ h1, Ext h h1 → ∀ t, t = (nan .f32 a || nan .f32 b) → spec_l01Same.J2 (fun u h' => u = .bool (a == b) ∧ Ext h h') x y t h1 := by
    intro h1 x1 t ht
    subst ht
    unfold spec_l01Same.J2
    refine br (fun hb => ?_) fun hb => ?_
    · refine (l01NaN_c hx).go fun h2 x2 => as_b (br (fun h3 => ?_) fun h3 => ?_)
      · refine (l01NaN_c hy).go fun h4 x4 => as_b ⟨?_, (x1.trans x2).trans x4⟩
        have ea : a = qn .f32 := by have := hx.self; unfold cn at this; rw [if_pos h3] at this; exact this.symm
        subst ea
        congr 1
        rw [Bool.eq_iff_iff]
        constructor
        · intro h5; have := hy.self; unfold cn at this; rw [if_pos h5] at this; rw [← this]; simp
        · intro h5; have := eq_of_beq h5; rw [← this]; exact nan_qn .f32
      · rw [h3, Bool.false_or] at hb
        refine ⟨?_, x1.trans x2⟩
        have : (a == b) = false := by
          apply beq_false_of_ne
          intro e
          rw [e, hb] at h3
          cases h3
        rw [this]
    · rw [Bool.or_eq_false_iff] at hb
      refine (Float32bits_c x).go fun h2 x2 => as_i ((Float32bits_c y).go fun h4 x4 => as_i ⟨?_, (x1.trans x2).trans x4⟩)
      rw [hx.eq hb.1, hy.eq hb.2]
      congr 1
      rw [Bool.eq_iff_iff, beq_iff_eq, beq_iff_eq]
      omega
  refine spec_l01Same.call ((l01NaN_c hx).go fun h1 x1 => as_b (br (fun hb => key _ x1 _ (by rw [hb]; rfl)) fun hb => ?_))
  exact (l01NaN_c hy).go fun h2 x2 => as_b (key _ (x1.trans x2) _ (by rw [hb]; rfl))
def clamp (a l : Nat) : Nat := if fgt .f32 a l then l else if flt .f32 a (fneg .f32 l) then fneg .f32 l else a
end
end Go.Sx
