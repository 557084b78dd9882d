/- The slice types of this seat's program: what their elements are. -/
import Derived.Test.YtnhcoeogejgidabGreatDoorTab
import Derived.Test.YtnhcoeogejgidabGreatDoorLg
import Derived.Test.YtnhcoeogejgidabGreatDoorLp2
import Derived.Test.YtnhcoeogejgidabGreatDoorLp5
import Derived.Test.YtnhcoeogejgidabGreatDoorLx2
namespace Go.Sx
open Go.Proofs
theorem E_sl_float32 : ElemT prg T_sl_float32 T_float32 1 4 := ⟨Tryz.underlying23, ⟨Tryz.t22, _, by kernel_rfl, rfl, by kernel_rfl, by kernel_rfl, by kernel_rfl⟩⟩
theorem E_sl_impl_Instrument : ElemT prg T_sl_impl_Instrument T_impl_Instrument 5 40 := ⟨Tryz.underlying26, ⟨Tryz.t106, _, by kernel_rfl, rfl, by kernel_rfl, by kernel_rfl, by kernel_rfl⟩⟩
theorem E_sl_impl_Event : ElemT prg T_sl_impl_Event T_impl_Event 6 48 := ⟨Tryz.underlying27, ⟨Tryz.t65, _, by kernel_rfl, rfl, by kernel_rfl, by kernel_rfl, by kernel_rfl⟩⟩
theorem E_sl_impl_loop : ElemT prg T_sl_impl_loop T_impl_loop 2 16 := ⟨Tryz.underlying58, ⟨Tryz.t124, _, by kernel_rfl, rfl, by kernel_rfl, by kernel_rfl, by kernel_rfl⟩⟩
end Go.Sx
/- How Ring, Filter lie in cells; their parts; given ones opened. -/
set_option linter.unusedVariables false
set_option linter.unusedSimpArgs false
namespace Go.Sx
open Go.Proofs
def rRing : Rep GRing := (Rep.seq (rSl T_float32 (rF .f32)) ((rI .i64))).via fun a => (a.Samples, a.At)
theorem foc_Ring_Samples : Foc rRing (rSl T_float32 (rF .f32)) 0 (fun a => a.Samples) (fun a b => { a with Samples := b }) := (Foc.via (f := fun a : GRing => (a.Samples, a.At)) (get' := fun a => a.Samples) (put' := fun a b => { a with Samples := b }) (Foc.fst (Foc.here (rSl T_float32 (rF .f32)))) (fun _ => rfl) (fun _ _ => rfl)).at rfl
theorem foc_Ring_At : Foc rRing (rI .i64) 1 (fun a => a.At) (fun a b => { a with At := b }) := (Foc.via (f := fun a : GRing => (a.Samples, a.At)) (get' := fun a => a.At) (put' := fun a b => { a with At := b }) (Foc.snd (Foc.here (rI .i64))) (fun _ => rfl) (fun _ _ => rfl)).at rfl
def z_Ring : GRing := ⟨[], 0⟩
instance lf_Ring_0 : FocC rRing 0 (rSl T_float32 (rF .f32)) (fun a => a.Samples) (fun a b => { a with Samples := b }) := ⟨Foc.at foc_Ring_Samples rfl⟩
instance lf_Ring_1 : FocC rRing 1 (rI .i64) (fun a => a.At) (fun a b => { a with At := b }) := ⟨Foc.at foc_Ring_At rfl⟩
def rFilter : Rep GFilter := (Rep.seq (rI .i64) (Rep.seq (rArr 3 (rF .f32)) ((rArr 2 (rF .f32))))).via fun a => (a.Kind, a.C, a.S)
theorem foc_Filter_Kind : Foc rFilter (rI .i64) 0 (fun a => a.Kind) (fun a b => { a with Kind := b }) := (Foc.via (f := fun a : GFilter => (a.Kind, a.C, a.S)) (get' := fun a => a.Kind) (put' := fun a b => { a with Kind := b }) (Foc.fst (Foc.here (rI .i64))) (fun _ => rfl) (fun _ _ => rfl)).at rfl
theorem foc_Filter_C : Foc rFilter (rArr 3 (rF .f32)) 1 (fun a => a.C) (fun a b => { a with C := b }) := (Foc.via (f := fun a : GFilter => (a.Kind, a.C, a.S)) (get' := fun a => a.C) (put' := fun a b => { a with C := b }) (Foc.snd (Foc.fst (Foc.here (rArr 3 (rF .f32))))) (fun _ => rfl) (fun _ _ => rfl)).at rfl
theorem foc_Filter_S : Foc rFilter (rArr 2 (rF .f32)) 4 (fun a => a.S) (fun a b => { a with S := b }) := (Foc.via (f := fun a : GFilter => (a.Kind, a.C, a.S)) (get' := fun a => a.S) (put' := fun a b => { a with S := b }) (Foc.snd (Foc.snd (Foc.here (rArr 2 (rF .f32))))) (fun _ => rfl) (fun _ _ => rfl)).at rfl
def z_Filter : GFilter := ⟨0, [0, 0, 0], [0, 0]⟩
instance lf_Filter_0 : FocC rFilter 0 (rI .i64) (fun a => a.Kind) (fun a b => { a with Kind := b }) := ⟨Foc.at foc_Filter_Kind rfl⟩
instance lf_Filter_1 : FocC rFilter 1 (rF .f32) (fun a => a.C[0]!) (fun a b => { a with C := a.C.set 0 b }) := ⟨Foc.at (foc_Filter_C.trans (Foc.arr (rF .f32) 0 (by decide))) rfl⟩
instance lf_Filter_2 : FocC rFilter 2 (rF .f32) (fun a => a.C[1]!) (fun a b => { a with C := a.C.set 1 b }) := ⟨Foc.at (foc_Filter_C.trans (Foc.arr (rF .f32) 1 (by decide))) rfl⟩
instance lf_Filter_3 : FocC rFilter 3 (rF .f32) (fun a => a.C[2]!) (fun a b => { a with C := a.C.set 2 b }) := ⟨Foc.at (foc_Filter_C.trans (Foc.arr (rF .f32) 2 (by decide))) rfl⟩
instance lf_Filter_4 : FocC rFilter 4 (rF .f32) (fun a => a.S[0]!) (fun a b => { a with S := a.S.set 0 b }) := ⟨Foc.at (foc_Filter_S.trans (Foc.arr (rF .f32) 0 (by decide))) rfl⟩
instance lf_Filter_5 : FocC rFilter 5 (rF .f32) (fun a => a.S[1]!) (fun a b => { a with S := a.S.set 1 b }) := ⟨Foc.at (foc_Filter_S.trans (Foc.arr (rF .f32) 1 (by decide))) rfl⟩
end Go.Sx
/- The absolute value of a float32 by way of float64: the same as the sign taken away. -/
set_option linter.unusedVariables false
set_option linter.unusedSimpArgs false
namespace Go.Sx
open Ieee

def fabs (a : Nat) : Nat := cn .f32 (a % 2 ^ 31)
end Go.Sx
/- What rings, filters, combs and rooms do, over lists of floats; a float is a word up to which NaN it is. -/
set_option linter.unusedVariables false
set_option linter.unusedSimpArgs false
namespace Go.Sx

def flt (k : FloatKind) (a b : Nat) : Bool := k.format.order a b == some .lt
def fgt (k : FloatKind) (a b : Nat) : Bool := k.format.order a b == some .gt
def fle (k : FloatKind) (a b : Nat) : Bool := k.format.order a b == some .lt || k.format.order a b == some .eq
def fge (k : FloatKind) (a b : Nat) : Bool := k.format.order a b == some .gt || k.format.order a b == some .eq
def feq (k : FloatKind) (a b : Nat) : Bool := k.format.order a b == some .eq
def inR (n low high : Int) : Bool := decide (low ≤ n) && decide (n ≤ high)
def fin (a : Nat) : Bool := feq .f32 (fsub .f32 a a) 0
def flush (a : Nat) : Nat := if flt .f32 (fabs a) 8388608 then 0 else a
def kept (a : Nat) : Nat := if fin a then flush a else 0
def GRing.len (r : GRing) : Int := r.Samples.length
def GRing.ok (r : GRing) : Bool := inR r.len 1 1024 && inR r.At 0 (r.len - 1)
def GRing.old (r : GRing) : Nat := r.Samples[r.At.toNat]!
def GRing.push (r : GRing) (a : Nat) : GRing := ⟨r.Samples.set r.At.toNat a, (r.At + 1) % r.len⟩
def GRing.back (r : GRing) (k : Int) : Nat := r.Samples[((r.At - k + r.len) % r.len).toNat]!
def allFin (l : List Nat) : Bool := l.all fin
def GRing.okf (r : GRing) : Bool := r.ok && allFin r.Samples
def GRing.zero (r : GRing) : Bool := r.Samples.all fun a => feq .f32 a 0
def usesC (k : Int) : Int := if k = 1 ∨ k = 2 then 2 else if k = 3 ∨ k = 5 then 1 else 3
def usesS (k : Int) : Int := if k = 1 ∨ k = 2 then 1 else 2
def used (l : List Nat) (n : Int) : Bool := (List.range l.length).all fun i => fin l[i]! && (decide ((i : Int) < n) || l[i]! == 0)
def GFilter.ok (f : GFilter) : Bool := inR f.Kind 1 5 && used f.C (usesC f.Kind) && used f.S (usesS f.Kind)
def GFilter.step (f : GFilter) (x : Nat) : GFilter × Nat :=
  if f.Kind = 1 then
    let y := fadd .f32 (fmul .f32 f.C[0]! x) (fmul .f32 f.C[1]! f.S[0]!)
    ({ f with S := f.S.set 0 (kept y) }, y)
  else if f.Kind = 2 then
    let y := fadd .f32 (fmul .f32 f.C[0]! x) (fmul .f32 f.C[1]! f.S[0]!)
    ({ f with S := f.S.set 0 (kept x) }, y)
  else if f.Kind = 3 then
    let y := fadd .f32 (fmul .f32 f.C[0]! (fsub .f32 x f.S[1]!)) f.S[0]!
    ({ f with S := (f.S.set 0 (kept x)).set 1 (kept y) }, y)
  else if f.Kind = 4 then
    let y := fsub .f32 (fsub .f32 (fmul .f32 f.C[0]! x) (fmul .f32 f.C[1]! f.S[0]!)) (fmul .f32 f.C[2]! f.S[1]!)
    ({ f with S := (f.S.set 0 (kept y)).set 1 (kept f.S[0]!) }, y)
  else
    let y := fadd .f32 (fsub .f32 x f.S[0]!) (fmul .f32 f.C[0]! f.S[1]!)
    ({ f with S := (f.S.set 0 (kept x)).set 1 (kept y) }, y)
def GFilter.still (f : GFilter) : Bool := feq .f32 f.S[0]! 0 && feq .f32 f.S[1]! 0
def GComb.step (c : GComb) (x : Nat) : GComb × Nat :=
  let o := c.Ring.old
  let w := fadd .f32 x (fmul .f32 c.Gain o)
  ({ c with Ring := c.Ring.push (kept w) }, fsub .f32 o (fmul .f32 c.Gain w))
def GComb.ok (c : GComb) : Bool := c.Ring.okf && fin c.Gain
def half : Nat := 1056964608
def mixFour (x : List Nat) : List Nat :=
  let p := fadd .f32 x[0]! x[1]!
  let q := fsub .f32 x[0]! x[1]!
  let r := fadd .f32 x[2]! x[3]!
  let s := fsub .f32 x[2]! x[3]!
  [fmul .f32 half (fadd .f32 p r), fmul .f32 half (fadd .f32 q s), fmul .f32 half (fsub .f32 p r), fmul .f32 half (fsub .f32 q s)]
def GTap.ok (t : GTap) (n : Int) : Bool := inR t.Back 1 n && fin t.Gain
def GRoom.ok (x : GRoom) : Bool :=
  x.Early.okf && decide (x.Taps.length ≤ 6) && x.Combs.all GComb.ok && x.Loops.all GRing.okf && (x.Damps.all fun f => f.ok && f.Kind == 1) && (x.Taps.all fun t => t.ok x.Early.len) && allFin x.Gains && fin x.Dry && fin x.Wet
def GRoom.early (x : GRoom) : Nat :=
  match x.Taps with
  | [] => 0
  | t :: ts => ts.foldl (fun m t => fadd .f32 m (fmul .f32 t.Gain (x.Early.back t.Back))) (fmul .f32 t.Gain (x.Early.back t.Back))
/-- The four loops' step: what they made, what is made of it, the filters behind it. -/
def GRoom.step (x : GRoom) (a : Nat) : GRoom × Nat :=
  let m := x.early
  let c0 := x.Combs[0]!.step (fadd .f32 a m)
  let c1 := x.Combs[1]!.step c0.2
  let o := x.Loops.map GRing.old
  let g := (List.range 4).map fun i => x.Damps[i]!.step (fmul .f32 x.Gains[i]! o[i]!)
  let h := mixFour (g.map (·.2))
  ({ x with Early := x.Early.push (kept a), Combs := [c0.1, c1.1], Damps := g.map (·.1), Loops := (List.range 4).map fun i => x.Loops[i]!.push (kept (fadd .f32 c1.2 h[i]!)) },
    fadd .f32 (fmul .f32 x.Dry a) (fmul .f32 x.Wet (fadd .f32 (fadd .f32 o[0]! o[1]!) (fadd .f32 o[2]! o[3]!))))
def GRoom.play (x : GRoom) : List Nat → GRoom × List Nat
  | [] => (x, [])
  | a :: els => let y := x.step a; let r := y.1.play els; (r.1, y.2 :: r.2)
def GRoom.zero (x : GRoom) : Bool := x.Early.zero && x.Combs.all (fun c => c.Ring.zero) && x.Loops.all GRing.zero && x.Damps.all GFilter.still
end Go.Sx
/- What functions of this seat's program compute, told in words (a predicate over heaps for each), and the proofs that the words are no more than the code's own weakest precondition. -/
namespace Go.Sx
open Go.Proofs
set_option linter.unusedVariables false
set_option maxRecDepth 100000

def impl_within.S (n_0 : Int) (low_1 : Int) (high_2 : Int) (Post : Value → Heap → Prop) (h : Heap) : Prop :=
    BIF (decide (low_1 ≤ n_0)) (
    Post (.bool (decide (n_0 ≤ high_2))) h) (
    Post (.bool false) h)
noncomputable def impl_within.code : Code := (Tryz.f51.body).getD .skip
theorem impl_within.call {n_0 : Int} {low_1 : Int} {high_2 : Int} {Post : Value → Heap → Prop} {h : Heap} (H : impl_within.S n_0 low_1 high_2 Post h) : CALL prg f_impl_within #[.int .i64 n_0, .int .i64 low_1, .int .i64 high_2] Post h :=
  fn_call tau_ok mixed (c := impl_within.code) (Λ := lookL []) Tryz.func51 (by kernel_rfl) (by kernel_rfl)
    (Rq.free (by kernel_rfl))
    (Eq.mp (by kernel_rfl) H)

def impl_isFinite.S (a_0 : Nat) (Post : Value → Heap → Prop) (h : Heap) : Prop :=
    FOP .f32 (FloatKind.f32.format.sub a_0 a_0) fun r1 =>
    Post (.bool (FloatKind.f32.format.order r1 0 == some .eq)) h
noncomputable def impl_isFinite.code : Code := (Tryz.f112.body).getD .skip
theorem impl_isFinite.call {a_0 : Nat} {Post : Value → Heap → Prop} {h : Heap} (H : impl_isFinite.S a_0 Post h) : CALL prg f_impl_isFinite #[.float .f32 a_0] Post h :=
  fn_call tau_ok mixed (c := impl_isFinite.code) (Λ := lookL []) Tryz.func112 (by kernel_rfl) (by kernel_rfl)
    (Rq.free (by kernel_rfl))
    (Eq.mp (by kernel_rfl) H)

def impl_inside.S (a_0 : Nat) (low_1 : Nat) (high_2 : Nat) (Post : Value → Heap → Prop) (h : Heap) : Prop :=
    BIF (FloatKind.f32.format.order a_0 low_1 == some .gt || FloatKind.f32.format.order a_0 low_1 == some .eq) (
    Post (.bool (FloatKind.f32.format.order a_0 high_2 == some .lt || FloatKind.f32.format.order a_0 high_2 == some .eq)) h) (
    Post (.bool false) h)
noncomputable def impl_inside.code : Code := (Tryz.f82.body).getD .skip
theorem impl_inside.call {a_0 : Nat} {low_1 : Nat} {high_2 : Nat} {Post : Value → Heap → Prop} {h : Heap} (H : impl_inside.S a_0 low_1 high_2 Post h) : CALL prg f_impl_inside #[.float .f32 a_0, .float .f32 low_1, .float .f32 high_2] Post h :=
  fn_call tau_ok mixed (c := impl_inside.code) (Λ := lookL []) Tryz.func82 (by kernel_rfl) (by kernel_rfl)
    (Rq.free (by kernel_rfl))
    (Eq.mp (by kernel_rfl) H)

end Go.Sx
/- Floats in the program: what the small functions compute. -/
set_option linter.unusedVariables false
set_option linter.unusedSimpArgs false
namespace Go.Sx
open Go.Proofs Ieee
set_option maxRecDepth 100000

/-- The call answers a float. -/
abbrev Fl (P : Program) (f : FuncId) (args : Array Value) (k : FloatKind) (a : Nat) : Prop := ∀ h, CALL P f args (fun u h' => (∃ y, u = .float k y ∧ FW k y a) ∧ Ext h h') h
theorem Fl.go {P : Program} {f : FuncId} {args : Array Value} {k : FloatKind} {a : Nat} (c : Fl P f args k a) {h : Heap} {K : Value → Heap → Prop} (H : ∀ h' y, Ext h h' → FW k y a → K (.float k y) h') : CALL P f args K h :=
  (c h).mono fun u h' ⟨⟨y, e, hy⟩, x⟩ => by subst e; exact H h' y x hy
theorem Fl.mem {P : Program} {f : FuncId} {args : Array Value} {k : FloatKind} {a : Nat} (c : Fl P f args k a) {h0 h : Heap} {L : List Blk} (M : Mem h0 h L) {K : Value → Heap → Prop} (H : ∀ h' y, Mem h0 h' L → FW k y a → K (.float k y) h') : CALL P f args K h :=
  c.go fun h' y x hy => H h' y (M.grow x) hy

theorem within_c (n l r : Int) : Ret prg f_impl_within #[.int .i64 n, .int .i64 l, .int .i64 r] (.bool (inR n l r)) := fun h => by
  refine impl_within.call (br (fun hb => ?_) fun hb => ?_) <;> exact ⟨by simp [inR, hb], Ext.refl _⟩
theorem fw0 : FW .f32 0 0 := fw_c32 (by decide) (by decide)
section
variable {x y a b : Nat}
theorem isFinite_c (hx : FW .f32 x a) : Ret prg f_impl_isFinite #[.float .f32 x] (.bool (fin a)) := fun h =>
  impl_isFinite.call (fS hx hx fun r hr => ⟨by rw [ord_eq hr fw0]; rfl, Ext.refl _⟩)
def clamp (a l : Nat) : Nat := if fgt .f32 a l then l else if flt .f32 a (fneg .f32 l) then fneg .f32 l else a
end
end Go.Sx
/- Rings and filters in the program: what the functions compute. -/
set_option linter.unusedVariables false
set_option linter.unusedSimpArgs false
namespace Go.Sx
open Go.Proofs
set_option maxRecDepth 100000

theorem maxLen_lt : (maxLen : Nat) < 9223372036854775808 := by decide
/-- Where the first element is of which p holds; -1: nowhere. -/
def firstAt {α : Type} (p : α → Bool) (l : List α) : Int := if l.any p then (l.findIdx p : Nat) else -1
theorem firstAt_none {α : Type} [Inhabited α] {p : α → Bool} {l : List α} (h : ∀ i, i < l.length → p l[i]! = false) : firstAt p l = -1 := by
  unfold firstAt
  rw [if_neg]
  rw [Bool.not_eq_true, List.any_eq_false]
  intro x hx
  obtain ⟨i, hi, rfl⟩ := List.mem_iff_getElem.1 hx
  have := h i hi
  rw [getElem!_pos l i hi] at this
  rw [this]; decide
theorem firstAt_some {α : Type} [Inhabited α] {p : α → Bool} {l : List α} {n : Nat} (hn : n < l.length) (h : ∀ i, i < n → p l[i]! = false) (hp : p l[n]! = true) : firstAt p l = n := by
  unfold firstAt
  rw [getElem!_pos l n hn] at hp
  rw [if_pos (List.any_eq_true.2 ⟨_, List.getElem_mem hn, hp⟩)]
  congr 1
  rw [List.findIdx_eq hn]
  refine ⟨hp, fun j hj => ?_⟩
  have := h j hj
  rw [getElem!_pos l j (by omega)] at this
  simpa using this
theorem firstAt_any {α : Type} (p : α → Bool) (l : List α) : decide (0 ≤ firstAt p l) = l.any p := by
  unfold firstAt
  split
  · next h => rw [h]; exact decide_eq_true (by omega)
  · next h => rw [Bool.not_eq_true] at h; rw [h]; rfl
theorem CALLD.mono {P : Program} {f : Value} {args : Array Value} {K K' : Value → Heap → Prop} {h : Heap} (hk : ∀ v h, K v h → K' v h) (H : CALLD P f args K h) : CALLD P f args K' h := by
  unfold CALLD at H ⊢
  split at H
  · exact CALL.mono hk H
  · exact SEMN.mono hk H
end Go.Sx
/- Filters moved on; blocks made by a function of their places. -/
set_option linter.unusedVariables false
set_option linter.unusedSimpArgs false
namespace Go.Sx
open Go.Proofs
set_option maxRecDepth 100000

/-- What a step of a filter leaves. -/
def FStep (h0 h' : Heap) (q : Addr) (F : Fr) (L : List Blk) (f : GFilter) (a : Nat) (u : Value) : Prop := (∃ y, u = .float .f32 y ∧ FW .f32 y (f.step a).2) ∧ Pt rFilter h0 h' q F L (f.step a).1
section
variable {h0 h : Heap} {q : Addr} {F : Fr} {L : List Blk} {f : GFilter} {x a : Nat}
theorem FStep.of {f' : GFilter} {b y : Nat} (e : f.step a = (f', b)) (hy : FW .f32 y b) (P : Pt rFilter h0 h q F L f') : FStep h0 h q F L f a (.float .f32 y) := by
  unfold FStep
  rw [e]
  exact ⟨⟨y, rfl, hy⟩, P⟩
set_option maxHeartbeats 2000000 in
end
end Go.Sx
/- A slice that lies in own data taken out with its blocks, and put back changed. -/
set_option linter.unusedVariables false
set_option linter.unusedSimpArgs false
namespace Go.Sx
section
variable {α β : Type} {r : Rep α} {h0 h : Heap} {q : Addr} {F : Fr} {L : List Blk} {a : α} {off e : Nat} {s : Rep β} {get : α → List β} {put : α → List β → α}
/-- A slice whose header's cell is known. -/
theorem Pt.slr {l c : Nat} {b : Option Addr} (P : Pt r h0 h q F L a) [Fc : FocC r off (rSl e s) get put] (hb : cell h (q.add off) = some (.slice b l c)) : SlR s h b l c (get a) := by
  obtain ⟨v, e1, b', l', c', e2, S⟩ := P.rd.cell Fc.f rfl
  obtain rfl : v = .slice b' l' c' := by simpa using e2
  rw [hb] at e1
  cases e1
  exact S
end
end Go.Sx
/- What several structs' contracts have in common: slices of floats made, pairs answered, lists changed place by place. -/
set_option linter.unusedVariables false
set_option linter.unusedSimpArgs false
namespace Go.Sx
open Go.Proofs
set_option maxRecDepth 100000

section
variable {h : Heap} {q : Addr}
theorem take_snoc {α : Type} [Inhabited α] {l : List α} {n : Nat} (h : n < l.length) : l.take (n + 1) = l.take n ++ [l[n]!] := by
  rw [List.take_succ_eq_append_getElem h, getElem!_pos l n h]
end
/-- A pair of a value and a code, told by a call. -/
def PairR {α : Type} (r : Rep α) (h h' : Heap) (u : Value) (a : α) (code : Int) : Prop := ∃ cs B, u = .tuple ⟨[.agg cs, .int .i64 code]⟩ ∧ r.ow B cs.toList a ∧ Mem h h' B
section
variable {α β : Type} {r : Rep α} {h0 h : Heap} {q : Addr} {F : Fr} {L : List Blk} {a : α} {off : Nat}
theorem Pt.sts0 {p : Rep β} {get : α → β} {put : α → β → α} {b : β} {n : Nat} {vs : Array Value} {B' : List Blk} {K : Heap → Prop} (P : Pt r h0 h q F (B' ++ L) a) (Fc : Foc r p 0 get put) (hp : p.sz = n) (O : p.ow B' vs.toList b)
    (H : ∀ h', Pt r h0 h' q F L (put a b) → K h') : STA n h q vs K := by
  have := P.sts Fc hp O H
  rwa [add0] at this
end
/-- A list of which the first n elements have been made anew. -/
def mapI {α : Type} [Inhabited α] (f : Nat → α) (l : List α) (n : Nat) : List α := (List.range l.length).map fun i => if i < n then f i else l[i]!
theorem mem_get {α : Type} [Inhabited α] {l : List α} {i : Nat} (h : i < l.length) : l[i]! ∈ l := by rw [getElem!_pos l i h]; exact List.getElem_mem h
end Go.Sx
